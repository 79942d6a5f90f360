/- Lemmas for the proof. -/
import Derived.Test.YthofgamegondnaaDoorEveningHostsM1
import Derived.Test.YthofgamegondnaaDoorEveningHostsM2
import Derived.Test.YthofgamegondnaaDoorEveningHostsM3
namespace Go.Proofs.YthofgamegondnaaDoor
open Go.RowKit
def RunDY (E : Env) (ops : Array Oper) (n0 k : Nat) (rest : List Oper) (s : St) (K : St → Prop) : Prop :=
  ∀ (base : Nat) (Q : Act → World → Prop) (w0 : World) (Z : Nat → Prop) (R0 : List RI) (h0 : Hp) (a : Act) (w : World) (R : List RI), HR w0 Z R0 h0 → n0 = h0.length → tailAt ops ≤ ops.size → SR E base w Z R s a → w0.grownBy w none → Step w0 Z R0 h0 w Z R s.hp → (∀ (b : Nat) (B : Option Blk), h0[b]? = some B → s.hp[b]? = some B) → tailAt ops = tailGo rest k → k + rest.length = ops.size → (∀ j, rest[j]? = ops[k + j]?) →
    (∀ s' a' w' Z' R', K s' → SR E base w' Z' R' s' a' → Step w0 Z R0 h0 w' Z' R' s'.hp → Q a' w') → wpMix E.P ops (fun w' => w0.grownBy w' none) (fun k => !((ops[k]?).any fun o => isQ o.op) || Nat.ble (tailAt ops) k) (tailAt ops) Q k rest a w

section
variable {E : Env} {cx : Cx} {ops : Array Oper} {pre rest rest' : List Oper} {s s1 : St} {K : St → Prop} {n n0 k : Nat} {l : List (Nat × AV)} {hp hp' : Hp} {Q : Ex → St → Prop} {id : Nat}
theorem RunDY.done (hr : rest = []) (kk : K s) : RunDY E ops n0 k rest s K := by
  subst hr
  exact fun base Q w0 Z R0 h0 a w R _ _ _ sr hgr st _ _ _ _ q => ⟨fun _ => hgr, q s a w Z R kk sr st⟩
theorem RunDY.app (hE : EnvOk E) : ∀ {pre : List Oper} {s : St} {k : Nat}, (pre.all fun o => !isW o.op) = true → opsD E (evC E 0) ⟨none, false⟩ ops n0 pre s = some s1 → RunDY E ops n0 (k + pre.length) rest s1 K → RunDY E ops n0 k (pre ++ rest) s K
  | [], s, k, _, e, kk => by injection e with e; subst e; exact kk
  | o :: pre, s, k, hp, e, kk => by
    intro base Q w0 Z R0 h0 a w R hh0 hn0 hT sr hgr st hpre hTk hlen hops q
    simp only [List.all_cons, Bool.and_eq_true, Bool.not_eq_true'] at hp
    obtain ⟨hW, hp⟩ := hp
    have hok : ops[k]? = some o := by have := hops 0; simpa using this.symm
    have hops' : ∀ j, (pre ++ rest)[j]? = ops[k + 1 + j]? := fun j => by have := hops (j + 1); simpa [Nat.add_assoc, Nat.add_comm 1 j] using this
    have hk1 : k + 1 + pre.length = k + (o :: pre).length := by simp; omega
    have kk' : RunDY E ops n0 (k + 1 + pre.length) rest s1 K := by rw [hk1]; exact kk
    have hlen' : k + 1 + (pre ++ rest).length = ops.size := by simp at hlen ⊢; omega
    have hTk' : tailAt ops = tailGo (pre ++ rest) (k + 1) := by
      rw [hTk]
      show tailGo (o :: (pre ++ rest)) k = _
      conv => lhs; unfold tailGo; rw [if_neg (by rw [hW]; simp)]
    have hkT : ¬ tailAt ops ≤ k := by have := tailGo_ge (pre ++ rest) (k + 1); omega
    have hble : Nat.ble (tailAt ops) k = false := by
      cases hb : Nat.ble (tailAt ops) k with
      | false => rfl
      | true => exact absurd (Nat.le_of_ble_eq_true hb) hkT
    show wpMix E.P ops _ _ _ Q k (o :: (pre ++ rest)) a w
    refine ⟨fun _ => hgr, ?_⟩
    unfold opsD at e
    rw [if_neg (by rw [hW]; simp)] at e
    split at e
    · cases e
    · next hw =>
      rw [if_neg (by rw [wantedA_eq sr hw]; simp)]
      exact RunDY.app hE hp e kk' base Q w0 Z R0 h0 _ w R hh0 hn0 hT (sr.put undef_vr) hgr st hpre hTk' hlen' hops' q
    · next hw =>
      rw [if_pos (wantedA_eq sr hw)]
      have hρ : ∀ o x, opA E s.fr o = some x → VR w Z R x (a.eval o) := fun o x e => opA_vr sr o x e
      split at e
      · next x hx =>
        split at e
        · next hld =>
          have hq := isQ_of hx
          rw [if_neg (by simp [hok, hq, hble])]
          obtain ⟨u, hu, hrun⟩ := evOpQ_sound sr.hh hρ hx
          have hquiet : ∃ u, VR w Z R x u ∧ QuietAt E.P (fun w' => w0.grownBy w' none) o u a := by
            cases hl : isLd o.op with
            | false => exact ⟨u, hu, fun w' hw1 => hrun w' fun h => by rw [hl] at h; cases h⟩
            | true => exact load_quiet hh0 sr hgr st hpre hl (by rw [← hn0]; exact hld) hx
          obtain ⟨u, hu, hquiet⟩ := hquiet
          exact ⟨u, hquiet, RunDY.app hE hp e kk' base Q w0 Z R0 h0 _ w R hh0 hn0 hT (sr.put hu) hgr st hpre hTk' hlen' hops' q⟩
        · cases e
      · split at e
        · next x h' hx =>
          have hq := isQ_of_N hx
          rw [if_pos (by simp [hok, hq])]
          obtain ⟨u, w', R', h1, h2, h3, h4, h5⟩ := evOpN_sound hρ sr.hh hx
          exact lw_val h1 (RunDY.app hE hp e kk' base Q w0 Z R0 h0 _ w' R' hh0 hn0 hT ((sr.step h2 h4).put h3) (pu_trans hgr h5) (st.trans h4) (fun b B hb => evOpN_pre hx (hpre b B hb)) hTk' hlen' hops' q)
        · split at e
          · next f args tys ho =>
            split at e
            · next fv xs hf hxs =>
              split at e
              · next r hr =>
                obtain ⟨x, h'⟩ := r
                have hq : isQ o.op = false := by rw [ho]; rfl
                rw [if_pos (by simp [hok, hq])]
                obtain ⟨g, hva, hcl, hret⟩ := callP_sound hE (code_sound hE 0).1 (hρ _ _ hf) (opds_vr hρ hxs) sr.hh sr.gl hr
                unfold Lw
                rw [run_call (uf := []) (uc := []) ho hva rfl hcl w]
                simp only [List.nil_append, List.append_nil]
                refine Ret.mono hret fun v w' hS => ?_
                obtain ⟨hg1, R', k1, k2, k3⟩ := hS
                exact RunDY.app hE hp e kk' base Q w0 Z R0 h0 _ w' R' hh0 hn0 hT ((sr.step k1 k3).put k2) (pu_trans hgr hg1) (st.trans k3) (fun b B hb => callP_pre hr (hpre b B hb)) hTk' hlen' hops' q
              · cases e
            · cases e
          · cases e
theorem RunDY.seg (hE : EnvOk E) (m : Nat) (hw : ((rest.take m).all fun o => !isW o.op) = true) (h : opsD E (evC E 0) ⟨none, false⟩ ops n0 (rest.take m) s = some s1) (kk : RunDY E ops n0 (k + (rest.take m).length) (rest.drop m) s1 K) : RunDY E ops n0 k rest s K := by
  have := RunDY.app (k := k) hE hw h kk
  rwa [List.take_append_drop] at this
theorem RunDY.one (hE : EnvOk E) {o : Oper} (hr : rest = o :: rest') (hW : isW o.op = false) (h : opsD E (evC E 0) ⟨none, false⟩ ops n0 [o] s = some s1) (kk : RunDY E ops n0 (k + 1) rest' s1 K) : RunDY E ops n0 k rest s K := by
  subst hr
  exact RunDY.app (k := k) hE (pre := [o]) (by simp [hW]) h kk
theorem RunDY.segF (hE : EnvOk E) (m : Nat) {s : St} (l : List (Nat × AV)) (hp : Hp) (hw : ((rest.take m).all fun o => !isW o.op) = true) (h : segB (opsD E (evC E 0) ⟨none, false⟩ ops n0 (rest.take m) s) l = some (n, xs2 l, hp)) (kk : RunDY E ops n0 (k + (rest.take m).length) (rest.drop m) ⟨Fr n l, hp⟩ K) : RunDY E ops n0 k rest s K := by
  obtain ⟨fr, h1, h2, h3⟩ := segB_inv h
  refine RunDY.seg hE m hw h1 ?_
  exact fun base Q w0 Z R0 h0 a w R a1 a2 a3 sr a5 a6 a7 a8 a9 a10 q => kk base Q w0 Z R0 h0 a w R a1 a2 a3 (sr.forget h2 h3) a5 a6 a7 a8 a9 a10 q
/-- Is a slice nil? If it is, it is empty. -/
theorem SemY.runDY (hE : EnvOk E) (hd : drawOk (.region id ops true) = true) (h : RunDY E ops s.hp.length 0 ops.toList s fun s' => Q .normal s') : SemY E cx (.region id ops true) s Q := by
  intro ro base Qm a w Z R _ sr _ kk
  simp only [drawOk, Bool.not_true, Bool.false_or, Bool.and_eq_true] at hd
  have hgd : w.grownBy w.drew none := ch_drew w
  have hops : ops.toList.toArray = ops := by simp
  have st0 : Step w Z R s.hp w.drew Z R s.hp := ⟨rfl, rfl, rfl, Nat.le_refl _, fun c hc _ => rfl, fun _ h => .inl h, fun _ h => h, fun _ h => .inl h, fun _ _ h => h⟩
  have hsrd : SR E base w.drew Z R s a := ⟨sr.hh.keep (Nat.le_refl _) (fun c hc => hgd.block c hc (by simp)), sr.fr.off (fun c hc => rfl), sr.mks.step st0, sr.gl.off (fun c hc => rfl), sr.bs⟩
  have hm := h base (fun a w => Qm .normal a w) w.drew Z R s.hp a w.drew R hsrd.hh rfl (by have := tailGo_le ops.toList 0; unfold tailAt; simpa using this) hsrd (pu_refl _) (Step.refl _ _ _ _) (fun b B hb => hb) rfl (by simp) (fun j => by simp) (fun s' a' w' Z' R' hq sr' st => kk .normal s' a' w' Z' R' hq sr' (st0.trans st))
  have := wp_region_mix (P := E.P) (id := id) (l := ops.toList) (a := a) (w := w) (C := fun w' => w.drew.grownBy w' none) (loud := fun k => !((ops[k]?).any fun o => isQ o.op) || Nat.ble (tailAt ops) k) (T := tailAt ops) (Q' := Qm) ro 0 hE.mixed (by rw [hops]; exact hd.1) (by rw [hops]; exact hd.2) (by rw [hops]; exact hm)
  rw [hops] at this
  exact this
end
end Go.Proofs.YthofgamegondnaaDoor

namespace Go.Proofs.YthofgamegondnaaDoor
open Go.RowKit
/- trestle/evening.guests -/
noncomputable def e_evening_guests : Env := E0
theorem e_evening_guests_ok : EnvOk e_evening_guests := E0_ok
noncomputable def cb_evening_guests : Code := codeOf Tryd.f67
def evening_guests (x0 : Int) : Option (Bool) :=
  (if (decide (x0 ≥ 1)) = true then some (decide (x0 ≤ 64)) else some false).bind fun j2 =>
  some j2
def cs_evening_guests : Cs (Int × Unit) := (csC cdI csN)
def er_evening_guests (r : Bool) : AV := cdB.enc r
set_option maxHeartbeats 4000000 in
set_option maxRecDepth 100000 in
theorem evening_guests_sem (x0 : Int) (r : Bool) (h : evening_guests x0 = some r) : Sem e_evening_guests ⟨none, false⟩ cb_evening_guests ⟨Fr 9 (pairs0 0 (cs_evening_guests.enc (x0, ()))), []⟩ fun e s' => (e = .normal ∨ e = .ret) ∧ ∃ xs, resA e_evening_guests.P s'.fr s'.hp Tryd.f67.results.toList = some xs ∧ retA xs = er_evening_guests r := by
  unfold evening_guests at h
  refine Sem.wkQ (Sem.wk (s1 := ⟨Fr 9 [(0, .v (.int .i64 x0))], []⟩) (Wk.fr (by kernel_rfl)) ?_)
  refine Sem.seq ?_
  refine Sem.runS (s1 := ⟨Fr 9 [(0, .v (.int .i64 x0))], []⟩) ?_ ?_
  · refine RunS.segF (n := 9) e_evening_guests_ok 1 [(0, .v (.int .i64 x0))] [] (by kernel_rfl) ?_
    exact RunS.done rfl (Wk.fr (by kernel_rfl))
  refine Sem.seq ?_
  obtain ⟨j2, hj2, h⟩ := Option.bind_eq_some_iff.1 h
  refine Sem.runS (s1 := ⟨Fr 9 [(2, .v (.bool j2))], []⟩) ?_ ?_
  · refine RunS.segF (n := 9) e_evening_guests_ok 3 [(0, .v (.int .i64 x0)), (5, .v (.bool (decide (x0 ≥ 1))))] [] (by kernel_rfl) ?_
    rcases Bool.eq_false_or_eq_true (decide (x0 ≥ 1)) with hc3 | hc3
    · rw [if_pos hc3] at hj2
      rw [hc3]
      refine RunS.segF (n := 9) e_evening_guests_ok 4 [(2, .v (.bool (decide (x0 ≤ 64))))] [] (by kernel_rfl) ?_
      have hq := Option.some.inj hj2; subst hq
      exact RunS.done rfl (Wk.fr (by kernel_rfl))
    · rw [if_f hc3] at hj2
      rw [hc3]
      refine RunS.segF (n := 9) e_evening_guests_ok 4 [(2, .v (.bool false))] [] (by kernel_rfl) ?_
      have hq := Option.some.inj hj2; subst hq
      exact RunS.done rfl (Wk.fr (by kernel_rfl))
  refine Sem.ret ?_
  have hq := Option.some.inj h; subst hq
  exact ⟨⟨Fr 9 [(2, .v (.bool j2))], []⟩, (Wk.fr (by kernel_rfl)), .inr rfl, [.v (.bool j2)], (by kernel_rfl), (by kernel_rfl)⟩
def t_evening_guests : List AV → Option AV := told cs_evening_guests (fun a => evening_guests a.1) er_evening_guests
theorem x_evening_guests : XOk 67 t_evening_guests := by
  refine EnvOk.x (E := e_evening_guests) (contract_ok e_evening_guests_ok (fn := Tryd.f67) (c := cb_evening_guests) ?h1 ?h2 ⟨Tryd.call67⟩ cs_evening_guests (fun a => evening_guests a.1) er_evening_guests (fun a => (by show 1 ≤ 9; decide)) ?h3 ?h4) rfl rfl
  case h1 => kernel_rfl
  case h2 => kernel_rfl
  case h3 => intro b; kernel_rfl
  case h4 => exact fun a b h => evening_guests_sem a.1 b h
end Go.Proofs.YthofgamegondnaaDoor

namespace Go.Proofs.YthofgamegondnaaDoor
open Go.RowKit
/- trestle/evening.fit -/
noncomputable def e_evening_fit : Env := (E0.withX 67 t_evening_guests)
theorem e_evening_fit_ok : EnvOk e_evening_fit := (EnvOk.withX E0_ok x_evening_guests.1 x_evening_guests.2)
noncomputable def cb_evening_fit : Code := codeOf Tryd.f68
def evening_fit_1 (x0 : Int) (x1 : (List Int)) : Nat → Int → Int → Option ((Int) ⊕ (Bool))
  | 0, _, _ => none
  | f + 1, c1, c2 =>
    if (decide (c2 < (x1.length : Int))) = true then
    (idx x1 c2).bind fun v4 =>
    (if (decide (v4 < 1)) = true then some true else some (decide (v4 > c1))).bind fun j6 =>
    if j6 = true then
    some (.inr false)
    else
    evening_fit_1 x0 x1 f (wr .i64 (c1 - v4)) (wr .i64 (c2 + 1))
    else
    some (.inl c1)
def evening_fit (x0 : Int) (x1 : (List Int)) : Option (Bool) :=
  (evening_fit_1 x0 x1 100000 x0 0).bind fun r11 =>
  match r11 with
  | (.inl w12) =>
    (evening_guests x0).bind fun v13 =>
    (if v13 = true then some (w12 == 0) else some false).bind fun j15 =>
    some j15
  | (.inr w17) =>
    some w17
def cs_evening_fit : Cs (Int × (List Int) × Unit) := (csC cdI (csC (cdL 1 cdI) csN))
def er_evening_fit (r : Bool) : AV := cdB.enc r
set_option maxHeartbeats 4000000 in
set_option maxRecDepth 100000 in
theorem evening_fit_1_ok (x0 : Int) (x1 : (List Int)) : ∀ (f : Nat) (c1 : Int) (c2 : Int) (r : (Int) ⊕ (Bool)), evening_fit_1 x0 x1 f c1 c2 = some r → SemN e_evening_fit ⟨none, false⟩ (pc cb_evening_fit [1, 1, 0, 1, 0, 0]) f ⟨Fr 32 [(0, .v (.int .i64 x0)), (5, .v (.int .i64 c1)), (9, .sl 1 (x1.map cdI.enc)), (10, .v (.int .i64 (x1.length : Int))), (11, .v (.int .i64 c2))], []⟩ (fun e s => match r with
  | (.inl w) => e = (.exit 0) ∧ Wk e_evening_fit s ⟨Fr 32 [(0, .v (.int .i64 x0)), (5, .v (.int .i64 w))], []⟩
  | (.inr w) => e = .ret ∧ Wk e_evening_fit s ⟨Fr 32 [(4, .v (.bool w))], []⟩) := by
  intro f
  induction f with
  | zero => intro c1 c2 r h; cases h
  | succ f ih0 =>
    intro c1 c2 r h
    have ih := fun (c1 : Int) (c2 : Int) => ih0 c1 c2 r
    unfold evening_fit_1 at h
    refine SemN.succ ?_
    refine Sem.seq ?_
    refine Sem.runS (s1 := ⟨Fr 32 [(0, .v (.int .i64 x0)), (5, .v (.int .i64 c1)), (9, .sl 1 (x1.map cdI.enc)), (10, .v (.int .i64 (x1.length : Int))), (11, .v (.int .i64 c2)), (12, .v (.bool (decide (c2 < (x1.length : Int)))))], []⟩) ?_ ?_
    · refine RunS.segF (n := 32) e_evening_fit_ok 1 [(0, .v (.int .i64 x0)), (5, .v (.int .i64 c1)), (9, .sl 1 (x1.map cdI.enc)), (10, .v (.int .i64 (x1.length : Int))), (11, .v (.int .i64 c2)), (12, .v (.bool (decide (c2 < (x1.length : Int)))))] [] (by kernel_rfl) ?_
      exact RunS.done rfl (Wk.fr (by kernel_rfl))
    refine Sem.seq ?_
    refine Sem.cond (b := (decide (c2 < (x1.length : Int)))) (by kernel_rfl) (fun hb3 => ?_) (fun hb3 => ?_)
    · rw [if_pos hb3] at h
      refine Sem.skip ?_
      refine Sem.seq ?_
      refine Sem.block ?_
      refine Sem.seq ?_
      obtain ⟨v4, hv4, h⟩ := Option.bind_eq_some_iff.1 h
      refine Sem.runS (s1 := ⟨Fr 32 [(0, .v (.int .i64 x0)), (5, .v (.int .i64 c1)), (7, .v (.int .i64 v4)), (9, .sl 1 (x1.map cdI.enc)), (10, .v (.int .i64 (x1.length : Int))), (11, .v (.int .i64 c2))], []⟩) ?_ ?_
      · refine RunS.one e_evening_fit_ok 0 rfl (op_q (wantedA_none rfl) rfl (q_indexAddr (a := .sl 1 (x1.map cdI.enc)) (b := .v (.int .i64 c2)) (by kernel_rfl) (by kernel_rfl) (ix_sl (e := cdI.enc) (el := 3) (k := 1) (ki := .i64) (by kernel_rfl) (by kernel_rfl) hv4))) ?_
        refine RunS.segF (n := 32) e_evening_fit_ok 2 [(0, .v (.int .i64 x0)), (5, .v (.int .i64 c1)), (7, .v (.int .i64 v4)), (9, .sl 1 (x1.map cdI.enc)), (10, .v (.int .i64 (x1.length : Int))), (11, .v (.int .i64 c2))] [] (by kernel_rfl) ?_
        exact RunS.done rfl (Wk.fr (by kernel_rfl))
      refine Sem.seq ?_
      refine Sem.seq ?_
      obtain ⟨j6, hj6, h⟩ := Option.bind_eq_some_iff.1 h
      refine Sem.runS (s1 := ⟨Fr 32 [(0, .v (.int .i64 x0)), (5, .v (.int .i64 c1)), (7, .v (.int .i64 v4)), (9, .sl 1 (x1.map cdI.enc)), (10, .v (.int .i64 (x1.length : Int))), (11, .v (.int .i64 c2)), (21, .v (.bool j6))], []⟩) ?_ ?_
      · refine RunS.segF (n := 32) e_evening_fit_ok 3 [(0, .v (.int .i64 x0)), (5, .v (.int .i64 c1)), (7, .v (.int .i64 v4)), (9, .sl 1 (x1.map cdI.enc)), (10, .v (.int .i64 (x1.length : Int))), (11, .v (.int .i64 c2)), (17, .v (.bool (decide (v4 < 1))))] [] (by kernel_rfl) ?_
        rcases Bool.eq_false_or_eq_true (decide (v4 < 1)) with hc9 | hc9
        · rw [if_pos hc9] at hj6
          rw [hc9]
          refine RunS.segF (n := 32) e_evening_fit_ok 4 [(0, .v (.int .i64 x0)), (5, .v (.int .i64 c1)), (7, .v (.int .i64 v4)), (9, .sl 1 (x1.map cdI.enc)), (10, .v (.int .i64 (x1.length : Int))), (11, .v (.int .i64 c2)), (18, .tp []), (19, .tp []), (20, .tp []), (21, .v (.bool true))] [] (by kernel_rfl) ?_
          have hq := Option.some.inj hj6; subst hq
          exact RunS.done rfl (Wk.fr (by kernel_rfl))
        · rw [if_f hc9] at hj6
          rw [hc9]
          refine RunS.segF (n := 32) e_evening_fit_ok 4 [(0, .v (.int .i64 x0)), (5, .v (.int .i64 c1)), (7, .v (.int .i64 v4)), (9, .sl 1 (x1.map cdI.enc)), (10, .v (.int .i64 (x1.length : Int))), (11, .v (.int .i64 c2)), (18, .v (.int .i64 v4)), (19, .v (.int .i64 c1)), (20, .v (.bool (decide (v4 > c1)))), (21, .v (.bool (decide (v4 > c1))))] [] (by kernel_rfl) ?_
          have hq := Option.some.inj hj6; subst hq
          exact RunS.done rfl (Wk.fr (by kernel_rfl))
      refine Sem.cond (b := j6) (by kernel_rfl) (fun hb7 => ?_) (fun hb7 => ?_)
      · rw [if_pos hb7] at h
        refine Sem.seq ?_
        refine Sem.runS (s1 := ⟨Fr 32 [(4, .v (.bool false))], []⟩) ?_ ?_
        · refine RunS.segF (n := 32) e_evening_fit_ok 1 [(4, .v (.bool false))] [] (by kernel_rfl) ?_
          exact RunS.done rfl (Wk.fr (by kernel_rfl))
        refine Sem.ret ?_
        have hq := Option.some.inj h; subst hq
        exact ⟨rfl, (Wk.fr (by kernel_rfl))⟩
      · rw [if_f hb7] at h
        refine Sem.skip ?_
        refine Sem.runS (s1 := ⟨Fr 32 [(0, .v (.int .i64 x0)), (5, .v (.int .i64 (wr .i64 (c1 - v4)))), (9, .sl 1 (x1.map cdI.enc)), (10, .v (.int .i64 (x1.length : Int))), (11, .v (.int .i64 c2))], []⟩) ?_ ?_
        · refine RunS.segF (n := 32) e_evening_fit_ok 4 [(0, .v (.int .i64 x0)), (5, .v (.int .i64 (wr .i64 (c1 - v4)))), (9, .sl 1 (x1.map cdI.enc)), (10, .v (.int .i64 (x1.length : Int))), (11, .v (.int .i64 c2))] [] (by kernel_rfl) ?_
          exact RunS.done rfl (Wk.fr (by kernel_rfl))
        refine Sem.runS (s1 := ⟨Fr 32 [(0, .v (.int .i64 x0)), (5, .v (.int .i64 (wr .i64 (c1 - v4)))), (9, .sl 1 (x1.map cdI.enc)), (10, .v (.int .i64 (x1.length : Int))), (11, .v (.int .i64 (wr .i64 (c2 + 1))))], []⟩) ?_ ?_
        · refine RunS.segF (n := 32) e_evening_fit_ok 2 [(0, .v (.int .i64 x0)), (5, .v (.int .i64 (wr .i64 (c1 - v4)))), (9, .sl 1 (x1.map cdI.enc)), (10, .v (.int .i64 (x1.length : Int))), (11, .v (.int .i64 (wr .i64 (c2 + 1))))] [] (by kernel_rfl) ?_
          exact RunS.done rfl (Wk.fr (by kernel_rfl))
        exact SemN.wk (s1 := ⟨Fr 32 [(0, .v (.int .i64 x0)), (5, .v (.int .i64 (wr .i64 (c1 - v4)))), (9, .sl 1 (x1.map cdI.enc)), (10, .v (.int .i64 (x1.length : Int))), (11, .v (.int .i64 (wr .i64 (c2 + 1))))], []⟩) (Wk.fr (by kernel_rfl)) (ih (wr .i64 (c1 - v4)) (wr .i64 (c2 + 1)) h)
    · rw [if_f hb3] at h
      refine Sem.exit ?_
      have hq := Option.some.inj h; subst hq
      exact ⟨rfl, (Wk.fr (by kernel_rfl))⟩
set_option maxHeartbeats 4000000 in
set_option maxRecDepth 100000 in
theorem evening_fit_sem (x0 : Int) (x1 : (List Int)) (r : Bool) (h : evening_fit x0 x1 = some r) : Sem e_evening_fit ⟨none, false⟩ cb_evening_fit ⟨Fr 32 (pairs0 0 (cs_evening_fit.enc (x0, x1, ()))), []⟩ fun e s' => (e = .normal ∨ e = .ret) ∧ ∃ xs, resA e_evening_fit.P s'.fr s'.hp Tryd.f68.results.toList = some xs ∧ retA xs = er_evening_fit r := by
  unfold evening_fit at h
  refine Sem.wkQ (Sem.wk (s1 := ⟨Fr 32 [(0, .v (.int .i64 x0)), (1, .sl 1 (x1.map cdI.enc))], []⟩) (Wk.fr (by kernel_rfl)) ?_)
  refine Sem.seq ?_
  refine Sem.runS (s1 := ⟨Fr 32 [(0, .v (.int .i64 x0)), (1, .sl 1 (x1.map cdI.enc))], []⟩) ?_ ?_
  · refine RunS.segF (n := 32) e_evening_fit_ok 1 [(0, .v (.int .i64 x0)), (1, .sl 1 (x1.map cdI.enc))] [] (by kernel_rfl) ?_
    exact RunS.done rfl (Wk.fr (by kernel_rfl))
  refine Sem.seq ?_
  refine Sem.runS (s1 := ⟨Fr 32 [(0, .v (.int .i64 x0)), (1, .sl 1 (x1.map cdI.enc)), (5, .v (.int .i64 x0))], []⟩) ?_ ?_
  · refine RunS.segF (n := 32) e_evening_fit_ok 2 [(0, .v (.int .i64 x0)), (1, .sl 1 (x1.map cdI.enc)), (5, .v (.int .i64 x0))] [] (by kernel_rfl) ?_
    exact RunS.done rfl (Wk.fr (by kernel_rfl))
  refine Sem.seq ?_
  refine Sem.seq ?_
  refine Sem.runS (s1 := ⟨Fr 32 [(0, .v (.int .i64 x0)), (5, .v (.int .i64 x0)), (9, .sl 1 (x1.map cdI.enc)), (10, .v (.int .i64 (x1.length : Int))), (11, .v (.int .i64 0))], []⟩) ?_ ?_
  · refine RunS.segF (n := 32) e_evening_fit_ok 1 [(0, .v (.int .i64 x0)), (5, .v (.int .i64 x0)), (9, .sl 1 (x1.map cdI.enc))] [] (by kernel_rfl) ?_
    refine RunS.one e_evening_fit_ok 0 rfl (op_q (wantedA_none rfl) rfl (q_len (a := .sl 1 (x1.map cdI.enc)) (by kernel_rfl) (len_sl (el := 3) (by kernel_rfl)))) ?_
    refine RunS.segF (n := 32) e_evening_fit_ok 1 [(0, .v (.int .i64 x0)), (5, .v (.int .i64 x0)), (9, .sl 1 (x1.map cdI.enc)), (10, .v (.int .i64 (x1.length : Int))), (11, .v (.int .i64 0))] [] (by kernel_rfl) ?_
    exact RunS.done rfl (Wk.fr (by kernel_rfl))
  refine Sem.block ?_
  obtain ⟨r11, hr11, h⟩ := Option.bind_eq_some_iff.1 h
  refine Sem.loop (n := 100000) ?_
  rcases r11 with w12 | w17
  · try dsimp only at h
    refine Sem.cutN (SemN.wk (s1 := ⟨Fr 32 [(0, .v (.int .i64 x0)), (5, .v (.int .i64 x0)), (9, .sl 1 (x1.map cdI.enc)), (10, .v (.int .i64 (x1.length : Int))), (11, .v (.int .i64 0))], []⟩) (Wk.fr (by kernel_rfl)) (evening_fit_1_ok x0 x1 _ x0 0 _ hr11)) ?_
    refine Sem.seq ?_
    obtain ⟨v13, hv13, h⟩ := Option.bind_eq_some_iff.1 h
    obtain ⟨j15, hj15, h⟩ := Option.bind_eq_some_iff.1 h
    refine Sem.runS (s1 := ⟨Fr 32 [(4, .v (.bool j15))], []⟩) ?_ ?_
    · refine RunS.segF (n := 32) e_evening_fit_ok 1 [(5, .v (.int .i64 w12)), (26, .v (.int .i64 x0))] [] (by kernel_rfl) ?_
      refine RunS.call e_evening_fit_ok (fid := 67) (s := cs_evening_guests) (F := fun a => evening_guests a.1) (er := er_evening_guests) (xs := [.v (.int .i64 x0)]) (a := (x0, ())) rfl (wantedA_none rfl) (by kernel_rfl) (by kernel_rfl) (by kernel_rfl) (by kernel_rfl) (Sns.cons (Sn.enc (c := cdI) (v := x0)) Sns.nil) (.inl (by kernel_rfl)) hv13 ?_
      refine RunS.segF (n := 32) e_evening_fit_ok 1 [(5, .v (.int .i64 w12)), (28, .v (.bool v13))] [] (by kernel_rfl) ?_
      rcases Bool.eq_false_or_eq_true v13 with hc16 | hc16
      · rw [if_pos hc16] at hj15
        rw [hc16]
        refine RunS.segF (n := 32) e_evening_fit_ok 4 [(4, .v (.bool (w12 == 0)))] [] (by kernel_rfl) ?_
        have hq := Option.some.inj hj15; subst hq
        exact RunS.done rfl (Wk.fr (by kernel_rfl))
      · rw [if_f hc16] at hj15
        rw [hc16]
        refine RunS.segF (n := 32) e_evening_fit_ok 4 [(4, .v (.bool false))] [] (by kernel_rfl) ?_
        have hq := Option.some.inj hj15; subst hq
        exact RunS.done rfl (Wk.fr (by kernel_rfl))
    refine Sem.ret ?_
    have hq := Option.some.inj h; subst hq
    exact ⟨⟨Fr 32 [(4, .v (.bool j15))], []⟩, (Wk.fr (by kernel_rfl)), .inr rfl, [.v (.bool j15)], (by kernel_rfl), (by kernel_rfl)⟩
  · try dsimp only at h
    refine Sem.cutN (SemN.wk (s1 := ⟨Fr 32 [(0, .v (.int .i64 x0)), (5, .v (.int .i64 x0)), (9, .sl 1 (x1.map cdI.enc)), (10, .v (.int .i64 (x1.length : Int))), (11, .v (.int .i64 0))], []⟩) (Wk.fr (by kernel_rfl)) (evening_fit_1_ok x0 x1 _ x0 0 _ hr11)) ?_
    have hq := Option.some.inj h; subst hq
    exact ⟨⟨Fr 32 [(4, .v (.bool w17))], []⟩, (Wk.fr (by kernel_rfl)), .inr rfl, [.v (.bool w17)], (by kernel_rfl), (by kernel_rfl)⟩
def t_evening_fit : List AV → Option AV := told cs_evening_fit (fun a => evening_fit a.1 a.2.1) er_evening_fit
theorem x_evening_fit : XOk 68 t_evening_fit := by
  refine EnvOk.x (E := e_evening_fit) (contract_ok e_evening_fit_ok (fn := Tryd.f68) (c := cb_evening_fit) ?h1 ?h2 ⟨Tryd.call68⟩ cs_evening_fit (fun a => evening_fit a.1 a.2.1) er_evening_fit (fun a => (by show 2 ≤ 32; decide)) ?h3 ?h4) rfl rfl
  case h1 => kernel_rfl
  case h2 => kernel_rfl
  case h3 => intro b; kernel_rfl
  case h4 => exact fun a b h => evening_fit_sem a.1 a.2.1 b h
end Go.Proofs.YthofgamegondnaaDoor

namespace Go.Proofs.YthofgamegondnaaDoor
open Go.RowKit
/- trestle/evening.check -/
noncomputable def e_evening_check : Env := E0
theorem e_evening_check_ok : EnvOk e_evening_check := E0_ok
noncomputable def cb_evening_check : Code := codeOf Tryd.f69
def evening_check_j3 (x0 : Int) (x1 : (List Int)) (x2 : (List (List Int))) (c9 : Int) (v11 : (List Int)) (c18 : Int) (c20 : Bool) (c22 : Int) (v24 : Int) (j32 : Bool × (List Bool)) (v33 : Bool) : Option ((Int)) :=
  if (!v33) = true then
  some (wr .i64 (c18 + 1))
  else
  some c18
def evening_check_2 (x0 : Int) (x1 : (List Int)) (x2 : (List (List Int))) (c9 : Int) (v11 : (List Int)) : Nat → Int → Bool → Bool → (List Bool) → Int → Option ((Int × Bool × Bool × (List Bool)))
  | 0, _, _, _, _, _ => none
  | f + 1, c18, c19, c20, c21, c22 =>
    if (decide (c22 < (v11.length : Int))) = true then
    (idx v11 c22).bind fun v24 =>
    (if (decide (v24 < 0)) = true then some (c21, true) else some (c21, (decide (v24 ≥ x0)))).bind fun j27 =>
    if j27.2 = true then
    evening_check_2 x0 x1 x2 c9 v11 f c18 c19 true j27.1 (wr .i64 (c22 + 1))
    else
    (if c19 = true then some (true, j27.1) else (idx j27.1 v24).bind fun v29 =>
    some (v29, j27.1)).bind fun j32 =>
    (idx j32.2 v24).bind fun v33 =>
    (evening_check_j3 x0 x1 x2 c9 v11 c18 c20 c22 v24 j32 v33).bind fun r36 =>
    (idx j32.2 v24).bind fun v37 =>
    evening_check_2 x0 x1 x2 c9 v11 f r36 j32.1 c20 (j32.2.set v24.toNat true) (wr .i64 (c22 + 1))
    else
    some (c18, c19, c20, c21)
def evening_check_1 (x0 : Int) (x1 : (List Int)) (x2 : (List (List Int))) : Nat → Int → Bool → Bool → (List Bool) → Int → Option ((Int × Bool × Bool) ⊕ (Int))
  | 0, _, _, _, _, _ => none
  | f + 1, c5, c6, c7, c8, c9 =>
    if (decide (c9 < (x2.length : Int))) = true then
    (idx x2 c9).bind fun v11 =>
    (if ((v11.length : Int) == 0) = true then some (c8, true) else if (decide ((x1.length : Int) > 0)) = true then (idx x1 c9).bind fun v12 =>
    some (c8, ((v11.length : Int) != v12)) else some (c8, false)).bind fun j15 =>
    if j15.2 = true then
    some (.inr 2)
    else
    (evening_check_2 x0 x1 x2 c9 v11 100000 c5 c6 c7 j15.1 0).bind fun r44 =>
    evening_check_1 x0 x1 x2 f r44.1 r44.2.1 r44.2.2.1 r44.2.2.2 (wr .i64 (c9 + 1))
    else
    some (.inl (c5, c6, c7))
def evening_check (x0 : Int) (x1 : (List Int)) (x2 : (List (List Int))) : Option (Int) :=
  (if (decide ((x1.length : Int) > 0)) = true then some ((x1.length : Int) != (x2.length : Int)) else some false).bind fun j2 =>
  if j2 = true then
  some 2
  else
  if (mkOk 1 x0) = true then
  (evening_check_1 x0 x1 x2 100000 0 false false (List.replicate x0.toNat false) 0).bind fun r50 =>
  match r50 with
  | (.inl w51) =>
    if w51.2.2 = true then
    some 6
    else
    if w51.2.1 = true then
    some 5
    else
    if (decide (w51.1 < x0)) = true then
    some 2
    else
    some 0
  | (.inr w55) =>
    some w55
  else none
def cs_evening_check : Cs (Int × (List Int) × (List (List Int)) × Unit) := (csC cdI (csC (cdL 1 cdI) (csC (cdL 1 (cdL 1 cdI)) csN)))
def er_evening_check (r : Int) : AV := cdI.enc r
set_option maxHeartbeats 4000000 in
set_option maxRecDepth 100000 in
theorem evening_check_j3_ok (x0 : Int) (x1 : (List Int)) (x2 : (List (List Int))) (c9 : Int) (v11 : (List Int)) (c18 : Int) (c20 : Bool) (c22 : Int) (v24 : Int) (j32 : Bool × (List Bool)) (v33 : Bool) (r : (Int)) (h : evening_check_j3 x0 x1 x2 c9 v11 c18 c20 c22 v24 j32 v33 = some r) : Sem e_evening_check ⟨none, false⟩ (pc cb_evening_check [1, 1, 1, 1, 0, 1, 0, 0, 1, 1, 0, 0, 1, 1, 1, 0, 0, 1, 1, 0, 0, 1, 1, 1, 0, 1]) ⟨Fr 91 [(0, .v (.int .i64 x0)), (1, .sl 1 (x1.map cdI.enc)), (7, .v (.int .i64 c18)), (8, .v (.bool j32.1)), (9, .v (.bool c20)), (10, .rf 0 0 j32.2.length j32.2.length), (14, .v (.int .i64 v24)), (27, .sl 1 (x2.map (cdL 1 cdI).enc)), (28, .v (.int .i64 (x2.length : Int))), (29, .v (.int .i64 c9)), (51, .sl 1 (v11.map cdI.enc)), (52, .v (.int .i64 (v11.length : Int))), (53, .v (.int .i64 c22)), (75, .v (.bool (!v33)))], [some ⟨1, 4, (j32.2.map cdB.enc), false⟩]⟩ (fun e s => e = .normal ∧ Wk e_evening_check s ⟨Fr 91 [(0, .v (.int .i64 x0)), (1, .sl 1 (x1.map cdI.enc)), (7, .v (.int .i64 r)), (8, .v (.bool j32.1)), (9, .v (.bool c20)), (10, .rf 0 0 j32.2.length j32.2.length), (14, .v (.int .i64 v24)), (27, .sl 1 (x2.map (cdL 1 cdI).enc)), (28, .v (.int .i64 (x2.length : Int))), (29, .v (.int .i64 c9)), (51, .sl 1 (v11.map cdI.enc)), (52, .v (.int .i64 (v11.length : Int))), (53, .v (.int .i64 c22))], [some ⟨1, 4, (j32.2.map cdB.enc), false⟩]⟩) := by
  unfold evening_check_j3 at h
  refine Sem.cond (b := (!v33)) (by kernel_rfl) (fun hb34 => ?_) (fun hb34 => ?_)
  · rw [if_pos hb34] at h
    refine Sem.runS (s1 := ⟨Fr 91 [(0, .v (.int .i64 x0)), (1, .sl 1 (x1.map cdI.enc)), (7, .v (.int .i64 (wr .i64 (c18 + 1)))), (8, .v (.bool j32.1)), (9, .v (.bool c20)), (10, .rf 0 0 j32.2.length j32.2.length), (14, .v (.int .i64 v24)), (27, .sl 1 (x2.map (cdL 1 cdI).enc)), (28, .v (.int .i64 (x2.length : Int))), (29, .v (.int .i64 c9)), (51, .sl 1 (v11.map cdI.enc)), (52, .v (.int .i64 (v11.length : Int))), (53, .v (.int .i64 c22))], [some ⟨1, 4, (j32.2.map cdB.enc), false⟩]⟩) ?_ ?_
    · refine RunS.segF (n := 91) e_evening_check_ok 3 [(0, .v (.int .i64 x0)), (1, .sl 1 (x1.map cdI.enc)), (7, .v (.int .i64 (wr .i64 (c18 + 1)))), (8, .v (.bool j32.1)), (9, .v (.bool c20)), (10, .rf 0 0 j32.2.length j32.2.length), (14, .v (.int .i64 v24)), (27, .sl 1 (x2.map (cdL 1 cdI).enc)), (28, .v (.int .i64 (x2.length : Int))), (29, .v (.int .i64 c9)), (51, .sl 1 (v11.map cdI.enc)), (52, .v (.int .i64 (v11.length : Int))), (53, .v (.int .i64 c22))] [some ⟨1, 4, (j32.2.map cdB.enc), false⟩] (by kernel_rfl) ?_
      exact RunS.done rfl (Wk.sel2 [0] (by kernel_rfl) (by kernel_rfl) (by kernel_rfl) ⟨⟨_, rfl, bu_own⟩, trivial⟩ ⟨lu (by kernel_rfl) (by kernel_rfl), lu (by kernel_rfl) (by kernel_rfl), lu (by kernel_rfl) (by kernel_rfl), lu (by kernel_rfl) (by kernel_rfl), lu (by kernel_rfl) (by kernel_rfl), lu (by kernel_rfl) (by kernel_rfl), lu (by kernel_rfl) (by kernel_rfl), lu (by kernel_rfl) (by kernel_rfl), lu (by kernel_rfl) (by kernel_rfl), lu (by kernel_rfl) (by kernel_rfl), lu (by kernel_rfl) (by kernel_rfl), lu (by kernel_rfl) (by kernel_rfl), lu (by kernel_rfl) (by kernel_rfl), trivial⟩)
    have hq := Option.some.inj h; subst hq
    exact ⟨rfl, (Wk.sel2 [0] (by kernel_rfl) (by kernel_rfl) (by kernel_rfl) ⟨⟨_, rfl, bu_own⟩, trivial⟩ ⟨lu (by kernel_rfl) (by kernel_rfl), lu (by kernel_rfl) (by kernel_rfl), lu (by kernel_rfl) (by kernel_rfl), lu (by kernel_rfl) (by kernel_rfl), lu (by kernel_rfl) (by kernel_rfl), lu (by kernel_rfl) (by kernel_rfl), lu (by kernel_rfl) (by kernel_rfl), lu (by kernel_rfl) (by kernel_rfl), lu (by kernel_rfl) (by kernel_rfl), lu (by kernel_rfl) (by kernel_rfl), lu (by kernel_rfl) (by kernel_rfl), lu (by kernel_rfl) (by kernel_rfl), lu (by kernel_rfl) (by kernel_rfl), trivial⟩)⟩
  · rw [if_f hb34] at h
    refine Sem.skip ?_
    have hq := Option.some.inj h; subst hq
    exact ⟨rfl, (Wk.sel2 [0] (by kernel_rfl) (by kernel_rfl) (by kernel_rfl) ⟨⟨_, rfl, bu_own⟩, trivial⟩ ⟨lu (by kernel_rfl) (by kernel_rfl), lu (by kernel_rfl) (by kernel_rfl), lu (by kernel_rfl) (by kernel_rfl), lu (by kernel_rfl) (by kernel_rfl), lu (by kernel_rfl) (by kernel_rfl), lu (by kernel_rfl) (by kernel_rfl), lu (by kernel_rfl) (by kernel_rfl), lu (by kernel_rfl) (by kernel_rfl), lu (by kernel_rfl) (by kernel_rfl), lu (by kernel_rfl) (by kernel_rfl), lu (by kernel_rfl) (by kernel_rfl), lu (by kernel_rfl) (by kernel_rfl), lu (by kernel_rfl) (by kernel_rfl), trivial⟩)⟩
set_option maxHeartbeats 4000000 in
set_option maxRecDepth 100000 in
theorem evening_check_2_ok (x0 : Int) (x1 : (List Int)) (x2 : (List (List Int))) (c9 : Int) (v11 : (List Int)) : ∀ (f : Nat) (c18 : Int) (c19 : Bool) (c20 : Bool) (c21 : (List Bool)) (c22 : Int) (r : (Int × Bool × Bool × (List Bool))), evening_check_2 x0 x1 x2 c9 v11 f c18 c19 c20 c21 c22 = some r → SemN e_evening_check ⟨none, false⟩ (pc cb_evening_check [1, 1, 1, 1, 0, 1, 0, 0, 1, 1, 0, 0, 1, 1, 1, 0, 0]) f ⟨Fr 91 [(0, .v (.int .i64 x0)), (1, .sl 1 (x1.map cdI.enc)), (7, .v (.int .i64 c18)), (8, .v (.bool c19)), (9, .v (.bool c20)), (10, .rf 0 0 c21.length c21.length), (27, .sl 1 (x2.map (cdL 1 cdI).enc)), (28, .v (.int .i64 (x2.length : Int))), (29, .v (.int .i64 c9)), (51, .sl 1 (v11.map cdI.enc)), (52, .v (.int .i64 (v11.length : Int))), (53, .v (.int .i64 c22))], [some ⟨1, 4, (c21.map cdB.enc), false⟩]⟩ (fun e s => e = (.exit 2) ∧ Wk e_evening_check s ⟨Fr 91 [(0, .v (.int .i64 x0)), (1, .sl 1 (x1.map cdI.enc)), (7, .v (.int .i64 r.1)), (8, .v (.bool r.2.1)), (9, .v (.bool r.2.2.1)), (10, .rf 0 0 r.2.2.2.length r.2.2.2.length), (27, .sl 1 (x2.map (cdL 1 cdI).enc)), (28, .v (.int .i64 (x2.length : Int))), (29, .v (.int .i64 c9))], [some ⟨1, 4, (r.2.2.2.map cdB.enc), false⟩]⟩) := by
  intro f
  induction f with
  | zero => intro c18 c19 c20 c21 c22 r h; cases h
  | succ f ih0 =>
    intro c18 c19 c20 c21 c22 r h
    have ih := fun (c18 : Int) (c19 : Bool) (c20 : Bool) (c21 : (List Bool)) (c22 : Int) => ih0 c18 c19 c20 c21 c22 r
    unfold evening_check_2 at h
    refine SemN.succ ?_
    refine Sem.seq ?_
    refine Sem.runS (s1 := ⟨Fr 91 [(0, .v (.int .i64 x0)), (1, .sl 1 (x1.map cdI.enc)), (7, .v (.int .i64 c18)), (8, .v (.bool c19)), (9, .v (.bool c20)), (10, .rf 0 0 c21.length c21.length), (27, .sl 1 (x2.map (cdL 1 cdI).enc)), (28, .v (.int .i64 (x2.length : Int))), (29, .v (.int .i64 c9)), (51, .sl 1 (v11.map cdI.enc)), (52, .v (.int .i64 (v11.length : Int))), (53, .v (.int .i64 c22)), (54, .v (.bool (decide (c22 < (v11.length : Int)))))], [some ⟨1, 4, (c21.map cdB.enc), false⟩]⟩) ?_ ?_
    · refine RunS.segF (n := 91) e_evening_check_ok 1 [(0, .v (.int .i64 x0)), (1, .sl 1 (x1.map cdI.enc)), (7, .v (.int .i64 c18)), (8, .v (.bool c19)), (9, .v (.bool c20)), (10, .rf 0 0 c21.length c21.length), (27, .sl 1 (x2.map (cdL 1 cdI).enc)), (28, .v (.int .i64 (x2.length : Int))), (29, .v (.int .i64 c9)), (51, .sl 1 (v11.map cdI.enc)), (52, .v (.int .i64 (v11.length : Int))), (53, .v (.int .i64 c22)), (54, .v (.bool (decide (c22 < (v11.length : Int)))))] [some ⟨1, 4, (c21.map cdB.enc), false⟩] (by kernel_rfl) ?_
      exact RunS.done rfl (Wk.sel2 [0] (by kernel_rfl) (by kernel_rfl) (by kernel_rfl) ⟨⟨_, rfl, bu_own⟩, trivial⟩ ⟨lu (by kernel_rfl) (by kernel_rfl), lu (by kernel_rfl) (by kernel_rfl), lu (by kernel_rfl) (by kernel_rfl), lu (by kernel_rfl) (by kernel_rfl), lu (by kernel_rfl) (by kernel_rfl), lu (by kernel_rfl) (by kernel_rfl), lu (by kernel_rfl) (by kernel_rfl), lu (by kernel_rfl) (by kernel_rfl), lu (by kernel_rfl) (by kernel_rfl), lu (by kernel_rfl) (by kernel_rfl), lu (by kernel_rfl) (by kernel_rfl), lu (by kernel_rfl) (by kernel_rfl), lu (by kernel_rfl) (by kernel_rfl), trivial⟩)
    refine Sem.seq ?_
    refine Sem.cond (b := (decide (c22 < (v11.length : Int)))) (by kernel_rfl) (fun hb23 => ?_) (fun hb23 => ?_)
    · rw [if_pos hb23] at h
      refine Sem.skip ?_
      refine Sem.seq ?_
      refine Sem.block ?_
      refine Sem.seq ?_
      obtain ⟨v24, hv24, h⟩ := Option.bind_eq_some_iff.1 h
      refine Sem.runS (s1 := ⟨Fr 91 [(0, .v (.int .i64 x0)), (1, .sl 1 (x1.map cdI.enc)), (7, .v (.int .i64 c18)), (8, .v (.bool c19)), (9, .v (.bool c20)), (10, .rf 0 0 c21.length c21.length), (14, .v (.int .i64 v24)), (27, .sl 1 (x2.map (cdL 1 cdI).enc)), (28, .v (.int .i64 (x2.length : Int))), (29, .v (.int .i64 c9)), (51, .sl 1 (v11.map cdI.enc)), (52, .v (.int .i64 (v11.length : Int))), (53, .v (.int .i64 c22))], [some ⟨1, 4, (c21.map cdB.enc), false⟩]⟩) ?_ ?_
      · refine RunS.one e_evening_check_ok 0 rfl (op_q (wantedA_none rfl) rfl (q_indexAddr (a := .sl 1 (v11.map cdI.enc)) (b := .v (.int .i64 c22)) (by kernel_rfl) (by kernel_rfl) (ix_sl (e := cdI.enc) (el := 3) (k := 1) (ki := .i64) (by kernel_rfl) (by kernel_rfl) hv24))) ?_
        refine RunS.segF (n := 91) e_evening_check_ok 2 [(0, .v (.int .i64 x0)), (1, .sl 1 (x1.map cdI.enc)), (7, .v (.int .i64 c18)), (8, .v (.bool c19)), (9, .v (.bool c20)), (10, .rf 0 0 c21.length c21.length), (14, .v (.int .i64 v24)), (27, .sl 1 (x2.map (cdL 1 cdI).enc)), (28, .v (.int .i64 (x2.length : Int))), (29, .v (.int .i64 c9)), (51, .sl 1 (v11.map cdI.enc)), (52, .v (.int .i64 (v11.length : Int))), (53, .v (.int .i64 c22))] [some ⟨1, 4, (c21.map cdB.enc), false⟩] (by kernel_rfl) ?_
        exact RunS.done rfl (Wk.sel2 [0] (by kernel_rfl) (by kernel_rfl) (by kernel_rfl) ⟨⟨_, rfl, bu_own⟩, trivial⟩ ⟨lu (by kernel_rfl) (by kernel_rfl), lu (by kernel_rfl) (by kernel_rfl), lu (by kernel_rfl) (by kernel_rfl), lu (by kernel_rfl) (by kernel_rfl), lu (by kernel_rfl) (by kernel_rfl), lu (by kernel_rfl) (by kernel_rfl), lu (by kernel_rfl) (by kernel_rfl), lu (by kernel_rfl) (by kernel_rfl), lu (by kernel_rfl) (by kernel_rfl), lu (by kernel_rfl) (by kernel_rfl), lu (by kernel_rfl) (by kernel_rfl), lu (by kernel_rfl) (by kernel_rfl), lu (by kernel_rfl) (by kernel_rfl), trivial⟩)
      refine Sem.seq ?_
      refine Sem.seq ?_
      obtain ⟨j27, hj27, h⟩ := Option.bind_eq_some_iff.1 h
      refine Sem.runS (s1 := ⟨Fr 91 [(0, .v (.int .i64 x0)), (1, .sl 1 (x1.map cdI.enc)), (7, .v (.int .i64 c18)), (8, .v (.bool c19)), (9, .v (.bool c20)), (10, .rf 0 0 j27.1.length j27.1.length), (14, .v (.int .i64 v24)), (27, .sl 1 (x2.map (cdL 1 cdI).enc)), (28, .v (.int .i64 (x2.length : Int))), (29, .v (.int .i64 c9)), (51, .sl 1 (v11.map cdI.enc)), (52, .v (.int .i64 (v11.length : Int))), (53, .v (.int .i64 c22)), (63, .v (.bool j27.2))], [some ⟨1, 4, (j27.1.map cdB.enc), false⟩]⟩) ?_ ?_
      · refine RunS.segF (n := 91) e_evening_check_ok 3 [(0, .v (.int .i64 x0)), (1, .sl 1 (x1.map cdI.enc)), (7, .v (.int .i64 c18)), (8, .v (.bool c19)), (9, .v (.bool c20)), (10, .rf 0 0 c21.length c21.length), (14, .v (.int .i64 v24)), (27, .sl 1 (x2.map (cdL 1 cdI).enc)), (28, .v (.int .i64 (x2.length : Int))), (29, .v (.int .i64 c9)), (51, .sl 1 (v11.map cdI.enc)), (52, .v (.int .i64 (v11.length : Int))), (53, .v (.int .i64 c22)), (59, .v (.bool (decide (v24 < 0))))] [some ⟨1, 4, (c21.map cdB.enc), false⟩] (by kernel_rfl) ?_
        rcases Bool.eq_false_or_eq_true (decide (v24 < 0)) with hc39 | hc39
        · rw [if_pos hc39] at hj27
          rw [hc39]
          refine RunS.segF (n := 91) e_evening_check_ok 4 [(0, .v (.int .i64 x0)), (1, .sl 1 (x1.map cdI.enc)), (7, .v (.int .i64 c18)), (8, .v (.bool c19)), (9, .v (.bool c20)), (10, .rf 0 0 c21.length c21.length), (14, .v (.int .i64 v24)), (27, .sl 1 (x2.map (cdL 1 cdI).enc)), (28, .v (.int .i64 (x2.length : Int))), (29, .v (.int .i64 c9)), (51, .sl 1 (v11.map cdI.enc)), (52, .v (.int .i64 (v11.length : Int))), (53, .v (.int .i64 c22)), (60, .tp []), (61, .tp []), (62, .tp []), (63, .v (.bool true))] [some ⟨1, 4, (c21.map cdB.enc), false⟩] (by kernel_rfl) ?_
          have hq := Option.some.inj hj27; subst hq
          exact RunS.done rfl (Wk.sel2 [0] (by kernel_rfl) (by kernel_rfl) (by kernel_rfl) ⟨⟨_, rfl, bu_own⟩, trivial⟩ ⟨lu (by kernel_rfl) (by kernel_rfl), lu (by kernel_rfl) (by kernel_rfl), lu (by kernel_rfl) (by kernel_rfl), lu (by kernel_rfl) (by kernel_rfl), lu (by kernel_rfl) (by kernel_rfl), lu (by kernel_rfl) (by kernel_rfl), lu (by kernel_rfl) (by kernel_rfl), lu (by kernel_rfl) (by kernel_rfl), lu (by kernel_rfl) (by kernel_rfl), lu (by kernel_rfl) (by kernel_rfl), lu (by kernel_rfl) (by kernel_rfl), lu (by kernel_rfl) (by kernel_rfl), lu (by kernel_rfl) (by kernel_rfl), lu (by kernel_rfl) (by kernel_rfl), trivial⟩)
        · rw [if_f hc39] at hj27
          rw [hc39]
          refine RunS.segF (n := 91) e_evening_check_ok 4 [(0, .v (.int .i64 x0)), (1, .sl 1 (x1.map cdI.enc)), (7, .v (.int .i64 c18)), (8, .v (.bool c19)), (9, .v (.bool c20)), (10, .rf 0 0 c21.length c21.length), (14, .v (.int .i64 v24)), (27, .sl 1 (x2.map (cdL 1 cdI).enc)), (28, .v (.int .i64 (x2.length : Int))), (29, .v (.int .i64 c9)), (51, .sl 1 (v11.map cdI.enc)), (52, .v (.int .i64 (v11.length : Int))), (53, .v (.int .i64 c22)), (60, .v (.int .i64 v24)), (61, .v (.int .i64 x0)), (62, .v (.bool (decide (v24 ≥ x0)))), (63, .v (.bool (decide (v24 ≥ x0))))] [some ⟨1, 4, (c21.map cdB.enc), false⟩] (by kernel_rfl) ?_
          have hq := Option.some.inj hj27; subst hq
          exact RunS.done rfl (Wk.sel2 [0] (by kernel_rfl) (by kernel_rfl) (by kernel_rfl) ⟨⟨_, rfl, bu_own⟩, trivial⟩ ⟨lu (by kernel_rfl) (by kernel_rfl), lu (by kernel_rfl) (by kernel_rfl), lu (by kernel_rfl) (by kernel_rfl), lu (by kernel_rfl) (by kernel_rfl), lu (by kernel_rfl) (by kernel_rfl), lu (by kernel_rfl) (by kernel_rfl), lu (by kernel_rfl) (by kernel_rfl), lu (by kernel_rfl) (by kernel_rfl), lu (by kernel_rfl) (by kernel_rfl), lu (by kernel_rfl) (by kernel_rfl), lu (by kernel_rfl) (by kernel_rfl), lu (by kernel_rfl) (by kernel_rfl), lu (by kernel_rfl) (by kernel_rfl), lu (by kernel_rfl) (by kernel_rfl), trivial⟩)
      refine Sem.cond (b := j27.2) (by kernel_rfl) (fun hb28 => ?_) (fun hb28 => ?_)
      · rw [if_pos hb28] at h
        refine Sem.seq ?_
        refine Sem.runS (s1 := ⟨Fr 91 [(0, .v (.int .i64 x0)), (1, .sl 1 (x1.map cdI.enc)), (7, .v (.int .i64 c18)), (8, .v (.bool c19)), (9, .v (.bool true)), (10, .rf 0 0 j27.1.length j27.1.length), (27, .sl 1 (x2.map (cdL 1 cdI).enc)), (28, .v (.int .i64 (x2.length : Int))), (29, .v (.int .i64 c9)), (51, .sl 1 (v11.map cdI.enc)), (52, .v (.int .i64 (v11.length : Int))), (53, .v (.int .i64 c22))], [some ⟨1, 4, (j27.1.map cdB.enc), false⟩]⟩) ?_ ?_
        · refine RunS.segF (n := 91) e_evening_check_ok 1 [(0, .v (.int .i64 x0)), (1, .sl 1 (x1.map cdI.enc)), (7, .v (.int .i64 c18)), (8, .v (.bool c19)), (9, .v (.bool true)), (10, .rf 0 0 j27.1.length j27.1.length), (27, .sl 1 (x2.map (cdL 1 cdI).enc)), (28, .v (.int .i64 (x2.length : Int))), (29, .v (.int .i64 c9)), (51, .sl 1 (v11.map cdI.enc)), (52, .v (.int .i64 (v11.length : Int))), (53, .v (.int .i64 c22))] [some ⟨1, 4, (j27.1.map cdB.enc), false⟩] (by kernel_rfl) ?_
          exact RunS.done rfl (Wk.sel2 [0] (by kernel_rfl) (by kernel_rfl) (by kernel_rfl) ⟨⟨_, rfl, bu_own⟩, trivial⟩ ⟨lu (by kernel_rfl) (by kernel_rfl), lu (by kernel_rfl) (by kernel_rfl), lu (by kernel_rfl) (by kernel_rfl), lu (by kernel_rfl) (by kernel_rfl), lu (by kernel_rfl) (by kernel_rfl), lu (by kernel_rfl) (by kernel_rfl), lu (by kernel_rfl) (by kernel_rfl), lu (by kernel_rfl) (by kernel_rfl), lu (by kernel_rfl) (by kernel_rfl), lu (by kernel_rfl) (by kernel_rfl), lu (by kernel_rfl) (by kernel_rfl), lu (by kernel_rfl) (by kernel_rfl), trivial⟩)
        refine Sem.exit ?_
        refine Sem.runS (s1 := ⟨Fr 91 [(0, .v (.int .i64 x0)), (1, .sl 1 (x1.map cdI.enc)), (7, .v (.int .i64 c18)), (8, .v (.bool c19)), (9, .v (.bool true)), (10, .rf 0 0 j27.1.length j27.1.length), (27, .sl 1 (x2.map (cdL 1 cdI).enc)), (28, .v (.int .i64 (x2.length : Int))), (29, .v (.int .i64 c9)), (51, .sl 1 (v11.map cdI.enc)), (52, .v (.int .i64 (v11.length : Int))), (53, .v (.int .i64 (wr .i64 (c22 + 1))))], [some ⟨1, 4, (j27.1.map cdB.enc), false⟩]⟩) ?_ ?_
        · refine RunS.segF (n := 91) e_evening_check_ok 2 [(0, .v (.int .i64 x0)), (1, .sl 1 (x1.map cdI.enc)), (7, .v (.int .i64 c18)), (8, .v (.bool c19)), (9, .v (.bool true)), (10, .rf 0 0 j27.1.length j27.1.length), (27, .sl 1 (x2.map (cdL 1 cdI).enc)), (28, .v (.int .i64 (x2.length : Int))), (29, .v (.int .i64 c9)), (51, .sl 1 (v11.map cdI.enc)), (52, .v (.int .i64 (v11.length : Int))), (53, .v (.int .i64 (wr .i64 (c22 + 1))))] [some ⟨1, 4, (j27.1.map cdB.enc), false⟩] (by kernel_rfl) ?_
          exact RunS.done rfl (Wk.sel2 [0] (by kernel_rfl) (by kernel_rfl) (by kernel_rfl) ⟨⟨_, rfl, bu_own⟩, trivial⟩ ⟨lu (by kernel_rfl) (by kernel_rfl), lu (by kernel_rfl) (by kernel_rfl), lu (by kernel_rfl) (by kernel_rfl), lu (by kernel_rfl) (by kernel_rfl), lu (by kernel_rfl) (by kernel_rfl), lu (by kernel_rfl) (by kernel_rfl), lu (by kernel_rfl) (by kernel_rfl), lu (by kernel_rfl) (by kernel_rfl), lu (by kernel_rfl) (by kernel_rfl), lu (by kernel_rfl) (by kernel_rfl), lu (by kernel_rfl) (by kernel_rfl), lu (by kernel_rfl) (by kernel_rfl), trivial⟩)
        exact SemN.wk (s1 := ⟨Fr 91 [(0, .v (.int .i64 x0)), (1, .sl 1 (x1.map cdI.enc)), (7, .v (.int .i64 c18)), (8, .v (.bool c19)), (9, .v (.bool true)), (10, .rf 0 0 j27.1.length j27.1.length), (27, .sl 1 (x2.map (cdL 1 cdI).enc)), (28, .v (.int .i64 (x2.length : Int))), (29, .v (.int .i64 c9)), (51, .sl 1 (v11.map cdI.enc)), (52, .v (.int .i64 (v11.length : Int))), (53, .v (.int .i64 (wr .i64 (c22 + 1))))], [some ⟨1, 4, (j27.1.map cdB.enc), false⟩]⟩) (Wk.sel2 [0] (by kernel_rfl) (by kernel_rfl) (by kernel_rfl) ⟨⟨_, rfl, bu_own⟩, trivial⟩ ⟨lu (by kernel_rfl) (by kernel_rfl), lu (by kernel_rfl) (by kernel_rfl), lu (by kernel_rfl) (by kernel_rfl), lu (by kernel_rfl) (by kernel_rfl), lu (by kernel_rfl) (by kernel_rfl), lu (by kernel_rfl) (by kernel_rfl), lu (by kernel_rfl) (by kernel_rfl), lu (by kernel_rfl) (by kernel_rfl), lu (by kernel_rfl) (by kernel_rfl), lu (by kernel_rfl) (by kernel_rfl), lu (by kernel_rfl) (by kernel_rfl), lu (by kernel_rfl) (by kernel_rfl), trivial⟩) (ih c18 c19 true j27.1 (wr .i64 (c22 + 1)) h)
      · rw [if_f hb28] at h
        refine Sem.skip ?_
        refine Sem.seq ?_
        obtain ⟨j32, hj32, h⟩ := Option.bind_eq_some_iff.1 h
        refine Sem.runS (s1 := ⟨Fr 91 [(0, .v (.int .i64 x0)), (1, .sl 1 (x1.map cdI.enc)), (7, .v (.int .i64 c18)), (8, .v (.bool j32.1)), (9, .v (.bool c20)), (10, .rf 0 0 j32.2.length j32.2.length), (14, .v (.int .i64 v24)), (27, .sl 1 (x2.map (cdL 1 cdI).enc)), (28, .v (.int .i64 (x2.length : Int))), (29, .v (.int .i64 c9)), (51, .sl 1 (v11.map cdI.enc)), (52, .v (.int .i64 (v11.length : Int))), (53, .v (.int .i64 c22))], [some ⟨1, 4, (j32.2.map cdB.enc), false⟩]⟩) ?_ ?_
        · refine RunS.segF (n := 91) e_evening_check_ok 2 [(0, .v (.int .i64 x0)), (1, .sl 1 (x1.map cdI.enc)), (7, .v (.int .i64 c18)), (9, .v (.bool c20)), (10, .rf 0 0 j27.1.length j27.1.length), (14, .v (.int .i64 v24)), (27, .sl 1 (x2.map (cdL 1 cdI).enc)), (28, .v (.int .i64 (x2.length : Int))), (29, .v (.int .i64 c9)), (51, .sl 1 (v11.map cdI.enc)), (52, .v (.int .i64 (v11.length : Int))), (53, .v (.int .i64 c22)), (65, .v (.bool c19))] [some ⟨1, 4, (j27.1.map cdB.enc), false⟩] (by kernel_rfl) ?_
          rcases Bool.eq_false_or_eq_true c19 with hc38 | hc38
          · rw [if_pos hc38] at hj32
            rw [hc38]
            refine RunS.segF (n := 91) e_evening_check_ok 6 [(0, .v (.int .i64 x0)), (1, .sl 1 (x1.map cdI.enc)), (7, .v (.int .i64 c18)), (8, .v (.bool true)), (9, .v (.bool c20)), (10, .rf 0 0 j27.1.length j27.1.length), (14, .v (.int .i64 v24)), (27, .sl 1 (x2.map (cdL 1 cdI).enc)), (28, .v (.int .i64 (x2.length : Int))), (29, .v (.int .i64 c9)), (51, .sl 1 (v11.map cdI.enc)), (52, .v (.int .i64 (v11.length : Int))), (53, .v (.int .i64 c22)), (66, .tp []), (67, .tp []), (68, .tp []), (69, .tp [])] [some ⟨1, 4, (j27.1.map cdB.enc), false⟩] (by kernel_rfl) ?_
            have hq := Option.some.inj hj32; subst hq
            exact RunS.done rfl (Wk.sel2 [0] (by kernel_rfl) (by kernel_rfl) (by kernel_rfl) ⟨⟨_, rfl, bu_own⟩, trivial⟩ ⟨lu (by kernel_rfl) (by kernel_rfl), lu (by kernel_rfl) (by kernel_rfl), lu (by kernel_rfl) (by kernel_rfl), lu (by kernel_rfl) (by kernel_rfl), lu (by kernel_rfl) (by kernel_rfl), lu (by kernel_rfl) (by kernel_rfl), lu (by kernel_rfl) (by kernel_rfl), lu (by kernel_rfl) (by kernel_rfl), lu (by kernel_rfl) (by kernel_rfl), lu (by kernel_rfl) (by kernel_rfl), lu (by kernel_rfl) (by kernel_rfl), lu (by kernel_rfl) (by kernel_rfl), lu (by kernel_rfl) (by kernel_rfl), trivial⟩)
          · rw [if_f hc38] at hj32
            rw [hc38]
            refine RunS.segF (n := 91) e_evening_check_ok 2 [(0, .v (.int .i64 x0)), (1, .sl 1 (x1.map cdI.enc)), (7, .v (.int .i64 c18)), (9, .v (.bool c20)), (10, .rf 0 0 j27.1.length j27.1.length), (14, .v (.int .i64 v24)), (27, .sl 1 (x2.map (cdL 1 cdI).enc)), (28, .v (.int .i64 (x2.length : Int))), (29, .v (.int .i64 c9)), (51, .sl 1 (v11.map cdI.enc)), (52, .v (.int .i64 (v11.length : Int))), (53, .v (.int .i64 c22)), (65, .v (.bool false)), (66, .rf 0 0 j27.1.length j27.1.length), (67, .v (.int .i64 v24))] [some ⟨1, 4, (j27.1.map cdB.enc), false⟩] (by kernel_rfl) ?_
            obtain ⟨v29, hv29, hj32⟩ := Option.bind_eq_some_iff.1 hj32
            refine RunS.one e_evening_check_ok 0 rfl (op_q (by kernel_rfl) rfl (q_indexAddr (a := .rf 0 0 j27.1.length j27.1.length) (b := .v (.int .i64 v24)) (by kernel_rfl) (by kernel_rfl) (ix_rl (e := cdB.enc) (xs := j27.1) (t' := 4) (el := 4) (k := 1) (ki := .i64) (by kernel_rfl) (by kernel_rfl) (by kernel_rfl) hv29))) ?_
            refine RunS.one e_evening_check_ok 0 rfl (op_q (by kernel_rfl) rfl (q_load (p := .pt 0 v24.toNat 0) (by kernel_rfl) (ld_blk (B := ⟨1, 4, (j27.1.map cdB.enc), false⟩) (m := 1) (g := false) (e := cdB.enc) (xs := j27.1) (by kernel_rfl) (by kernel_rfl) (by kernel_rfl) rfl (idx_at hv29).2 (by kernel_rfl)))) ?_
            refine RunS.segF (n := 91) e_evening_check_ok 2 [(0, .v (.int .i64 x0)), (1, .sl 1 (x1.map cdI.enc)), (7, .v (.int .i64 c18)), (8, .v (.bool v29)), (9, .v (.bool c20)), (10, .rf 0 0 j27.1.length j27.1.length), (14, .v (.int .i64 v24)), (27, .sl 1 (x2.map (cdL 1 cdI).enc)), (28, .v (.int .i64 (x2.length : Int))), (29, .v (.int .i64 c9)), (51, .sl 1 (v11.map cdI.enc)), (52, .v (.int .i64 (v11.length : Int))), (53, .v (.int .i64 c22)), (66, .rf 0 0 j27.1.length j27.1.length), (67, .v (.int .i64 v24)), (68, .pt 0 v24.toNat 0), (69, .v (.bool v29))] [some ⟨1, 4, (j27.1.map cdB.enc), false⟩] (by kernel_rfl) ?_
            have hq := Option.some.inj hj32; subst hq
            exact RunS.done rfl (Wk.sel2 [0] (by kernel_rfl) (by kernel_rfl) (by kernel_rfl) ⟨⟨_, rfl, bu_own⟩, trivial⟩ ⟨lu (by kernel_rfl) (by kernel_rfl), lu (by kernel_rfl) (by kernel_rfl), lu (by kernel_rfl) (by kernel_rfl), lu (by kernel_rfl) (by kernel_rfl), lu (by kernel_rfl) (by kernel_rfl), lu (by kernel_rfl) (by kernel_rfl), lu (by kernel_rfl) (by kernel_rfl), lu (by kernel_rfl) (by kernel_rfl), lu (by kernel_rfl) (by kernel_rfl), lu (by kernel_rfl) (by kernel_rfl), lu (by kernel_rfl) (by kernel_rfl), lu (by kernel_rfl) (by kernel_rfl), lu (by kernel_rfl) (by kernel_rfl), trivial⟩)
        refine Sem.seq ?_
        refine Sem.seq ?_
        obtain ⟨v33, hv33, h⟩ := Option.bind_eq_some_iff.1 h
        refine Sem.runS (s1 := ⟨Fr 91 [(0, .v (.int .i64 x0)), (1, .sl 1 (x1.map cdI.enc)), (7, .v (.int .i64 c18)), (8, .v (.bool j32.1)), (9, .v (.bool c20)), (10, .rf 0 0 j32.2.length j32.2.length), (14, .v (.int .i64 v24)), (27, .sl 1 (x2.map (cdL 1 cdI).enc)), (28, .v (.int .i64 (x2.length : Int))), (29, .v (.int .i64 c9)), (51, .sl 1 (v11.map cdI.enc)), (52, .v (.int .i64 (v11.length : Int))), (53, .v (.int .i64 c22)), (75, .v (.bool (!v33)))], [some ⟨1, 4, (j32.2.map cdB.enc), false⟩]⟩) ?_ ?_
        · refine RunS.segF (n := 91) e_evening_check_ok 2 [(0, .v (.int .i64 x0)), (1, .sl 1 (x1.map cdI.enc)), (7, .v (.int .i64 c18)), (8, .v (.bool j32.1)), (9, .v (.bool c20)), (10, .rf 0 0 j32.2.length j32.2.length), (14, .v (.int .i64 v24)), (27, .sl 1 (x2.map (cdL 1 cdI).enc)), (28, .v (.int .i64 (x2.length : Int))), (29, .v (.int .i64 c9)), (51, .sl 1 (v11.map cdI.enc)), (52, .v (.int .i64 (v11.length : Int))), (53, .v (.int .i64 c22)), (71, .rf 0 0 j32.2.length j32.2.length), (72, .v (.int .i64 v24))] [some ⟨1, 4, (j32.2.map cdB.enc), false⟩] (by kernel_rfl) ?_
          refine RunS.one e_evening_check_ok 0 rfl (op_q (wantedA_none rfl) rfl (q_indexAddr (a := .rf 0 0 j32.2.length j32.2.length) (b := .v (.int .i64 v24)) (by kernel_rfl) (by kernel_rfl) (ix_rl (e := cdB.enc) (xs := j32.2) (t' := 4) (el := 4) (k := 1) (ki := .i64) (by kernel_rfl) (by kernel_rfl) (by kernel_rfl) hv33))) ?_
          refine RunS.one e_evening_check_ok 0 rfl (op_q (wantedA_none rfl) rfl (q_load (p := .pt 0 v24.toNat 0) (by kernel_rfl) (ld_blk (B := ⟨1, 4, (j32.2.map cdB.enc), false⟩) (m := 1) (g := false) (e := cdB.enc) (xs := j32.2) (by kernel_rfl) (by kernel_rfl) (by kernel_rfl) rfl (idx_at hv33).2 (by kernel_rfl)))) ?_
          refine RunS.segF (n := 91) e_evening_check_ok 1 [(0, .v (.int .i64 x0)), (1, .sl 1 (x1.map cdI.enc)), (7, .v (.int .i64 c18)), (8, .v (.bool j32.1)), (9, .v (.bool c20)), (10, .rf 0 0 j32.2.length j32.2.length), (14, .v (.int .i64 v24)), (27, .sl 1 (x2.map (cdL 1 cdI).enc)), (28, .v (.int .i64 (x2.length : Int))), (29, .v (.int .i64 c9)), (51, .sl 1 (v11.map cdI.enc)), (52, .v (.int .i64 (v11.length : Int))), (53, .v (.int .i64 c22)), (75, .v (.bool (!v33)))] [some ⟨1, 4, (j32.2.map cdB.enc), false⟩] (by kernel_rfl) ?_
          exact RunS.done rfl (Wk.sel2 [0] (by kernel_rfl) (by kernel_rfl) (by kernel_rfl) ⟨⟨_, rfl, bu_own⟩, trivial⟩ ⟨lu (by kernel_rfl) (by kernel_rfl), lu (by kernel_rfl) (by kernel_rfl), lu (by kernel_rfl) (by kernel_rfl), lu (by kernel_rfl) (by kernel_rfl), lu (by kernel_rfl) (by kernel_rfl), lu (by kernel_rfl) (by kernel_rfl), lu (by kernel_rfl) (by kernel_rfl), lu (by kernel_rfl) (by kernel_rfl), lu (by kernel_rfl) (by kernel_rfl), lu (by kernel_rfl) (by kernel_rfl), lu (by kernel_rfl) (by kernel_rfl), lu (by kernel_rfl) (by kernel_rfl), lu (by kernel_rfl) (by kernel_rfl), lu (by kernel_rfl) (by kernel_rfl), trivial⟩)
        obtain ⟨r36, hr36, h⟩ := Option.bind_eq_some_iff.1 h
        refine Sem.cut (evening_check_j3_ok x0 x1 x2 c9 v11 c18 c20 c22 v24 j32 v33 _ hr36) ?_
        obtain ⟨v37, hv37, h⟩ := Option.bind_eq_some_iff.1 h
        refine Sem.runS (s1 := ⟨Fr 91 [(0, .v (.int .i64 x0)), (1, .sl 1 (x1.map cdI.enc)), (7, .v (.int .i64 r36)), (8, .v (.bool j32.1)), (9, .v (.bool c20)), (10, .rf 0 0 (j32.2.set v24.toNat true).length (j32.2.set v24.toNat true).length), (27, .sl 1 (x2.map (cdL 1 cdI).enc)), (28, .v (.int .i64 (x2.length : Int))), (29, .v (.int .i64 c9)), (51, .sl 1 (v11.map cdI.enc)), (52, .v (.int .i64 (v11.length : Int))), (53, .v (.int .i64 c22))], [some ⟨1, 4, ((j32.2.set v24.toNat true).map cdB.enc), false⟩]⟩) ?_ ?_
        · refine RunS.segF (n := 91) e_evening_check_ok 2 [(0, .v (.int .i64 x0)), (1, .sl 1 (x1.map cdI.enc)), (7, .v (.int .i64 r36)), (8, .v (.bool j32.1)), (9, .v (.bool c20)), (10, .rf 0 0 j32.2.length j32.2.length), (27, .sl 1 (x2.map (cdL 1 cdI).enc)), (28, .v (.int .i64 (x2.length : Int))), (29, .v (.int .i64 c9)), (51, .sl 1 (v11.map cdI.enc)), (52, .v (.int .i64 (v11.length : Int))), (53, .v (.int .i64 c22)), (78, .rf 0 0 j32.2.length j32.2.length), (79, .v (.int .i64 v24))] [some ⟨1, 4, (j32.2.map cdB.enc), false⟩] (by kernel_rfl) ?_
          refine RunS.one e_evening_check_ok 0 rfl (op_q (wantedA_none rfl) rfl (q_indexAddr (a := .rf 0 0 j32.2.length j32.2.length) (b := .v (.int .i64 v24)) (by kernel_rfl) (by kernel_rfl) (ix_rl (e := cdB.enc) (xs := j32.2) (t' := 4) (el := 4) (k := 1) (ki := .i64) (by kernel_rfl) (by kernel_rfl) (by kernel_rfl) hv37))) ?_
          refine RunS.store e_evening_check_ok (y := .pt 0 v24.toNat 0) (z := .v (.bool true)) rfl (wantedA_none rfl) (by kernel_rfl) (by kernel_rfl) (st_blk (t' := 4) (k := 1) (e := cdB.enc) (xs := j32.2) (v := v37) (v' := true) (by kernel_rfl) (idx_at hv37).2 (by kernel_rfl) (by kernel_rfl) (by kernel_rfl)) ?_
          exact RunS.done rfl (Wk.sel2 [0] (by kernel_rfl) (by kernel_rfl) (by kernel_rfl) ⟨⟨_, rfl, bu_own⟩, trivial⟩ ⟨lu (by kernel_rfl) (by kernel_rfl), lu (by kernel_rfl) (by kernel_rfl), lu (by kernel_rfl) (by kernel_rfl), lu (by kernel_rfl) (by kernel_rfl), lu (by kernel_rfl) (by kernel_rfl), lu_rl (b' := 0) (n := j32.2.length) (by kernel_rfl) (by simp) (by kernel_rfl), lu (by kernel_rfl) (by kernel_rfl), lu (by kernel_rfl) (by kernel_rfl), lu (by kernel_rfl) (by kernel_rfl), lu (by kernel_rfl) (by kernel_rfl), lu (by kernel_rfl) (by kernel_rfl), lu (by kernel_rfl) (by kernel_rfl), trivial⟩)
        refine Sem.runS (s1 := ⟨Fr 91 [(0, .v (.int .i64 x0)), (1, .sl 1 (x1.map cdI.enc)), (7, .v (.int .i64 r36)), (8, .v (.bool j32.1)), (9, .v (.bool c20)), (10, .rf 0 0 (j32.2.set v24.toNat true).length (j32.2.set v24.toNat true).length), (27, .sl 1 (x2.map (cdL 1 cdI).enc)), (28, .v (.int .i64 (x2.length : Int))), (29, .v (.int .i64 c9)), (51, .sl 1 (v11.map cdI.enc)), (52, .v (.int .i64 (v11.length : Int))), (53, .v (.int .i64 (wr .i64 (c22 + 1))))], [some ⟨1, 4, ((j32.2.set v24.toNat true).map cdB.enc), false⟩]⟩) ?_ ?_
        · refine RunS.segF (n := 91) e_evening_check_ok 2 [(0, .v (.int .i64 x0)), (1, .sl 1 (x1.map cdI.enc)), (7, .v (.int .i64 r36)), (8, .v (.bool j32.1)), (9, .v (.bool c20)), (10, .rf 0 0 (j32.2.set v24.toNat true).length (j32.2.set v24.toNat true).length), (27, .sl 1 (x2.map (cdL 1 cdI).enc)), (28, .v (.int .i64 (x2.length : Int))), (29, .v (.int .i64 c9)), (51, .sl 1 (v11.map cdI.enc)), (52, .v (.int .i64 (v11.length : Int))), (53, .v (.int .i64 (wr .i64 (c22 + 1))))] [some ⟨1, 4, ((j32.2.set v24.toNat true).map cdB.enc), false⟩] (by kernel_rfl) ?_
          exact RunS.done rfl (Wk.sel2 [0] (by kernel_rfl) (by kernel_rfl) (by kernel_rfl) ⟨⟨_, rfl, bu_own⟩, trivial⟩ ⟨lu (by kernel_rfl) (by kernel_rfl), lu (by kernel_rfl) (by kernel_rfl), lu (by kernel_rfl) (by kernel_rfl), lu (by kernel_rfl) (by kernel_rfl), lu (by kernel_rfl) (by kernel_rfl), lu (by kernel_rfl) (by kernel_rfl), lu (by kernel_rfl) (by kernel_rfl), lu (by kernel_rfl) (by kernel_rfl), lu (by kernel_rfl) (by kernel_rfl), lu (by kernel_rfl) (by kernel_rfl), lu (by kernel_rfl) (by kernel_rfl), lu (by kernel_rfl) (by kernel_rfl), trivial⟩)
        exact SemN.wk (s1 := ⟨Fr 91 [(0, .v (.int .i64 x0)), (1, .sl 1 (x1.map cdI.enc)), (7, .v (.int .i64 r36)), (8, .v (.bool j32.1)), (9, .v (.bool c20)), (10, .rf 0 0 (j32.2.set v24.toNat true).length (j32.2.set v24.toNat true).length), (27, .sl 1 (x2.map (cdL 1 cdI).enc)), (28, .v (.int .i64 (x2.length : Int))), (29, .v (.int .i64 c9)), (51, .sl 1 (v11.map cdI.enc)), (52, .v (.int .i64 (v11.length : Int))), (53, .v (.int .i64 (wr .i64 (c22 + 1))))], [some ⟨1, 4, ((j32.2.set v24.toNat true).map cdB.enc), false⟩]⟩) (Wk.sel2 [0] (by kernel_rfl) (by kernel_rfl) (by kernel_rfl) ⟨⟨_, rfl, bu_own⟩, trivial⟩ ⟨lu (by kernel_rfl) (by kernel_rfl), lu (by kernel_rfl) (by kernel_rfl), lu (by kernel_rfl) (by kernel_rfl), lu (by kernel_rfl) (by kernel_rfl), lu (by kernel_rfl) (by kernel_rfl), lu (by kernel_rfl) (by kernel_rfl), lu (by kernel_rfl) (by kernel_rfl), lu (by kernel_rfl) (by kernel_rfl), lu (by kernel_rfl) (by kernel_rfl), lu (by kernel_rfl) (by kernel_rfl), lu (by kernel_rfl) (by kernel_rfl), lu (by kernel_rfl) (by kernel_rfl), trivial⟩) (ih r36 j32.1 c20 (j32.2.set v24.toNat true) (wr .i64 (c22 + 1)) h)
    · rw [if_f hb23] at h
      refine Sem.exit ?_
      have hq := Option.some.inj h; subst hq
      exact ⟨rfl, (Wk.sel2 [0] (by kernel_rfl) (by kernel_rfl) (by kernel_rfl) ⟨⟨_, rfl, bu_own⟩, trivial⟩ ⟨lu (by kernel_rfl) (by kernel_rfl), lu (by kernel_rfl) (by kernel_rfl), lu (by kernel_rfl) (by kernel_rfl), lu (by kernel_rfl) (by kernel_rfl), lu (by kernel_rfl) (by kernel_rfl), lu (by kernel_rfl) (by kernel_rfl), lu (by kernel_rfl) (by kernel_rfl), lu (by kernel_rfl) (by kernel_rfl), lu (by kernel_rfl) (by kernel_rfl), trivial⟩)⟩
set_option maxHeartbeats 4000000 in
set_option maxRecDepth 100000 in
theorem evening_check_1_ok (x0 : Int) (x1 : (List Int)) (x2 : (List (List Int))) : ∀ (f : Nat) (c5 : Int) (c6 : Bool) (c7 : Bool) (c8 : (List Bool)) (c9 : Int) (r : (Int × Bool × Bool) ⊕ (Int)), evening_check_1 x0 x1 x2 f c5 c6 c7 c8 c9 = some r → SemN e_evening_check ⟨none, false⟩ (pc cb_evening_check [1, 1, 1, 1, 0, 1, 0, 0]) f ⟨Fr 91 [(0, .v (.int .i64 x0)), (1, .sl 1 (x1.map cdI.enc)), (7, .v (.int .i64 c5)), (8, .v (.bool c6)), (9, .v (.bool c7)), (10, .rf 0 0 c8.length c8.length), (27, .sl 1 (x2.map (cdL 1 cdI).enc)), (28, .v (.int .i64 (x2.length : Int))), (29, .v (.int .i64 c9))], [some ⟨1, 4, (c8.map cdB.enc), false⟩]⟩ (fun e s => match r with
  | (.inl w) => e = (.exit 0) ∧ Wk e_evening_check s ⟨Fr 91 [(0, .v (.int .i64 x0)), (7, .v (.int .i64 w.1)), (8, .v (.bool w.2.1)), (9, .v (.bool w.2.2))], []⟩
  | (.inr w) => e = .ret ∧ Wk e_evening_check s ⟨Fr 91 [(6, .v (.int .i64 w))], []⟩) := by
  intro f
  induction f with
  | zero => intro c5 c6 c7 c8 c9 r h; cases h
  | succ f ih0 =>
    intro c5 c6 c7 c8 c9 r h
    have ih := fun (c5 : Int) (c6 : Bool) (c7 : Bool) (c8 : (List Bool)) (c9 : Int) => ih0 c5 c6 c7 c8 c9 r
    unfold evening_check_1 at h
    refine SemN.succ ?_
    refine Sem.seq ?_
    refine Sem.runS (s1 := ⟨Fr 91 [(0, .v (.int .i64 x0)), (1, .sl 1 (x1.map cdI.enc)), (7, .v (.int .i64 c5)), (8, .v (.bool c6)), (9, .v (.bool c7)), (10, .rf 0 0 c8.length c8.length), (27, .sl 1 (x2.map (cdL 1 cdI).enc)), (28, .v (.int .i64 (x2.length : Int))), (29, .v (.int .i64 c9)), (30, .v (.bool (decide (c9 < (x2.length : Int)))))], [some ⟨1, 4, (c8.map cdB.enc), false⟩]⟩) ?_ ?_
    · refine RunS.segF (n := 91) e_evening_check_ok 1 [(0, .v (.int .i64 x0)), (1, .sl 1 (x1.map cdI.enc)), (7, .v (.int .i64 c5)), (8, .v (.bool c6)), (9, .v (.bool c7)), (10, .rf 0 0 c8.length c8.length), (27, .sl 1 (x2.map (cdL 1 cdI).enc)), (28, .v (.int .i64 (x2.length : Int))), (29, .v (.int .i64 c9)), (30, .v (.bool (decide (c9 < (x2.length : Int)))))] [some ⟨1, 4, (c8.map cdB.enc), false⟩] (by kernel_rfl) ?_
      exact RunS.done rfl (Wk.sel2 [0] (by kernel_rfl) (by kernel_rfl) (by kernel_rfl) ⟨⟨_, rfl, bu_own⟩, trivial⟩ ⟨lu (by kernel_rfl) (by kernel_rfl), lu (by kernel_rfl) (by kernel_rfl), lu (by kernel_rfl) (by kernel_rfl), lu (by kernel_rfl) (by kernel_rfl), lu (by kernel_rfl) (by kernel_rfl), lu (by kernel_rfl) (by kernel_rfl), lu (by kernel_rfl) (by kernel_rfl), lu (by kernel_rfl) (by kernel_rfl), lu (by kernel_rfl) (by kernel_rfl), lu (by kernel_rfl) (by kernel_rfl), trivial⟩)
    refine Sem.seq ?_
    refine Sem.cond (b := (decide (c9 < (x2.length : Int)))) (by kernel_rfl) (fun hb10 => ?_) (fun hb10 => ?_)
    · rw [if_pos hb10] at h
      refine Sem.skip ?_
      refine Sem.seq ?_
      refine Sem.block ?_
      refine Sem.seq ?_
      obtain ⟨v11, hv11, h⟩ := Option.bind_eq_some_iff.1 h
      refine Sem.runS (s1 := ⟨Fr 91 [(0, .v (.int .i64 x0)), (1, .sl 1 (x1.map cdI.enc)), (7, .v (.int .i64 c5)), (8, .v (.bool c6)), (9, .v (.bool c7)), (10, .rf 0 0 c8.length c8.length), (11, .v (.int .i64 c9)), (12, .sl 1 (v11.map cdI.enc)), (27, .sl 1 (x2.map (cdL 1 cdI).enc)), (28, .v (.int .i64 (x2.length : Int))), (29, .v (.int .i64 c9))], [some ⟨1, 4, (c8.map cdB.enc), false⟩]⟩) ?_ ?_
      · refine RunS.segF (n := 91) e_evening_check_ok 1 [(0, .v (.int .i64 x0)), (1, .sl 1 (x1.map cdI.enc)), (7, .v (.int .i64 c5)), (8, .v (.bool c6)), (9, .v (.bool c7)), (10, .rf 0 0 c8.length c8.length), (27, .sl 1 (x2.map (cdL 1 cdI).enc)), (28, .v (.int .i64 (x2.length : Int))), (29, .v (.int .i64 c9)), (31, .v (.int .i64 c9))] [some ⟨1, 4, (c8.map cdB.enc), false⟩] (by kernel_rfl) ?_
        refine RunS.one e_evening_check_ok 0 rfl (op_q (wantedA_none rfl) rfl (q_indexAddr (a := .sl 1 (x2.map (cdL 1 cdI).enc)) (b := .v (.int .i64 c9)) (by kernel_rfl) (by kernel_rfl) (ix_sl (e := (cdL 1 cdI).enc) (el := 24) (k := 1) (ki := .i64) (by kernel_rfl) (by kernel_rfl) hv11))) ?_
        refine RunS.segF (n := 91) e_evening_check_ok 3 [(0, .v (.int .i64 x0)), (1, .sl 1 (x1.map cdI.enc)), (7, .v (.int .i64 c5)), (8, .v (.bool c6)), (9, .v (.bool c7)), (10, .rf 0 0 c8.length c8.length), (11, .v (.int .i64 c9)), (12, .sl 1 (v11.map cdI.enc)), (27, .sl 1 (x2.map (cdL 1 cdI).enc)), (28, .v (.int .i64 (x2.length : Int))), (29, .v (.int .i64 c9))] [some ⟨1, 4, (c8.map cdB.enc), false⟩] (by kernel_rfl) ?_
        exact RunS.done rfl (Wk.sel2 [0] (by kernel_rfl) (by kernel_rfl) (by kernel_rfl) ⟨⟨_, rfl, bu_own⟩, trivial⟩ ⟨lu (by kernel_rfl) (by kernel_rfl), lu (by kernel_rfl) (by kernel_rfl), lu (by kernel_rfl) (by kernel_rfl), lu (by kernel_rfl) (by kernel_rfl), lu (by kernel_rfl) (by kernel_rfl), lu (by kernel_rfl) (by kernel_rfl), lu (by kernel_rfl) (by kernel_rfl), lu (by kernel_rfl) (by kernel_rfl), lu (by kernel_rfl) (by kernel_rfl), lu (by kernel_rfl) (by kernel_rfl), lu (by kernel_rfl) (by kernel_rfl), trivial⟩)
      refine Sem.seq ?_
      refine Sem.seq ?_
      obtain ⟨j15, hj15, h⟩ := Option.bind_eq_some_iff.1 h
      refine Sem.runS (s1 := ⟨Fr 91 [(0, .v (.int .i64 x0)), (1, .sl 1 (x1.map cdI.enc)), (7, .v (.int .i64 c5)), (8, .v (.bool c6)), (9, .v (.bool c7)), (10, .rf 0 0 j15.1.length j15.1.length), (12, .sl 1 (v11.map cdI.enc)), (27, .sl 1 (x2.map (cdL 1 cdI).enc)), (28, .v (.int .i64 (x2.length : Int))), (29, .v (.int .i64 c9)), (50, .v (.bool j15.2))], [some ⟨1, 4, (j15.1.map cdB.enc), false⟩]⟩) ?_ ?_
      · refine RunS.segF (n := 91) e_evening_check_ok 1 [(0, .v (.int .i64 x0)), (1, .sl 1 (x1.map cdI.enc)), (7, .v (.int .i64 c5)), (8, .v (.bool c6)), (9, .v (.bool c7)), (10, .rf 0 0 c8.length c8.length), (11, .v (.int .i64 c9)), (12, .sl 1 (v11.map cdI.enc)), (27, .sl 1 (x2.map (cdL 1 cdI).enc)), (28, .v (.int .i64 (x2.length : Int))), (29, .v (.int .i64 c9)), (34, .sl 1 (v11.map cdI.enc))] [some ⟨1, 4, (c8.map cdB.enc), false⟩] (by kernel_rfl) ?_
        refine RunS.one e_evening_check_ok 0 rfl (op_q (wantedA_none rfl) rfl (q_len (a := .sl 1 (v11.map cdI.enc)) (by kernel_rfl) (len_sl (el := 3) (by kernel_rfl)))) ?_
        refine RunS.segF (n := 91) e_evening_check_ok 2 [(0, .v (.int .i64 x0)), (1, .sl 1 (x1.map cdI.enc)), (7, .v (.int .i64 c5)), (8, .v (.bool c6)), (9, .v (.bool c7)), (10, .rf 0 0 c8.length c8.length), (11, .v (.int .i64 c9)), (12, .sl 1 (v11.map cdI.enc)), (27, .sl 1 (x2.map (cdL 1 cdI).enc)), (28, .v (.int .i64 (x2.length : Int))), (29, .v (.int .i64 c9)), (37, .v (.bool ((v11.length : Int) == 0)))] [some ⟨1, 4, (c8.map cdB.enc), false⟩] (by kernel_rfl) ?_
        rcases Bool.eq_false_or_eq_true ((v11.length : Int) == 0) with hc45 | hc45
        · rw [if_pos hc45] at hj15
          rw [hc45]
          refine RunS.segF (n := 91) e_evening_check_ok 13 [(0, .v (.int .i64 x0)), (1, .sl 1 (x1.map cdI.enc)), (7, .v (.int .i64 c5)), (8, .v (.bool c6)), (9, .v (.bool c7)), (10, .rf 0 0 c8.length c8.length), (12, .sl 1 (v11.map cdI.enc)), (27, .sl 1 (x2.map (cdL 1 cdI).enc)), (28, .v (.int .i64 (x2.length : Int))), (29, .v (.int .i64 c9)), (38, .tp []), (39, .tp []), (40, .tp []), (41, .tp []), (42, .tp []), (43, .tp []), (44, .tp []), (45, .tp []), (46, .tp []), (47, .tp []), (48, .tp []), (49, .tp []), (50, .v (.bool true))] [some ⟨1, 4, (c8.map cdB.enc), false⟩] (by kernel_rfl) ?_
          have hq := Option.some.inj hj15; subst hq
          exact RunS.done rfl (Wk.sel2 [0] (by kernel_rfl) (by kernel_rfl) (by kernel_rfl) ⟨⟨_, rfl, bu_own⟩, trivial⟩ ⟨lu (by kernel_rfl) (by kernel_rfl), lu (by kernel_rfl) (by kernel_rfl), lu (by kernel_rfl) (by kernel_rfl), lu (by kernel_rfl) (by kernel_rfl), lu (by kernel_rfl) (by kernel_rfl), lu (by kernel_rfl) (by kernel_rfl), lu (by kernel_rfl) (by kernel_rfl), lu (by kernel_rfl) (by kernel_rfl), lu (by kernel_rfl) (by kernel_rfl), lu (by kernel_rfl) (by kernel_rfl), lu (by kernel_rfl) (by kernel_rfl), trivial⟩)
        · rw [if_f hc45] at hj15
          rw [hc45]
          refine RunS.segF (n := 91) e_evening_check_ok 1 [(0, .v (.int .i64 x0)), (1, .sl 1 (x1.map cdI.enc)), (7, .v (.int .i64 c5)), (8, .v (.bool c6)), (9, .v (.bool c7)), (10, .rf 0 0 c8.length c8.length), (11, .v (.int .i64 c9)), (12, .sl 1 (v11.map cdI.enc)), (27, .sl 1 (x2.map (cdL 1 cdI).enc)), (28, .v (.int .i64 (x2.length : Int))), (29, .v (.int .i64 c9)), (37, .v (.bool false)), (38, .sl 1 (x1.map cdI.enc))] [some ⟨1, 4, (c8.map cdB.enc), false⟩] (by kernel_rfl) ?_
          refine RunS.one e_evening_check_ok 0 rfl (op_q (by kernel_rfl) rfl (q_len (a := .sl 1 (x1.map cdI.enc)) (by kernel_rfl) (len_sl (el := 3) (by kernel_rfl)))) ?_
          refine RunS.segF (n := 91) e_evening_check_ok 2 [(0, .v (.int .i64 x0)), (1, .sl 1 (x1.map cdI.enc)), (7, .v (.int .i64 c5)), (8, .v (.bool c6)), (9, .v (.bool c7)), (10, .rf 0 0 c8.length c8.length), (11, .v (.int .i64 c9)), (12, .sl 1 (v11.map cdI.enc)), (27, .sl 1 (x2.map (cdL 1 cdI).enc)), (28, .v (.int .i64 (x2.length : Int))), (29, .v (.int .i64 c9)), (37, .v (.bool false)), (38, .sl 1 (x1.map cdI.enc)), (39, .v (.int .i64 (x1.length : Int))), (40, .v (.bool (decide ((x1.length : Int) > 0)))), (41, .v (.bool (decide ((x1.length : Int) > 0))))] [some ⟨1, 4, (c8.map cdB.enc), false⟩] (by kernel_rfl) ?_
          rcases Bool.eq_false_or_eq_true (decide ((x1.length : Int) > 0)) with hc46 | hc46
          · rw [if_pos hc46] at hj15
            rw [hc46]
            refine RunS.segF (n := 91) e_evening_check_ok 1 [(0, .v (.int .i64 x0)), (1, .sl 1 (x1.map cdI.enc)), (7, .v (.int .i64 c5)), (8, .v (.bool c6)), (9, .v (.bool c7)), (10, .rf 0 0 c8.length c8.length), (11, .v (.int .i64 c9)), (12, .sl 1 (v11.map cdI.enc)), (27, .sl 1 (x2.map (cdL 1 cdI).enc)), (28, .v (.int .i64 (x2.length : Int))), (29, .v (.int .i64 c9)), (37, .v (.bool false)), (38, .sl 1 (x1.map cdI.enc)), (39, .v (.int .i64 (x1.length : Int))), (40, .v (.bool true)), (41, .v (.bool true)), (42, .sl 1 (v11.map cdI.enc))] [some ⟨1, 4, (c8.map cdB.enc), false⟩] (by kernel_rfl) ?_
            refine RunS.one e_evening_check_ok 0 rfl (op_q (by kernel_rfl) rfl (q_len (a := .sl 1 (v11.map cdI.enc)) (by kernel_rfl) (len_sl (el := 3) (by kernel_rfl)))) ?_
            refine RunS.segF (n := 91) e_evening_check_ok 2 [(0, .v (.int .i64 x0)), (1, .sl 1 (x1.map cdI.enc)), (7, .v (.int .i64 c5)), (8, .v (.bool c6)), (9, .v (.bool c7)), (10, .rf 0 0 c8.length c8.length), (12, .sl 1 (v11.map cdI.enc)), (27, .sl 1 (x2.map (cdL 1 cdI).enc)), (28, .v (.int .i64 (x2.length : Int))), (29, .v (.int .i64 c9)), (37, .v (.bool false)), (38, .sl 1 (x1.map cdI.enc)), (39, .v (.int .i64 (x1.length : Int))), (40, .v (.bool true)), (41, .v (.bool true)), (42, .sl 1 (v11.map cdI.enc)), (43, .v (.int .i64 (v11.length : Int))), (44, .sl 1 (x1.map cdI.enc)), (45, .v (.int .i64 c9))] [some ⟨1, 4, (c8.map cdB.enc), false⟩] (by kernel_rfl) ?_
            obtain ⟨v12, hv12, hj15⟩ := Option.bind_eq_some_iff.1 hj15
            refine RunS.one e_evening_check_ok 0 rfl (op_q (by kernel_rfl) rfl (q_indexAddr (a := .sl 1 (x1.map cdI.enc)) (b := .v (.int .i64 c9)) (by kernel_rfl) (by kernel_rfl) (ix_sl (e := cdI.enc) (el := 3) (k := 1) (ki := .i64) (by kernel_rfl) (by kernel_rfl) hv12))) ?_
            refine RunS.segF (n := 91) e_evening_check_ok 4 [(0, .v (.int .i64 x0)), (1, .sl 1 (x1.map cdI.enc)), (7, .v (.int .i64 c5)), (8, .v (.bool c6)), (9, .v (.bool c7)), (10, .rf 0 0 c8.length c8.length), (12, .sl 1 (v11.map cdI.enc)), (27, .sl 1 (x2.map (cdL 1 cdI).enc)), (28, .v (.int .i64 (x2.length : Int))), (29, .v (.int .i64 c9)), (38, .sl 1 (x1.map cdI.enc)), (39, .v (.int .i64 (x1.length : Int))), (40, .v (.bool true)), (41, .v (.bool true)), (42, .sl 1 (v11.map cdI.enc)), (43, .v (.int .i64 (v11.length : Int))), (44, .sl 1 (x1.map cdI.enc)), (45, .v (.int .i64 c9)), (46, .pe (.v (.int .i64 v12)) 0), (47, .v (.int .i64 v12)), (48, .v (.bool ((v11.length : Int) != v12))), (49, .v (.bool ((v11.length : Int) != v12))), (50, .v (.bool ((v11.length : Int) != v12)))] [some ⟨1, 4, (c8.map cdB.enc), false⟩] (by kernel_rfl) ?_
            have hq := Option.some.inj hj15; subst hq
            exact RunS.done rfl (Wk.sel2 [0] (by kernel_rfl) (by kernel_rfl) (by kernel_rfl) ⟨⟨_, rfl, bu_own⟩, trivial⟩ ⟨lu (by kernel_rfl) (by kernel_rfl), lu (by kernel_rfl) (by kernel_rfl), lu (by kernel_rfl) (by kernel_rfl), lu (by kernel_rfl) (by kernel_rfl), lu (by kernel_rfl) (by kernel_rfl), lu (by kernel_rfl) (by kernel_rfl), lu (by kernel_rfl) (by kernel_rfl), lu (by kernel_rfl) (by kernel_rfl), lu (by kernel_rfl) (by kernel_rfl), lu (by kernel_rfl) (by kernel_rfl), lu (by kernel_rfl) (by kernel_rfl), trivial⟩)
          · rw [if_f hc46] at hj15
            rw [hc46]
            refine RunS.segF (n := 91) e_evening_check_ok 9 [(0, .v (.int .i64 x0)), (1, .sl 1 (x1.map cdI.enc)), (7, .v (.int .i64 c5)), (8, .v (.bool c6)), (9, .v (.bool c7)), (10, .rf 0 0 c8.length c8.length), (12, .sl 1 (v11.map cdI.enc)), (27, .sl 1 (x2.map (cdL 1 cdI).enc)), (28, .v (.int .i64 (x2.length : Int))), (29, .v (.int .i64 c9)), (38, .sl 1 (x1.map cdI.enc)), (39, .v (.int .i64 (x1.length : Int))), (40, .v (.bool false)), (41, .v (.bool false)), (42, .tp []), (43, .tp []), (44, .tp []), (45, .tp []), (46, .tp []), (47, .tp []), (48, .tp []), (49, .v (.bool false)), (50, .v (.bool false))] [some ⟨1, 4, (c8.map cdB.enc), false⟩] (by kernel_rfl) ?_
            have hq := Option.some.inj hj15; subst hq
            exact RunS.done rfl (Wk.sel2 [0] (by kernel_rfl) (by kernel_rfl) (by kernel_rfl) ⟨⟨_, rfl, bu_own⟩, trivial⟩ ⟨lu (by kernel_rfl) (by kernel_rfl), lu (by kernel_rfl) (by kernel_rfl), lu (by kernel_rfl) (by kernel_rfl), lu (by kernel_rfl) (by kernel_rfl), lu (by kernel_rfl) (by kernel_rfl), lu (by kernel_rfl) (by kernel_rfl), lu (by kernel_rfl) (by kernel_rfl), lu (by kernel_rfl) (by kernel_rfl), lu (by kernel_rfl) (by kernel_rfl), lu (by kernel_rfl) (by kernel_rfl), lu (by kernel_rfl) (by kernel_rfl), trivial⟩)
      refine Sem.cond (b := j15.2) (by kernel_rfl) (fun hb16 => ?_) (fun hb16 => ?_)
      · rw [if_pos hb16] at h
        refine Sem.seq ?_
        refine Sem.runS (s1 := ⟨Fr 91 [(6, .v (.int .i64 2))], []⟩) ?_ ?_
        · refine RunS.segF (n := 91) e_evening_check_ok 1 [(6, .v (.int .i64 2))] [some ⟨1, 4, (j15.1.map cdB.enc), false⟩] (by kernel_rfl) ?_
          exact RunS.done rfl (Wk.sel2 [] (by kernel_rfl) (by kernel_rfl) (by kernel_rfl) trivial ⟨lu (by kernel_rfl) (by kernel_rfl), trivial⟩)
        refine Sem.ret ?_
        have hq := Option.some.inj h; subst hq
        exact ⟨rfl, (Wk.fr (by kernel_rfl))⟩
      · rw [if_f hb16] at h
        refine Sem.skip ?_
        refine Sem.seq ?_
        refine Sem.runS (s1 := ⟨Fr 91 [(0, .v (.int .i64 x0)), (1, .sl 1 (x1.map cdI.enc)), (7, .v (.int .i64 c5)), (8, .v (.bool c6)), (9, .v (.bool c7)), (10, .rf 0 0 j15.1.length j15.1.length), (27, .sl 1 (x2.map (cdL 1 cdI).enc)), (28, .v (.int .i64 (x2.length : Int))), (29, .v (.int .i64 c9)), (51, .sl 1 (v11.map cdI.enc)), (52, .v (.int .i64 (v11.length : Int))), (53, .v (.int .i64 0))], [some ⟨1, 4, (j15.1.map cdB.enc), false⟩]⟩) ?_ ?_
        · refine RunS.segF (n := 91) e_evening_check_ok 1 [(0, .v (.int .i64 x0)), (1, .sl 1 (x1.map cdI.enc)), (7, .v (.int .i64 c5)), (8, .v (.bool c6)), (9, .v (.bool c7)), (10, .rf 0 0 j15.1.length j15.1.length), (27, .sl 1 (x2.map (cdL 1 cdI).enc)), (28, .v (.int .i64 (x2.length : Int))), (29, .v (.int .i64 c9)), (51, .sl 1 (v11.map cdI.enc))] [some ⟨1, 4, (j15.1.map cdB.enc), false⟩] (by kernel_rfl) ?_
          refine RunS.one e_evening_check_ok 0 rfl (op_q (wantedA_none rfl) rfl (q_len (a := .sl 1 (v11.map cdI.enc)) (by kernel_rfl) (len_sl (el := 3) (by kernel_rfl)))) ?_
          refine RunS.segF (n := 91) e_evening_check_ok 1 [(0, .v (.int .i64 x0)), (1, .sl 1 (x1.map cdI.enc)), (7, .v (.int .i64 c5)), (8, .v (.bool c6)), (9, .v (.bool c7)), (10, .rf 0 0 j15.1.length j15.1.length), (27, .sl 1 (x2.map (cdL 1 cdI).enc)), (28, .v (.int .i64 (x2.length : Int))), (29, .v (.int .i64 c9)), (51, .sl 1 (v11.map cdI.enc)), (52, .v (.int .i64 (v11.length : Int))), (53, .v (.int .i64 0))] [some ⟨1, 4, (j15.1.map cdB.enc), false⟩] (by kernel_rfl) ?_
          exact RunS.done rfl (Wk.sel2 [0] (by kernel_rfl) (by kernel_rfl) (by kernel_rfl) ⟨⟨_, rfl, bu_own⟩, trivial⟩ ⟨lu (by kernel_rfl) (by kernel_rfl), lu (by kernel_rfl) (by kernel_rfl), lu (by kernel_rfl) (by kernel_rfl), lu (by kernel_rfl) (by kernel_rfl), lu (by kernel_rfl) (by kernel_rfl), lu (by kernel_rfl) (by kernel_rfl), lu (by kernel_rfl) (by kernel_rfl), lu (by kernel_rfl) (by kernel_rfl), lu (by kernel_rfl) (by kernel_rfl), lu (by kernel_rfl) (by kernel_rfl), lu (by kernel_rfl) (by kernel_rfl), lu (by kernel_rfl) (by kernel_rfl), trivial⟩)
        refine Sem.block ?_
        obtain ⟨r44, hr44, h⟩ := Option.bind_eq_some_iff.1 h
        refine Sem.loop (n := 100000) ?_
        refine Sem.cutN (SemN.wk (s1 := ⟨Fr 91 [(0, .v (.int .i64 x0)), (1, .sl 1 (x1.map cdI.enc)), (7, .v (.int .i64 c5)), (8, .v (.bool c6)), (9, .v (.bool c7)), (10, .rf 0 0 j15.1.length j15.1.length), (27, .sl 1 (x2.map (cdL 1 cdI).enc)), (28, .v (.int .i64 (x2.length : Int))), (29, .v (.int .i64 c9)), (51, .sl 1 (v11.map cdI.enc)), (52, .v (.int .i64 (v11.length : Int))), (53, .v (.int .i64 0))], [some ⟨1, 4, (j15.1.map cdB.enc), false⟩]⟩) (Wk.sel2 [0] (by kernel_rfl) (by kernel_rfl) (by kernel_rfl) ⟨⟨_, rfl, bu_own⟩, trivial⟩ ⟨lu (by kernel_rfl) (by kernel_rfl), lu (by kernel_rfl) (by kernel_rfl), lu (by kernel_rfl) (by kernel_rfl), lu (by kernel_rfl) (by kernel_rfl), lu (by kernel_rfl) (by kernel_rfl), lu (by kernel_rfl) (by kernel_rfl), lu (by kernel_rfl) (by kernel_rfl), lu (by kernel_rfl) (by kernel_rfl), lu (by kernel_rfl) (by kernel_rfl), lu (by kernel_rfl) (by kernel_rfl), lu (by kernel_rfl) (by kernel_rfl), lu (by kernel_rfl) (by kernel_rfl), trivial⟩) (evening_check_2_ok x0 x1 x2 c9 v11 _ c5 c6 c7 j15.1 0 _ hr44)) ?_
        refine Sem.runS (s1 := ⟨Fr 91 [(0, .v (.int .i64 x0)), (1, .sl 1 (x1.map cdI.enc)), (7, .v (.int .i64 r44.1)), (8, .v (.bool r44.2.1)), (9, .v (.bool r44.2.2.1)), (10, .rf 0 0 r44.2.2.2.length r44.2.2.2.length), (27, .sl 1 (x2.map (cdL 1 cdI).enc)), (28, .v (.int .i64 (x2.length : Int))), (29, .v (.int .i64 (wr .i64 (c9 + 1))))], [some ⟨1, 4, (r44.2.2.2.map cdB.enc), false⟩]⟩) ?_ ?_
        · refine RunS.segF (n := 91) e_evening_check_ok 2 [(0, .v (.int .i64 x0)), (1, .sl 1 (x1.map cdI.enc)), (7, .v (.int .i64 r44.1)), (8, .v (.bool r44.2.1)), (9, .v (.bool r44.2.2.1)), (10, .rf 0 0 r44.2.2.2.length r44.2.2.2.length), (27, .sl 1 (x2.map (cdL 1 cdI).enc)), (28, .v (.int .i64 (x2.length : Int))), (29, .v (.int .i64 (wr .i64 (c9 + 1))))] [some ⟨1, 4, (r44.2.2.2.map cdB.enc), false⟩] (by kernel_rfl) ?_
          exact RunS.done rfl (Wk.sel2 [0] (by kernel_rfl) (by kernel_rfl) (by kernel_rfl) ⟨⟨_, rfl, bu_own⟩, trivial⟩ ⟨lu (by kernel_rfl) (by kernel_rfl), lu (by kernel_rfl) (by kernel_rfl), lu (by kernel_rfl) (by kernel_rfl), lu (by kernel_rfl) (by kernel_rfl), lu (by kernel_rfl) (by kernel_rfl), lu (by kernel_rfl) (by kernel_rfl), lu (by kernel_rfl) (by kernel_rfl), lu (by kernel_rfl) (by kernel_rfl), lu (by kernel_rfl) (by kernel_rfl), trivial⟩)
        exact SemN.wk (s1 := ⟨Fr 91 [(0, .v (.int .i64 x0)), (1, .sl 1 (x1.map cdI.enc)), (7, .v (.int .i64 r44.1)), (8, .v (.bool r44.2.1)), (9, .v (.bool r44.2.2.1)), (10, .rf 0 0 r44.2.2.2.length r44.2.2.2.length), (27, .sl 1 (x2.map (cdL 1 cdI).enc)), (28, .v (.int .i64 (x2.length : Int))), (29, .v (.int .i64 (wr .i64 (c9 + 1))))], [some ⟨1, 4, (r44.2.2.2.map cdB.enc), false⟩]⟩) (Wk.sel2 [0] (by kernel_rfl) (by kernel_rfl) (by kernel_rfl) ⟨⟨_, rfl, bu_own⟩, trivial⟩ ⟨lu (by kernel_rfl) (by kernel_rfl), lu (by kernel_rfl) (by kernel_rfl), lu (by kernel_rfl) (by kernel_rfl), lu (by kernel_rfl) (by kernel_rfl), lu (by kernel_rfl) (by kernel_rfl), lu (by kernel_rfl) (by kernel_rfl), lu (by kernel_rfl) (by kernel_rfl), lu (by kernel_rfl) (by kernel_rfl), lu (by kernel_rfl) (by kernel_rfl), trivial⟩) (ih r44.1 r44.2.1 r44.2.2.1 r44.2.2.2 (wr .i64 (c9 + 1)) h)
    · rw [if_f hb10] at h
      refine Sem.exit ?_
      have hq := Option.some.inj h; subst hq
      exact ⟨rfl, (Wk.sel2 [] (by kernel_rfl) (by kernel_rfl) (by kernel_rfl) trivial ⟨lu (by kernel_rfl) (by kernel_rfl), lu (by kernel_rfl) (by kernel_rfl), lu (by kernel_rfl) (by kernel_rfl), lu (by kernel_rfl) (by kernel_rfl), trivial⟩)⟩
set_option maxHeartbeats 4000000 in
set_option maxRecDepth 100000 in
theorem evening_check_sem (x0 : Int) (x1 : (List Int)) (x2 : (List (List Int))) (r : Int) (h : evening_check x0 x1 x2 = some r) : Sem e_evening_check ⟨none, false⟩ cb_evening_check ⟨Fr 91 (pairs0 0 (cs_evening_check.enc (x0, x1, x2, ()))), []⟩ fun e s' => (e = .normal ∨ e = .ret) ∧ ∃ xs, resA e_evening_check.P s'.fr s'.hp Tryd.f69.results.toList = some xs ∧ retA xs = er_evening_check r := by
  unfold evening_check at h
  refine Sem.wkQ (Sem.wk (s1 := ⟨Fr 91 [(0, .v (.int .i64 x0)), (1, .sl 1 (x1.map cdI.enc)), (2, .sl 1 (x2.map (cdL 1 cdI).enc))], []⟩) (Wk.fr (by kernel_rfl)) ?_)
  refine Sem.seq ?_
  refine Sem.runS (s1 := ⟨Fr 91 [(0, .v (.int .i64 x0)), (1, .sl 1 (x1.map cdI.enc)), (2, .sl 1 (x2.map (cdL 1 cdI).enc))], []⟩) ?_ ?_
  · refine RunS.segF (n := 91) e_evening_check_ok 1 [(0, .v (.int .i64 x0)), (1, .sl 1 (x1.map cdI.enc)), (2, .sl 1 (x2.map (cdL 1 cdI).enc))] [] (by kernel_rfl) ?_
    exact RunS.done rfl (Wk.fr (by kernel_rfl))
  refine Sem.seq ?_
  refine Sem.seq ?_
  obtain ⟨j2, hj2, h⟩ := Option.bind_eq_some_iff.1 h
  refine Sem.runS (s1 := ⟨Fr 91 [(0, .v (.int .i64 x0)), (1, .sl 1 (x1.map cdI.enc)), (2, .sl 1 (x2.map (cdL 1 cdI).enc)), (24, .v (.bool j2))], []⟩) ?_ ?_
  · refine RunS.segF (n := 91) e_evening_check_ok 1 [(0, .v (.int .i64 x0)), (1, .sl 1 (x1.map cdI.enc)), (2, .sl 1 (x2.map (cdL 1 cdI).enc)), (15, .sl 1 (x1.map cdI.enc))] [] (by kernel_rfl) ?_
    refine RunS.one e_evening_check_ok 0 rfl (op_q (wantedA_none rfl) rfl (q_len (a := .sl 1 (x1.map cdI.enc)) (by kernel_rfl) (len_sl (el := 3) (by kernel_rfl)))) ?_
    refine RunS.segF (n := 91) e_evening_check_ok 2 [(0, .v (.int .i64 x0)), (1, .sl 1 (x1.map cdI.enc)), (2, .sl 1 (x2.map (cdL 1 cdI).enc)), (18, .v (.bool (decide ((x1.length : Int) > 0))))] [] (by kernel_rfl) ?_
    rcases Bool.eq_false_or_eq_true (decide ((x1.length : Int) > 0)) with hc56 | hc56
    · rw [if_pos hc56] at hj2
      rw [hc56]
      refine RunS.segF (n := 91) e_evening_check_ok 1 [(0, .v (.int .i64 x0)), (1, .sl 1 (x1.map cdI.enc)), (2, .sl 1 (x2.map (cdL 1 cdI).enc)), (18, .v (.bool true)), (19, .sl 1 (x1.map cdI.enc))] [] (by kernel_rfl) ?_
      refine RunS.one e_evening_check_ok 0 rfl (op_q (by kernel_rfl) rfl (q_len (a := .sl 1 (x1.map cdI.enc)) (by kernel_rfl) (len_sl (el := 3) (by kernel_rfl)))) ?_
      refine RunS.segF (n := 91) e_evening_check_ok 1 [(0, .v (.int .i64 x0)), (1, .sl 1 (x1.map cdI.enc)), (2, .sl 1 (x2.map (cdL 1 cdI).enc)), (18, .v (.bool true)), (20, .v (.int .i64 (x1.length : Int))), (21, .sl 1 (x2.map (cdL 1 cdI).enc))] [] (by kernel_rfl) ?_
      refine RunS.one e_evening_check_ok 0 rfl (op_q (by kernel_rfl) rfl (q_len (a := .sl 1 (x2.map (cdL 1 cdI).enc)) (by kernel_rfl) (len_sl (el := 24) (by kernel_rfl)))) ?_
      refine RunS.segF (n := 91) e_evening_check_ok 2 [(0, .v (.int .i64 x0)), (1, .sl 1 (x1.map cdI.enc)), (2, .sl 1 (x2.map (cdL 1 cdI).enc)), (24, .v (.bool ((x1.length : Int) != (x2.length : Int))))] [] (by kernel_rfl) ?_
      have hq := Option.some.inj hj2; subst hq
      exact RunS.done rfl (Wk.fr (by kernel_rfl))
    · rw [if_f hc56] at hj2
      rw [hc56]
      refine RunS.segF (n := 91) e_evening_check_ok 6 [(0, .v (.int .i64 x0)), (1, .sl 1 (x1.map cdI.enc)), (2, .sl 1 (x2.map (cdL 1 cdI).enc)), (24, .v (.bool false))] [] (by kernel_rfl) ?_
      have hq := Option.some.inj hj2; subst hq
      exact RunS.done rfl (Wk.fr (by kernel_rfl))
  refine Sem.cond (b := j2) (by kernel_rfl) (fun hb3 => ?_) (fun hb3 => ?_)
  · rw [if_pos hb3] at h
    refine Sem.seq ?_
    refine Sem.runS (s1 := ⟨Fr 91 [(6, .v (.int .i64 2))], []⟩) ?_ ?_
    · refine RunS.segF (n := 91) e_evening_check_ok 1 [(6, .v (.int .i64 2))] [] (by kernel_rfl) ?_
      exact RunS.done rfl (Wk.fr (by kernel_rfl))
    refine Sem.ret ?_
    have hq := Option.some.inj h; subst hq
    exact ⟨⟨Fr 91 [(6, .v (.int .i64 2))], []⟩, (Wk.fr (by kernel_rfl)), .inr rfl, [.v (.int .i64 2)], (by kernel_rfl), (by kernel_rfl)⟩
  · rw [if_f hb3] at h
    refine Sem.skip ?_
    refine Sem.seq ?_
    refine Sem.runS (s1 := ⟨Fr 91 [(0, .v (.int .i64 x0)), (1, .sl 1 (x1.map cdI.enc)), (2, .sl 1 (x2.map (cdL 1 cdI).enc)), (7, .v (.int .i64 0)), (8, .v (.bool false)), (9, .v (.bool false))], []⟩) ?_ ?_
    · refine RunS.segF (n := 91) e_evening_check_ok 3 [(0, .v (.int .i64 x0)), (1, .sl 1 (x1.map cdI.enc)), (2, .sl 1 (x2.map (cdL 1 cdI).enc)), (7, .v (.int .i64 0)), (8, .v (.bool false)), (9, .v (.bool false))] [] (by kernel_rfl) ?_
      exact RunS.done rfl (Wk.fr (by kernel_rfl))
    refine Sem.seq ?_
    by_cases hk4 : (mkOk 1 x0) = true
    case neg => rw [if_neg hk4] at h; cases h
    rw [if_pos hk4] at h
    refine Sem.runS (s1 := ⟨Fr 91 [(0, .v (.int .i64 x0)), (1, .sl 1 (x1.map cdI.enc)), (2, .sl 1 (x2.map (cdL 1 cdI).enc)), (7, .v (.int .i64 0)), (8, .v (.bool false)), (9, .v (.bool false)), (10, .rf 0 0 (List.replicate x0.toNat false).length (List.replicate x0.toNat false).length)], [some ⟨1, 4, ((List.replicate x0.toNat false).map cdB.enc), false⟩]⟩) ?_ ?_
    · refine RunS.segF (n := 91) e_evening_check_ok 1 [(0, .v (.int .i64 x0)), (1, .sl 1 (x1.map cdI.enc)), (2, .sl 1 (x2.map (cdL 1 cdI).enc)), (7, .v (.int .i64 0)), (8, .v (.bool false)), (9, .v (.bool false)), (25, .v (.int .i64 x0))] [] (by kernel_rfl) ?_
      refine RunS.one e_evening_check_ok 0 rfl (op_n (wantedA_none rfl) rfl (by kernel_rfl) (n_make (x := .v (.int .i64 x0)) (y := .v (.int .i64 x0)) (by kernel_rfl) (by kernel_rfl) (make_B (c := cdB) (z := false) (k := 1) (bytes := 1) (el := 4) (by kernel_rfl) (by kernel_rfl) hk4))) ?_
      refine RunS.segF (n := 91) e_evening_check_ok 1 [(0, .v (.int .i64 x0)), (1, .sl 1 (x1.map cdI.enc)), (2, .sl 1 (x2.map (cdL 1 cdI).enc)), (7, .v (.int .i64 0)), (8, .v (.bool false)), (9, .v (.bool false)), (10, .rf 0 0 (List.replicate x0.toNat false).length (List.replicate x0.toNat false).length)] [some ⟨1, 4, ((List.replicate x0.toNat false).map cdB.enc), false⟩] (by kernel_rfl) ?_
      exact RunS.done rfl (Wk.sel2 [0] (by kernel_rfl) (by kernel_rfl) (by kernel_rfl) ⟨⟨_, rfl, bu_own⟩, trivial⟩ ⟨lu (by kernel_rfl) (by kernel_rfl), lu (by kernel_rfl) (by kernel_rfl), lu (by kernel_rfl) (by kernel_rfl), lu (by kernel_rfl) (by kernel_rfl), lu (by kernel_rfl) (by kernel_rfl), lu (by kernel_rfl) (by kernel_rfl), lu (by kernel_rfl) (by kernel_rfl), trivial⟩)
    refine Sem.seq ?_
    refine Sem.seq ?_
    refine Sem.runS (s1 := ⟨Fr 91 [(0, .v (.int .i64 x0)), (1, .sl 1 (x1.map cdI.enc)), (7, .v (.int .i64 0)), (8, .v (.bool false)), (9, .v (.bool false)), (10, .rf 0 0 (List.replicate x0.toNat false).length (List.replicate x0.toNat false).length), (27, .sl 1 (x2.map (cdL 1 cdI).enc)), (28, .v (.int .i64 (x2.length : Int))), (29, .v (.int .i64 0))], [some ⟨1, 4, ((List.replicate x0.toNat false).map cdB.enc), false⟩]⟩) ?_ ?_
    · refine RunS.segF (n := 91) e_evening_check_ok 1 [(0, .v (.int .i64 x0)), (1, .sl 1 (x1.map cdI.enc)), (7, .v (.int .i64 0)), (8, .v (.bool false)), (9, .v (.bool false)), (10, .rf 0 0 (List.replicate x0.toNat false).length (List.replicate x0.toNat false).length), (27, .sl 1 (x2.map (cdL 1 cdI).enc))] [some ⟨1, 4, ((List.replicate x0.toNat false).map cdB.enc), false⟩] (by kernel_rfl) ?_
      refine RunS.one e_evening_check_ok 0 rfl (op_q (wantedA_none rfl) rfl (q_len (a := .sl 1 (x2.map (cdL 1 cdI).enc)) (by kernel_rfl) (len_sl (el := 24) (by kernel_rfl)))) ?_
      refine RunS.segF (n := 91) e_evening_check_ok 1 [(0, .v (.int .i64 x0)), (1, .sl 1 (x1.map cdI.enc)), (7, .v (.int .i64 0)), (8, .v (.bool false)), (9, .v (.bool false)), (10, .rf 0 0 (List.replicate x0.toNat false).length (List.replicate x0.toNat false).length), (27, .sl 1 (x2.map (cdL 1 cdI).enc)), (28, .v (.int .i64 (x2.length : Int))), (29, .v (.int .i64 0))] [some ⟨1, 4, ((List.replicate x0.toNat false).map cdB.enc), false⟩] (by kernel_rfl) ?_
      exact RunS.done rfl (Wk.sel2 [0] (by kernel_rfl) (by kernel_rfl) (by kernel_rfl) ⟨⟨_, rfl, bu_own⟩, trivial⟩ ⟨lu (by kernel_rfl) (by kernel_rfl), lu (by kernel_rfl) (by kernel_rfl), lu (by kernel_rfl) (by kernel_rfl), lu (by kernel_rfl) (by kernel_rfl), lu (by kernel_rfl) (by kernel_rfl), lu (by kernel_rfl) (by kernel_rfl), lu (by kernel_rfl) (by kernel_rfl), lu (by kernel_rfl) (by kernel_rfl), lu (by kernel_rfl) (by kernel_rfl), trivial⟩)
    refine Sem.block ?_
    obtain ⟨r50, hr50, h⟩ := Option.bind_eq_some_iff.1 h
    refine Sem.loop (n := 100000) ?_
    rcases r50 with w51 | w55
    · try dsimp only at h
      refine Sem.cutN (SemN.wk (s1 := ⟨Fr 91 [(0, .v (.int .i64 x0)), (1, .sl 1 (x1.map cdI.enc)), (7, .v (.int .i64 0)), (8, .v (.bool false)), (9, .v (.bool false)), (10, .rf 0 0 (List.replicate x0.toNat false).length (List.replicate x0.toNat false).length), (27, .sl 1 (x2.map (cdL 1 cdI).enc)), (28, .v (.int .i64 (x2.length : Int))), (29, .v (.int .i64 0))], [some ⟨1, 4, ((List.replicate x0.toNat false).map cdB.enc), false⟩]⟩) (Wk.sel2 [0] (by kernel_rfl) (by kernel_rfl) (by kernel_rfl) ⟨⟨_, rfl, bu_own⟩, trivial⟩ ⟨lu (by kernel_rfl) (by kernel_rfl), lu (by kernel_rfl) (by kernel_rfl), lu (by kernel_rfl) (by kernel_rfl), lu (by kernel_rfl) (by kernel_rfl), lu (by kernel_rfl) (by kernel_rfl), lu (by kernel_rfl) (by kernel_rfl), lu (by kernel_rfl) (by kernel_rfl), lu (by kernel_rfl) (by kernel_rfl), lu (by kernel_rfl) (by kernel_rfl), trivial⟩) (evening_check_1_ok x0 x1 x2 _ 0 false false (List.replicate x0.toNat false) 0 _ hr50)) ?_
      refine Sem.seq ?_
      refine Sem.block ?_
      refine Sem.seq ?_
      refine Sem.runS (s1 := ⟨Fr 91 [(0, .v (.int .i64 x0)), (7, .v (.int .i64 w51.1)), (8, .v (.bool w51.2.1)), (83, .v (.bool w51.2.2))], []⟩) ?_ ?_
      · refine RunS.segF (n := 91) e_evening_check_ok 2 [(0, .v (.int .i64 x0)), (7, .v (.int .i64 w51.1)), (8, .v (.bool w51.2.1)), (83, .v (.bool w51.2.2))] [] (by kernel_rfl) ?_
        exact RunS.done rfl (Wk.fr (by kernel_rfl))
      refine Sem.cond (b := w51.2.2) (by kernel_rfl) (fun hb52 => ?_) (fun hb52 => ?_)
      · rw [if_pos hb52] at h
        refine Sem.seq ?_
        refine Sem.runS (s1 := ⟨Fr 91 [(6, .v (.int .i64 6))], []⟩) ?_ ?_
        · refine RunS.segF (n := 91) e_evening_check_ok 1 [(6, .v (.int .i64 6))] [] (by kernel_rfl) ?_
          exact RunS.done rfl (Wk.fr (by kernel_rfl))
        refine Sem.ret ?_
        have hq := Option.some.inj h; subst hq
        exact ⟨⟨Fr 91 [(6, .v (.int .i64 6))], []⟩, (Wk.fr (by kernel_rfl)), .inr rfl, [.v (.int .i64 6)], (by kernel_rfl), (by kernel_rfl)⟩
      · rw [if_f hb52] at h
        refine Sem.seq ?_
        refine Sem.runS (s1 := ⟨Fr 91 [(0, .v (.int .i64 x0)), (7, .v (.int .i64 w51.1)), (85, .v (.bool w51.2.1))], []⟩) ?_ ?_
        · refine RunS.segF (n := 91) e_evening_check_ok 2 [(0, .v (.int .i64 x0)), (7, .v (.int .i64 w51.1)), (85, .v (.bool w51.2.1))] [] (by kernel_rfl) ?_
          exact RunS.done rfl (Wk.fr (by kernel_rfl))
        refine Sem.cond (b := w51.2.1) (by kernel_rfl) (fun hb53 => ?_) (fun hb53 => ?_)
        · rw [if_pos hb53] at h
          refine Sem.seq ?_
          refine Sem.runS (s1 := ⟨Fr 91 [(6, .v (.int .i64 5))], []⟩) ?_ ?_
          · refine RunS.segF (n := 91) e_evening_check_ok 1 [(6, .v (.int .i64 5))] [] (by kernel_rfl) ?_
            exact RunS.done rfl (Wk.fr (by kernel_rfl))
          refine Sem.ret ?_
          have hq := Option.some.inj h; subst hq
          exact ⟨⟨Fr 91 [(6, .v (.int .i64 5))], []⟩, (Wk.fr (by kernel_rfl)), .inr rfl, [.v (.int .i64 5)], (by kernel_rfl), (by kernel_rfl)⟩
        · rw [if_f hb53] at h
          refine Sem.seq ?_
          refine Sem.runS (s1 := ⟨Fr 91 [(87, .v (.bool (decide (w51.1 < x0))))], []⟩) ?_ ?_
          · refine RunS.segF (n := 91) e_evening_check_ok 4 [(87, .v (.bool (decide (w51.1 < x0))))] [] (by kernel_rfl) ?_
            exact RunS.done rfl (Wk.fr (by kernel_rfl))
          refine Sem.cond (b := (decide (w51.1 < x0))) (by kernel_rfl) (fun hb54 => ?_) (fun hb54 => ?_)
          · rw [if_pos hb54] at h
            refine Sem.seq ?_
            refine Sem.runS (s1 := ⟨Fr 91 [(6, .v (.int .i64 2))], []⟩) ?_ ?_
            · refine RunS.segF (n := 91) e_evening_check_ok 1 [(6, .v (.int .i64 2))] [] (by kernel_rfl) ?_
              exact RunS.done rfl (Wk.fr (by kernel_rfl))
            refine Sem.ret ?_
            have hq := Option.some.inj h; subst hq
            exact ⟨⟨Fr 91 [(6, .v (.int .i64 2))], []⟩, (Wk.fr (by kernel_rfl)), .inr rfl, [.v (.int .i64 2)], (by kernel_rfl), (by kernel_rfl)⟩
          · rw [if_f hb54] at h
            refine Sem.skip ?_
            refine Sem.seq ?_
            refine Sem.runS (s1 := ⟨Fr 91 [(6, .v (.int .i64 0))], []⟩) ?_ ?_
            · refine RunS.segF (n := 91) e_evening_check_ok 1 [(6, .v (.int .i64 0))] [] (by kernel_rfl) ?_
              exact RunS.done rfl (Wk.fr (by kernel_rfl))
            refine Sem.ret ?_
            have hq := Option.some.inj h; subst hq
            exact ⟨⟨Fr 91 [(6, .v (.int .i64 0))], []⟩, (Wk.fr (by kernel_rfl)), .inr rfl, [.v (.int .i64 0)], (by kernel_rfl), (by kernel_rfl)⟩
    · try dsimp only at h
      refine Sem.cutN (SemN.wk (s1 := ⟨Fr 91 [(0, .v (.int .i64 x0)), (1, .sl 1 (x1.map cdI.enc)), (7, .v (.int .i64 0)), (8, .v (.bool false)), (9, .v (.bool false)), (10, .rf 0 0 (List.replicate x0.toNat false).length (List.replicate x0.toNat false).length), (27, .sl 1 (x2.map (cdL 1 cdI).enc)), (28, .v (.int .i64 (x2.length : Int))), (29, .v (.int .i64 0))], [some ⟨1, 4, ((List.replicate x0.toNat false).map cdB.enc), false⟩]⟩) (Wk.sel2 [0] (by kernel_rfl) (by kernel_rfl) (by kernel_rfl) ⟨⟨_, rfl, bu_own⟩, trivial⟩ ⟨lu (by kernel_rfl) (by kernel_rfl), lu (by kernel_rfl) (by kernel_rfl), lu (by kernel_rfl) (by kernel_rfl), lu (by kernel_rfl) (by kernel_rfl), lu (by kernel_rfl) (by kernel_rfl), lu (by kernel_rfl) (by kernel_rfl), lu (by kernel_rfl) (by kernel_rfl), lu (by kernel_rfl) (by kernel_rfl), lu (by kernel_rfl) (by kernel_rfl), trivial⟩) (evening_check_1_ok x0 x1 x2 _ 0 false false (List.replicate x0.toNat false) 0 _ hr50)) ?_
      have hq := Option.some.inj h; subst hq
      exact ⟨⟨Fr 91 [(6, .v (.int .i64 w55))], []⟩, (Wk.fr (by kernel_rfl)), .inr rfl, [.v (.int .i64 w55)], (by kernel_rfl), (by kernel_rfl)⟩
def t_evening_check : List AV → Option AV := told cs_evening_check (fun a => evening_check a.1 a.2.1 a.2.2.1) er_evening_check
theorem x_evening_check : XOk 69 t_evening_check := by
  refine EnvOk.x (E := e_evening_check) (contract_ok e_evening_check_ok (fn := Tryd.f69) (c := cb_evening_check) ?h1 ?h2 ⟨Tryd.call69⟩ cs_evening_check (fun a => evening_check a.1 a.2.1 a.2.2.1) er_evening_check (fun a => (by show 3 ≤ 91; decide)) ?h3 ?h4) rfl rfl
  case h1 => kernel_rfl
  case h2 => kernel_rfl
  case h3 => intro b; kernel_rfl
  case h4 => exact fun a b h => evening_check_sem a.1 a.2.1 a.2.2.1 b h
end Go.Proofs.YthofgamegondnaaDoor

namespace Go.Proofs.YthofgamegondnaaDoor
open Go.RowKit
/- trestle/evening.Check -/
noncomputable def e_evening_Check : Env := (((E0.withX 67 t_evening_guests).withX 68 t_evening_fit).withX 69 t_evening_check)
theorem e_evening_Check_ok : EnvOk e_evening_Check := (EnvOk.withX (EnvOk.withX (EnvOk.withX E0_ok x_evening_guests.1 x_evening_guests.2) x_evening_fit.1 x_evening_fit.2) x_evening_check.1 x_evening_check.2)
noncomputable def cb_evening_Check : Code := codeOf Tryd.f28
def evening_Check_1 (x0 : Int) (x1 : (List Int)) (x2 : (List (List (List Int)))) : Nat → Int → Option ((Unit) ⊕ (Int × Int))
  | 0, _ => none
  | f + 1, c7 =>
    if (decide (c7 < (x2.length : Int))) = true then
    (idx x2 c7).bind fun v9 =>
    (evening_check x0 x1 v9).bind fun v10 =>
    if (v10 != 0) = true then
    some (.inr (c7, v10))
    else
    evening_Check_1 x0 x1 x2 f (wr .i64 (c7 + 1))
    else
    some (.inl ())
def evening_Check (x0 : Int) (x1 : (List Int)) (x2 : (List (List (List Int)))) : Option (Int × Int) :=
  (evening_guests x0).bind fun v1 =>
  (if (!v1) = true then some true else if (decide ((x1.length : Int) > 0)) = true then (evening_fit x0 x1).bind fun v2 =>
  some (!v2) else some false).bind fun j4 =>
  if j4 = true then
  some (0, 90)
  else
  if (decide ((x2.length : Int) > 64)) = true then
  some (0, 7)
  else
  (evening_Check_1 x0 x1 x2 100000 0).bind fun r14 =>
  match r14 with
  | (.inl w15) =>
    some (0, 0)
  | (.inr w16) =>
    some (w16.1, w16.2)
def cs_evening_Check : Cs (Int × (List Int) × (List (List (List Int))) × Unit) := (csC cdI (csC (cdL 1 cdI) (csC (cdL 1 (cdL 1 (cdL 1 cdI))) csN)))
def er_evening_Check (r : Int × Int) : AV := .tp [cdI.enc r.1, cdI.enc r.2]
set_option maxHeartbeats 4000000 in
set_option maxRecDepth 100000 in
theorem evening_Check_1_ok (x0 : Int) (x1 : (List Int)) (x2 : (List (List (List Int)))) : ∀ (f : Nat) (c7 : Int) (r : (Unit) ⊕ (Int × Int)), evening_Check_1 x0 x1 x2 f c7 = some r → SemN e_evening_Check ⟨none, false⟩ (pc cb_evening_Check [1, 1, 0, 1, 0, 0]) f ⟨Fr 46 [(0, .v (.int .i64 x0)), (1, .sl 1 (x1.map cdI.enc)), (30, .sl 1 (x2.map (cdL 1 (cdL 1 cdI)).enc)), (31, .v (.int .i64 (x2.length : Int))), (32, .v (.int .i64 c7))], []⟩ (fun e s => match r with
  | (.inl w) => e = (.exit 1) ∧ Wk e_evening_Check s ⟨Fr 46 [], []⟩
  | (.inr w) => e = .ret ∧ Wk e_evening_Check s ⟨Fr 46 [(6, .v (.int .i64 w.1)), (7, .v (.int .i64 w.2))], []⟩) := by
  intro f
  induction f with
  | zero => intro c7 r h; cases h
  | succ f ih0 =>
    intro c7 r h
    have ih := fun (c7 : Int) => ih0 c7 r
    unfold evening_Check_1 at h
    refine SemN.succ ?_
    refine Sem.seq ?_
    refine Sem.runS (s1 := ⟨Fr 46 [(0, .v (.int .i64 x0)), (1, .sl 1 (x1.map cdI.enc)), (30, .sl 1 (x2.map (cdL 1 (cdL 1 cdI)).enc)), (31, .v (.int .i64 (x2.length : Int))), (32, .v (.int .i64 c7)), (33, .v (.bool (decide (c7 < (x2.length : Int)))))], []⟩) ?_ ?_
    · refine RunS.segF (n := 46) e_evening_Check_ok 1 [(0, .v (.int .i64 x0)), (1, .sl 1 (x1.map cdI.enc)), (30, .sl 1 (x2.map (cdL 1 (cdL 1 cdI)).enc)), (31, .v (.int .i64 (x2.length : Int))), (32, .v (.int .i64 c7)), (33, .v (.bool (decide (c7 < (x2.length : Int)))))] [] (by kernel_rfl) ?_
      exact RunS.done rfl (Wk.fr (by kernel_rfl))
    refine Sem.seq ?_
    refine Sem.cond (b := (decide (c7 < (x2.length : Int)))) (by kernel_rfl) (fun hb8 => ?_) (fun hb8 => ?_)
    · rw [if_pos hb8] at h
      refine Sem.skip ?_
      refine Sem.seq ?_
      refine Sem.block ?_
      refine Sem.seq ?_
      obtain ⟨v9, hv9, h⟩ := Option.bind_eq_some_iff.1 h
      refine Sem.runS (s1 := ⟨Fr 46 [(0, .v (.int .i64 x0)), (1, .sl 1 (x1.map cdI.enc)), (8, .v (.int .i64 c7)), (9, .sl 1 (v9.map (cdL 1 cdI).enc)), (30, .sl 1 (x2.map (cdL 1 (cdL 1 cdI)).enc)), (31, .v (.int .i64 (x2.length : Int))), (32, .v (.int .i64 c7))], []⟩) ?_ ?_
      · refine RunS.segF (n := 46) e_evening_Check_ok 1 [(0, .v (.int .i64 x0)), (1, .sl 1 (x1.map cdI.enc)), (30, .sl 1 (x2.map (cdL 1 (cdL 1 cdI)).enc)), (31, .v (.int .i64 (x2.length : Int))), (32, .v (.int .i64 c7)), (34, .v (.int .i64 c7))] [] (by kernel_rfl) ?_
        refine RunS.one e_evening_Check_ok 0 rfl (op_q (wantedA_none rfl) rfl (q_indexAddr (a := .sl 1 (x2.map (cdL 1 (cdL 1 cdI)).enc)) (b := .v (.int .i64 c7)) (by kernel_rfl) (by kernel_rfl) (ix_sl (e := (cdL 1 (cdL 1 cdI)).enc) (el := 49) (k := 1) (ki := .i64) (by kernel_rfl) (by kernel_rfl) hv9))) ?_
        refine RunS.segF (n := 46) e_evening_Check_ok 3 [(0, .v (.int .i64 x0)), (1, .sl 1 (x1.map cdI.enc)), (8, .v (.int .i64 c7)), (9, .sl 1 (v9.map (cdL 1 cdI).enc)), (30, .sl 1 (x2.map (cdL 1 (cdL 1 cdI)).enc)), (31, .v (.int .i64 (x2.length : Int))), (32, .v (.int .i64 c7))] [] (by kernel_rfl) ?_
        exact RunS.done rfl (Wk.fr (by kernel_rfl))
      refine Sem.seq ?_
      obtain ⟨v10, hv10, h⟩ := Option.bind_eq_some_iff.1 h
      refine Sem.runS (s1 := ⟨Fr 46 [(0, .v (.int .i64 x0)), (1, .sl 1 (x1.map cdI.enc)), (8, .v (.int .i64 c7)), (10, .v (.int .i64 v10)), (30, .sl 1 (x2.map (cdL 1 (cdL 1 cdI)).enc)), (31, .v (.int .i64 (x2.length : Int))), (32, .v (.int .i64 c7))], []⟩) ?_ ?_
      · refine RunS.segF (n := 46) e_evening_Check_ok 3 [(0, .v (.int .i64 x0)), (1, .sl 1 (x1.map cdI.enc)), (8, .v (.int .i64 c7)), (30, .sl 1 (x2.map (cdL 1 (cdL 1 cdI)).enc)), (31, .v (.int .i64 (x2.length : Int))), (32, .v (.int .i64 c7)), (37, .v (.int .i64 x0)), (38, .sl 1 (x1.map cdI.enc)), (39, .sl 1 (v9.map (cdL 1 cdI).enc))] [] (by kernel_rfl) ?_
        refine RunS.call e_evening_Check_ok (fid := 69) (s := cs_evening_check) (F := fun a => evening_check a.1 a.2.1 a.2.2.1) (er := er_evening_check) (xs := [.v (.int .i64 x0), .sl 1 (x1.map cdI.enc), .sl 1 (v9.map (cdL 1 cdI).enc)]) (a := (x0, x1, v9, ())) rfl (wantedA_none rfl) (by kernel_rfl) (by kernel_rfl) (by kernel_rfl) (by kernel_rfl) (Sns.cons (Sn.enc (c := cdI) (v := x0)) (Sns.cons (Sn.enc (c := (cdL 1 cdI)) (v := x1)) (Sns.cons (Sn.enc (c := (cdL 1 (cdL 1 cdI))) (v := v9)) Sns.nil))) (.inl (by kernel_rfl)) hv10 ?_
        refine RunS.segF (n := 46) e_evening_Check_ok 1 [(0, .v (.int .i64 x0)), (1, .sl 1 (x1.map cdI.enc)), (8, .v (.int .i64 c7)), (10, .v (.int .i64 v10)), (30, .sl 1 (x2.map (cdL 1 (cdL 1 cdI)).enc)), (31, .v (.int .i64 (x2.length : Int))), (32, .v (.int .i64 c7))] [] (by kernel_rfl) ?_
        exact RunS.done rfl (Wk.fr (by kernel_rfl))
      refine Sem.seq ?_
      refine Sem.runS (s1 := ⟨Fr 46 [(0, .v (.int .i64 x0)), (1, .sl 1 (x1.map cdI.enc)), (8, .v (.int .i64 c7)), (10, .v (.int .i64 v10)), (30, .sl 1 (x2.map (cdL 1 (cdL 1 cdI)).enc)), (31, .v (.int .i64 (x2.length : Int))), (32, .v (.int .i64 c7)), (42, .v (.bool (v10 != 0)))], []⟩) ?_ ?_
      · refine RunS.segF (n := 46) e_evening_Check_ok 2 [(0, .v (.int .i64 x0)), (1, .sl 1 (x1.map cdI.enc)), (8, .v (.int .i64 c7)), (10, .v (.int .i64 v10)), (30, .sl 1 (x2.map (cdL 1 (cdL 1 cdI)).enc)), (31, .v (.int .i64 (x2.length : Int))), (32, .v (.int .i64 c7)), (42, .v (.bool (v10 != 0)))] [] (by kernel_rfl) ?_
        exact RunS.done rfl (Wk.fr (by kernel_rfl))
      refine Sem.cond (b := (v10 != 0)) (by kernel_rfl) (fun hb11 => ?_) (fun hb11 => ?_)
      · rw [if_pos hb11] at h
        refine Sem.seq ?_
        refine Sem.runS (s1 := ⟨Fr 46 [(6, .v (.int .i64 c7)), (7, .v (.int .i64 v10))], []⟩) ?_ ?_
        · refine RunS.segF (n := 46) e_evening_Check_ok 4 [(6, .v (.int .i64 c7)), (7, .v (.int .i64 v10))] [] (by kernel_rfl) ?_
          exact RunS.done rfl (Wk.fr (by kernel_rfl))
        refine Sem.ret ?_
        have hq := Option.some.inj h; subst hq
        exact ⟨rfl, (Wk.fr (by kernel_rfl))⟩
      · rw [if_f hb11] at h
        refine Sem.skip ?_
        refine Sem.runS (s1 := ⟨Fr 46 [(0, .v (.int .i64 x0)), (1, .sl 1 (x1.map cdI.enc)), (30, .sl 1 (x2.map (cdL 1 (cdL 1 cdI)).enc)), (31, .v (.int .i64 (x2.length : Int))), (32, .v (.int .i64 (wr .i64 (c7 + 1))))], []⟩) ?_ ?_
        · refine RunS.segF (n := 46) e_evening_Check_ok 2 [(0, .v (.int .i64 x0)), (1, .sl 1 (x1.map cdI.enc)), (30, .sl 1 (x2.map (cdL 1 (cdL 1 cdI)).enc)), (31, .v (.int .i64 (x2.length : Int))), (32, .v (.int .i64 (wr .i64 (c7 + 1))))] [] (by kernel_rfl) ?_
          exact RunS.done rfl (Wk.fr (by kernel_rfl))
        exact SemN.wk (s1 := ⟨Fr 46 [(0, .v (.int .i64 x0)), (1, .sl 1 (x1.map cdI.enc)), (30, .sl 1 (x2.map (cdL 1 (cdL 1 cdI)).enc)), (31, .v (.int .i64 (x2.length : Int))), (32, .v (.int .i64 (wr .i64 (c7 + 1))))], []⟩) (Wk.fr (by kernel_rfl)) (ih (wr .i64 (c7 + 1)) h)
    · rw [if_f hb8] at h
      refine Sem.exit ?_
      have hq := Option.some.inj h; subst hq
      exact ⟨rfl, (Wk.fr (by kernel_rfl))⟩
set_option maxHeartbeats 4000000 in
set_option maxRecDepth 100000 in
theorem evening_Check_sem (x0 : Int) (x1 : (List Int)) (x2 : (List (List (List Int)))) (r : Int × Int) (h : evening_Check x0 x1 x2 = some r) : Sem e_evening_Check ⟨none, false⟩ cb_evening_Check ⟨Fr 46 (pairs0 0 (cs_evening_Check.enc (x0, x1, x2, ()))), []⟩ fun e s' => (e = .normal ∨ e = .ret) ∧ ∃ xs, resA e_evening_Check.P s'.fr s'.hp Tryd.f28.results.toList = some xs ∧ retA xs = er_evening_Check r := by
  unfold evening_Check at h
  refine Sem.wkQ (Sem.wk (s1 := ⟨Fr 46 [(0, .v (.int .i64 x0)), (1, .sl 1 (x1.map cdI.enc)), (2, .sl 1 (x2.map (cdL 1 (cdL 1 cdI)).enc))], []⟩) (Wk.fr (by kernel_rfl)) ?_)
  refine Sem.seq ?_
  refine Sem.runS (s1 := ⟨Fr 46 [(0, .v (.int .i64 x0)), (1, .sl 1 (x1.map cdI.enc)), (2, .sl 1 (x2.map (cdL 1 (cdL 1 cdI)).enc))], []⟩) ?_ ?_
  · refine RunS.segF (n := 46) e_evening_Check_ok 2 [(0, .v (.int .i64 x0)), (1, .sl 1 (x1.map cdI.enc)), (2, .sl 1 (x2.map (cdL 1 (cdL 1 cdI)).enc))] [] (by kernel_rfl) ?_
    exact RunS.done rfl (Wk.fr (by kernel_rfl))
  refine Sem.seq ?_
  refine Sem.block ?_
  refine Sem.seq ?_
  obtain ⟨v1, hv1, h⟩ := Option.bind_eq_some_iff.1 h
  obtain ⟨j4, hj4, h⟩ := Option.bind_eq_some_iff.1 h
  refine Sem.runS (s1 := ⟨Fr 46 [(0, .v (.int .i64 x0)), (1, .sl 1 (x1.map cdI.enc)), (2, .sl 1 (x2.map (cdL 1 (cdL 1 cdI)).enc)), (11, .v (.bool j4))], []⟩) ?_ ?_
  · refine RunS.segF (n := 46) e_evening_Check_ok 1 [(0, .v (.int .i64 x0)), (1, .sl 1 (x1.map cdI.enc)), (2, .sl 1 (x2.map (cdL 1 (cdL 1 cdI)).enc)), (12, .v (.int .i64 x0))] [] (by kernel_rfl) ?_
    refine RunS.call e_evening_Check_ok (fid := 67) (s := cs_evening_guests) (F := fun a => evening_guests a.1) (er := er_evening_guests) (xs := [.v (.int .i64 x0)]) (a := (x0, ())) rfl (wantedA_none rfl) (by kernel_rfl) (by kernel_rfl) (by kernel_rfl) (by kernel_rfl) (Sns.cons (Sn.enc (c := cdI) (v := x0)) Sns.nil) (.inl (by kernel_rfl)) hv1 ?_
    refine RunS.segF (n := 46) e_evening_Check_ok 2 [(0, .v (.int .i64 x0)), (1, .sl 1 (x1.map cdI.enc)), (2, .sl 1 (x2.map (cdL 1 (cdL 1 cdI)).enc)), (15, .v (.bool (!v1)))] [] (by kernel_rfl) ?_
    rcases Bool.eq_false_or_eq_true (!v1) with hc17 | hc17
    · rw [if_pos hc17] at hj4
      rw [hc17]
      refine RunS.segF (n := 46) e_evening_Check_ok 11 [(0, .v (.int .i64 x0)), (1, .sl 1 (x1.map cdI.enc)), (2, .sl 1 (x2.map (cdL 1 (cdL 1 cdI)).enc)), (11, .v (.bool true))] [] (by kernel_rfl) ?_
      have hq := Option.some.inj hj4; subst hq
      exact RunS.done rfl (Wk.fr (by kernel_rfl))
    · rw [if_f hc17] at hj4
      rw [hc17]
      refine RunS.segF (n := 46) e_evening_Check_ok 1 [(0, .v (.int .i64 x0)), (1, .sl 1 (x1.map cdI.enc)), (2, .sl 1 (x2.map (cdL 1 (cdL 1 cdI)).enc)), (15, .v (.bool false)), (16, .sl 1 (x1.map cdI.enc))] [] (by kernel_rfl) ?_
      refine RunS.one e_evening_Check_ok 0 rfl (op_q (by kernel_rfl) rfl (q_len (a := .sl 1 (x1.map cdI.enc)) (by kernel_rfl) (len_sl (el := 3) (by kernel_rfl)))) ?_
      refine RunS.segF (n := 46) e_evening_Check_ok 2 [(0, .v (.int .i64 x0)), (1, .sl 1 (x1.map cdI.enc)), (2, .sl 1 (x2.map (cdL 1 (cdL 1 cdI)).enc)), (15, .v (.bool false)), (19, .v (.bool (decide ((x1.length : Int) > 0))))] [] (by kernel_rfl) ?_
      rcases Bool.eq_false_or_eq_true (decide ((x1.length : Int) > 0)) with hc18 | hc18
      · rw [if_pos hc18] at hj4
        rw [hc18]
        refine RunS.segF (n := 46) e_evening_Check_ok 2 [(0, .v (.int .i64 x0)), (1, .sl 1 (x1.map cdI.enc)), (2, .sl 1 (x2.map (cdL 1 (cdL 1 cdI)).enc)), (15, .v (.bool false)), (19, .v (.bool true)), (20, .v (.int .i64 x0)), (21, .sl 1 (x1.map cdI.enc))] [] (by kernel_rfl) ?_
        obtain ⟨v2, hv2, hj4⟩ := Option.bind_eq_some_iff.1 hj4
        refine RunS.call e_evening_Check_ok (fid := 68) (s := cs_evening_fit) (F := fun a => evening_fit a.1 a.2.1) (er := er_evening_fit) (xs := [.v (.int .i64 x0), .sl 1 (x1.map cdI.enc)]) (a := (x0, x1, ())) rfl (by kernel_rfl) (by kernel_rfl) (by kernel_rfl) (by kernel_rfl) (by kernel_rfl) (Sns.cons (Sn.enc (c := cdI) (v := x0)) (Sns.cons (Sn.enc (c := (cdL 1 cdI)) (v := x1)) Sns.nil)) (.inl (by kernel_rfl)) hv2 ?_
        refine RunS.segF (n := 46) e_evening_Check_ok 4 [(0, .v (.int .i64 x0)), (1, .sl 1 (x1.map cdI.enc)), (2, .sl 1 (x2.map (cdL 1 (cdL 1 cdI)).enc)), (11, .v (.bool (!v2)))] [] (by kernel_rfl) ?_
        have hq := Option.some.inj hj4; subst hq
        exact RunS.done rfl (Wk.fr (by kernel_rfl))
      · rw [if_f hc18] at hj4
        rw [hc18]
        refine RunS.segF (n := 46) e_evening_Check_ok 7 [(0, .v (.int .i64 x0)), (1, .sl 1 (x1.map cdI.enc)), (2, .sl 1 (x2.map (cdL 1 (cdL 1 cdI)).enc)), (11, .v (.bool false))] [] (by kernel_rfl) ?_
        have hq := Option.some.inj hj4; subst hq
        exact RunS.done rfl (Wk.fr (by kernel_rfl))
  refine Sem.cond (b := j4) (by kernel_rfl) (fun hb5 => ?_) (fun hb5 => ?_)
  · rw [if_pos hb5] at h
    refine Sem.seq ?_
    refine Sem.runS (s1 := ⟨Fr 46 [(6, .v (.int .i64 0)), (7, .v (.int .i64 90))], []⟩) ?_ ?_
    · refine RunS.segF (n := 46) e_evening_Check_ok 2 [(6, .v (.int .i64 0)), (7, .v (.int .i64 90))] [] (by kernel_rfl) ?_
      exact RunS.done rfl (Wk.fr (by kernel_rfl))
    refine Sem.ret ?_
    have hq := Option.some.inj h; subst hq
    exact ⟨⟨Fr 46 [(6, .v (.int .i64 0)), (7, .v (.int .i64 90))], []⟩, (Wk.fr (by kernel_rfl)), .inr rfl, [.v (.int .i64 0), .v (.int .i64 90)], (by kernel_rfl), (by kernel_rfl)⟩
  · rw [if_f hb5] at h
    refine Sem.seq ?_
    refine Sem.runS (s1 := ⟨Fr 46 [(0, .v (.int .i64 x0)), (1, .sl 1 (x1.map cdI.enc)), (2, .sl 1 (x2.map (cdL 1 (cdL 1 cdI)).enc)), (26, .v (.bool (decide ((x2.length : Int) > 64))))], []⟩) ?_ ?_
    · refine RunS.segF (n := 46) e_evening_Check_ok 1 [(0, .v (.int .i64 x0)), (1, .sl 1 (x1.map cdI.enc)), (2, .sl 1 (x2.map (cdL 1 (cdL 1 cdI)).enc)), (27, .sl 1 (x2.map (cdL 1 (cdL 1 cdI)).enc))] [] (by kernel_rfl) ?_
      refine RunS.one e_evening_Check_ok 0 rfl (op_q (wantedA_none rfl) rfl (q_len (a := .sl 1 (x2.map (cdL 1 (cdL 1 cdI)).enc)) (by kernel_rfl) (len_sl (el := 49) (by kernel_rfl)))) ?_
      refine RunS.segF (n := 46) e_evening_Check_ok 2 [(0, .v (.int .i64 x0)), (1, .sl 1 (x1.map cdI.enc)), (2, .sl 1 (x2.map (cdL 1 (cdL 1 cdI)).enc)), (26, .v (.bool (decide ((x2.length : Int) > 64))))] [] (by kernel_rfl) ?_
      exact RunS.done rfl (Wk.fr (by kernel_rfl))
    refine Sem.cond (b := (decide ((x2.length : Int) > 64))) (by kernel_rfl) (fun hb6 => ?_) (fun hb6 => ?_)
    · rw [if_pos hb6] at h
      refine Sem.seq ?_
      refine Sem.runS (s1 := ⟨Fr 46 [(6, .v (.int .i64 0)), (7, .v (.int .i64 7))], []⟩) ?_ ?_
      · refine RunS.segF (n := 46) e_evening_Check_ok 2 [(6, .v (.int .i64 0)), (7, .v (.int .i64 7))] [] (by kernel_rfl) ?_
        exact RunS.done rfl (Wk.fr (by kernel_rfl))
      refine Sem.ret ?_
      have hq := Option.some.inj h; subst hq
      exact ⟨⟨Fr 46 [(6, .v (.int .i64 0)), (7, .v (.int .i64 7))], []⟩, (Wk.fr (by kernel_rfl)), .inr rfl, [.v (.int .i64 0), .v (.int .i64 7)], (by kernel_rfl), (by kernel_rfl)⟩
    · rw [if_f hb6] at h
      refine Sem.skip ?_
      refine Sem.seq ?_
      refine Sem.seq ?_
      refine Sem.runS (s1 := ⟨Fr 46 [(0, .v (.int .i64 x0)), (1, .sl 1 (x1.map cdI.enc)), (30, .sl 1 (x2.map (cdL 1 (cdL 1 cdI)).enc)), (31, .v (.int .i64 (x2.length : Int))), (32, .v (.int .i64 0))], []⟩) ?_ ?_
      · refine RunS.segF (n := 46) e_evening_Check_ok 1 [(0, .v (.int .i64 x0)), (1, .sl 1 (x1.map cdI.enc)), (30, .sl 1 (x2.map (cdL 1 (cdL 1 cdI)).enc))] [] (by kernel_rfl) ?_
        refine RunS.one e_evening_Check_ok 0 rfl (op_q (wantedA_none rfl) rfl (q_len (a := .sl 1 (x2.map (cdL 1 (cdL 1 cdI)).enc)) (by kernel_rfl) (len_sl (el := 49) (by kernel_rfl)))) ?_
        refine RunS.segF (n := 46) e_evening_Check_ok 1 [(0, .v (.int .i64 x0)), (1, .sl 1 (x1.map cdI.enc)), (30, .sl 1 (x2.map (cdL 1 (cdL 1 cdI)).enc)), (31, .v (.int .i64 (x2.length : Int))), (32, .v (.int .i64 0))] [] (by kernel_rfl) ?_
        exact RunS.done rfl (Wk.fr (by kernel_rfl))
      refine Sem.block ?_
      obtain ⟨r14, hr14, h⟩ := Option.bind_eq_some_iff.1 h
      refine Sem.loop (n := 100000) ?_
      rcases r14 with w15 | w16
      · try dsimp only at h
        refine Sem.cutN (SemN.wk (s1 := ⟨Fr 46 [(0, .v (.int .i64 x0)), (1, .sl 1 (x1.map cdI.enc)), (30, .sl 1 (x2.map (cdL 1 (cdL 1 cdI)).enc)), (31, .v (.int .i64 (x2.length : Int))), (32, .v (.int .i64 0))], []⟩) (Wk.fr (by kernel_rfl)) (evening_Check_1_ok x0 x1 x2 _ 0 _ hr14)) ?_
        refine Sem.seq ?_
        refine Sem.runS (s1 := ⟨Fr 46 [(6, .v (.int .i64 0)), (7, .v (.int .i64 0))], []⟩) ?_ ?_
        · refine RunS.segF (n := 46) e_evening_Check_ok 2 [(6, .v (.int .i64 0)), (7, .v (.int .i64 0))] [] (by kernel_rfl) ?_
          exact RunS.done rfl (Wk.fr (by kernel_rfl))
        refine Sem.ret ?_
        have hq := Option.some.inj h; subst hq
        exact ⟨⟨Fr 46 [(6, .v (.int .i64 0)), (7, .v (.int .i64 0))], []⟩, (Wk.fr (by kernel_rfl)), .inr rfl, [.v (.int .i64 0), .v (.int .i64 0)], (by kernel_rfl), (by kernel_rfl)⟩
      · try dsimp only at h
        refine Sem.cutN (SemN.wk (s1 := ⟨Fr 46 [(0, .v (.int .i64 x0)), (1, .sl 1 (x1.map cdI.enc)), (30, .sl 1 (x2.map (cdL 1 (cdL 1 cdI)).enc)), (31, .v (.int .i64 (x2.length : Int))), (32, .v (.int .i64 0))], []⟩) (Wk.fr (by kernel_rfl)) (evening_Check_1_ok x0 x1 x2 _ 0 _ hr14)) ?_
        have hq := Option.some.inj h; subst hq
        exact ⟨⟨Fr 46 [(6, .v (.int .i64 w16.1)), (7, .v (.int .i64 w16.2))], []⟩, (Wk.fr (by kernel_rfl)), .inr rfl, [.v (.int .i64 w16.1), .v (.int .i64 w16.2)], (by kernel_rfl), (by kernel_rfl)⟩
def t_evening_Check : List AV → Option AV := told cs_evening_Check (fun a => evening_Check a.1 a.2.1 a.2.2.1) er_evening_Check
theorem x_evening_Check : XOk 28 t_evening_Check := by
  refine EnvOk.x (E := e_evening_Check) (contract_ok e_evening_Check_ok (fn := Tryd.f28) (c := cb_evening_Check) ?h1 ?h2 ⟨Tryd.call28⟩ cs_evening_Check (fun a => evening_Check a.1 a.2.1 a.2.2.1) er_evening_Check (fun a => (by show 3 ≤ 46; decide)) ?h3 ?h4) rfl rfl
  case h1 => kernel_rfl
  case h2 => kernel_rfl
  case h3 => intro b; kernel_rfl
  case h4 => exact fun a b h => evening_Check_sem a.1 a.2.1 a.2.2.1 b h
end Go.Proofs.YthofgamegondnaaDoor

namespace Go.Proofs.YthofgamegondnaaDoor
open Go.RowKit
/- trestle/evening.valid -/
noncomputable def e_evening_valid : Env := (E0.withX 28 t_evening_Check)
theorem e_evening_valid_ok : EnvOk e_evening_valid := (EnvOk.withX E0_ok x_evening_Check.1 x_evening_Check.2)
noncomputable def cb_evening_valid : Code := codeOf Tryd.f60
def evening_valid (x0 : Int) (x1 : (List (List (List Int)))) : Option (Bool) :=
  (evening_Check x0 [] x1).bind fun v1 =>
  some (v1.2 == 0)
def cs_evening_valid : Cs (Int × (List (List (List Int))) × Unit) := (csC cdI (csC (cdL 1 (cdL 1 (cdL 1 cdI))) csN))
def er_evening_valid (r : Bool) : AV := cdB.enc r
set_option maxHeartbeats 4000000 in
set_option maxRecDepth 100000 in
theorem evening_valid_sem (x0 : Int) (x1 : (List (List (List Int)))) (r : Bool) (h : evening_valid x0 x1 = some r) : Sem e_evening_valid ⟨none, false⟩ cb_evening_valid ⟨Fr 15 (pairs0 0 (cs_evening_valid.enc (x0, x1, ()))), []⟩ fun e s' => (e = .normal ∨ e = .ret) ∧ ∃ xs, resA e_evening_valid.P s'.fr s'.hp Tryd.f60.results.toList = some xs ∧ retA xs = er_evening_valid r := by
  unfold evening_valid at h
  refine Sem.wkQ (Sem.wk (s1 := ⟨Fr 15 [(0, .v (.int .i64 x0)), (1, .sl 1 (x1.map (cdL 1 (cdL 1 cdI)).enc))], []⟩) (Wk.fr (by kernel_rfl)) ?_)
  refine Sem.seq ?_
  refine Sem.runS (s1 := ⟨Fr 15 [(0, .v (.int .i64 x0)), (1, .sl 1 (x1.map (cdL 1 (cdL 1 cdI)).enc))], []⟩) ?_ ?_
  · refine RunS.segF (n := 15) e_evening_valid_ok 1 [(0, .v (.int .i64 x0)), (1, .sl 1 (x1.map (cdL 1 (cdL 1 cdI)).enc))] [] (by kernel_rfl) ?_
    exact RunS.done rfl (Wk.fr (by kernel_rfl))
  refine Sem.seq ?_
  obtain ⟨v1, hv1, h⟩ := Option.bind_eq_some_iff.1 h
  refine Sem.runS (s1 := ⟨Fr 15 [(6, .v (.int .i64 v1.2))], []⟩) ?_ ?_
  · refine RunS.segF (n := 15) e_evening_valid_ok 2 [(8, .v (.int .i64 x0)), (9, .sl 1 (x1.map (cdL 1 (cdL 1 cdI)).enc))] [] (by kernel_rfl) ?_
    refine RunS.call e_evening_valid_ok (fid := 28) (s := cs_evening_Check) (F := fun a => evening_Check a.1 a.2.1 a.2.2.1) (er := er_evening_Check) (xs := [.v (.int .i64 x0), .e0, .sl 1 (x1.map (cdL 1 (cdL 1 cdI)).enc)]) (a := (x0, [], x1, ())) rfl (wantedA_none rfl) (by kernel_rfl) (by kernel_rfl) (by kernel_rfl) (by kernel_rfl) (Sns.cons (Sn.enc (c := cdI) (v := x0)) (Sns.cons Sn.e0 (Sns.cons (Sn.enc (c := (cdL 1 (cdL 1 (cdL 1 cdI)))) (v := x1)) Sns.nil))) (.inl (by kernel_rfl)) hv1 ?_
    refine RunS.segF (n := 15) e_evening_valid_ok 5 [(6, .v (.int .i64 v1.2))] [] (by kernel_rfl) ?_
    exact RunS.done rfl (Wk.fr (by kernel_rfl))
  refine Sem.seq ?_
  refine Sem.runS (s1 := ⟨Fr 15 [(4, .v (.bool (v1.2 == 0)))], []⟩) ?_ ?_
  · refine RunS.segF (n := 15) e_evening_valid_ok 3 [(4, .v (.bool (v1.2 == 0)))] [] (by kernel_rfl) ?_
    exact RunS.done rfl (Wk.fr (by kernel_rfl))
  refine Sem.ret ?_
  have hq := Option.some.inj h; subst hq
  exact ⟨⟨Fr 15 [(4, .v (.bool (v1.2 == 0)))], []⟩, (Wk.fr (by kernel_rfl)), .inr rfl, [.v (.bool (v1.2 == 0))], (by kernel_rfl), (by kernel_rfl)⟩
def t_evening_valid : List AV → Option AV := told cs_evening_valid (fun a => evening_valid a.1 a.2.1) er_evening_valid
theorem x_evening_valid : XOk 60 t_evening_valid := by
  refine EnvOk.x (E := e_evening_valid) (contract_ok e_evening_valid_ok (fn := Tryd.f60) (c := cb_evening_valid) ?h1 ?h2 ⟨Tryd.call60⟩ cs_evening_valid (fun a => evening_valid a.1 a.2.1) er_evening_valid (fun a => (by show 2 ≤ 15; decide)) ?h3 ?h4) rfl rfl
  case h1 => kernel_rfl
  case h2 => kernel_rfl
  case h3 => intro b; kernel_rfl
  case h4 => exact fun a b h => evening_valid_sem a.1 a.2.1 b h
end Go.Proofs.YthofgamegondnaaDoor

namespace Go.Proofs.YthofgamegondnaaDoor
open Go.RowKit
/- trestle/evening.Hosts -/
noncomputable def e_evening_Hosts : Env := (E0.withX 60 t_evening_valid)
theorem e_evening_Hosts_ok : EnvOk e_evening_Hosts := (EnvOk.withX E0_ok x_evening_valid.1 x_evening_valid.2)
noncomputable def cb_evening_Hosts : Code := codeOf Tryd.f42

noncomputable def e_evening_Hosts_k1 : Env := E0
theorem e_evening_Hosts_k1_ok : EnvOk e_evening_Hosts_k1 := E0_ok
noncomputable def cb_evening_Hosts_k1 : Code := codeOf Tryd.f80

noncomputable def e_evening_Hosts_k1_k1 : Env := E0
theorem e_evening_Hosts_k1_k1_ok : EnvOk e_evening_Hosts_k1_k1 := E0_ok
noncomputable def cb_evening_Hosts_k1_k1 : Code := codeOf Tryd.f81
def evening_Hosts_k1_k1 (y0 : (List Int)) (y1 : (List (List Int))) (y2 : (List Int)) (y3 : Int) (y4 : Int) : Option (Int) :=
  (idx y0 y3).bind fun v1 =>
  (idx y0 y4).bind fun v2 =>
  if (v1 != v2) = true then
  (idx y0 y3).bind fun v4 =>
  (idx y0 y4).bind fun v5 =>
  some (wr .i64 (v4 - v5))
  else
  some (wr .i64 (y3 - y4))
set_option maxHeartbeats 4000000 in
set_option maxRecDepth 100000 in
theorem evening_Hosts_k1_k1_sem (y0 : (List Int)) (y1 : (List (List Int))) (y2 : (List Int)) (y3 : Int) (y4 : Int) (r : Int) (h : evening_Hosts_k1_k1 y0 y1 y2 y3 y4 = some r) : SemY e_evening_Hosts_k1_k1 ⟨none, false⟩ cb_evening_Hosts_k1_k1 ⟨Fr 27 (pairs0 0 [.v (.int .i64 y3), .v (.int .i64 y4), .pt 0 0 0]), [some ⟨1, 24, [.rf 1 0 y0.length y0.length], false⟩, some ⟨1, 3, (y0.map cdI.enc), false⟩, mk 1 24 (y1.map (cdL 1 cdI).enc), mk 1 3 (y2.map cdI.enc)]⟩ fun x s' => (x = .normal ∨ x = .ret) ∧ ∃ ys, resA e_evening_Hosts_k1_k1.P s'.fr s'.hp Tryd.f81.results.toList = some ys ∧ (retA ys = .v (.int .i64 r) ∧ s'.hp = [some ⟨1, 24, [.rf 1 0 y0.length y0.length], false⟩, some ⟨1, 3, (y0.map cdI.enc), false⟩, mk 1 24 (y1.map (cdL 1 cdI).enc), mk 1 3 (y2.map cdI.enc)]) := by
  unfold evening_Hosts_k1_k1 at h
  refine SemY.seq ?_
  refine SemY.region ?_
  refine RunY.segF (n := 27) e_evening_Hosts_k1_k1_ok 1 [(0, .v (.int .i64 y3)), (1, .v (.int .i64 y4)), (2, .pt 0 0 0)] [some ⟨1, 24, [.rf 1 0 y0.length y0.length], false⟩, some ⟨1, 3, (y0.map cdI.enc), false⟩, mk 1 24 (y1.map (cdL 1 cdI).enc), mk 1 3 (y2.map cdI.enc)] (by kernel_rfl) ?_
  refine RunY.done rfl (SemY.fr (l' := [(0, .v (.int .i64 y3)), (1, .v (.int .i64 y4)), (2, .pt 0 0 0)]) (by kernel_rfl) ?_)
  refine SemY.seq ?_
  refine SemY.seq ?_
  refine SemY.runDY e_evening_Hosts_k1_k1_ok (by kernel_rfl) ?_
  refine RunDY.segF (n := 27) e_evening_Hosts_k1_k1_ok 2 [(0, .v (.int .i64 y3)), (1, .v (.int .i64 y4)), (2, .pt 0 0 0), (6, .rf 1 0 y0.length y0.length), (7, .v (.int .i64 y3))] [some ⟨1, 24, [.rf 1 0 y0.length y0.length], false⟩, some ⟨1, 3, (y0.map cdI.enc), false⟩, mk 1 24 (y1.map (cdL 1 cdI).enc), mk 1 3 (y2.map cdI.enc)] (by kernel_rfl) (by kernel_rfl) ?_
  obtain ⟨v1, hv1, h⟩ := Option.bind_eq_some_iff.1 h
  refine RunDY.one e_evening_Hosts_k1_k1_ok rfl (by kernel_rfl) (opd_q (by kernel_rfl) (wantedA_none rfl) rfl (q_indexAddr (a := .rf 1 0 y0.length y0.length) (b := .v (.int .i64 y3)) (by kernel_rfl) (by kernel_rfl) (ix_rl (e := cdI.enc) (xs := y0) (t' := 3) (el := 3) (k := 1) (ki := .i64) (by kernel_rfl) (by kernel_rfl) (by kernel_rfl) hv1)) (by kernel_rfl)) ?_
  refine RunDY.one e_evening_Hosts_k1_k1_ok rfl (by kernel_rfl) (opd_q (by kernel_rfl) (wantedA_none rfl) rfl (q_load (p := .pt 1 y3.toNat 0) (by kernel_rfl) (ld_blk (B := ⟨1, 3, (y0.map cdI.enc), false⟩) (m := 1) (g := false) (e := cdI.enc) (xs := y0) (by kernel_rfl) (by kernel_rfl) (by kernel_rfl) rfl (idx_at hv1).2 (by kernel_rfl))) (by kernel_rfl)) ?_
  refine RunDY.segF (n := 27) e_evening_Hosts_k1_k1_ok 2 [(0, .v (.int .i64 y3)), (1, .v (.int .i64 y4)), (2, .pt 0 0 0), (9, .v (.int .i64 v1)), (10, .rf 1 0 y0.length y0.length), (11, .v (.int .i64 y4))] [some ⟨1, 24, [.rf 1 0 y0.length y0.length], false⟩, some ⟨1, 3, (y0.map cdI.enc), false⟩, mk 1 24 (y1.map (cdL 1 cdI).enc), mk 1 3 (y2.map cdI.enc)] (by kernel_rfl) (by kernel_rfl) ?_
  obtain ⟨v2, hv2, h⟩ := Option.bind_eq_some_iff.1 h
  refine RunDY.one e_evening_Hosts_k1_k1_ok rfl (by kernel_rfl) (opd_q (by kernel_rfl) (wantedA_none rfl) rfl (q_indexAddr (a := .rf 1 0 y0.length y0.length) (b := .v (.int .i64 y4)) (by kernel_rfl) (by kernel_rfl) (ix_rl (e := cdI.enc) (xs := y0) (t' := 3) (el := 3) (k := 1) (ki := .i64) (by kernel_rfl) (by kernel_rfl) (by kernel_rfl) hv2)) (by kernel_rfl)) ?_
  refine RunDY.one e_evening_Hosts_k1_k1_ok rfl (by kernel_rfl) (opd_q (by kernel_rfl) (wantedA_none rfl) rfl (q_load (p := .pt 1 y4.toNat 0) (by kernel_rfl) (ld_blk (B := ⟨1, 3, (y0.map cdI.enc), false⟩) (m := 1) (g := false) (e := cdI.enc) (xs := y0) (by kernel_rfl) (by kernel_rfl) (by kernel_rfl) rfl (idx_at hv2).2 (by kernel_rfl))) (by kernel_rfl)) ?_
  refine RunDY.segF (n := 27) e_evening_Hosts_k1_k1_ok 1 [(0, .v (.int .i64 y3)), (1, .v (.int .i64 y4)), (2, .pt 0 0 0), (14, .v (.bool (v1 != v2)))] [some ⟨1, 24, [.rf 1 0 y0.length y0.length], false⟩, some ⟨1, 3, (y0.map cdI.enc), false⟩, mk 1 24 (y1.map (cdL 1 cdI).enc), mk 1 3 (y2.map cdI.enc)] (by kernel_rfl) (by kernel_rfl) ?_
  refine RunDY.done rfl (SemY.fr (l' := [(0, .v (.int .i64 y3)), (1, .v (.int .i64 y4)), (2, .pt 0 0 0), (14, .v (.bool (v1 != v2)))]) (by kernel_rfl) ?_)
  refine SemY.cond (b := (v1 != v2)) (by kernel_rfl) (fun hb3 => ?_) (fun hb3 => ?_)
  · rw [if_pos hb3] at h
    refine SemY.seq ?_
    refine SemY.runDY e_evening_Hosts_k1_k1_ok (by kernel_rfl) ?_
    refine RunDY.segF (n := 27) e_evening_Hosts_k1_k1_ok 2 [(1, .v (.int .i64 y4)), (2, .pt 0 0 0), (15, .rf 1 0 y0.length y0.length), (16, .v (.int .i64 y3))] [some ⟨1, 24, [.rf 1 0 y0.length y0.length], false⟩, some ⟨1, 3, (y0.map cdI.enc), false⟩, mk 1 24 (y1.map (cdL 1 cdI).enc), mk 1 3 (y2.map cdI.enc)] (by kernel_rfl) (by kernel_rfl) ?_
    obtain ⟨v4, hv4, h⟩ := Option.bind_eq_some_iff.1 h
    refine RunDY.one e_evening_Hosts_k1_k1_ok rfl (by kernel_rfl) (opd_q (by kernel_rfl) (wantedA_none rfl) rfl (q_indexAddr (a := .rf 1 0 y0.length y0.length) (b := .v (.int .i64 y3)) (by kernel_rfl) (by kernel_rfl) (ix_rl (e := cdI.enc) (xs := y0) (t' := 3) (el := 3) (k := 1) (ki := .i64) (by kernel_rfl) (by kernel_rfl) (by kernel_rfl) hv4)) (by kernel_rfl)) ?_
    refine RunDY.one e_evening_Hosts_k1_k1_ok rfl (by kernel_rfl) (opd_q (by kernel_rfl) (wantedA_none rfl) rfl (q_load (p := .pt 1 y3.toNat 0) (by kernel_rfl) (ld_blk (B := ⟨1, 3, (y0.map cdI.enc), false⟩) (m := 1) (g := false) (e := cdI.enc) (xs := y0) (by kernel_rfl) (by kernel_rfl) (by kernel_rfl) rfl (idx_at hv4).2 (by kernel_rfl))) (by kernel_rfl)) ?_
    refine RunDY.segF (n := 27) e_evening_Hosts_k1_k1_ok 2 [(18, .v (.int .i64 v4)), (19, .rf 1 0 y0.length y0.length), (20, .v (.int .i64 y4))] [some ⟨1, 24, [.rf 1 0 y0.length y0.length], false⟩, some ⟨1, 3, (y0.map cdI.enc), false⟩, mk 1 24 (y1.map (cdL 1 cdI).enc), mk 1 3 (y2.map cdI.enc)] (by kernel_rfl) (by kernel_rfl) ?_
    obtain ⟨v5, hv5, h⟩ := Option.bind_eq_some_iff.1 h
    refine RunDY.one e_evening_Hosts_k1_k1_ok rfl (by kernel_rfl) (opd_q (by kernel_rfl) (wantedA_none rfl) rfl (q_indexAddr (a := .rf 1 0 y0.length y0.length) (b := .v (.int .i64 y4)) (by kernel_rfl) (by kernel_rfl) (ix_rl (e := cdI.enc) (xs := y0) (t' := 3) (el := 3) (k := 1) (ki := .i64) (by kernel_rfl) (by kernel_rfl) (by kernel_rfl) hv5)) (by kernel_rfl)) ?_
    refine RunDY.one e_evening_Hosts_k1_k1_ok rfl (by kernel_rfl) (opd_q (by kernel_rfl) (wantedA_none rfl) rfl (q_load (p := .pt 1 y4.toNat 0) (by kernel_rfl) (ld_blk (B := ⟨1, 3, (y0.map cdI.enc), false⟩) (m := 1) (g := false) (e := cdI.enc) (xs := y0) (by kernel_rfl) (by kernel_rfl) (by kernel_rfl) rfl (idx_at hv5).2 (by kernel_rfl))) (by kernel_rfl)) ?_
    refine RunDY.segF (n := 27) e_evening_Hosts_k1_k1_ok 2 [(5, .v (.int .i64 (wr .i64 (v4 - v5))))] [some ⟨1, 24, [.rf 1 0 y0.length y0.length], false⟩, some ⟨1, 3, (y0.map cdI.enc), false⟩, mk 1 24 (y1.map (cdL 1 cdI).enc), mk 1 3 (y2.map cdI.enc)] (by kernel_rfl) (by kernel_rfl) ?_
    refine RunDY.done rfl (SemY.fr (l' := [(5, .v (.int .i64 (wr .i64 (v4 - v5))))]) (by kernel_rfl) ?_)
    refine SemY.ret ?_
    have hq := Option.some.inj h; subst hq
    exact ⟨.inr rfl, [.v (.int .i64 (wr .i64 (v4 - v5)))], (by kernel_rfl), (by kernel_rfl), (by kernel_rfl)⟩
  · rw [if_f hb3] at h
    refine SemY.skip ?_
    refine SemY.seq ?_
    refine SemY.region ?_
    refine RunY.segF (n := 27) e_evening_Hosts_k1_k1_ok 4 [(5, .v (.int .i64 (wr .i64 (y3 - y4))))] [some ⟨1, 24, [.rf 1 0 y0.length y0.length], false⟩, some ⟨1, 3, (y0.map cdI.enc), false⟩, mk 1 24 (y1.map (cdL 1 cdI).enc), mk 1 3 (y2.map cdI.enc)] (by kernel_rfl) ?_
    refine RunY.done rfl (SemY.fr (l' := [(5, .v (.int .i64 (wr .i64 (y3 - y4))))]) (by kernel_rfl) ?_)
    refine SemY.ret ?_
    have hq := Option.some.inj h; subst hq
    exact ⟨.inr rfl, [.v (.int .i64 (wr .i64 (y3 - y4)))], (by kernel_rfl), (by kernel_rfl), (by kernel_rfl)⟩
def evening_Hosts_k1_j2 (y0 : (List Int)) (y1 : (List (List Int))) (y2 : (List Int)) (y3 : (List Int)) (c19 : Int) (c20 : Int) (v23 : Int) : Option ((Int)) :=
  if (decide (v23 < 0)) = true then
  (idx y3 c20).bind fun v25 =>
  some v25
  else
  some c19
def evening_Hosts_k1_1 (y0 : (List Int)) (y1 : (List (List Int))) (y2 : (List Int)) (y3 : (List Int)) : Nat → Int → Int → Option ((Int))
  | 0, _, _ => none
  | f + 1, c19, c20 =>
    if (decide (c20 < (y3.length : Int))) = true then
    (idx y3 c20).bind fun v22 =>
    (evening_Hosts_k1_k1 y0 y1 y2 v22 c19).bind fun v23 =>
    (evening_Hosts_k1_j2 y0 y1 y2 y3 c19 c20 v23).bind fun r27 =>
    evening_Hosts_k1_1 y0 y1 y2 y3 f r27 (wr .i64 (c20 + 1))
    else
    some c19
def evening_Hosts_k1 (y0 : (List Int)) (y1 : (List (List Int))) (y2 : (List Int)) (y3 : (List Int)) : Option (Int) :=
  if (decide ((y3.length : Int) < 1)) = true then none else
  (idx y3 0).bind fun v2 =>
  (evening_Hosts_k1_1 y0 y1 y2 y3 100000 v2 1).bind fun r29 =>
  some r29
set_option maxHeartbeats 4000000 in
set_option maxRecDepth 100000 in
theorem evening_Hosts_k1_j2_ok (y0 : (List Int)) (y1 : (List (List Int))) (y2 : (List Int)) (y3 : (List Int)) (c19 : Int) (c20 : Int) (v23 : Int) (r : (Int)) (h : evening_Hosts_k1_j2 y0 y1 y2 y3 c19 c20 v23 = some r) : SemY e_evening_Hosts_k1 ⟨none, false⟩ (pc cb_evening_Hosts_k1 [1, 1, 1, 0, 1, 0, 0, 1, 0, 0, 1]) ⟨Fr 33 [(0, .sl 1 (y3.map cdI.enc)), (1, .fn 81 [] [.pt 0 0 0]), (5, .v (.int .i64 c19)), (6, .v (.int .i64 c20)), (27, .v (.bool (decide (v23 < 0))))], [some ⟨1, 24, [.rf 1 0 y0.length y0.length], false⟩, some ⟨1, 3, (y0.map cdI.enc), false⟩, mk 1 24 (y1.map (cdL 1 cdI).enc), mk 1 3 (y2.map cdI.enc)]⟩ (fun e s => e = .normal ∧ WkY e_evening_Hosts_k1 s ⟨Fr 33 [(0, .sl 1 (y3.map cdI.enc)), (1, .fn 81 [] [.pt 0 0 0]), (5, .v (.int .i64 r)), (6, .v (.int .i64 c20))], [some ⟨1, 24, [.rf 1 0 y0.length y0.length], false⟩, some ⟨1, 3, (y0.map cdI.enc), false⟩, mk 1 24 (y1.map (cdL 1 cdI).enc), mk 1 3 (y2.map cdI.enc)]⟩) := by
  unfold evening_Hosts_k1_j2 at h
  refine SemY.cond (b := (decide (v23 < 0))) (by kernel_rfl) (fun hb24 => ?_) (fun hb24 => ?_)
  · rw [if_pos hb24] at h
    refine SemY.region ?_
    refine RunY.segF (n := 33) e_evening_Hosts_k1_ok 2 [(0, .sl 1 (y3.map cdI.enc)), (1, .fn 81 [] [.pt 0 0 0]), (6, .v (.int .i64 c20)), (28, .sl 1 (y3.map cdI.enc)), (29, .v (.int .i64 c20))] [some ⟨1, 24, [.rf 1 0 y0.length y0.length], false⟩, some ⟨1, 3, (y0.map cdI.enc), false⟩, mk 1 24 (y1.map (cdL 1 cdI).enc), mk 1 3 (y2.map cdI.enc)] (by kernel_rfl) ?_
    obtain ⟨v25, hv25, h⟩ := Option.bind_eq_some_iff.1 h
    refine RunY.one e_evening_Hosts_k1_ok 0 rfl (op_q (wantedA_none rfl) rfl (q_indexAddr (a := .sl 1 (y3.map cdI.enc)) (b := .v (.int .i64 c20)) (by kernel_rfl) (by kernel_rfl) (ix_sl (e := cdI.enc) (el := 3) (k := 1) (ki := .i64) (by kernel_rfl) (by kernel_rfl) hv25))) ?_
    refine RunY.segF (n := 33) e_evening_Hosts_k1_ok 2 [(0, .sl 1 (y3.map cdI.enc)), (1, .fn 81 [] [.pt 0 0 0]), (5, .v (.int .i64 v25)), (6, .v (.int .i64 c20))] [some ⟨1, 24, [.rf 1 0 y0.length y0.length], false⟩, some ⟨1, 3, (y0.map cdI.enc), false⟩, mk 1 24 (y1.map (cdL 1 cdI).enc), mk 1 3 (y2.map cdI.enc)] (by kernel_rfl) ?_
    refine RunY.done rfl ?_
    have hq := Option.some.inj h; subst hq
    exact ⟨rfl, (WkY.fr (by kernel_rfl))⟩
  · rw [if_f hb24] at h
    refine SemY.skip ?_
    have hq := Option.some.inj h; subst hq
    exact ⟨rfl, (WkY.fr (by kernel_rfl))⟩
set_option maxHeartbeats 4000000 in
set_option maxRecDepth 100000 in
theorem evening_Hosts_k1_1_ok (y0 : (List Int)) (y1 : (List (List Int))) (y2 : (List Int)) (y3 : (List Int)) : ∀ (f : Nat) (c19 : Int) (c20 : Int) (r : (Int)), evening_Hosts_k1_1 y0 y1 y2 y3 f c19 c20 = some r → SemYN e_evening_Hosts_k1 ⟨none, false⟩ (pc cb_evening_Hosts_k1 [1, 1, 1, 0, 1, 0, 0]) f ⟨Fr 33 [(0, .sl 1 (y3.map cdI.enc)), (1, .fn 81 [] [.pt 0 0 0]), (5, .v (.int .i64 c19)), (6, .v (.int .i64 c20))], [some ⟨1, 24, [.rf 1 0 y0.length y0.length], false⟩, some ⟨1, 3, (y0.map cdI.enc), false⟩, mk 1 24 (y1.map (cdL 1 cdI).enc), mk 1 3 (y2.map cdI.enc)]⟩ (fun e s => e = (.exit 0) ∧ WkY e_evening_Hosts_k1 s ⟨Fr 33 [(5, .v (.int .i64 r))], [some ⟨1, 24, [.rf 1 0 y0.length y0.length], false⟩, some ⟨1, 3, (y0.map cdI.enc), false⟩, mk 1 24 (y1.map (cdL 1 cdI).enc), mk 1 3 (y2.map cdI.enc)]⟩) := by
  intro f
  induction f with
  | zero => intro c19 c20 r h; cases h
  | succ f ih0 =>
    intro c19 c20 r h
    have ih := fun (c19 : Int) (c20 : Int) => ih0 c19 c20 r
    unfold evening_Hosts_k1_1 at h
    refine SemYN.succ ?_
    refine SemY.seq ?_
    refine SemY.seq ?_
    refine SemY.region ?_
    refine RunY.segF (n := 33) e_evening_Hosts_k1_ok 2 [(0, .sl 1 (y3.map cdI.enc)), (1, .fn 81 [] [.pt 0 0 0]), (5, .v (.int .i64 c19)), (6, .v (.int .i64 c20)), (14, .v (.int .i64 c20)), (15, .sl 1 (y3.map cdI.enc))] [some ⟨1, 24, [.rf 1 0 y0.length y0.length], false⟩, some ⟨1, 3, (y0.map cdI.enc), false⟩, mk 1 24 (y1.map (cdL 1 cdI).enc), mk 1 3 (y2.map cdI.enc)] (by kernel_rfl) ?_
    refine RunY.one e_evening_Hosts_k1_ok 0 rfl (op_q (wantedA_none rfl) rfl (q_len (a := .sl 1 (y3.map cdI.enc)) (by kernel_rfl) (len_sl (el := 3) (by kernel_rfl)))) ?_
    refine RunY.segF (n := 33) e_evening_Hosts_k1_ok 1 [(0, .sl 1 (y3.map cdI.enc)), (1, .fn 81 [] [.pt 0 0 0]), (5, .v (.int .i64 c19)), (6, .v (.int .i64 c20)), (17, .v (.bool (decide (c20 < (y3.length : Int)))))] [some ⟨1, 24, [.rf 1 0 y0.length y0.length], false⟩, some ⟨1, 3, (y0.map cdI.enc), false⟩, mk 1 24 (y1.map (cdL 1 cdI).enc), mk 1 3 (y2.map cdI.enc)] (by kernel_rfl) ?_
    refine RunY.done rfl (SemY.fr (l' := [(0, .sl 1 (y3.map cdI.enc)), (1, .fn 81 [] [.pt 0 0 0]), (5, .v (.int .i64 c19)), (6, .v (.int .i64 c20)), (17, .v (.bool (decide (c20 < (y3.length : Int)))))]) (by kernel_rfl) ?_)
    refine SemY.cond (b := (decide (c20 < (y3.length : Int)))) (by kernel_rfl) (fun hb21 => ?_) (fun hb21 => ?_)
    · rw [if_pos hb21] at h
      refine SemY.skip ?_
      refine SemY.seq ?_
      refine SemY.block ?_
      refine SemY.seq ?_
      refine SemY.region ?_
      refine RunY.segF (n := 33) e_evening_Hosts_k1_ok 3 [(0, .sl 1 (y3.map cdI.enc)), (1, .fn 81 [] [.pt 0 0 0]), (5, .v (.int .i64 c19)), (6, .v (.int .i64 c20)), (20, .fn 81 [] [.pt 0 0 0]), (21, .sl 1 (y3.map cdI.enc)), (22, .v (.int .i64 c20))] [some ⟨1, 24, [.rf 1 0 y0.length y0.length], false⟩, some ⟨1, 3, (y0.map cdI.enc), false⟩, mk 1 24 (y1.map (cdL 1 cdI).enc), mk 1 3 (y2.map cdI.enc)] (by kernel_rfl) ?_
      obtain ⟨v22, hv22, h⟩ := Option.bind_eq_some_iff.1 h
      refine RunY.one e_evening_Hosts_k1_ok 0 rfl (op_q (wantedA_none rfl) rfl (q_indexAddr (a := .sl 1 (y3.map cdI.enc)) (b := .v (.int .i64 c20)) (by kernel_rfl) (by kernel_rfl) (ix_sl (e := cdI.enc) (el := 3) (k := 1) (ki := .i64) (by kernel_rfl) (by kernel_rfl) hv22))) ?_
      refine RunY.segF (n := 33) e_evening_Hosts_k1_ok 2 [(0, .sl 1 (y3.map cdI.enc)), (1, .fn 81 [] [.pt 0 0 0]), (5, .v (.int .i64 c19)), (6, .v (.int .i64 c20)), (20, .fn 81 [] [.pt 0 0 0]), (24, .v (.int .i64 v22)), (25, .v (.int .i64 c19))] [some ⟨1, 24, [.rf 1 0 y0.length y0.length], false⟩, some ⟨1, 3, (y0.map cdI.enc), false⟩, mk 1 24 (y1.map (cdL 1 cdI).enc), mk 1 3 (y2.map cdI.enc)] (by kernel_rfl) ?_
      obtain ⟨v23, hv23, h⟩ := Option.bind_eq_some_iff.1 h
      refine RunY.inl (fid := 81) (caps := [.pt 0 0 0]) (xs := [.v (.int .i64 v22), .v (.int .i64 c19)]) (fn := Tryd.f81) (Out := fun x h' => x = .v (.int .i64 v23) ∧ h' = [some ⟨1, 24, [.rf 1 0 y0.length y0.length], false⟩, some ⟨1, 3, (y0.map cdI.enc), false⟩, mk 1 24 (y1.map (cdL 1 cdI).enc), mk 1 3 (y2.map cdI.enc)]) rfl rfl e_evening_Hosts_k1_k1_ok rfl rfl 4 (by kernel_rfl) rfl (wantedA_none rfl) (by kernel_rfl) (by kernel_rfl) (by kernel_rfl) (by kernel_rfl) (by show 3 ≤ 27; decide) (evening_Hosts_k1_k1_sem y0 y1 y2 v22 c19 _ hv23) ?_
      rintro x h' ⟨rfl, rfl⟩
      refine ⟨[some ⟨1, 24, [.rf 1 0 y0.length y0.length], false⟩, some ⟨1, 3, (y0.map cdI.enc), false⟩, mk 1 24 (y1.map (cdL 1 cdI).enc), mk 1 3 (y2.map cdI.enc)], by kernel_rfl, ⟨⟨_, rfl, bu_c (by kernel_rfl) (by kernel_rfl)⟩, ⟨_, rfl, bu_own⟩, ⟨_, rfl, bu_mk⟩, ⟨_, rfl, bu_mk⟩, trivial⟩, ⟨by kernel_rfl, by kernel_rfl⟩, ?_⟩
      refine RunY.segF (n := 33) e_evening_Hosts_k1_ok 1 [(0, .sl 1 (y3.map cdI.enc)), (1, .fn 81 [] [.pt 0 0 0]), (5, .v (.int .i64 c19)), (6, .v (.int .i64 c20)), (27, .v (.bool (decide (v23 < 0))))] [some ⟨1, 24, [.rf 1 0 y0.length y0.length], false⟩, some ⟨1, 3, (y0.map cdI.enc), false⟩, mk 1 24 (y1.map (cdL 1 cdI).enc), mk 1 3 (y2.map cdI.enc)] (by kernel_rfl) ?_
      refine RunY.done rfl (SemY.fr (l' := [(0, .sl 1 (y3.map cdI.enc)), (1, .fn 81 [] [.pt 0 0 0]), (5, .v (.int .i64 c19)), (6, .v (.int .i64 c20)), (27, .v (.bool (decide (v23 < 0))))]) (by kernel_rfl) ?_)
      obtain ⟨r27, hr27, h⟩ := Option.bind_eq_some_iff.1 h
      refine SemY.cut (evening_Hosts_k1_j2_ok y0 y1 y2 y3 c19 c20 v23 _ hr27) ?_
      refine SemY.region ?_
      refine RunY.segF (n := 33) e_evening_Hosts_k1_ok 3 [(0, .sl 1 (y3.map cdI.enc)), (1, .fn 81 [] [.pt 0 0 0]), (5, .v (.int .i64 r27)), (6, .v (.int .i64 (wr .i64 (c20 + 1))))] [some ⟨1, 24, [.rf 1 0 y0.length y0.length], false⟩, some ⟨1, 3, (y0.map cdI.enc), false⟩, mk 1 24 (y1.map (cdL 1 cdI).enc), mk 1 3 (y2.map cdI.enc)] (by kernel_rfl) ?_
      refine RunY.done rfl ?_
      exact SemYN.wk (s1 := ⟨Fr 33 [(0, .sl 1 (y3.map cdI.enc)), (1, .fn 81 [] [.pt 0 0 0]), (5, .v (.int .i64 r27)), (6, .v (.int .i64 (wr .i64 (c20 + 1))))], [some ⟨1, 24, [.rf 1 0 y0.length y0.length], false⟩, some ⟨1, 3, (y0.map cdI.enc), false⟩, mk 1 24 (y1.map (cdL 1 cdI).enc), mk 1 3 (y2.map cdI.enc)]⟩) (WkY.fr (by kernel_rfl)) (ih r27 (wr .i64 (c20 + 1)) h)
    · rw [if_f hb21] at h
      refine SemY.exit ?_
      have hq := Option.some.inj h; subst hq
      exact ⟨rfl, (WkY.fr (by kernel_rfl))⟩
set_option maxHeartbeats 4000000 in
set_option maxRecDepth 100000 in
theorem evening_Hosts_k1_sem (y0 : (List Int)) (y1 : (List (List Int))) (y2 : (List Int)) (y3 : (List Int)) (r : Int) (h : evening_Hosts_k1 y0 y1 y2 y3 = some r) : SemY e_evening_Hosts_k1 ⟨none, false⟩ cb_evening_Hosts_k1 ⟨Fr 33 (pairs0 0 [.sl 1 (y3.map cdI.enc), .fn 81 [] [.pt 0 0 0]]), [some ⟨1, 24, [.rf 1 0 y0.length y0.length], false⟩, some ⟨1, 3, (y0.map cdI.enc), false⟩, mk 1 24 (y1.map (cdL 1 cdI).enc), mk 1 3 (y2.map cdI.enc)]⟩ fun x s' => (x = .normal ∨ x = .ret) ∧ ∃ ys, resA e_evening_Hosts_k1.P s'.fr s'.hp Tryd.f80.results.toList = some ys ∧ (retA ys = .v (.int .i64 r) ∧ s'.hp = [some ⟨1, 24, [.rf 1 0 y0.length y0.length], false⟩, some ⟨1, 3, (y0.map cdI.enc), false⟩, mk 1 24 (y1.map (cdL 1 cdI).enc), mk 1 3 (y2.map cdI.enc)]) := by
  unfold evening_Hosts_k1 at h
  refine SemY.seq ?_
  refine SemY.region ?_
  refine RunY.segF (n := 33) e_evening_Hosts_k1_ok 1 [(0, .sl 1 (y3.map cdI.enc)), (1, .fn 81 [] [.pt 0 0 0])] [some ⟨1, 24, [.rf 1 0 y0.length y0.length], false⟩, some ⟨1, 3, (y0.map cdI.enc), false⟩, mk 1 24 (y1.map (cdL 1 cdI).enc), mk 1 3 (y2.map cdI.enc)] (by kernel_rfl) ?_
  refine RunY.done rfl (SemY.fr (l' := [(0, .sl 1 (y3.map cdI.enc)), (1, .fn 81 [] [.pt 0 0 0])]) (by kernel_rfl) ?_)
  refine SemY.seq ?_
  refine SemY.seq ?_
  refine SemY.region ?_
  refine RunY.segF (n := 33) e_evening_Hosts_k1_ok 1 [(0, .sl 1 (y3.map cdI.enc)), (1, .fn 81 [] [.pt 0 0 0]), (7, .sl 1 (y3.map cdI.enc))] [some ⟨1, 24, [.rf 1 0 y0.length y0.length], false⟩, some ⟨1, 3, (y0.map cdI.enc), false⟩, mk 1 24 (y1.map (cdL 1 cdI).enc), mk 1 3 (y2.map cdI.enc)] (by kernel_rfl) ?_
  refine RunY.one e_evening_Hosts_k1_ok 0 rfl (op_q (wantedA_none rfl) rfl (q_len (a := .sl 1 (y3.map cdI.enc)) (by kernel_rfl) (len_sl (el := 3) (by kernel_rfl)))) ?_
  refine RunY.segF (n := 33) e_evening_Hosts_k1_ok 1 [(0, .sl 1 (y3.map cdI.enc)), (1, .fn 81 [] [.pt 0 0 0]), (9, .v (.bool (decide ((y3.length : Int) < 1))))] [some ⟨1, 24, [.rf 1 0 y0.length y0.length], false⟩, some ⟨1, 3, (y0.map cdI.enc), false⟩, mk 1 24 (y1.map (cdL 1 cdI).enc), mk 1 3 (y2.map cdI.enc)] (by kernel_rfl) ?_
  refine RunY.done rfl (SemY.fr (l' := [(0, .sl 1 (y3.map cdI.enc)), (1, .fn 81 [] [.pt 0 0 0]), (9, .v (.bool (decide ((y3.length : Int) < 1))))]) (by kernel_rfl) ?_)
  refine SemY.cond (b := (decide ((y3.length : Int) < 1))) (by kernel_rfl) (fun hb1 => ?_) (fun hb1 => ?_)
  · rw [if_pos hb1] at h
    cases h
  · rw [if_f hb1] at h
    refine SemY.skip ?_
    refine SemY.seq ?_
    refine SemY.region ?_
    refine RunY.segF (n := 33) e_evening_Hosts_k1_ok 1 [(0, .sl 1 (y3.map cdI.enc)), (1, .fn 81 [] [.pt 0 0 0]), (11, .sl 1 (y3.map cdI.enc))] [some ⟨1, 24, [.rf 1 0 y0.length y0.length], false⟩, some ⟨1, 3, (y0.map cdI.enc), false⟩, mk 1 24 (y1.map (cdL 1 cdI).enc), mk 1 3 (y2.map cdI.enc)] (by kernel_rfl) ?_
    obtain ⟨v2, hv2, h⟩ := Option.bind_eq_some_iff.1 h
    refine RunY.one e_evening_Hosts_k1_ok 0 rfl (op_q (wantedA_none rfl) rfl (q_indexAddr (a := .sl 1 (y3.map cdI.enc)) (b := .v (.int .i64 0)) (by kernel_rfl) (by kernel_rfl) (ix_sl (e := cdI.enc) (el := 3) (k := 1) (ki := .i64) (by kernel_rfl) (by kernel_rfl) hv2))) ?_
    refine RunY.segF (n := 33) e_evening_Hosts_k1_ok 2 [(0, .sl 1 (y3.map cdI.enc)), (1, .fn 81 [] [.pt 0 0 0]), (5, .v (.int .i64 v2))] [some ⟨1, 24, [.rf 1 0 y0.length y0.length], false⟩, some ⟨1, 3, (y0.map cdI.enc), false⟩, mk 1 24 (y1.map (cdL 1 cdI).enc), mk 1 3 (y2.map cdI.enc)] (by kernel_rfl) ?_
    refine RunY.done rfl (SemY.fr (l' := [(0, .sl 1 (y3.map cdI.enc)), (1, .fn 81 [] [.pt 0 0 0]), (5, .v (.int .i64 v2))]) (by kernel_rfl) ?_)
    refine SemY.seq ?_
    refine SemY.seq ?_
    refine SemY.region ?_
    refine RunY.segF (n := 33) e_evening_Hosts_k1_ok 1 [(0, .sl 1 (y3.map cdI.enc)), (1, .fn 81 [] [.pt 0 0 0]), (5, .v (.int .i64 v2)), (6, .v (.int .i64 1))] [some ⟨1, 24, [.rf 1 0 y0.length y0.length], false⟩, some ⟨1, 3, (y0.map cdI.enc), false⟩, mk 1 24 (y1.map (cdL 1 cdI).enc), mk 1 3 (y2.map cdI.enc)] (by kernel_rfl) ?_
    refine RunY.done rfl (SemY.fr (l' := [(0, .sl 1 (y3.map cdI.enc)), (1, .fn 81 [] [.pt 0 0 0]), (5, .v (.int .i64 v2)), (6, .v (.int .i64 1))]) (by kernel_rfl) ?_)
    refine SemY.block ?_
    obtain ⟨r29, hr29, h⟩ := Option.bind_eq_some_iff.1 h
    refine SemY.loop (n := 100000) ?_
    refine SemY.cutN (SemYN.wk (s1 := ⟨Fr 33 [(0, .sl 1 (y3.map cdI.enc)), (1, .fn 81 [] [.pt 0 0 0]), (5, .v (.int .i64 v2)), (6, .v (.int .i64 1))], [some ⟨1, 24, [.rf 1 0 y0.length y0.length], false⟩, some ⟨1, 3, (y0.map cdI.enc), false⟩, mk 1 24 (y1.map (cdL 1 cdI).enc), mk 1 3 (y2.map cdI.enc)]⟩) (WkY.fr (by kernel_rfl)) (evening_Hosts_k1_1_ok y0 y1 y2 y3 _ v2 1 _ hr29)) ?_
    refine SemY.seq ?_
    refine SemY.region ?_
    refine RunY.segF (n := 33) e_evening_Hosts_k1_ok 2 [(4, .v (.int .i64 r29))] [some ⟨1, 24, [.rf 1 0 y0.length y0.length], false⟩, some ⟨1, 3, (y0.map cdI.enc), false⟩, mk 1 24 (y1.map (cdL 1 cdI).enc), mk 1 3 (y2.map cdI.enc)] (by kernel_rfl) ?_
    refine RunY.done rfl (SemY.fr (l' := [(4, .v (.int .i64 r29))]) (by kernel_rfl) ?_)
    refine SemY.ret ?_
    have hq := Option.some.inj h; subst hq
    exact ⟨.inr rfl, [.v (.int .i64 r29)], (by kernel_rfl), (by kernel_rfl), (by kernel_rfl)⟩
def evening_Hosts_2 (x1 : (List (List (List Int)))) (c5 : (List (List Int))) (c6 : Int) (v8 : (List (List Int))) : Nat → (List Int) → (List Int) → Int → Option (((List Int) × (List Int)))
  | 0, _, _, _ => none
  | f + 1, c22, c23, c24 =>
    if (decide (c24 < (v8.length : Int))) = true then
    (idx v8 c24).bind fun v26 =>
    (evening_Hosts_k1 c22 c5 c23 v26).bind fun v27 =>
    (idx c22 v27).bind fun v28 =>
    (idx c22 v27).bind fun v29 =>
    if (capOk 8 (c23.length + 1)) = true then
    evening_Hosts_2 x1 c5 c6 v8 f (c22.set v27.toNat (wr .i64 (v28 + 1))) (c23 ++ [v27]) (wr .i64 (c24 + 1))
    else none
    else
    some (c22, c23)
def evening_Hosts_1 (x1 : (List (List (List Int)))) : Nat → (List Int) → (List (List Int)) → Int → Option (((List (List Int))))
  | 0, _, _, _ => none
  | f + 1, c4, c5, c6 =>
    if (decide (c6 < (x1.length : Int))) = true then
    (idx x1 c6).bind fun v8 =>
    (evening_Hosts_2 x1 c5 c6 v8 100000 c4 [] 0).bind fun r33 =>
    if (capOk 24 (c5.length + 1)) = true then
    evening_Hosts_1 x1 f r33.1 (c5 ++ [r33.2]) (wr .i64 (c6 + 1))
    else none
    else
    some c5
def evening_Hosts (x0 : Int) (x1 : (List (List (List Int)))) : Option ((List (List Int))) :=
  (evening_valid x0 x1).bind fun v1 =>
  if (!v1) = true then
  some []
  else
  if (mkOk 8 x0) = true then
  (evening_Hosts_1 x1 100000 (List.replicate x0.toNat (0 : Int)) [] 0).bind fun r36 =>
  some r36
  else none
def cs_evening_Hosts : Cs (Int × (List (List (List Int))) × Unit) := (csC cdI (csC (cdL 1 (cdL 1 (cdL 1 cdI))) csN))
def er_evening_Hosts (r : (List (List Int))) : AV := (cdL 1 (cdL 1 cdI)).enc r
set_option maxHeartbeats 4000000 in
set_option maxRecDepth 100000 in
theorem evening_Hosts_2_ok (x1 : (List (List (List Int)))) (c5 : (List (List Int))) (c6 : Int) (v8 : (List (List Int))) : ∀ (f : Nat) (c22 : (List Int)) (c23 : (List Int)) (c24 : Int) (r : ((List Int) × (List Int))), evening_Hosts_2 x1 c5 c6 v8 f c22 c23 c24 = some r → SemN e_evening_Hosts ⟨none, false⟩ (pc cb_evening_Hosts [1, 1, 1, 1, 0, 1, 0, 0, 1, 1, 0, 0, 1, 1, 0, 1, 0, 0]) f ⟨Fr 51 [(5, .pt 0 0 0), (6, hd 2 (c5.map (cdL 1 cdI).enc)), (9, hd 3 (c23.map cdI.enc)), (19, .sl 1 (x1.map (cdL 1 (cdL 1 cdI)).enc)), (20, .v (.int .i64 (x1.length : Int))), (21, .v (.int .i64 c6)), (25, .sl 1 (v8.map (cdL 1 cdI).enc)), (26, .v (.int .i64 (v8.length : Int))), (27, .v (.int .i64 c24))], [some ⟨1, 24, [.rf 1 0 c22.length c22.length], false⟩, some ⟨1, 3, (c22.map cdI.enc), false⟩, mk 1 24 (c5.map (cdL 1 cdI).enc), mk 1 3 (c23.map cdI.enc)]⟩ (fun e s => e = (.exit 2) ∧ Wk e_evening_Hosts s ⟨Fr 51 [(5, .pt 0 0 0), (6, hd 2 (c5.map (cdL 1 cdI).enc)), (9, hd 3 (r.2.map cdI.enc)), (19, .sl 1 (x1.map (cdL 1 (cdL 1 cdI)).enc)), (20, .v (.int .i64 (x1.length : Int))), (21, .v (.int .i64 c6))], [some ⟨1, 24, [.rf 1 0 r.1.length r.1.length], false⟩, some ⟨1, 3, (r.1.map cdI.enc), false⟩, mk 1 24 (c5.map (cdL 1 cdI).enc), mk 1 3 (r.2.map cdI.enc)]⟩) := by
  intro f
  induction f with
  | zero => intro c22 c23 c24 r h; cases h
  | succ f ih0 =>
    intro c22 c23 c24 r h
    have ih := fun (c22 : (List Int)) (c23 : (List Int)) (c24 : Int) => ih0 c22 c23 c24 r
    unfold evening_Hosts_2 at h
    refine SemN.succ ?_
    refine Sem.seq ?_
    refine Sem.runS (s1 := ⟨Fr 51 [(5, .pt 0 0 0), (6, hd 2 (c5.map (cdL 1 cdI).enc)), (9, hd 3 (c23.map cdI.enc)), (19, .sl 1 (x1.map (cdL 1 (cdL 1 cdI)).enc)), (20, .v (.int .i64 (x1.length : Int))), (21, .v (.int .i64 c6)), (25, .sl 1 (v8.map (cdL 1 cdI).enc)), (26, .v (.int .i64 (v8.length : Int))), (27, .v (.int .i64 c24)), (28, .v (.bool (decide (c24 < (v8.length : Int)))))], [some ⟨1, 24, [.rf 1 0 c22.length c22.length], false⟩, some ⟨1, 3, (c22.map cdI.enc), false⟩, mk 1 24 (c5.map (cdL 1 cdI).enc), mk 1 3 (c23.map cdI.enc)]⟩) ?_ ?_
    · refine RunS.segF (n := 51) e_evening_Hosts_ok 1 [(5, .pt 0 0 0), (6, hd 2 (c5.map (cdL 1 cdI).enc)), (9, hd 3 (c23.map cdI.enc)), (19, .sl 1 (x1.map (cdL 1 (cdL 1 cdI)).enc)), (20, .v (.int .i64 (x1.length : Int))), (21, .v (.int .i64 c6)), (25, .sl 1 (v8.map (cdL 1 cdI).enc)), (26, .v (.int .i64 (v8.length : Int))), (27, .v (.int .i64 c24)), (28, .v (.bool (decide (c24 < (v8.length : Int)))))] [some ⟨1, 24, [.rf 1 0 c22.length c22.length], false⟩, some ⟨1, 3, (c22.map cdI.enc), false⟩, mk 1 24 (c5.map (cdL 1 cdI).enc), mk 1 3 (c23.map cdI.enc)] (by kernel_rfl) ?_
      exact RunS.done rfl (Wk.sel2 [0, 1, 2, 3] (by kernel_rfl) (by kernel_rfl) (by kernel_rfl) ⟨⟨_, rfl, bu_c (by kernel_rfl) (by kernel_rfl)⟩, ⟨_, rfl, bu_own⟩, ⟨_, rfl, bu_mk⟩, ⟨_, rfl, bu_mk⟩, trivial⟩ ⟨lu (by kernel_rfl) (by kernel_rfl), lu_hd (b' := 2) (by kernel_rfl) (by kernel_rfl), lu_hd (b' := 3) (by kernel_rfl) (by kernel_rfl), lu (by kernel_rfl) (by kernel_rfl), lu (by kernel_rfl) (by kernel_rfl), lu (by kernel_rfl) (by kernel_rfl), lu (by kernel_rfl) (by kernel_rfl), lu (by kernel_rfl) (by kernel_rfl), lu (by kernel_rfl) (by kernel_rfl), lu (by kernel_rfl) (by kernel_rfl), trivial⟩)
    refine Sem.seq ?_
    refine Sem.cond (b := (decide (c24 < (v8.length : Int)))) (by kernel_rfl) (fun hb25 => ?_) (fun hb25 => ?_)
    · rw [if_pos hb25] at h
      refine Sem.skip ?_
      refine Sem.seq ?_
      refine Sem.block ?_
      refine Sem.seq ?_
      obtain ⟨v26, hv26, h⟩ := Option.bind_eq_some_iff.1 h
      refine Sem.runS (s1 := ⟨Fr 51 [(5, .pt 0 0 0), (6, hd 2 (c5.map (cdL 1 cdI).enc)), (9, hd 3 (c23.map cdI.enc)), (11, .sl 1 (v26.map cdI.enc)), (19, .sl 1 (x1.map (cdL 1 (cdL 1 cdI)).enc)), (20, .v (.int .i64 (x1.length : Int))), (21, .v (.int .i64 c6)), (25, .sl 1 (v8.map (cdL 1 cdI).enc)), (26, .v (.int .i64 (v8.length : Int))), (27, .v (.int .i64 c24))], [some ⟨1, 24, [.rf 1 0 c22.length c22.length], false⟩, some ⟨1, 3, (c22.map cdI.enc), false⟩, mk 1 24 (c5.map (cdL 1 cdI).enc), mk 1 3 (c23.map cdI.enc)]⟩) ?_ ?_
      · refine RunS.one e_evening_Hosts_ok 0 rfl (op_q (wantedA_none rfl) rfl (q_indexAddr (a := .sl 1 (v8.map (cdL 1 cdI).enc)) (b := .v (.int .i64 c24)) (by kernel_rfl) (by kernel_rfl) (ix_sl (e := (cdL 1 cdI).enc) (el := 24) (k := 1) (ki := .i64) (by kernel_rfl) (by kernel_rfl) hv26))) ?_
        refine RunS.segF (n := 51) e_evening_Hosts_ok 2 [(5, .pt 0 0 0), (6, hd 2 (c5.map (cdL 1 cdI).enc)), (9, hd 3 (c23.map cdI.enc)), (11, .sl 1 (v26.map cdI.enc)), (19, .sl 1 (x1.map (cdL 1 (cdL 1 cdI)).enc)), (20, .v (.int .i64 (x1.length : Int))), (21, .v (.int .i64 c6)), (25, .sl 1 (v8.map (cdL 1 cdI).enc)), (26, .v (.int .i64 (v8.length : Int))), (27, .v (.int .i64 c24))] [some ⟨1, 24, [.rf 1 0 c22.length c22.length], false⟩, some ⟨1, 3, (c22.map cdI.enc), false⟩, mk 1 24 (c5.map (cdL 1 cdI).enc), mk 1 3 (c23.map cdI.enc)] (by kernel_rfl) ?_
        exact RunS.done rfl (Wk.sel2 [0, 1, 2, 3] (by kernel_rfl) (by kernel_rfl) (by kernel_rfl) ⟨⟨_, rfl, bu_c (by kernel_rfl) (by kernel_rfl)⟩, ⟨_, rfl, bu_own⟩, ⟨_, rfl, bu_mk⟩, ⟨_, rfl, bu_mk⟩, trivial⟩ ⟨lu (by kernel_rfl) (by kernel_rfl), lu_hd (b' := 2) (by kernel_rfl) (by kernel_rfl), lu_hd (b' := 3) (by kernel_rfl) (by kernel_rfl), lu (by kernel_rfl) (by kernel_rfl), lu (by kernel_rfl) (by kernel_rfl), lu (by kernel_rfl) (by kernel_rfl), lu (by kernel_rfl) (by kernel_rfl), lu (by kernel_rfl) (by kernel_rfl), lu (by kernel_rfl) (by kernel_rfl), lu (by kernel_rfl) (by kernel_rfl), trivial⟩)
      refine Sem.seq ?_
      obtain ⟨v27, hv27, h⟩ := Option.bind_eq_some_iff.1 h
      refine Sem.runS (s1 := ⟨Fr 51 [(5, .pt 0 0 0), (6, hd 2 (c5.map (cdL 1 cdI).enc)), (9, hd 3 (c23.map cdI.enc)), (12, .v (.int .i64 v27)), (19, .sl 1 (x1.map (cdL 1 (cdL 1 cdI)).enc)), (20, .v (.int .i64 (x1.length : Int))), (21, .v (.int .i64 c6)), (25, .sl 1 (v8.map (cdL 1 cdI).enc)), (26, .v (.int .i64 (v8.length : Int))), (27, .v (.int .i64 c24))], [some ⟨1, 24, [.rf 1 0 c22.length c22.length], false⟩, some ⟨1, 3, (c22.map cdI.enc), false⟩, mk 1 24 (c5.map (cdL 1 cdI).enc), mk 1 3 (c23.map cdI.enc)]⟩) ?_ ?_
      · refine RunS.segF (n := 51) e_evening_Hosts_ok 2 [(5, .pt 0 0 0), (6, hd 2 (c5.map (cdL 1 cdI).enc)), (9, hd 3 (c23.map cdI.enc)), (19, .sl 1 (x1.map (cdL 1 (cdL 1 cdI)).enc)), (20, .v (.int .i64 (x1.length : Int))), (21, .v (.int .i64 c6)), (25, .sl 1 (v8.map (cdL 1 cdI).enc)), (26, .v (.int .i64 (v8.length : Int))), (27, .v (.int .i64 c24)), (31, .sl 1 (v26.map cdI.enc)), (32, .fn 81 [] [.pt 0 0 0])] [some ⟨1, 24, [.rf 1 0 c22.length c22.length], false⟩, some ⟨1, 3, (c22.map cdI.enc), false⟩, mk 1 24 (c5.map (cdL 1 cdI).enc), mk 1 3 (c23.map cdI.enc)] (by kernel_rfl) ?_
        refine RunS.inlY (fid := 80) (caps := []) (xs := [.sl 1 (v26.map cdI.enc), .fn 81 [] [.pt 0 0 0]]) (fn := Tryd.f80) (Out := fun x h' => x = .v (.int .i64 v27) ∧ h' = [some ⟨1, 24, [.rf 1 0 c22.length c22.length], false⟩, some ⟨1, 3, (c22.map cdI.enc), false⟩, mk 1 24 (c5.map (cdL 1 cdI).enc), mk 1 3 (c23.map cdI.enc)]) rfl rfl e_evening_Hosts_k1_ok rfl rfl rfl (wantedA_none rfl) (by kernel_rfl) (by kernel_rfl) (by kernel_rfl) (by kernel_rfl) (by show 2 ≤ 33; decide) (evening_Hosts_k1_sem c22 c5 c23 v26 _ hv27) ?_
        rintro x h' ⟨rfl, rfl⟩
        refine RunS.segF (n := 51) e_evening_Hosts_ok 1 [(5, .pt 0 0 0), (6, hd 2 (c5.map (cdL 1 cdI).enc)), (9, hd 3 (c23.map cdI.enc)), (12, .v (.int .i64 v27)), (19, .sl 1 (x1.map (cdL 1 (cdL 1 cdI)).enc)), (20, .v (.int .i64 (x1.length : Int))), (21, .v (.int .i64 c6)), (25, .sl 1 (v8.map (cdL 1 cdI).enc)), (26, .v (.int .i64 (v8.length : Int))), (27, .v (.int .i64 c24))] [some ⟨1, 24, [.rf 1 0 c22.length c22.length], false⟩, some ⟨1, 3, (c22.map cdI.enc), false⟩, mk 1 24 (c5.map (cdL 1 cdI).enc), mk 1 3 (c23.map cdI.enc)] (by kernel_rfl) ?_
        exact RunS.done rfl (Wk.sel2 [0, 1, 2, 3] (by kernel_rfl) (by kernel_rfl) (by kernel_rfl) ⟨⟨_, rfl, bu_c (by kernel_rfl) (by kernel_rfl)⟩, ⟨_, rfl, bu_own⟩, ⟨_, rfl, bu_mk⟩, ⟨_, rfl, bu_mk⟩, trivial⟩ ⟨lu (by kernel_rfl) (by kernel_rfl), lu_hd (b' := 2) (by kernel_rfl) (by kernel_rfl), lu_hd (b' := 3) (by kernel_rfl) (by kernel_rfl), lu (by kernel_rfl) (by kernel_rfl), lu (by kernel_rfl) (by kernel_rfl), lu (by kernel_rfl) (by kernel_rfl), lu (by kernel_rfl) (by kernel_rfl), lu (by kernel_rfl) (by kernel_rfl), lu (by kernel_rfl) (by kernel_rfl), lu (by kernel_rfl) (by kernel_rfl), trivial⟩)
      refine Sem.seq ?_
      obtain ⟨v28, hv28, h⟩ := Option.bind_eq_some_iff.1 h
      obtain ⟨v29, hv29, h⟩ := Option.bind_eq_some_iff.1 h
      refine Sem.runS (s1 := ⟨Fr 51 [(5, .pt 0 0 0), (6, hd 2 (c5.map (cdL 1 cdI).enc)), (9, hd 3 (c23.map cdI.enc)), (12, .v (.int .i64 v27)), (19, .sl 1 (x1.map (cdL 1 (cdL 1 cdI)).enc)), (20, .v (.int .i64 (x1.length : Int))), (21, .v (.int .i64 c6)), (25, .sl 1 (v8.map (cdL 1 cdI).enc)), (26, .v (.int .i64 (v8.length : Int))), (27, .v (.int .i64 c24))], [some ⟨1, 24, [.rf 1 0 (c22.set v27.toNat (wr .i64 (v28 + 1))).length (c22.set v27.toNat (wr .i64 (v28 + 1))).length], false⟩, some ⟨1, 3, ((c22.set v27.toNat (wr .i64 (v28 + 1))).map cdI.enc), false⟩, mk 1 24 (c5.map (cdL 1 cdI).enc), mk 1 3 (c23.map cdI.enc)]⟩) ?_ ?_
      · refine RunS.segF (n := 51) e_evening_Hosts_ok 2 [(5, .pt 0 0 0), (6, hd 2 (c5.map (cdL 1 cdI).enc)), (9, hd 3 (c23.map cdI.enc)), (12, .v (.int .i64 v27)), (19, .sl 1 (x1.map (cdL 1 (cdL 1 cdI)).enc)), (20, .v (.int .i64 (x1.length : Int))), (21, .v (.int .i64 c6)), (25, .sl 1 (v8.map (cdL 1 cdI).enc)), (26, .v (.int .i64 (v8.length : Int))), (27, .v (.int .i64 c24)), (34, .rf 1 0 c22.length c22.length), (35, .v (.int .i64 v27))] [some ⟨1, 24, [.rf 1 0 c22.length c22.length], false⟩, some ⟨1, 3, (c22.map cdI.enc), false⟩, mk 1 24 (c5.map (cdL 1 cdI).enc), mk 1 3 (c23.map cdI.enc)] (by kernel_rfl) ?_
        refine RunS.one e_evening_Hosts_ok 0 rfl (op_q (wantedA_none rfl) rfl (q_indexAddr (a := .rf 1 0 c22.length c22.length) (b := .v (.int .i64 v27)) (by kernel_rfl) (by kernel_rfl) (ix_rl (e := cdI.enc) (xs := c22) (t' := 3) (el := 3) (k := 1) (ki := .i64) (by kernel_rfl) (by kernel_rfl) (by kernel_rfl) hv28))) ?_
        refine RunS.one e_evening_Hosts_ok 0 rfl (op_q (wantedA_none rfl) rfl (q_load (p := .pt 1 v27.toNat 0) (by kernel_rfl) (ld_blk (B := ⟨1, 3, (c22.map cdI.enc), false⟩) (m := 1) (g := false) (e := cdI.enc) (xs := c22) (by kernel_rfl) (by kernel_rfl) (by kernel_rfl) rfl (idx_at hv28).2 (by kernel_rfl)))) ?_
        refine RunS.segF (n := 51) e_evening_Hosts_ok 1 [(5, .pt 0 0 0), (6, hd 2 (c5.map (cdL 1 cdI).enc)), (9, hd 3 (c23.map cdI.enc)), (12, .v (.int .i64 v27)), (19, .sl 1 (x1.map (cdL 1 (cdL 1 cdI)).enc)), (20, .v (.int .i64 (x1.length : Int))), (21, .v (.int .i64 c6)), (25, .sl 1 (v8.map (cdL 1 cdI).enc)), (26, .v (.int .i64 (v8.length : Int))), (27, .v (.int .i64 c24)), (34, .rf 1 0 c22.length c22.length), (35, .v (.int .i64 v27)), (38, .v (.int .i64 (wr .i64 (v28 + 1))))] [some ⟨1, 24, [.rf 1 0 c22.length c22.length], false⟩, some ⟨1, 3, (c22.map cdI.enc), false⟩, mk 1 24 (c5.map (cdL 1 cdI).enc), mk 1 3 (c23.map cdI.enc)] (by kernel_rfl) ?_
        refine RunS.one e_evening_Hosts_ok 0 rfl (op_q (wantedA_none rfl) rfl (q_indexAddr (a := .rf 1 0 c22.length c22.length) (b := .v (.int .i64 v27)) (by kernel_rfl) (by kernel_rfl) (ix_rl (e := cdI.enc) (xs := c22) (t' := 3) (el := 3) (k := 1) (ki := .i64) (by kernel_rfl) (by kernel_rfl) (by kernel_rfl) hv29))) ?_
        refine RunS.store e_evening_Hosts_ok (y := .pt 1 v27.toNat 0) (z := .v (.int .i64 (wr .i64 (v28 + 1)))) rfl (wantedA_none rfl) (by kernel_rfl) (by kernel_rfl) (st_blk (t' := 3) (k := 1) (e := cdI.enc) (xs := c22) (v := v29) (v' := (wr .i64 (v28 + 1))) (by kernel_rfl) (idx_at hv29).2 (by kernel_rfl) (by kernel_rfl) (by kernel_rfl)) ?_
        exact RunS.done rfl (Wk.sel2 [0, 1, 2, 3] (by kernel_rfl) (by kernel_rfl) (by kernel_rfl) ⟨⟨_, rfl, bu_c (by simp only [List.length_set]; kernel_rfl) (by kernel_rfl)⟩, ⟨_, rfl, bu_own⟩, ⟨_, rfl, bu_mk⟩, ⟨_, rfl, bu_mk⟩, trivial⟩ ⟨lu (by kernel_rfl) (by kernel_rfl), lu_hd (b' := 2) (by kernel_rfl) (by kernel_rfl), lu_hd (b' := 3) (by kernel_rfl) (by kernel_rfl), lu (by kernel_rfl) (by kernel_rfl), lu (by kernel_rfl) (by kernel_rfl), lu (by kernel_rfl) (by kernel_rfl), lu (by kernel_rfl) (by kernel_rfl), lu (by kernel_rfl) (by kernel_rfl), lu (by kernel_rfl) (by kernel_rfl), lu (by kernel_rfl) (by kernel_rfl), trivial⟩)
      by_cases hk30 : (capOk 8 (c23.length + 1)) = true
      case neg => rw [if_neg hk30] at h; cases h
      rw [if_pos hk30] at h
      refine Sem.runS (s1 := ⟨Fr 51 [(5, .pt 0 0 0), (6, hd 2 (c5.map (cdL 1 cdI).enc)), (9, hd 3 ((c23 ++ [v27]).map cdI.enc)), (19, .sl 1 (x1.map (cdL 1 (cdL 1 cdI)).enc)), (20, .v (.int .i64 (x1.length : Int))), (21, .v (.int .i64 c6)), (25, .sl 1 (v8.map (cdL 1 cdI).enc)), (26, .v (.int .i64 (v8.length : Int))), (27, .v (.int .i64 c24))], [some ⟨1, 24, [.rf 1 0 (c22.set v27.toNat (wr .i64 (v28 + 1))).length (c22.set v27.toNat (wr .i64 (v28 + 1))).length], false⟩, some ⟨1, 3, ((c22.set v27.toNat (wr .i64 (v28 + 1))).map cdI.enc), false⟩, mk 1 24 (c5.map (cdL 1 cdI).enc), mk 1 3 ((c23 ++ [v27]).map cdI.enc)]⟩) ?_ ?_
      · refine RunS.segF (n := 51) e_evening_Hosts_ok 3 [(5, .pt 0 0 0), (6, hd 2 (c5.map (cdL 1 cdI).enc)), (19, .sl 1 (x1.map (cdL 1 (cdL 1 cdI)).enc)), (20, .v (.int .i64 (x1.length : Int))), (21, .v (.int .i64 c6)), (25, .sl 1 (v8.map (cdL 1 cdI).enc)), (26, .v (.int .i64 (v8.length : Int))), (27, .v (.int .i64 c24)), (40, hd 3 (c23.map cdI.enc)), (42, hd 4 ([v27].map cdI.enc))] [some ⟨1, 24, [.rf 1 0 (c22.set v27.toNat (wr .i64 (v28 + 1))).length (c22.set v27.toNat (wr .i64 (v28 + 1))).length], false⟩, some ⟨1, 3, ((c22.set v27.toNat (wr .i64 (v28 + 1))).map cdI.enc), false⟩, mk 1 24 (c5.map (cdL 1 cdI).enc), mk 1 3 (c23.map cdI.enc), mk 1 3 ([v27].map cdI.enc)] (by kernel_rfl) ?_
        refine RunS.one e_evening_Hosts_ok 0 rfl (op_w (wantedA_none rfl) rfl (by kernel_rfl) (by kernel_rfl) (w_append (a := hd 3 (c23.map cdI.enc)) (b := hd 4 ([v27].map cdI.enc)) (by kernel_rfl) (by kernel_rfl) (append_B (c := cdI) (xs := c23) (vs := [v27]) (k := 1) (bytes := 8) (el := 3) (by kernel_rfl) (by kernel_rfl) (elems_hd (t := 3) (by kernel_rfl)) (List.cons_ne_nil _ _) (by kernel_rfl) hk30))) ?_
        refine RunS.segF (n := 51) e_evening_Hosts_ok 1 [(5, .pt 0 0 0), (6, hd 2 (c5.map (cdL 1 cdI).enc)), (9, hd 5 ((c23 ++ [v27]).map cdI.enc)), (19, .sl 1 (x1.map (cdL 1 (cdL 1 cdI)).enc)), (20, .v (.int .i64 (x1.length : Int))), (21, .v (.int .i64 c6)), (25, .sl 1 (v8.map (cdL 1 cdI).enc)), (26, .v (.int .i64 (v8.length : Int))), (27, .v (.int .i64 c24))] [some ⟨1, 24, [.rf 1 0 (c22.set v27.toNat (wr .i64 (v28 + 1))).length (c22.set v27.toNat (wr .i64 (v28 + 1))).length], false⟩, some ⟨1, 3, ((c22.set v27.toNat (wr .i64 (v28 + 1))).map cdI.enc), false⟩, mk 1 24 (c5.map (cdL 1 cdI).enc), none, mk 1 3 ([v27].map cdI.enc), mk 1 3 ((c23 ++ [v27]).map cdI.enc)] (by kernel_rfl) ?_
        exact RunS.done rfl (Wk.sel2 [0, 1, 2, 5] (by kernel_rfl) (by kernel_rfl) (by kernel_rfl) ⟨⟨_, rfl, bu_c (by kernel_rfl) (by kernel_rfl)⟩, ⟨_, rfl, bu_own⟩, ⟨_, rfl, bu_mk⟩, ⟨_, rfl, bu_mk⟩, trivial⟩ ⟨lu (by kernel_rfl) (by kernel_rfl), lu_hd (b' := 2) (by kernel_rfl) (by kernel_rfl), lu_hd (b' := 5) (by kernel_rfl) (by kernel_rfl), lu (by kernel_rfl) (by kernel_rfl), lu (by kernel_rfl) (by kernel_rfl), lu (by kernel_rfl) (by kernel_rfl), lu (by kernel_rfl) (by kernel_rfl), lu (by kernel_rfl) (by kernel_rfl), lu (by kernel_rfl) (by kernel_rfl), trivial⟩)
      refine Sem.runS (s1 := ⟨Fr 51 [(5, .pt 0 0 0), (6, hd 2 (c5.map (cdL 1 cdI).enc)), (9, hd 3 ((c23 ++ [v27]).map cdI.enc)), (19, .sl 1 (x1.map (cdL 1 (cdL 1 cdI)).enc)), (20, .v (.int .i64 (x1.length : Int))), (21, .v (.int .i64 c6)), (25, .sl 1 (v8.map (cdL 1 cdI).enc)), (26, .v (.int .i64 (v8.length : Int))), (27, .v (.int .i64 (wr .i64 (c24 + 1))))], [some ⟨1, 24, [.rf 1 0 (c22.set v27.toNat (wr .i64 (v28 + 1))).length (c22.set v27.toNat (wr .i64 (v28 + 1))).length], false⟩, some ⟨1, 3, ((c22.set v27.toNat (wr .i64 (v28 + 1))).map cdI.enc), false⟩, mk 1 24 (c5.map (cdL 1 cdI).enc), mk 1 3 ((c23 ++ [v27]).map cdI.enc)]⟩) ?_ ?_
      · refine RunS.segF (n := 51) e_evening_Hosts_ok 2 [(5, .pt 0 0 0), (6, hd 2 (c5.map (cdL 1 cdI).enc)), (9, hd 3 ((c23 ++ [v27]).map cdI.enc)), (19, .sl 1 (x1.map (cdL 1 (cdL 1 cdI)).enc)), (20, .v (.int .i64 (x1.length : Int))), (21, .v (.int .i64 c6)), (25, .sl 1 (v8.map (cdL 1 cdI).enc)), (26, .v (.int .i64 (v8.length : Int))), (27, .v (.int .i64 (wr .i64 (c24 + 1))))] [some ⟨1, 24, [.rf 1 0 (c22.set v27.toNat (wr .i64 (v28 + 1))).length (c22.set v27.toNat (wr .i64 (v28 + 1))).length], false⟩, some ⟨1, 3, ((c22.set v27.toNat (wr .i64 (v28 + 1))).map cdI.enc), false⟩, mk 1 24 (c5.map (cdL 1 cdI).enc), mk 1 3 ((c23 ++ [v27]).map cdI.enc)] (by kernel_rfl) ?_
        exact RunS.done rfl (Wk.sel2 [0, 1, 2, 3] (by kernel_rfl) (by kernel_rfl) (by kernel_rfl) ⟨⟨_, rfl, bu_c (by kernel_rfl) (by kernel_rfl)⟩, ⟨_, rfl, bu_own⟩, ⟨_, rfl, bu_mk⟩, ⟨_, rfl, bu_mk⟩, trivial⟩ ⟨lu (by kernel_rfl) (by kernel_rfl), lu_hd (b' := 2) (by kernel_rfl) (by kernel_rfl), lu_hd (b' := 3) (by kernel_rfl) (by kernel_rfl), lu (by kernel_rfl) (by kernel_rfl), lu (by kernel_rfl) (by kernel_rfl), lu (by kernel_rfl) (by kernel_rfl), lu (by kernel_rfl) (by kernel_rfl), lu (by kernel_rfl) (by kernel_rfl), lu (by kernel_rfl) (by kernel_rfl), trivial⟩)
      exact SemN.wk (s1 := ⟨Fr 51 [(5, .pt 0 0 0), (6, hd 2 (c5.map (cdL 1 cdI).enc)), (9, hd 3 ((c23 ++ [v27]).map cdI.enc)), (19, .sl 1 (x1.map (cdL 1 (cdL 1 cdI)).enc)), (20, .v (.int .i64 (x1.length : Int))), (21, .v (.int .i64 c6)), (25, .sl 1 (v8.map (cdL 1 cdI).enc)), (26, .v (.int .i64 (v8.length : Int))), (27, .v (.int .i64 (wr .i64 (c24 + 1))))], [some ⟨1, 24, [.rf 1 0 (c22.set v27.toNat (wr .i64 (v28 + 1))).length (c22.set v27.toNat (wr .i64 (v28 + 1))).length], false⟩, some ⟨1, 3, ((c22.set v27.toNat (wr .i64 (v28 + 1))).map cdI.enc), false⟩, mk 1 24 (c5.map (cdL 1 cdI).enc), mk 1 3 ((c23 ++ [v27]).map cdI.enc)]⟩) (Wk.sel2 [0, 1, 2, 3] (by kernel_rfl) (by kernel_rfl) (by kernel_rfl) ⟨⟨_, rfl, bu_c (by kernel_rfl) (by kernel_rfl)⟩, ⟨_, rfl, bu_own⟩, ⟨_, rfl, bu_mk⟩, ⟨_, rfl, bu_mk⟩, trivial⟩ ⟨lu (by kernel_rfl) (by kernel_rfl), lu_hd (b' := 2) (by kernel_rfl) (by kernel_rfl), lu_hd (b' := 3) (by kernel_rfl) (by kernel_rfl), lu (by kernel_rfl) (by kernel_rfl), lu (by kernel_rfl) (by kernel_rfl), lu (by kernel_rfl) (by kernel_rfl), lu (by kernel_rfl) (by kernel_rfl), lu (by kernel_rfl) (by kernel_rfl), lu (by kernel_rfl) (by kernel_rfl), trivial⟩) (ih (c22.set v27.toNat (wr .i64 (v28 + 1))) (c23 ++ [v27]) (wr .i64 (c24 + 1)) h)
    · rw [if_f hb25] at h
      refine Sem.exit ?_
      have hq := Option.some.inj h; subst hq
      exact ⟨rfl, (Wk.sel2 [0, 1, 2, 3] (by kernel_rfl) (by kernel_rfl) (by kernel_rfl) ⟨⟨_, rfl, bu_c (by kernel_rfl) (by kernel_rfl)⟩, ⟨_, rfl, bu_own⟩, ⟨_, rfl, bu_mk⟩, ⟨_, rfl, bu_mk⟩, trivial⟩ ⟨lu (by kernel_rfl) (by kernel_rfl), lu_hd (b' := 2) (by kernel_rfl) (by kernel_rfl), lu_hd (b' := 3) (by kernel_rfl) (by kernel_rfl), lu (by kernel_rfl) (by kernel_rfl), lu (by kernel_rfl) (by kernel_rfl), lu (by kernel_rfl) (by kernel_rfl), trivial⟩)⟩
set_option maxHeartbeats 4000000 in
set_option maxRecDepth 100000 in
theorem evening_Hosts_1_ok (x1 : (List (List (List Int)))) : ∀ (f : Nat) (c4 : (List Int)) (c5 : (List (List Int))) (c6 : Int) (r : ((List (List Int)))), evening_Hosts_1 x1 f c4 c5 c6 = some r → SemN e_evening_Hosts ⟨none, false⟩ (pc cb_evening_Hosts [1, 1, 1, 1, 0, 1, 0, 0]) f ⟨Fr 51 [(5, .pt 0 0 0), (6, hd 2 (c5.map (cdL 1 cdI).enc)), (19, .sl 1 (x1.map (cdL 1 (cdL 1 cdI)).enc)), (20, .v (.int .i64 (x1.length : Int))), (21, .v (.int .i64 c6))], [some ⟨1, 24, [.rf 1 0 c4.length c4.length], false⟩, some ⟨1, 3, (c4.map cdI.enc), false⟩, mk 1 24 (c5.map (cdL 1 cdI).enc)]⟩ (fun e s => e = (.exit 0) ∧ Wk e_evening_Hosts s ⟨Fr 51 [(6, hd 0 (r.map (cdL 1 cdI).enc))], [mk 1 24 (r.map (cdL 1 cdI).enc)]⟩) := by
  intro f
  induction f with
  | zero => intro c4 c5 c6 r h; cases h
  | succ f ih0 =>
    intro c4 c5 c6 r h
    have ih := fun (c4 : (List Int)) (c5 : (List (List Int))) (c6 : Int) => ih0 c4 c5 c6 r
    unfold evening_Hosts_1 at h
    refine SemN.succ ?_
    refine Sem.seq ?_
    refine Sem.runS (s1 := ⟨Fr 51 [(5, .pt 0 0 0), (6, hd 2 (c5.map (cdL 1 cdI).enc)), (19, .sl 1 (x1.map (cdL 1 (cdL 1 cdI)).enc)), (20, .v (.int .i64 (x1.length : Int))), (21, .v (.int .i64 c6)), (22, .v (.bool (decide (c6 < (x1.length : Int)))))], [some ⟨1, 24, [.rf 1 0 c4.length c4.length], false⟩, some ⟨1, 3, (c4.map cdI.enc), false⟩, mk 1 24 (c5.map (cdL 1 cdI).enc)]⟩) ?_ ?_
    · refine RunS.segF (n := 51) e_evening_Hosts_ok 1 [(5, .pt 0 0 0), (6, hd 2 (c5.map (cdL 1 cdI).enc)), (19, .sl 1 (x1.map (cdL 1 (cdL 1 cdI)).enc)), (20, .v (.int .i64 (x1.length : Int))), (21, .v (.int .i64 c6)), (22, .v (.bool (decide (c6 < (x1.length : Int)))))] [some ⟨1, 24, [.rf 1 0 c4.length c4.length], false⟩, some ⟨1, 3, (c4.map cdI.enc), false⟩, mk 1 24 (c5.map (cdL 1 cdI).enc)] (by kernel_rfl) ?_
      exact RunS.done rfl (Wk.sel2 [0, 1, 2] (by kernel_rfl) (by kernel_rfl) (by kernel_rfl) ⟨⟨_, rfl, bu_c (by kernel_rfl) (by kernel_rfl)⟩, ⟨_, rfl, bu_own⟩, ⟨_, rfl, bu_mk⟩, trivial⟩ ⟨lu (by kernel_rfl) (by kernel_rfl), lu_hd (b' := 2) (by kernel_rfl) (by kernel_rfl), lu (by kernel_rfl) (by kernel_rfl), lu (by kernel_rfl) (by kernel_rfl), lu (by kernel_rfl) (by kernel_rfl), lu (by kernel_rfl) (by kernel_rfl), trivial⟩)
    refine Sem.seq ?_
    refine Sem.cond (b := (decide (c6 < (x1.length : Int)))) (by kernel_rfl) (fun hb7 => ?_) (fun hb7 => ?_)
    · rw [if_pos hb7] at h
      refine Sem.skip ?_
      refine Sem.seq ?_
      refine Sem.block ?_
      refine Sem.seq ?_
      obtain ⟨v8, hv8, h⟩ := Option.bind_eq_some_iff.1 h
      refine Sem.runS (s1 := ⟨Fr 51 [(5, .pt 0 0 0), (6, hd 2 (c5.map (cdL 1 cdI).enc)), (8, .sl 1 (v8.map (cdL 1 cdI).enc)), (19, .sl 1 (x1.map (cdL 1 (cdL 1 cdI)).enc)), (20, .v (.int .i64 (x1.length : Int))), (21, .v (.int .i64 c6))], [some ⟨1, 24, [.rf 1 0 c4.length c4.length], false⟩, some ⟨1, 3, (c4.map cdI.enc), false⟩, mk 1 24 (c5.map (cdL 1 cdI).enc)]⟩) ?_ ?_
      · refine RunS.one e_evening_Hosts_ok 0 rfl (op_q (wantedA_none rfl) rfl (q_indexAddr (a := .sl 1 (x1.map (cdL 1 (cdL 1 cdI)).enc)) (b := .v (.int .i64 c6)) (by kernel_rfl) (by kernel_rfl) (ix_sl (e := (cdL 1 (cdL 1 cdI)).enc) (el := 49) (k := 1) (ki := .i64) (by kernel_rfl) (by kernel_rfl) hv8))) ?_
        refine RunS.segF (n := 51) e_evening_Hosts_ok 2 [(5, .pt 0 0 0), (6, hd 2 (c5.map (cdL 1 cdI).enc)), (8, .sl 1 (v8.map (cdL 1 cdI).enc)), (19, .sl 1 (x1.map (cdL 1 (cdL 1 cdI)).enc)), (20, .v (.int .i64 (x1.length : Int))), (21, .v (.int .i64 c6))] [some ⟨1, 24, [.rf 1 0 c4.length c4.length], false⟩, some ⟨1, 3, (c4.map cdI.enc), false⟩, mk 1 24 (c5.map (cdL 1 cdI).enc)] (by kernel_rfl) ?_
        exact RunS.done rfl (Wk.sel2 [0, 1, 2] (by kernel_rfl) (by kernel_rfl) (by kernel_rfl) ⟨⟨_, rfl, bu_c (by kernel_rfl) (by kernel_rfl)⟩, ⟨_, rfl, bu_own⟩, ⟨_, rfl, bu_mk⟩, trivial⟩ ⟨lu (by kernel_rfl) (by kernel_rfl), lu_hd (b' := 2) (by kernel_rfl) (by kernel_rfl), lu (by kernel_rfl) (by kernel_rfl), lu (by kernel_rfl) (by kernel_rfl), lu (by kernel_rfl) (by kernel_rfl), lu (by kernel_rfl) (by kernel_rfl), trivial⟩)
      refine Sem.seq ?_
      refine Sem.runS (s1 := ⟨Fr 51 [(5, .pt 0 0 0), (6, hd 2 (c5.map (cdL 1 cdI).enc)), (8, .sl 1 (v8.map (cdL 1 cdI).enc)), (9, .e0), (19, .sl 1 (x1.map (cdL 1 (cdL 1 cdI)).enc)), (20, .v (.int .i64 (x1.length : Int))), (21, .v (.int .i64 c6))], [some ⟨1, 24, [.rf 1 0 c4.length c4.length], false⟩, some ⟨1, 3, (c4.map cdI.enc), false⟩, mk 1 24 (c5.map (cdL 1 cdI).enc)]⟩) ?_ ?_
      · refine RunS.segF (n := 51) e_evening_Hosts_ok 1 [(5, .pt 0 0 0), (6, hd 2 (c5.map (cdL 1 cdI).enc)), (8, .sl 1 (v8.map (cdL 1 cdI).enc)), (9, .e0), (19, .sl 1 (x1.map (cdL 1 (cdL 1 cdI)).enc)), (20, .v (.int .i64 (x1.length : Int))), (21, .v (.int .i64 c6))] [some ⟨1, 24, [.rf 1 0 c4.length c4.length], false⟩, some ⟨1, 3, (c4.map cdI.enc), false⟩, mk 1 24 (c5.map (cdL 1 cdI).enc)] (by kernel_rfl) ?_
        exact RunS.done rfl (Wk.sel2 [0, 1, 2] (by kernel_rfl) (by kernel_rfl) (by kernel_rfl) ⟨⟨_, rfl, bu_c (by kernel_rfl) (by kernel_rfl)⟩, ⟨_, rfl, bu_own⟩, ⟨_, rfl, bu_mk⟩, trivial⟩ ⟨lu (by kernel_rfl) (by kernel_rfl), lu_hd (b' := 2) (by kernel_rfl) (by kernel_rfl), lu (by kernel_rfl) (by kernel_rfl), lu (by kernel_rfl) (by kernel_rfl), lu (by kernel_rfl) (by kernel_rfl), lu (by kernel_rfl) (by kernel_rfl), lu (by kernel_rfl) (by kernel_rfl), trivial⟩)
      refine Sem.seq ?_
      refine Sem.seq ?_
      refine Sem.runS (s1 := ⟨Fr 51 [(5, .pt 0 0 0), (6, hd 2 (c5.map (cdL 1 cdI).enc)), (9, .e0), (19, .sl 1 (x1.map (cdL 1 (cdL 1 cdI)).enc)), (20, .v (.int .i64 (x1.length : Int))), (21, .v (.int .i64 c6)), (25, .sl 1 (v8.map (cdL 1 cdI).enc)), (26, .v (.int .i64 (v8.length : Int))), (27, .v (.int .i64 0))], [some ⟨1, 24, [.rf 1 0 c4.length c4.length], false⟩, some ⟨1, 3, (c4.map cdI.enc), false⟩, mk 1 24 (c5.map (cdL 1 cdI).enc)]⟩) ?_ ?_
      · refine RunS.segF (n := 51) e_evening_Hosts_ok 1 [(5, .pt 0 0 0), (6, hd 2 (c5.map (cdL 1 cdI).enc)), (9, .e0), (19, .sl 1 (x1.map (cdL 1 (cdL 1 cdI)).enc)), (20, .v (.int .i64 (x1.length : Int))), (21, .v (.int .i64 c6)), (25, .sl 1 (v8.map (cdL 1 cdI).enc))] [some ⟨1, 24, [.rf 1 0 c4.length c4.length], false⟩, some ⟨1, 3, (c4.map cdI.enc), false⟩, mk 1 24 (c5.map (cdL 1 cdI).enc)] (by kernel_rfl) ?_
        refine RunS.one e_evening_Hosts_ok 0 rfl (op_q (wantedA_none rfl) rfl (q_len (a := .sl 1 (v8.map (cdL 1 cdI).enc)) (by kernel_rfl) (len_sl (el := 24) (by kernel_rfl)))) ?_
        refine RunS.segF (n := 51) e_evening_Hosts_ok 1 [(5, .pt 0 0 0), (6, hd 2 (c5.map (cdL 1 cdI).enc)), (9, .e0), (19, .sl 1 (x1.map (cdL 1 (cdL 1 cdI)).enc)), (20, .v (.int .i64 (x1.length : Int))), (21, .v (.int .i64 c6)), (25, .sl 1 (v8.map (cdL 1 cdI).enc)), (26, .v (.int .i64 (v8.length : Int))), (27, .v (.int .i64 0))] [some ⟨1, 24, [.rf 1 0 c4.length c4.length], false⟩, some ⟨1, 3, (c4.map cdI.enc), false⟩, mk 1 24 (c5.map (cdL 1 cdI).enc)] (by kernel_rfl) ?_
        exact RunS.done rfl (Wk.sel2 [0, 1, 2] (by kernel_rfl) (by kernel_rfl) (by kernel_rfl) ⟨⟨_, rfl, bu_c (by kernel_rfl) (by kernel_rfl)⟩, ⟨_, rfl, bu_own⟩, ⟨_, rfl, bu_mk⟩, trivial⟩ ⟨lu (by kernel_rfl) (by kernel_rfl), lu_hd (b' := 2) (by kernel_rfl) (by kernel_rfl), lu (by kernel_rfl) (by kernel_rfl), lu (by kernel_rfl) (by kernel_rfl), lu (by kernel_rfl) (by kernel_rfl), lu (by kernel_rfl) (by kernel_rfl), lu (by kernel_rfl) (by kernel_rfl), lu (by kernel_rfl) (by kernel_rfl), lu (by kernel_rfl) (by kernel_rfl), trivial⟩)
      refine Sem.block ?_
      obtain ⟨r33, hr33, h⟩ := Option.bind_eq_some_iff.1 h
      refine Sem.loop (n := 100000) ?_
      refine Sem.cutN (SemN.wk (s1 := ⟨Fr 51 [(5, .pt 0 0 0), (6, hd 2 (c5.map (cdL 1 cdI).enc)), (9, hd 3 ([].map cdI.enc)), (19, .sl 1 (x1.map (cdL 1 (cdL 1 cdI)).enc)), (20, .v (.int .i64 (x1.length : Int))), (21, .v (.int .i64 c6)), (25, .sl 1 (v8.map (cdL 1 cdI).enc)), (26, .v (.int .i64 (v8.length : Int))), (27, .v (.int .i64 0))], [some ⟨1, 24, [.rf 1 0 c4.length c4.length], false⟩, some ⟨1, 3, (c4.map cdI.enc), false⟩, mk 1 24 (c5.map (cdL 1 cdI).enc), mk 1 3 ([].map cdI.enc)]⟩) (Wk.trans (s1 := ⟨Fr 51 [(5, .pt 0 0 0), (6, hd 2 (c5.map (cdL 1 cdI).enc)), (9, hd 3 ([].map cdI.enc)), (19, .sl 1 (x1.map (cdL 1 (cdL 1 cdI)).enc)), (20, .v (.int .i64 (x1.length : Int))), (21, .v (.int .i64 c6)), (25, .sl 1 (v8.map (cdL 1 cdI).enc)), (26, .v (.int .i64 (v8.length : Int))), (27, .v (.int .i64 0))], [some ⟨1, 24, [.rf 1 0 c4.length c4.length], false⟩, some ⟨1, 3, (c4.map cdI.enc), false⟩, mk 1 24 (c5.map (cdL 1 cdI).enc), mk 1 3 ([].map cdI.enc)]⟩) Wk.none (Wk.sel2 [0, 1, 2, 3] (by kernel_rfl) (by kernel_rfl) (by kernel_rfl) ⟨⟨_, rfl, bu_c (by kernel_rfl) (by kernel_rfl)⟩, ⟨_, rfl, bu_own⟩, ⟨_, rfl, bu_mk⟩, ⟨_, rfl, bu_none⟩, trivial⟩ ⟨lu (by kernel_rfl) (by kernel_rfl), lu_hd (b' := 2) (by kernel_rfl) (by kernel_rfl), lu (by kernel_rfl) (by kernel_rfl), lu (by kernel_rfl) (by kernel_rfl), lu (by kernel_rfl) (by kernel_rfl), lu (by kernel_rfl) (by kernel_rfl), lu (by kernel_rfl) (by kernel_rfl), lu (by kernel_rfl) (by kernel_rfl), lu (by kernel_rfl) (by kernel_rfl), trivial⟩)) (evening_Hosts_2_ok x1 c5 c6 v8 _ c4 [] 0 _ hr33)) ?_
      by_cases hk34 : (capOk 24 (c5.length + 1)) = true
      case neg => rw [if_neg hk34] at h; cases h
      rw [if_pos hk34] at h
      refine Sem.runS (s1 := ⟨Fr 51 [(5, .pt 0 0 0), (6, hd 2 ((c5 ++ [r33.2]).map (cdL 1 cdI).enc)), (19, .sl 1 (x1.map (cdL 1 (cdL 1 cdI)).enc)), (20, .v (.int .i64 (x1.length : Int))), (21, .v (.int .i64 c6))], [some ⟨1, 24, [.rf 1 0 r33.1.length r33.1.length], false⟩, some ⟨1, 3, (r33.1.map cdI.enc), false⟩, mk 1 24 ((c5 ++ [r33.2]).map (cdL 1 cdI).enc)]⟩) ?_ ?_
      · refine RunS.segF (n := 51) e_evening_Hosts_ok 2 [(5, .pt 0 0 0), (19, .sl 1 (x1.map (cdL 1 (cdL 1 cdI)).enc)), (20, .v (.int .i64 (x1.length : Int))), (21, .v (.int .i64 c6)), (45, hd 2 (c5.map (cdL 1 cdI).enc)), (46, hd 3 (r33.2.map cdI.enc))] [some ⟨1, 24, [.rf 1 0 r33.1.length r33.1.length], false⟩, some ⟨1, 3, (r33.1.map cdI.enc), false⟩, mk 1 24 (c5.map (cdL 1 cdI).enc), mk 1 3 (r33.2.map cdI.enc)] (by kernel_rfl) ?_
        refine RunS.wk (s1 := ⟨Fr 51 [(5, .pt 0 0 0), (19, .sl 1 (x1.map (cdL 1 (cdL 1 cdI)).enc)), (20, .v (.int .i64 (x1.length : Int))), (21, .v (.int .i64 c6)), (45, hd 2 (c5.map (cdL 1 cdI).enc)), (46, .sl 1 (r33.2.map cdI.enc))], [some ⟨1, 24, [.rf 1 0 r33.1.length r33.1.length], false⟩, some ⟨1, 3, (r33.1.map cdI.enc), false⟩, mk 1 24 (c5.map (cdL 1 cdI).enc), none]⟩) (Wk.frzG 3 (.inl (by kernel_rfl)) ⟨.inr (.inl rfl), .inr (.inl rfl), .inr (.inl rfl), .inl rfl, trivial⟩ ⟨⟨.pt 0 0 0, (by kernel_rfl), .inl rfl⟩, ⟨.sl 1 (x1.map (cdL 1 (cdL 1 cdI)).enc), (by kernel_rfl), .inl rfl⟩, ⟨.v (.int .i64 (x1.length : Int)), (by kernel_rfl), .inl rfl⟩, ⟨.v (.int .i64 c6), (by kernel_rfl), .inl rfl⟩, ⟨hd 2 (c5.map (cdL 1 cdI).enc), (by kernel_rfl), .inl rfl⟩, ⟨hd 3 (r33.2.map cdI.enc), (by kernel_rfl), fz_hd (t := 3) (by kernel_rfl) enc_ok⟩, trivial⟩) ?_
        refine RunS.segF (n := 51) e_evening_Hosts_ok 1 [(5, .pt 0 0 0), (19, .sl 1 (x1.map (cdL 1 (cdL 1 cdI)).enc)), (20, .v (.int .i64 (x1.length : Int))), (21, .v (.int .i64 c6)), (45, hd 2 (c5.map (cdL 1 cdI).enc)), (47, hd 4 ([r33.2].map (cdL 1 cdI).enc))] [some ⟨1, 24, [.rf 1 0 r33.1.length r33.1.length], false⟩, some ⟨1, 3, (r33.1.map cdI.enc), false⟩, mk 1 24 (c5.map (cdL 1 cdI).enc), none, mk 1 24 ([r33.2].map (cdL 1 cdI).enc)] (by kernel_rfl) ?_
        refine RunS.one e_evening_Hosts_ok 0 rfl (op_w (wantedA_none rfl) rfl (by kernel_rfl) (by kernel_rfl) (w_append (a := hd 2 (c5.map (cdL 1 cdI).enc)) (b := hd 4 ([r33.2].map (cdL 1 cdI).enc)) (by kernel_rfl) (by kernel_rfl) (append_B (c := (cdL 1 cdI)) (xs := c5) (vs := [r33.2]) (k := 1) (bytes := 24) (el := 24) (by kernel_rfl) (by kernel_rfl) (elems_hd (t := 24) (by kernel_rfl)) (List.cons_ne_nil _ _) (by kernel_rfl) hk34))) ?_
        refine RunS.segF (n := 51) e_evening_Hosts_ok 1 [(5, .pt 0 0 0), (6, hd 5 ((c5 ++ [r33.2]).map (cdL 1 cdI).enc)), (19, .sl 1 (x1.map (cdL 1 (cdL 1 cdI)).enc)), (20, .v (.int .i64 (x1.length : Int))), (21, .v (.int .i64 c6))] [some ⟨1, 24, [.rf 1 0 r33.1.length r33.1.length], false⟩, some ⟨1, 3, (r33.1.map cdI.enc), false⟩, none, none, mk 1 24 ([r33.2].map (cdL 1 cdI).enc), mk 1 24 ((c5 ++ [r33.2]).map (cdL 1 cdI).enc)] (by kernel_rfl) ?_
        exact RunS.done rfl (Wk.sel2 [0, 1, 5] (by kernel_rfl) (by kernel_rfl) (by kernel_rfl) ⟨⟨_, rfl, bu_c (by kernel_rfl) (by kernel_rfl)⟩, ⟨_, rfl, bu_own⟩, ⟨_, rfl, bu_mk⟩, trivial⟩ ⟨lu (by kernel_rfl) (by kernel_rfl), lu_hd (b' := 5) (by kernel_rfl) (by kernel_rfl), lu (by kernel_rfl) (by kernel_rfl), lu (by kernel_rfl) (by kernel_rfl), lu (by kernel_rfl) (by kernel_rfl), trivial⟩)
      refine Sem.runS (s1 := ⟨Fr 51 [(5, .pt 0 0 0), (6, hd 2 ((c5 ++ [r33.2]).map (cdL 1 cdI).enc)), (19, .sl 1 (x1.map (cdL 1 (cdL 1 cdI)).enc)), (20, .v (.int .i64 (x1.length : Int))), (21, .v (.int .i64 (wr .i64 (c6 + 1))))], [some ⟨1, 24, [.rf 1 0 r33.1.length r33.1.length], false⟩, some ⟨1, 3, (r33.1.map cdI.enc), false⟩, mk 1 24 ((c5 ++ [r33.2]).map (cdL 1 cdI).enc)]⟩) ?_ ?_
      · refine RunS.segF (n := 51) e_evening_Hosts_ok 2 [(5, .pt 0 0 0), (6, hd 2 ((c5 ++ [r33.2]).map (cdL 1 cdI).enc)), (19, .sl 1 (x1.map (cdL 1 (cdL 1 cdI)).enc)), (20, .v (.int .i64 (x1.length : Int))), (21, .v (.int .i64 (wr .i64 (c6 + 1))))] [some ⟨1, 24, [.rf 1 0 r33.1.length r33.1.length], false⟩, some ⟨1, 3, (r33.1.map cdI.enc), false⟩, mk 1 24 ((c5 ++ [r33.2]).map (cdL 1 cdI).enc)] (by kernel_rfl) ?_
        exact RunS.done rfl (Wk.sel2 [0, 1, 2] (by kernel_rfl) (by kernel_rfl) (by kernel_rfl) ⟨⟨_, rfl, bu_c (by kernel_rfl) (by kernel_rfl)⟩, ⟨_, rfl, bu_own⟩, ⟨_, rfl, bu_mk⟩, trivial⟩ ⟨lu (by kernel_rfl) (by kernel_rfl), lu_hd (b' := 2) (by kernel_rfl) (by kernel_rfl), lu (by kernel_rfl) (by kernel_rfl), lu (by kernel_rfl) (by kernel_rfl), lu (by kernel_rfl) (by kernel_rfl), trivial⟩)
      exact SemN.wk (s1 := ⟨Fr 51 [(5, .pt 0 0 0), (6, hd 2 ((c5 ++ [r33.2]).map (cdL 1 cdI).enc)), (19, .sl 1 (x1.map (cdL 1 (cdL 1 cdI)).enc)), (20, .v (.int .i64 (x1.length : Int))), (21, .v (.int .i64 (wr .i64 (c6 + 1))))], [some ⟨1, 24, [.rf 1 0 r33.1.length r33.1.length], false⟩, some ⟨1, 3, (r33.1.map cdI.enc), false⟩, mk 1 24 ((c5 ++ [r33.2]).map (cdL 1 cdI).enc)]⟩) (Wk.sel2 [0, 1, 2] (by kernel_rfl) (by kernel_rfl) (by kernel_rfl) ⟨⟨_, rfl, bu_c (by kernel_rfl) (by kernel_rfl)⟩, ⟨_, rfl, bu_own⟩, ⟨_, rfl, bu_mk⟩, trivial⟩ ⟨lu (by kernel_rfl) (by kernel_rfl), lu_hd (b' := 2) (by kernel_rfl) (by kernel_rfl), lu (by kernel_rfl) (by kernel_rfl), lu (by kernel_rfl) (by kernel_rfl), lu (by kernel_rfl) (by kernel_rfl), trivial⟩) (ih r33.1 (c5 ++ [r33.2]) (wr .i64 (c6 + 1)) h)
    · rw [if_f hb7] at h
      refine Sem.exit ?_
      have hq := Option.some.inj h; subst hq
      exact ⟨rfl, (Wk.sel2 [2] (by kernel_rfl) (by kernel_rfl) (by kernel_rfl) ⟨⟨_, rfl, bu_mk⟩, trivial⟩ ⟨lu_hd (b' := 2) (by kernel_rfl) (by kernel_rfl), trivial⟩)⟩
set_option maxHeartbeats 4000000 in
set_option maxRecDepth 100000 in
theorem evening_Hosts_sem (x0 : Int) (x1 : (List (List (List Int)))) (r : (List (List Int))) (h : evening_Hosts x0 x1 = some r) : Sem e_evening_Hosts ⟨none, false⟩ cb_evening_Hosts ⟨Fr 51 (pairs0 0 (cs_evening_Hosts.enc (x0, x1, ()))), []⟩ fun e s' => (e = .normal ∨ e = .ret) ∧ ∃ xs, resA e_evening_Hosts.P s'.fr s'.hp Tryd.f42.results.toList = some xs ∧ retA xs = er_evening_Hosts r := by
  unfold evening_Hosts at h
  refine Sem.wkQ (Sem.wk (s1 := ⟨Fr 51 [(0, .v (.int .i64 x0)), (1, .sl 1 (x1.map (cdL 1 (cdL 1 cdI)).enc))], []⟩) (Wk.fr (by kernel_rfl)) ?_)
  refine Sem.seq ?_
  refine Sem.runS (s1 := ⟨Fr 51 [(0, .v (.int .i64 x0)), (1, .sl 1 (x1.map (cdL 1 (cdL 1 cdI)).enc))], []⟩) ?_ ?_
  · refine RunS.segF (n := 51) e_evening_Hosts_ok 1 [(0, .v (.int .i64 x0)), (1, .sl 1 (x1.map (cdL 1 (cdL 1 cdI)).enc))] [] (by kernel_rfl) ?_
    exact RunS.done rfl (Wk.fr (by kernel_rfl))
  refine Sem.seq ?_
  refine Sem.seq ?_
  obtain ⟨v1, hv1, h⟩ := Option.bind_eq_some_iff.1 h
  refine Sem.runS (s1 := ⟨Fr 51 [(0, .v (.int .i64 x0)), (1, .sl 1 (x1.map (cdL 1 (cdL 1 cdI)).enc)), (16, .v (.bool (!v1)))], []⟩) ?_ ?_
  · refine RunS.segF (n := 51) e_evening_Hosts_ok 2 [(0, .v (.int .i64 x0)), (1, .sl 1 (x1.map (cdL 1 (cdL 1 cdI)).enc)), (13, .v (.int .i64 x0)), (14, .sl 1 (x1.map (cdL 1 (cdL 1 cdI)).enc))] [] (by kernel_rfl) ?_
    refine RunS.call e_evening_Hosts_ok (fid := 60) (s := cs_evening_valid) (F := fun a => evening_valid a.1 a.2.1) (er := er_evening_valid) (xs := [.v (.int .i64 x0), .sl 1 (x1.map (cdL 1 (cdL 1 cdI)).enc)]) (a := (x0, x1, ())) rfl (wantedA_none rfl) (by kernel_rfl) (by kernel_rfl) (by kernel_rfl) (by kernel_rfl) (Sns.cons (Sn.enc (c := cdI) (v := x0)) (Sns.cons (Sn.enc (c := (cdL 1 (cdL 1 (cdL 1 cdI)))) (v := x1)) Sns.nil)) (.inl (by kernel_rfl)) hv1 ?_
    refine RunS.segF (n := 51) e_evening_Hosts_ok 1 [(0, .v (.int .i64 x0)), (1, .sl 1 (x1.map (cdL 1 (cdL 1 cdI)).enc)), (16, .v (.bool (!v1)))] [] (by kernel_rfl) ?_
    exact RunS.done rfl (Wk.fr (by kernel_rfl))
  refine Sem.cond (b := (!v1)) (by kernel_rfl) (fun hb2 => ?_) (fun hb2 => ?_)
  · rw [if_pos hb2] at h
    refine Sem.seq ?_
    refine Sem.runS (s1 := ⟨Fr 51 [(4, .e0)], []⟩) ?_ ?_
    · refine RunS.segF (n := 51) e_evening_Hosts_ok 1 [(4, .e0)] [] (by kernel_rfl) ?_
      exact RunS.done rfl (Wk.fr (by kernel_rfl))
    refine Sem.ret ?_
    have hq := Option.some.inj h; subst hq
    exact ⟨⟨Fr 51 [(4, .sl 1 ([].map (cdL 1 cdI).enc))], []⟩, (Wk.trans (s1 := ⟨Fr 51 [(4, .e0)], []⟩) (Wk.fr (by kernel_rfl)) (Wk.trans (s1 := ⟨Fr 51 [(4, .e0)], [none]⟩) Wk.none (Wk.trans (s1 := ⟨Fr 51 [(4, .sl 1 ([].map (cdL 1 cdI).enc))], [none]⟩) (Wk.frzG 0 (.inr (by kernel_rfl)) ⟨.inl rfl, trivial⟩ ⟨⟨.e0, (by kernel_rfl), fz_e0⟩, trivial⟩) (Wk.sel2 [] (by kernel_rfl) (by kernel_rfl) (by kernel_rfl) trivial ⟨lu (by kernel_rfl) (by kernel_rfl), trivial⟩)))), .inr rfl, [.sl 1 ([].map (cdL 1 cdI).enc)], (by kernel_rfl), (by kernel_rfl)⟩
  · rw [if_f hb2] at h
    refine Sem.skip ?_
    refine Sem.seq ?_
    by_cases hk3 : (mkOk 8 x0) = true
    case neg => rw [if_neg hk3] at h; cases h
    rw [if_pos hk3] at h
    refine Sem.runS (s1 := ⟨Fr 51 [(1, .sl 1 (x1.map (cdL 1 (cdL 1 cdI)).enc)), (5, .pt 0 0 0)], [some ⟨1, 24, [.rf 1 0 (List.replicate x0.toNat (0 : Int)).length (List.replicate x0.toNat (0 : Int)).length], false⟩, some ⟨1, 3, ((List.replicate x0.toNat (0 : Int)).map cdI.enc), false⟩]⟩) ?_ ?_
    · refine RunS.segF (n := 51) e_evening_Hosts_ok 1 [(1, .sl 1 (x1.map (cdL 1 (cdL 1 cdI)).enc)), (17, .v (.int .i64 x0))] [] (by kernel_rfl) ?_
      refine RunS.one e_evening_Hosts_ok 0 rfl (op_n (wantedA_none rfl) rfl (by kernel_rfl) (n_make (x := .v (.int .i64 x0)) (y := .v (.int .i64 x0)) (by kernel_rfl) (by kernel_rfl) (make_B (c := cdI) (z := (0 : Int)) (k := 1) (bytes := 8) (el := 3) (by kernel_rfl) (by kernel_rfl) hk3))) ?_
      refine RunS.segF (n := 51) e_evening_Hosts_ok 2 [(1, .sl 1 (x1.map (cdL 1 (cdL 1 cdI)).enc)), (5, .pt 1 0 0)] [some ⟨1, 3, ((List.replicate x0.toNat (0 : Int)).map cdI.enc), false⟩, some ⟨1, 24, [.rf 0 0 (List.replicate x0.toNat (0 : Int)).length (List.replicate x0.toNat (0 : Int)).length], false⟩] (by kernel_rfl) ?_
      exact RunS.done rfl (Wk.sel2 [1, 0] (by kernel_rfl) (by kernel_rfl) (by kernel_rfl) ⟨⟨_, rfl, bu_c (by kernel_rfl) (by kernel_rfl)⟩, ⟨_, rfl, bu_own⟩, trivial⟩ ⟨lu (by kernel_rfl) (by kernel_rfl), lu (by kernel_rfl) (by kernel_rfl), trivial⟩)
    refine Sem.seq ?_
    refine Sem.runS (s1 := ⟨Fr 51 [(1, .sl 1 (x1.map (cdL 1 (cdL 1 cdI)).enc)), (5, .pt 0 0 0), (6, .e0)], [some ⟨1, 24, [.rf 1 0 (List.replicate x0.toNat (0 : Int)).length (List.replicate x0.toNat (0 : Int)).length], false⟩, some ⟨1, 3, ((List.replicate x0.toNat (0 : Int)).map cdI.enc), false⟩]⟩) ?_ ?_
    · refine RunS.segF (n := 51) e_evening_Hosts_ok 1 [(1, .sl 1 (x1.map (cdL 1 (cdL 1 cdI)).enc)), (5, .pt 0 0 0), (6, .e0)] [some ⟨1, 24, [.rf 1 0 (List.replicate x0.toNat (0 : Int)).length (List.replicate x0.toNat (0 : Int)).length], false⟩, some ⟨1, 3, ((List.replicate x0.toNat (0 : Int)).map cdI.enc), false⟩] (by kernel_rfl) ?_
      exact RunS.done rfl (Wk.sel2 [0, 1] (by kernel_rfl) (by kernel_rfl) (by kernel_rfl) ⟨⟨_, rfl, bu_c (by kernel_rfl) (by kernel_rfl)⟩, ⟨_, rfl, bu_own⟩, trivial⟩ ⟨lu (by kernel_rfl) (by kernel_rfl), lu (by kernel_rfl) (by kernel_rfl), lu (by kernel_rfl) (by kernel_rfl), trivial⟩)
    refine Sem.seq ?_
    refine Sem.seq ?_
    refine Sem.runS (s1 := ⟨Fr 51 [(5, .pt 0 0 0), (6, .e0), (19, .sl 1 (x1.map (cdL 1 (cdL 1 cdI)).enc)), (20, .v (.int .i64 (x1.length : Int))), (21, .v (.int .i64 0))], [some ⟨1, 24, [.rf 1 0 (List.replicate x0.toNat (0 : Int)).length (List.replicate x0.toNat (0 : Int)).length], false⟩, some ⟨1, 3, ((List.replicate x0.toNat (0 : Int)).map cdI.enc), false⟩]⟩) ?_ ?_
    · refine RunS.segF (n := 51) e_evening_Hosts_ok 1 [(5, .pt 0 0 0), (6, .e0), (19, .sl 1 (x1.map (cdL 1 (cdL 1 cdI)).enc))] [some ⟨1, 24, [.rf 1 0 (List.replicate x0.toNat (0 : Int)).length (List.replicate x0.toNat (0 : Int)).length], false⟩, some ⟨1, 3, ((List.replicate x0.toNat (0 : Int)).map cdI.enc), false⟩] (by kernel_rfl) ?_
      refine RunS.one e_evening_Hosts_ok 0 rfl (op_q (wantedA_none rfl) rfl (q_len (a := .sl 1 (x1.map (cdL 1 (cdL 1 cdI)).enc)) (by kernel_rfl) (len_sl (el := 49) (by kernel_rfl)))) ?_
      refine RunS.segF (n := 51) e_evening_Hosts_ok 1 [(5, .pt 0 0 0), (6, .e0), (19, .sl 1 (x1.map (cdL 1 (cdL 1 cdI)).enc)), (20, .v (.int .i64 (x1.length : Int))), (21, .v (.int .i64 0))] [some ⟨1, 24, [.rf 1 0 (List.replicate x0.toNat (0 : Int)).length (List.replicate x0.toNat (0 : Int)).length], false⟩, some ⟨1, 3, ((List.replicate x0.toNat (0 : Int)).map cdI.enc), false⟩] (by kernel_rfl) ?_
      exact RunS.done rfl (Wk.sel2 [0, 1] (by kernel_rfl) (by kernel_rfl) (by kernel_rfl) ⟨⟨_, rfl, bu_c (by kernel_rfl) (by kernel_rfl)⟩, ⟨_, rfl, bu_own⟩, trivial⟩ ⟨lu (by kernel_rfl) (by kernel_rfl), lu (by kernel_rfl) (by kernel_rfl), lu (by kernel_rfl) (by kernel_rfl), lu (by kernel_rfl) (by kernel_rfl), lu (by kernel_rfl) (by kernel_rfl), trivial⟩)
    refine Sem.block ?_
    obtain ⟨r36, hr36, h⟩ := Option.bind_eq_some_iff.1 h
    refine Sem.loop (n := 100000) ?_
    refine Sem.cutN (SemN.wk (s1 := ⟨Fr 51 [(5, .pt 0 0 0), (6, hd 2 ([].map (cdL 1 cdI).enc)), (19, .sl 1 (x1.map (cdL 1 (cdL 1 cdI)).enc)), (20, .v (.int .i64 (x1.length : Int))), (21, .v (.int .i64 0))], [some ⟨1, 24, [.rf 1 0 (List.replicate x0.toNat (0 : Int)).length (List.replicate x0.toNat (0 : Int)).length], false⟩, some ⟨1, 3, ((List.replicate x0.toNat (0 : Int)).map cdI.enc), false⟩, mk 1 24 ([].map (cdL 1 cdI).enc)]⟩) (Wk.trans (s1 := ⟨Fr 51 [(5, .pt 0 0 0), (6, hd 2 ([].map (cdL 1 cdI).enc)), (19, .sl 1 (x1.map (cdL 1 (cdL 1 cdI)).enc)), (20, .v (.int .i64 (x1.length : Int))), (21, .v (.int .i64 0))], [some ⟨1, 24, [.rf 1 0 (List.replicate x0.toNat (0 : Int)).length (List.replicate x0.toNat (0 : Int)).length], false⟩, some ⟨1, 3, ((List.replicate x0.toNat (0 : Int)).map cdI.enc), false⟩, mk 1 24 ([].map (cdL 1 cdI).enc)]⟩) Wk.none (Wk.sel2 [0, 1, 2] (by kernel_rfl) (by kernel_rfl) (by kernel_rfl) ⟨⟨_, rfl, bu_c (by kernel_rfl) (by kernel_rfl)⟩, ⟨_, rfl, bu_own⟩, ⟨_, rfl, bu_none⟩, trivial⟩ ⟨lu (by kernel_rfl) (by kernel_rfl), lu (by kernel_rfl) (by kernel_rfl), lu (by kernel_rfl) (by kernel_rfl), lu (by kernel_rfl) (by kernel_rfl), lu (by kernel_rfl) (by kernel_rfl), trivial⟩)) (evening_Hosts_1_ok x1 _ (List.replicate x0.toNat (0 : Int)) [] 0 _ hr36)) ?_
    refine Sem.seq ?_
    refine Sem.runS (s1 := ⟨Fr 51 [(4, hd 0 (r36.map (cdL 1 cdI).enc))], [mk 1 24 (r36.map (cdL 1 cdI).enc)]⟩) ?_ ?_
    · refine RunS.segF (n := 51) e_evening_Hosts_ok 2 [(4, hd 0 (r36.map (cdL 1 cdI).enc))] [mk 1 24 (r36.map (cdL 1 cdI).enc)] (by kernel_rfl) ?_
      exact RunS.done rfl (Wk.sel2 [0] (by kernel_rfl) (by kernel_rfl) (by kernel_rfl) ⟨⟨_, rfl, bu_mk⟩, trivial⟩ ⟨lu_hd (b' := 0) (by kernel_rfl) (by kernel_rfl), trivial⟩)
    refine Sem.ret ?_
    have hq := Option.some.inj h; subst hq
    exact ⟨⟨Fr 51 [(4, .sl 1 (r36.map (cdL 1 cdI).enc))], []⟩, (Wk.trans (s1 := ⟨Fr 51 [(4, .sl 1 (r36.map (cdL 1 cdI).enc))], [none]⟩) (Wk.frzG 0 (.inl (by kernel_rfl)) ⟨.inl rfl, trivial⟩ ⟨⟨hd 0 (r36.map (cdL 1 cdI).enc), (by kernel_rfl), fz_hd (t := 24) (by kernel_rfl) enc_ok⟩, trivial⟩) (Wk.sel2 [] (by kernel_rfl) (by kernel_rfl) (by kernel_rfl) trivial ⟨lu (by kernel_rfl) (by kernel_rfl), trivial⟩)), .inr rfl, [.sl 1 (r36.map (cdL 1 cdI).enc)], (by kernel_rfl), (by kernel_rfl)⟩
def t_evening_Hosts : List AV → Option AV := told cs_evening_Hosts (fun a => evening_Hosts a.1 a.2.1) er_evening_Hosts
theorem x_evening_Hosts : XOk 42 t_evening_Hosts := by
  refine EnvOk.x (E := e_evening_Hosts) (contract_ok e_evening_Hosts_ok (fn := Tryd.f42) (c := cb_evening_Hosts) ?h1 ?h2 ⟨Tryd.call42⟩ cs_evening_Hosts (fun a => evening_Hosts a.1 a.2.1) er_evening_Hosts (fun a => (by show 2 ≤ 51; decide)) ?h3 ?h4) rfl rfl
  case h1 => kernel_rfl
  case h2 => kernel_rfl
  case h3 => intro b; kernel_rfl
  case h4 => exact fun a b h => evening_Hosts_sem a.1 a.2.1 b h
end Go.Proofs.YthofgamegondnaaDoor

namespace Go.Proofs.YthofgamegondnaaDoor
open Go.RowKit
/- slices.Index[[]int,int] -/
noncomputable def e_slices_Index_L_int : Env := E0
theorem e_slices_Index_L_int_ok : EnvOk e_slices_Index_L_int := E0_ok
noncomputable def cb_slices_Index_L_int : Code := codeOf Tryd.f82
def slices_Index_L_int_1 (x0 : (List Int)) (x1 : Int) : Nat → Int → Option ((Unit) ⊕ (Int))
  | 0, _ => none
  | f + 1, c1 =>
    if (decide (c1 < (x0.length : Int))) = true then
    (idx x0 c1).bind fun v3 =>
    if (x1 == v3) = true then
    some (.inr c1)
    else
    slices_Index_L_int_1 x0 x1 f (wr .i64 (c1 + 1))
    else
    some (.inl ())
def slices_Index_L_int (x0 : (List Int)) (x1 : Int) : Option (Int) :=
  (slices_Index_L_int_1 x0 x1 100000 0).bind fun r6 =>
  match r6 with
  | (.inl w7) =>
    some (-1)
  | (.inr w8) =>
    some w8
def cs_slices_Index_L_int : Cs ((List Int) × Int × Unit) := (csC (cdL 1 cdI) (csC cdI csN))
def er_slices_Index_L_int (r : Int) : AV := cdI.enc r
set_option maxHeartbeats 4000000 in
set_option maxRecDepth 100000 in
theorem slices_Index_L_int_1_ok (x0 : (List Int)) (x1 : Int) : ∀ (f : Nat) (c1 : Int) (r : (Unit) ⊕ (Int)), slices_Index_L_int_1 x0 x1 f c1 = some r → SemN e_slices_Index_L_int ⟨none, false⟩ (pc cb_slices_Index_L_int [1, 0, 1, 0, 0]) f ⟨Fr 19 [(0, .sl 1 (x0.map cdI.enc)), (1, .v (.int .i64 x1)), (7, .v (.int .i64 (x0.length : Int))), (8, .v (.int .i64 c1))], []⟩ (fun e s => match r with
  | (.inl w) => e = (.exit 0) ∧ Wk e_slices_Index_L_int s ⟨Fr 19 [], []⟩
  | (.inr w) => e = .ret ∧ Wk e_slices_Index_L_int s ⟨Fr 19 [(4, .v (.int .i64 w))], []⟩) := by
  intro f
  induction f with
  | zero => intro c1 r h; cases h
  | succ f ih0 =>
    intro c1 r h
    have ih := fun (c1 : Int) => ih0 c1 r
    unfold slices_Index_L_int_1 at h
    refine SemN.succ ?_
    refine Sem.seq ?_
    refine Sem.runS (s1 := ⟨Fr 19 [(0, .sl 1 (x0.map cdI.enc)), (1, .v (.int .i64 x1)), (7, .v (.int .i64 (x0.length : Int))), (8, .v (.int .i64 c1)), (9, .v (.bool (decide (c1 < (x0.length : Int)))))], []⟩) ?_ ?_
    · refine RunS.segF (n := 19) e_slices_Index_L_int_ok 1 [(0, .sl 1 (x0.map cdI.enc)), (1, .v (.int .i64 x1)), (7, .v (.int .i64 (x0.length : Int))), (8, .v (.int .i64 c1)), (9, .v (.bool (decide (c1 < (x0.length : Int)))))] [] (by kernel_rfl) ?_
      exact RunS.done rfl (Wk.fr (by kernel_rfl))
    refine Sem.seq ?_
    refine Sem.cond (b := (decide (c1 < (x0.length : Int)))) (by kernel_rfl) (fun hb2 => ?_) (fun hb2 => ?_)
    · rw [if_pos hb2] at h
      refine Sem.skip ?_
      refine Sem.seq ?_
      refine Sem.block ?_
      refine Sem.seq ?_
      refine Sem.runS (s1 := ⟨Fr 19 [(0, .sl 1 (x0.map cdI.enc)), (1, .v (.int .i64 x1)), (5, .v (.int .i64 c1)), (7, .v (.int .i64 (x0.length : Int))), (8, .v (.int .i64 c1))], []⟩) ?_ ?_
      · refine RunS.segF (n := 19) e_slices_Index_L_int_ok 2 [(0, .sl 1 (x0.map cdI.enc)), (1, .v (.int .i64 x1)), (5, .v (.int .i64 c1)), (7, .v (.int .i64 (x0.length : Int))), (8, .v (.int .i64 c1))] [] (by kernel_rfl) ?_
        exact RunS.done rfl (Wk.fr (by kernel_rfl))
      refine Sem.seq ?_
      obtain ⟨v3, hv3, h⟩ := Option.bind_eq_some_iff.1 h
      refine Sem.runS (s1 := ⟨Fr 19 [(0, .sl 1 (x0.map cdI.enc)), (1, .v (.int .i64 x1)), (5, .v (.int .i64 c1)), (7, .v (.int .i64 (x0.length : Int))), (8, .v (.int .i64 c1)), (16, .v (.bool (x1 == v3)))], []⟩) ?_ ?_
      · refine RunS.segF (n := 19) e_slices_Index_L_int_ok 3 [(0, .sl 1 (x0.map cdI.enc)), (1, .v (.int .i64 x1)), (5, .v (.int .i64 c1)), (7, .v (.int .i64 (x0.length : Int))), (8, .v (.int .i64 c1)), (11, .v (.int .i64 x1)), (12, .sl 1 (x0.map cdI.enc)), (13, .v (.int .i64 c1))] [] (by kernel_rfl) ?_
        refine RunS.one e_slices_Index_L_int_ok 0 rfl (op_q (wantedA_none rfl) rfl (q_indexAddr (a := .sl 1 (x0.map cdI.enc)) (b := .v (.int .i64 c1)) (by kernel_rfl) (by kernel_rfl) (ix_sl (e := cdI.enc) (el := 3) (k := 1) (ki := .i64) (by kernel_rfl) (by kernel_rfl) hv3))) ?_
        refine RunS.segF (n := 19) e_slices_Index_L_int_ok 2 [(0, .sl 1 (x0.map cdI.enc)), (1, .v (.int .i64 x1)), (5, .v (.int .i64 c1)), (7, .v (.int .i64 (x0.length : Int))), (8, .v (.int .i64 c1)), (16, .v (.bool (x1 == v3)))] [] (by kernel_rfl) ?_
        exact RunS.done rfl (Wk.fr (by kernel_rfl))
      refine Sem.cond (b := (x1 == v3)) (by kernel_rfl) (fun hb4 => ?_) (fun hb4 => ?_)
      · rw [if_pos hb4] at h
        refine Sem.seq ?_
        refine Sem.runS (s1 := ⟨Fr 19 [(4, .v (.int .i64 c1))], []⟩) ?_ ?_
        · refine RunS.segF (n := 19) e_slices_Index_L_int_ok 2 [(4, .v (.int .i64 c1))] [] (by kernel_rfl) ?_
          exact RunS.done rfl (Wk.fr (by kernel_rfl))
        refine Sem.ret ?_
        have hq := Option.some.inj h; subst hq
        exact ⟨rfl, (Wk.fr (by kernel_rfl))⟩
      · rw [if_f hb4] at h
        refine Sem.skip ?_
        refine Sem.runS (s1 := ⟨Fr 19 [(0, .sl 1 (x0.map cdI.enc)), (1, .v (.int .i64 x1)), (7, .v (.int .i64 (x0.length : Int))), (8, .v (.int .i64 (wr .i64 (c1 + 1))))], []⟩) ?_ ?_
        · refine RunS.segF (n := 19) e_slices_Index_L_int_ok 2 [(0, .sl 1 (x0.map cdI.enc)), (1, .v (.int .i64 x1)), (7, .v (.int .i64 (x0.length : Int))), (8, .v (.int .i64 (wr .i64 (c1 + 1))))] [] (by kernel_rfl) ?_
          exact RunS.done rfl (Wk.fr (by kernel_rfl))
        exact SemN.wk (s1 := ⟨Fr 19 [(0, .sl 1 (x0.map cdI.enc)), (1, .v (.int .i64 x1)), (7, .v (.int .i64 (x0.length : Int))), (8, .v (.int .i64 (wr .i64 (c1 + 1))))], []⟩) (Wk.fr (by kernel_rfl)) (ih (wr .i64 (c1 + 1)) h)
    · rw [if_f hb2] at h
      refine Sem.exit ?_
      have hq := Option.some.inj h; subst hq
      exact ⟨rfl, (Wk.fr (by kernel_rfl))⟩
set_option maxHeartbeats 4000000 in
set_option maxRecDepth 100000 in
theorem slices_Index_L_int_sem (x0 : (List Int)) (x1 : Int) (r : Int) (h : slices_Index_L_int x0 x1 = some r) : Sem e_slices_Index_L_int ⟨none, false⟩ cb_slices_Index_L_int ⟨Fr 19 (pairs0 0 (cs_slices_Index_L_int.enc (x0, x1, ()))), []⟩ fun e s' => (e = .normal ∨ e = .ret) ∧ ∃ xs, resA e_slices_Index_L_int.P s'.fr s'.hp Tryd.f82.results.toList = some xs ∧ retA xs = er_slices_Index_L_int r := by
  unfold slices_Index_L_int at h
  refine Sem.wkQ (Sem.wk (s1 := ⟨Fr 19 [(0, .sl 1 (x0.map cdI.enc)), (1, .v (.int .i64 x1))], []⟩) (Wk.fr (by kernel_rfl)) ?_)
  refine Sem.seq ?_
  refine Sem.runS (s1 := ⟨Fr 19 [(0, .sl 1 (x0.map cdI.enc)), (1, .v (.int .i64 x1))], []⟩) ?_ ?_
  · refine RunS.segF (n := 19) e_slices_Index_L_int_ok 1 [(0, .sl 1 (x0.map cdI.enc)), (1, .v (.int .i64 x1))] [] (by kernel_rfl) ?_
    exact RunS.done rfl (Wk.fr (by kernel_rfl))
  refine Sem.seq ?_
  refine Sem.seq ?_
  refine Sem.runS (s1 := ⟨Fr 19 [(0, .sl 1 (x0.map cdI.enc)), (1, .v (.int .i64 x1)), (7, .v (.int .i64 (x0.length : Int))), (8, .v (.int .i64 0))], []⟩) ?_ ?_
  · refine RunS.segF (n := 19) e_slices_Index_L_int_ok 1 [(0, .sl 1 (x0.map cdI.enc)), (1, .v (.int .i64 x1)), (6, .sl 1 (x0.map cdI.enc))] [] (by kernel_rfl) ?_
    refine RunS.one e_slices_Index_L_int_ok 0 rfl (op_q (wantedA_none rfl) rfl (q_len (a := .sl 1 (x0.map cdI.enc)) (by kernel_rfl) (len_sl (el := 3) (by kernel_rfl)))) ?_
    refine RunS.segF (n := 19) e_slices_Index_L_int_ok 1 [(0, .sl 1 (x0.map cdI.enc)), (1, .v (.int .i64 x1)), (7, .v (.int .i64 (x0.length : Int))), (8, .v (.int .i64 0))] [] (by kernel_rfl) ?_
    exact RunS.done rfl (Wk.fr (by kernel_rfl))
  refine Sem.block ?_
  obtain ⟨r6, hr6, h⟩ := Option.bind_eq_some_iff.1 h
  refine Sem.loop (n := 100000) ?_
  rcases r6 with w7 | w8
  · try dsimp only at h
    refine Sem.cutN (SemN.wk (s1 := ⟨Fr 19 [(0, .sl 1 (x0.map cdI.enc)), (1, .v (.int .i64 x1)), (7, .v (.int .i64 (x0.length : Int))), (8, .v (.int .i64 0))], []⟩) (Wk.fr (by kernel_rfl)) (slices_Index_L_int_1_ok x0 x1 _ 0 _ hr6)) ?_
    refine Sem.seq ?_
    refine Sem.runS (s1 := ⟨Fr 19 [(4, .v (.int .i64 (-1)))], []⟩) ?_ ?_
    · refine RunS.segF (n := 19) e_slices_Index_L_int_ok 1 [(4, .v (.int .i64 (-1)))] [] (by kernel_rfl) ?_
      exact RunS.done rfl (Wk.fr (by kernel_rfl))
    refine Sem.ret ?_
    have hq := Option.some.inj h; subst hq
    exact ⟨⟨Fr 19 [(4, .v (.int .i64 (-1)))], []⟩, (Wk.fr (by kernel_rfl)), .inr rfl, [.v (.int .i64 (-1))], (by kernel_rfl), (by kernel_rfl)⟩
  · try dsimp only at h
    refine Sem.cutN (SemN.wk (s1 := ⟨Fr 19 [(0, .sl 1 (x0.map cdI.enc)), (1, .v (.int .i64 x1)), (7, .v (.int .i64 (x0.length : Int))), (8, .v (.int .i64 0))], []⟩) (Wk.fr (by kernel_rfl)) (slices_Index_L_int_1_ok x0 x1 _ 0 _ hr6)) ?_
    have hq := Option.some.inj h; subst hq
    exact ⟨⟨Fr 19 [(4, .v (.int .i64 w8))], []⟩, (Wk.fr (by kernel_rfl)), .inr rfl, [.v (.int .i64 w8)], (by kernel_rfl), (by kernel_rfl)⟩
def t_slices_Index_L_int : List AV → Option AV := told cs_slices_Index_L_int (fun a => slices_Index_L_int a.1 a.2.1) er_slices_Index_L_int
theorem x_slices_Index_L_int : XOk 82 t_slices_Index_L_int := by
  refine EnvOk.x (E := e_slices_Index_L_int) (contract_ok e_slices_Index_L_int_ok (fn := Tryd.f82) (c := cb_slices_Index_L_int) ?h1 ?h2 ⟨Tryd.call82⟩ cs_slices_Index_L_int (fun a => slices_Index_L_int a.1 a.2.1) er_slices_Index_L_int (fun a => (by show 2 ≤ 19; decide)) ?h3 ?h4) rfl rfl
  case h1 => kernel_rfl
  case h2 => kernel_rfl
  case h3 => intro b; kernel_rfl
  case h4 => exact fun a b h => slices_Index_L_int_sem a.1 a.2.1 b h
end Go.Proofs.YthofgamegondnaaDoor

namespace Go.Proofs.YthofgamegondnaaDoor
open Go.RowKit
/- slices.Contains[[]int,int] -/
noncomputable def e_slices_Contains_L_int : Env := (E0.withX 82 t_slices_Index_L_int)
theorem e_slices_Contains_L_int_ok : EnvOk e_slices_Contains_L_int := (EnvOk.withX E0_ok x_slices_Index_L_int.1 x_slices_Index_L_int.2)
noncomputable def cb_slices_Contains_L_int : Code := codeOf Tryd.f43
def slices_Contains_L_int (x0 : (List Int)) (x1 : Int) : Option (Bool) :=
  (slices_Index_L_int x0 x1).bind fun v1 =>
  some (decide (v1 ≥ 0))
def cs_slices_Contains_L_int : Cs ((List Int) × Int × Unit) := (csC (cdL 1 cdI) (csC cdI csN))
def er_slices_Contains_L_int (r : Bool) : AV := cdB.enc r
set_option maxHeartbeats 4000000 in
set_option maxRecDepth 100000 in
theorem slices_Contains_L_int_sem (x0 : (List Int)) (x1 : Int) (r : Bool) (h : slices_Contains_L_int x0 x1 = some r) : Sem e_slices_Contains_L_int ⟨none, false⟩ cb_slices_Contains_L_int ⟨Fr 9 (pairs0 0 (cs_slices_Contains_L_int.enc (x0, x1, ()))), []⟩ fun e s' => (e = .normal ∨ e = .ret) ∧ ∃ xs, resA e_slices_Contains_L_int.P s'.fr s'.hp Tryd.f43.results.toList = some xs ∧ retA xs = er_slices_Contains_L_int r := by
  unfold slices_Contains_L_int at h
  refine Sem.wkQ (Sem.wk (s1 := ⟨Fr 9 [(0, .sl 1 (x0.map cdI.enc)), (1, .v (.int .i64 x1))], []⟩) (Wk.fr (by kernel_rfl)) ?_)
  refine Sem.seq ?_
  refine Sem.runS (s1 := ⟨Fr 9 [(0, .sl 1 (x0.map cdI.enc)), (1, .v (.int .i64 x1))], []⟩) ?_ ?_
  · refine RunS.segF (n := 9) e_slices_Contains_L_int_ok 1 [(0, .sl 1 (x0.map cdI.enc)), (1, .v (.int .i64 x1))] [] (by kernel_rfl) ?_
    exact RunS.done rfl (Wk.fr (by kernel_rfl))
  refine Sem.seq ?_
  obtain ⟨v1, hv1, h⟩ := Option.bind_eq_some_iff.1 h
  refine Sem.runS (s1 := ⟨Fr 9 [(4, .v (.bool (decide (v1 ≥ 0))))], []⟩) ?_ ?_
  · refine RunS.segF (n := 9) e_slices_Contains_L_int_ok 2 [(5, .sl 1 (x0.map cdI.enc)), (6, .v (.int .i64 x1))] [] (by kernel_rfl) ?_
    refine RunS.call e_slices_Contains_L_int_ok (fid := 82) (s := cs_slices_Index_L_int) (F := fun a => slices_Index_L_int a.1 a.2.1) (er := er_slices_Index_L_int) (xs := [.sl 1 (x0.map cdI.enc), .v (.int .i64 x1)]) (a := (x0, x1, ())) rfl (wantedA_none rfl) (by kernel_rfl) (by kernel_rfl) (by kernel_rfl) (by kernel_rfl) (Sns.cons (Sn.enc (c := (cdL 1 cdI)) (v := x0)) (Sns.cons (Sn.enc (c := cdI) (v := x1)) Sns.nil)) (.inl (by kernel_rfl)) hv1 ?_
    refine RunS.segF (n := 9) e_slices_Contains_L_int_ok 2 [(4, .v (.bool (decide (v1 ≥ 0))))] [] (by kernel_rfl) ?_
    exact RunS.done rfl (Wk.fr (by kernel_rfl))
  refine Sem.ret ?_
  have hq := Option.some.inj h; subst hq
  exact ⟨⟨Fr 9 [(4, .v (.bool (decide (v1 ≥ 0))))], []⟩, (Wk.fr (by kernel_rfl)), .inr rfl, [.v (.bool (decide (v1 ≥ 0)))], (by kernel_rfl), (by kernel_rfl)⟩
def t_slices_Contains_L_int : List AV → Option AV := told cs_slices_Contains_L_int (fun a => slices_Contains_L_int a.1 a.2.1) er_slices_Contains_L_int
theorem x_slices_Contains_L_int : XOk 43 t_slices_Contains_L_int := by
  refine EnvOk.x (E := e_slices_Contains_L_int) (contract_ok e_slices_Contains_L_int_ok (fn := Tryd.f43) (c := cb_slices_Contains_L_int) ?h1 ?h2 ⟨Tryd.call43⟩ cs_slices_Contains_L_int (fun a => slices_Contains_L_int a.1 a.2.1) er_slices_Contains_L_int (fun a => (by show 2 ≤ 9; decide)) ?h3 ?h4) rfl rfl
  case h1 => kernel_rfl
  case h2 => kernel_rfl
  case h3 => intro b; kernel_rfl
  case h4 => exact fun a b h => slices_Contains_L_int_sem a.1 a.2.1 b h
end Go.Proofs.YthofgamegondnaaDoor
