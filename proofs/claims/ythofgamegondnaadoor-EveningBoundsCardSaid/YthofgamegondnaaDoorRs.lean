/- Reasoning on abstract states: operations one by one, told by sets of states; calls that hand back own blocks. -/
import Derived.Test.YthofgamegondnaaDoorBlk
namespace Go.Proofs.YthofgamegondnaaDoor
open Go.RowKit

/-- Operations in their order. -/
def LwL (P : Program) (ops : Array Oper) (Q : Act → World → Prop) : List Oper → Act → World → Prop
  | [], a, w => Q a w
  | o :: rest, a, w => if Region.wanted o (yielded ops a.tmps) then Lw P o a w (LwL P ops Q rest) else LwL P ops Q rest (a.put o.dst undef) w
section
variable {P : Program} {ops : Array Oper} {a : Act} {w : World} {o : Oper}
theorem Lw.mono' {K K' : Act → World → Prop} (h : Lw P o a w K) (k : ∀ a w, K a w → K' a w) : Lw P o a w K' := by
  unfold Lw at h ⊢
  split at h
  · exact k _ _ h
  · exact k _ _ h
  · exact Ret.mono h fun v w' h => k _ _ h
  · exact h.elim
theorem lw_wpIn {K : Act → World → Prop} {Q : Exit → Act → World → Prop} (ro : Option Nat) (h : Lw P o a w K) : o.wpIn (Fw ro) 0 P a w K Q := by
  unfold Lw at h
  split at h
  · next v w' hr => exact ⟨fun _ _ => trivial, by rw [show (Fw ro).round = ro from rfl, semAt_run ro hr (by simp)]; exact h⟩
  · next w' hr => exact ⟨fun _ _ => trivial, by rw [show (Fw ro).round = ro from rfl, semAt_run ro hr (by simp)]; exact h⟩
  · next f args w' hr =>
    refine ⟨fun _ _ => trivial, ?_⟩
    rw [show (Fw ro).round = ro from rfl, semAt_run ro hr (by simp)]
    refine ⟨(fun h => by cases h), CallsIn.mono (callsIn_fw ro _ h) fun e w' hS => ?_⟩
    cases e with
    | returned v => exact hS
    | panicked c => exact hS.elim
    | outgrown => exact hS.elim
  · exact h.elim
theorem lwl_list (ro : Option Nat) {Q : Exit → Act → World → Prop} : ∀ {rest : List Oper} {a : Act} {w : World}, LwL P ops (fun a w => Q .normal a w) rest a w → wpListIn (Fw ro) 0 P ops Q rest a w
  | [], _, _, h => h
  | o :: rest, a, w, h => by
    unfold LwL at h
    unfold wpListIn
    split at h
    · next hw => rw [if_pos hw]; exact lw_wpIn ro (h.mono' fun a w h => lwl_list ro h)
    · next hw => rw [if_neg hw]; exact ⟨fun _ _ => trivial, lwl_list ro h⟩
theorem lwl_mix {C : World → Prop} {loud : Nat → Bool} {T : Nat} {Q : Act → World → Prop} : ∀ {rest : List Oper} {a : Act} {w : World} {k : Nat}, LwL P ops Q rest a w → T ≤ k → (k ≤ T → C w) → (∀ j, k ≤ j → loud j = true) → wpMix P ops C loud T Q k rest a w
  | [], _, _, _, h, _, hC, _ => ⟨hC, h⟩
  | o :: rest, a, w, k, h, hT, hC, hl => by
    refine ⟨hC, ?_⟩
    unfold LwL at h
    split at h
    · next hw =>
      rw [if_pos hw, if_pos (hl k (Nat.le_refl _))]
      exact h.mono' fun a w h => lwl_mix h (by omega) (fun h => by omega) (fun j hj => hl j (by omega))
    · next hw =>
      rw [if_neg hw]
      exact lwl_mix h (by omega) (fun h => by omega) (fun j hj => hl j (by omega))
end

/-- The operations that are left run; how they end, told by a set of states. -/
def RunS (E : Env) (ops : Array Oper) (rest : List Oper) (s : St) (K : St → Prop) : Prop :=
  ∀ (base : Nat) (Q : Act → World → Prop) (a : Act) (w : World) (Z : Nat → Prop) (R : List RI), SR E base w Z R s a →
    (∀ s' a' w' Z' R', K s' → SR E base w' Z' R' s' a' → StepW w Z R s.hp w' Z' R' s'.hp → Q a' w') → LwL E.P ops Q rest a w
/-- .. ahead of the first write of a region that draws its order. -/
def RunDS (E : Env) (ops : Array Oper) (n0 k : Nat) (rest : List Oper) (s : St) (K : St → Prop) : Prop :=
  ∀ (base : Nat) (Q : Act → World → Prop) (w0 : World) (Z : Nat → Prop) (R0 : List RI) (h0 : Hp) (a : Act) (w : World) (R : List RI), HR w0 Z R0 h0 → n0 = h0.length → tailAt ops ≤ ops.size → SR E base w Z R s a → w0.grownBy w none → Step w0 Z R0 h0 w Z R s.hp → (∀ (b : Nat) (B : Option Blk), h0[b]? = some B → s.hp[b]? = some B) → tailAt ops = tailGo rest k → k + rest.length = ops.size → (∀ j, rest[j]? = ops[k + j]?) →
    (∀ s' a' w' Z' R', K s' → SR E base w' Z' R' s' a' → StepW w0 Z R0 h0 w' Z' R' s'.hp → Q a' w') → wpMix E.P ops (fun w' => w0.grownBy w' none) (fun k => !((ops[k]?).any fun o => isQ o.op) || Nat.ble (tailAt ops) k) (tailAt ops) Q k rest a w

section
variable {E : Env} {cx : Cx} {ops : Array Oper} {pre rest rest' : List Oper} {s s1 : St} {K : St → Prop} {n n0 k : Nat} {l : List (Nat × AV)} {hp hp' : Hp} {Q : Ex → St → Prop} {id : Nat}
theorem RunS.done (hr : rest = []) (k : K s) : RunS E ops rest s K := by
  subst hr
  exact fun base Q a w Z R sr q => q s a w Z R k sr (StepW.refl _ _ _ _)
theorem RunS.wk (hw : Wk E s s1) (h : RunS E ops rest s1 K) : RunS E ops rest s K := fun base Q a w Z R sr q => by
  obtain ⟨Z', R', sr', st⟩ := hw base w Z R a sr
  exact h base Q a w Z' R' sr' fun s' a' w' Z2 R2 hK sr2 st2 => q s' a' w' Z2 R2 hK sr2 (st.trans st2)
theorem RunS.mono {K' : St → Prop} (h : RunS E ops rest s K) (k : ∀ s, K s → K' s) : RunS E ops rest s K' := fun base Q a w Z R sr q => h base Q a w Z R sr fun s' a' w' Z' R' hK => q s' a' w' Z' R' (k s' hK)
theorem RunS.app (hE : EnvOk E) (n : Nat) : ∀ {pre : List Oper} {s : St}, opsA E (evC E n) ⟨none, false⟩ ops pre s = some s1 → RunS E ops rest s1 K → RunS E ops (pre ++ rest) s K
  | [], s, e, k => by injection e with e; subst e; exact k
  | o :: pre, s, e, kk => by
    intro base Q a w Z R sr q
    show LwL E.P ops Q (o :: (pre ++ rest)) a w
    unfold opsA at e
    unfold LwL
    split at e
    · cases e
    · next hw =>
      rw [if_neg (by rw [wantedA_eq sr hw]; simp)]
      exact RunS.app hE n e kk base Q _ w Z R (sr.put undef_vr) q
    · next hw =>
      rw [if_pos (wantedA_eq sr hw)]
      split at e
      · next s2 hs2 => exact op1_lw hE (code_sound hE n).1 hs2 sr fun a' w' Z' R' sr' st => RunS.app hE n e kk base Q a' w' Z' R' sr' fun s'' a'' w'' Z'' R'' hK sr'' st' => q s'' a'' w'' Z'' R'' hK sr'' (st.w.trans st')
      · cases e
/-- Some operations at once. -/
theorem RunS.seg (hE : EnvOk E) (m : Nat) (h : opsA E (evC E 0) ⟨none, false⟩ ops (rest.take m) s = some s1) (k : RunS E ops (rest.drop m) s1 K) : RunS E ops rest s K := by
  have := RunS.app hE 0 h k
  rwa [List.take_append_drop] at this
theorem RunS.one (hE : EnvOk E) (n : Nat) {o : Oper} (hr : rest = o :: rest') (h : opsA E (evC E n) ⟨none, false⟩ ops [o] s = some s1) (k : RunS E ops rest' s1 K) : RunS E ops rest s K := by
  subst hr
  exact RunS.app hE n (pre := [o]) h k
theorem Sem.runS (h : RunS E ops ops.toList s fun s' => Wk E s' s1) (q : Q .normal s1) : Sem E cx (.region id ops false) s Q := by
  intro ro base Qm a w Z R _ h2 _ kk
  refine wpIn_region_list (lwl_list ro (h base _ a w Z R h2 fun s' a' w' Z' R' hw sr st => ?_))
  obtain ⟨Z2, R2, sr2, st2⟩ := hw base w' Z' R' a' sr
  exact kk .normal s1 a' w' Z2 R2 q sr2 (st.trans st2)
theorem Sem.runDS (hE : EnvOk E) (hd : drawOk (.region id ops true) = true) (h : RunDS E ops s.hp.length 0 ops.toList s fun s' => Wk E s' s1) (q : Q .normal s1) : Sem E cx (.region id ops true) s Q := by
  intro ro base Qm a w Z R _ sr _ kk
  simp only [drawOk, Bool.not_true, Bool.false_or, Bool.and_eq_true] at hd
  have hgd : w.grownBy w.drew none := ch_drew w
  have hops : ops.toList.toArray = ops := by simp
  have st0 : Step w Z R s.hp w.drew Z R s.hp := ⟨rfl, rfl, rfl, Nat.le_refl _, fun c hc _ => rfl, fun _ h => .inl h, fun _ h => h, fun _ h => .inl h, fun _ _ h => h⟩
  have hsrd : SR E base w.drew Z R s a := ⟨sr.hh.keep (Nat.le_refl _) (fun c hc => hgd.block c hc (by simp)), sr.fr.off (fun c hc => rfl), sr.mks.step st0, sr.gl.off (fun c hc => rfl), sr.bs⟩
  have hm := h base (fun a w => Qm .normal a w) w.drew Z R s.hp a w.drew R hsrd.hh rfl (by have := tailGo_le ops.toList 0; unfold tailAt; simpa using this) hsrd (pu_refl _) (Step.refl _ _ _ _) (fun b B hb => hb) rfl (by simp) (fun j => by simp) (fun s' a' w' Z' R' hw sr' st => by
    obtain ⟨Z2, R2, sr2, st2⟩ := hw base w' Z' R' a' sr'
    exact kk .normal s1 a' w' Z2 R2 q sr2 ((st0.w.trans st).trans st2))
  have := wp_region_mix (P := E.P) (id := id) (l := ops.toList) (a := a) (w := w) (C := fun w' => w.drew.grownBy w' none) (loud := fun k => !((ops[k]?).any fun o => isQ o.op) || Nat.ble (tailAt ops) k) (T := tailAt ops) (Q' := Qm) ro 0 hE.mixed (by rw [hops]; exact hd.1) (by rw [hops]; exact hd.2) (by rw [hops]; exact hm)
  rw [hops] at this
  exact this
theorem RunDS.done (hr : rest = []) (kk : K s) : RunDS E ops n0 k rest s K := by
  subst hr
  exact fun base Q w0 Z R0 h0 a w R _ _ _ sr hgr st _ _ _ _ q => ⟨fun _ => hgr, q s a w Z R kk sr st.w⟩
theorem RunDS.tail {o : Oper} (hr : rest = o :: rest') (hW : isW o.op = true) (h : RunS E ops rest s K) : RunDS E ops n0 k rest s K := by
  subst hr
  intro base Q w0 Z R0 h0 a w R _ _ _ sr hgr st _ hTk _ _ q
  have hTk' : tailAt ops = k := by rw [hTk]; unfold tailGo; rw [if_pos hW]
  refine lwl_mix (h base Q a w Z R sr fun s' a' w' Z' R' hK sr' st' => q s' a' w' Z' R' hK sr' (st.w.trans st')) (by omega) (fun _ => hgr) (fun j hj => ?_)
  have : Nat.ble (tailAt ops) j = true := by rw [Nat.ble_eq]; omega
  simp [this]
theorem RunDS.app (hE : EnvOk E) : ∀ {pre : List Oper} {s : St} {k : Nat}, (pre.all fun o => !isW o.op) = true → opsD E (evC E 0) ⟨none, false⟩ ops n0 pre s = some s1 → RunDS E ops n0 (k + pre.length) rest s1 K → RunDS E ops n0 k (pre ++ rest) s K
  | [], s, k, _, e, kk => by injection e with e; subst e; exact kk
  | o :: pre, s, k, hp, e, kk => by
    intro base Q w0 Z R0 h0 a w R hh0 hn0 hT sr hgr st hpre hTk hlen hops q
    simp only [List.all_cons, Bool.and_eq_true, Bool.not_eq_true'] at hp
    obtain ⟨hW, hp⟩ := hp
    have hok : ops[k]? = some o := by have := hops 0; simpa using this.symm
    have hops' : ∀ j, (pre ++ rest)[j]? = ops[k + 1 + j]? := fun j => by have := hops (j + 1); simpa [Nat.add_assoc, Nat.add_comm 1 j] using this
    have hk1 : k + 1 + pre.length = k + (o :: pre).length := by simp; omega
    have kk' : RunDS E ops n0 (k + 1 + pre.length) rest s1 K := by rw [hk1]; exact kk
    have hlen' : k + 1 + (pre ++ rest).length = ops.size := by simp at hlen ⊢; omega
    have hTk' : tailAt ops = tailGo (pre ++ rest) (k + 1) := by
      rw [hTk]
      show tailGo (o :: (pre ++ rest)) k = _
      conv => lhs; unfold tailGo; rw [if_neg (by rw [hW]; simp)]
    have hkT : ¬ tailAt ops ≤ k := by have := tailGo_ge (pre ++ rest) (k + 1); omega
    have hble : Nat.ble (tailAt ops) k = false := by
      cases hb : Nat.ble (tailAt ops) k with
      | false => rfl
      | true => exact absurd (Nat.le_of_ble_eq_true hb) hkT
    show wpMix E.P ops _ _ _ Q k (o :: (pre ++ rest)) a w
    refine ⟨fun _ => hgr, ?_⟩
    unfold opsD at e
    rw [if_neg (by rw [hW]; simp)] at e
    split at e
    · cases e
    · next hw =>
      rw [if_neg (by rw [wantedA_eq sr hw]; simp)]
      exact RunDS.app hE hp e kk' base Q w0 Z R0 h0 _ w R hh0 hn0 hT (sr.put undef_vr) hgr st hpre hTk' hlen' hops' q
    · next hw =>
      rw [if_pos (wantedA_eq sr hw)]
      have hρ : ∀ o x, opA E s.fr o = some x → VR w Z R x (a.eval o) := fun o x e => opA_vr sr o x e
      split at e
      · next x hx =>
        split at e
        · next hld =>
          have hq := isQ_of hx
          rw [if_neg (by simp [hok, hq, hble])]
          obtain ⟨u, hu, hrun⟩ := evOpQ_sound sr.hh hρ hx
          have hquiet : ∃ u, VR w Z R x u ∧ QuietAt E.P (fun w' => w0.grownBy w' none) o u a := by
            cases hl : isLd o.op with
            | false => exact ⟨u, hu, fun w' hw1 => hrun w' fun h => by rw [hl] at h; cases h⟩
            | true => exact load_quiet hh0 sr hgr st hpre hl (by rw [← hn0]; exact hld) hx
          obtain ⟨u, hu, hquiet⟩ := hquiet
          exact ⟨u, hquiet, RunDS.app hE hp e kk' base Q w0 Z R0 h0 _ w R hh0 hn0 hT (sr.put hu) hgr st hpre hTk' hlen' hops' q⟩
        · cases e
      · split at e
        · next x h' hx =>
          have hq := isQ_of_N hx
          rw [if_pos (by simp [hok, hq])]
          obtain ⟨u, w', R', h1, h2, h3, h4, h5⟩ := evOpN_sound hρ sr.hh hx
          exact lw_val h1 (RunDS.app hE hp e kk' base Q w0 Z R0 h0 _ w' R' hh0 hn0 hT ((sr.step h2 h4).put h3) (pu_trans hgr h5) (st.trans h4) (fun b B hb => evOpN_pre hx (hpre b B hb)) hTk' hlen' hops' q)
        · split at e
          · next f args tys ho =>
            split at e
            · next fv xs hf hxs =>
              split at e
              · next r hr =>
                obtain ⟨x, h'⟩ := r
                have hq : isQ o.op = false := by rw [ho]; rfl
                rw [if_pos (by simp [hok, hq])]
                obtain ⟨g, hva, hcl, hret⟩ := callP_sound hE (code_sound hE 0).1 (hρ _ _ hf) (opds_vr hρ hxs) sr.hh sr.gl hr
                unfold Lw
                rw [run_call (uf := []) (uc := []) ho hva rfl hcl w]
                simp only [List.nil_append, List.append_nil]
                refine Ret.mono hret fun v w' hS => ?_
                obtain ⟨hg1, R', k1, k2, k3⟩ := hS
                exact RunDS.app hE hp e kk' base Q w0 Z R0 h0 _ w' R' hh0 hn0 hT ((sr.step k1 k3).put k2) (pu_trans hgr hg1) (st.trans k3) (fun b B hb => callP_pre hr (hpre b B hb)) hTk' hlen' hops' q
              · cases e
            · cases e
          · cases e
theorem RunDS.seg (hE : EnvOk E) (m : Nat) (hw : ((rest.take m).all fun o => !isW o.op) = true) (h : opsD E (evC E 0) ⟨none, false⟩ ops n0 (rest.take m) s = some s1) (kk : RunDS E ops n0 (k + (rest.take m).length) (rest.drop m) s1 K) : RunDS E ops n0 k rest s K := by
  have := RunDS.app (k := k) hE hw h kk
  rwa [List.take_append_drop] at this
theorem RunDS.one (hE : EnvOk E) {o : Oper} (hr : rest = o :: rest') (hW : isW o.op = false) (h : opsD E (evC E 0) ⟨none, false⟩ ops n0 [o] s = some s1) (kk : RunDS E ops n0 (k + 1) rest' s1 K) : RunDS E ops n0 k rest s K := by
  subst hr
  exact RunDS.app (k := k) hE (pre := [o]) (by simp [hW]) h kk

/- One operation, as the interpreter takes it. -/
variable {ih : IH} {o : Oper} {x : AV} {d : Nat}
theorem op_q (hw : wantedA ops (Fr n l) o = some true) (hd : o.dst = some d) (h : evOpQ E.P (opA E (Fr n l)) hp o.op = some x) : opsA E ih cx ops [o] ⟨Fr n l, hp⟩ = some ⟨Fr n ((d, x) :: l), hp⟩ := by
  unfold opsA op1
  simp only [hw, h, hd, putA_Fr]
  rfl
theorem op_n (hw : wantedA ops (Fr n l) o = some true) (hd : o.dst = some d) (hq : evOpQ E.P (opA E (Fr n l)) hp o.op = none) (h : evOpN E.P (opA E (Fr n l)) hp o.op = some (x, hp')) : opsA E ih cx ops [o] ⟨Fr n l, hp⟩ = some ⟨Fr n ((d, x) :: l), hp'⟩ := by
  unfold opsA op1
  simp only [hw, hq, h, hd, putA_Fr]
  rfl
theorem op_w (hw : wantedA ops (Fr n l) o = some true) (hd : o.dst = some d) (hq : evOpQ E.P (opA E (Fr n l)) hp o.op = none) (hn : evOpN E.P (opA E (Fr n l)) hp o.op = none) (h : evOpW E.P (opA E (Fr n l)) hp o.op = some (x, hp')) : opsA E ih cx ops [o] ⟨Fr n l, hp⟩ = some ⟨Fr n ((d, x) :: l), hp'⟩ := by
  unfold opsA op1
  simp only [hw, hq, hn, h, hd, putA_Fr]
  rfl
theorem op_st {t : TypeId} {p q : Operand} {y z : AV} {ty : TypeId} {pos : String} {af : Array Edge} {g : Option (Nat × Bool)} (hw : wantedA ops (Fr n l) ⟨none, .store t p q, ty, pos, af, g⟩ = some true) (hp1 : opA E (Fr n l) p = some y) (hq1 : opA E (Fr n l) q = some z) (h : evStore E.P hp t y z = some hp') : opsA E ih cx ops [⟨none, .store t p q, ty, pos, af, g⟩] ⟨Fr n l, hp⟩ = some ⟨Fr n l, hp'⟩ := by
  unfold opsA op1
  simp only [hw, evOpQ, evOpN, evOpW, evOpX, hp1, hq1, h, Option.map_some]
  rfl
theorem opd_q (hi : isW o.op = false) (hw : wantedA ops (Fr n l) o = some true) (hd : o.dst = some d) (h : evOpQ E.P (opA E (Fr n l)) hp o.op = some x) (hl : ldOk n0 (opA E (Fr n l)) o.op = true) : opsD E ih cx ops n0 [o] ⟨Fr n l, hp⟩ = some ⟨Fr n ((d, x) :: l), hp⟩ := by
  unfold opsD
  simp only [hi, hw, h, hl, hd, putA_Fr, if_true, Bool.false_eq_true, if_false]
  rfl
theorem opd_n (hi : isW o.op = false) (hw : wantedA ops (Fr n l) o = some true) (hd : o.dst = some d) (hq : evOpQ E.P (opA E (Fr n l)) hp o.op = none) (h : evOpN E.P (opA E (Fr n l)) hp o.op = some (x, hp')) : opsD E ih cx ops n0 [o] ⟨Fr n l, hp⟩ = some ⟨Fr n ((d, x) :: l), hp'⟩ := by
  unfold opsD
  simp only [hi, hw, hq, h, hd, putA_Fr, Bool.false_eq_true, if_false]
  rfl
end
end Go.Proofs.YthofgamegondnaaDoor
