/- The abstract interpreter is sound: regions that draw their order. -/
import Derived.Test.YthofgamegondnaaDoorEvU
namespace Go.Proofs.YthofgamegondnaaDoor
open Go.RowKit

section
variable {E : Env} {w w' : World} {Z Z' : Nat → Prop} {R R' : List RI} {h h' : Hp} {base : Nat} {s s' : St} {a : Act} {n : Nat} {cx : Cx} {ro : Option Nat}

/-- A pure call. -/
theorem callP_sound (hE : EnvOk E) (hCS : CS E n) {fv : AV} {vf : Value} {xs : List AV} {us : List Value} {x : AV} (hvf : VR w Z R fv vf) (hvs : VRs w Z R xs us) (hh : HR w Z R h) (hg : GI E w Z) (e : callP E (evC E n) fv xs h = some (x, h')) :
    ∃ g, vf = .func (.func g) #[] #[] ∧ Callable E.P g ∧ Ret E.P g us.toArray w fun v w' => w.grownBy w' none ∧ ∃ R', HR w' Z R' h' ∧ VR w' Z R' x v ∧ Step w Z R h w' Z R' h' := by
  unfold callP at e
  split at e
  · next g =>
    have hvf' : vf = .func (.func g) #[] #[] := by
      cases hvf with
      | fn hl hl' hx hy =>
        rename_i u1 u2
        have e1 : u1 = [] := by simpa using hl
        have e2 : u2 = [] := by simpa using hl'
        subst e1 e2; rfl
    have hz1 : ∀ c, (Z c ∨ own R h c) → c < w.heap.size := fun c hc => hc.elim (hh.zlt c) (fun ⟨b, B, r, h1, _, h3, h4⟩ => h4 ▸ hh.rltL h1 h3)
    have hh1 : HR w (fun c => Z c ∨ own R h c) [] [] := ⟨rfl, fun b B hB => by simp at hB, fun b b' B B' r r' hB => by simp at hB, hz1⟩
    have hg1 : GI E w (fun c => Z c ∨ own R h c) := fun q y hy => (hg q y hy).mono (fun _ _ => rfl) (fun _ h => .inl h) (fun _ _ h => h)
    -- what is flat is carried back
    have back : ∀ {v : Value} {w' : World} {r : AV} {Z1 : Nat → Prop} {R1 : List RI}, flatTp r = true → w.grownBy w' none → VR w' Z1 R1 r v → w.grownBy w' none ∧ ∃ R', HR w' Z R' h ∧ VR w' Z R' r v ∧ Step w Z R h w' Z R' h := fun {v w' r Z1 R1} hf hgr hv =>
      ⟨hgr, R, hh.keep hgr.size (fun c hc => hgr.block c hc (by simp)), flat_vr hf hv, ⟨hgr.os, hgr.tape, hgr.output, hgr.size, fun c hc _ => hgr.block c hc (by simp), fun _ h => .inl h, fun _ h => h, fun _ h => .inl h, fun _ _ h => h⟩⟩
    split at e
    · next ys hys =>
      have hvs1 := views_vr hh hvs hys
      split at e
      · next X hX =>
        obtain ⟨hc, hXs⟩ := hE.X g X hX
        split at e
        · next r hr =>
          split at e
          · next hf =>
            injection e with e; injection e with e1 e2; subst e1 e2
            exact ⟨g, hvf', hc, Ret.mono (hXs _ _ hr w _ _ hz1 hg1 hvs1) fun v w' hv => back hf hv.1 hv.2⟩
          · cases e
        · cases e
      · split at e
        · next r h1 hent =>
          have hcall : Callable E.P g := by
            unfold enterA at hent
            split at hent
            · cases hent
            · next fn hfn => exact (hE.fn g fn hfn).2.1
          have hr := enter_sound hE hCS hent hh1 hvs1 hg1 (fun y hy => by cases hy)
          have grown : ∀ {w' : World} {Z1 : Nat → Prop} {R1 : List RI}, Step w (fun c => Z c ∨ own R h c) [] [] w' Z1 R1 h1 → w.grownBy w' none := fun {w' Z1 R1} st => ⟨st.os, st.tape, st.output, st.size, fun c hc _ => st.block c hc (fun ⟨b, B, r, hb, _⟩ => by simp at hb)⟩
          split at e
          · next hf =>
            injection e with e; injection e with e1 e2; subst e1 e2
            refine ⟨g, hvf', hcall, Ret.mono hr fun v w' hv => ?_⟩
            obtain ⟨Z1, R1, k1, k2, k3⟩ := hv
            exact back hf (grown k3) k2
          · split at e
            · next b lo n' m hnf =>
              split at e
              · next B hB =>
                split at e
                · next hc =>
                  obtain ⟨hfz, hall⟩ := hc
                  injection e with e; injection e with e1 e2; subst e1 e2
                  refine ⟨g, hvf', hcall, Ret.mono hr fun v w' hv => ?_⟩
                  obtain ⟨Z1, R1, k1, k2, k3⟩ := hv
                  have hgr := grown k3
                  obtain ⟨r', arr, ub, g1, g2, g3, g4, g5, g6, g7, g8, g9, g10⟩ := k1.blk b B hB
                  have hnew : w.heap.size ≤ r'.c := by
                    rcases k3.own_ r'.c ⟨b, B, r', hB, hfz, g1, rfl⟩ with ⟨b', B', _, hb', _⟩ | h2
                    · simp at hb'
                    · exact h2
                  cases k2 with
                  | rf hr' q0 q1 q2 q3 =>
                    rename_i c r''
                    rw [g1] at hr'
                    injection hr' with hr'
                    subst hr'
                    have hB' : B = ⟨B.k, B.t, B.es, false⟩ := by cases B; simp at hfz; subst hfz; rfl
                    obtain ⟨p1, p2, p3⟩ := hh.new (w' := w') (c := r'.c) (cap := r'.cap) (k := B.k) (t := B.t) (es := B.es) (us := ub) (arr := arr) hgr hnew g3 ⟨g9.len, fun i x u hx hu => flat_vr (by
                      have := List.all_eq_true.1 hall x (List.mem_of_getElem? hx)
                      cases x <;> first | rfl | (simp [isFlat] at this) | exact this) (g9.at_ i x u hx hu)⟩ g4 g5 g6 g10
                    rw [← hB'] at p1 p2
                    refine ⟨hgr, _, p1, ?_, p2⟩
                    have := VR.rf (w := w') (Z := Z) (b := h.length) (lo := lo) (n := n') (m := m) (c := c) p3 q0 q1 q2 q3
                    rw [g2]
                    exact this
                · cases e
              · cases e
            · cases e
        · cases e
    · cases e
  · cases e

theorem isQ_of {P : Program} {ρ : Operand → Option AV} {o : Op} {x : AV} (e : evOpQ P ρ h o = some x) : isQ o = true := by
  unfold evOpQ at e
  split at e <;> first | rfl | (cases e)
theorem isQ_of_N {P : Program} {ρ : Operand → Option AV} {o : Op} {r : AV × Hp} (e : evOpN P ρ h o = some r) : isQ o = false := by
  unfold evOpN at e
  split at e <;> first | rfl | (cases e)

theorem lw_val {o : Oper} {u : Value} {K : Act → World → Prop} {P : Program} (hr : (execOp a.eval o).run P w = .ok (.value u) w') (k : K (a.put o.dst u) w') : Lw P o a w K := by
  unfold Lw; rw [hr]; exact k
theorem lw_skip {o : Oper} {K : Act → World → Prop} {P : Program} (hr : (execOp a.eval o).run P w = .ok .skip w') (k : K (a.put o.dst undef) w') : Lw P o a w K := by
  unfold Lw; rw [hr]; exact k
theorem run_call {P : Program} {o : Oper} {f : Operand} {args : Array Operand} {tys : Array TypeId} {us uf uc : List Value} {g : FuncId} (ho : o.op = .call ⟨.value f, args, tys⟩) (hf : a.eval f = .func (.func g) uf.toArray uc.toArray) (hus : args.toList.map a.eval = us) (hc : Callable P g) (w : World) : (execOp a.eval o).run P w = .ok (.enter g (uf ++ us ++ uc).toArray) w := by
  have hargs : args.map a.eval = us.toArray := by
    apply Array.ext'
    rw [← hus, Array.toList_map]
  have e1 : uf.toArray ++ us.toArray ++ uc.toArray = (uf ++ us ++ uc).toArray := by simp
  simp only [execOp, ho, resolve, hf, hargs, Deferred.ofValue]
  rw [Sem.run_bind, Sem.run_pure]
  simp only [Result.andThen, invoke]
  rw [e1]
  exact hc.run _ _

/-- One operation of the tail. -/
theorem op1_lw (hE : EnvOk E) (hCS : CS E n) {o : Oper} {b : Bool} (e : op1 E (evC E n) ⟨none, b⟩ o s = some s') (sr : SR E base w Z R s a) {K : Act → World → Prop}
    (k : ∀ a' w' Z' R', SR E base w' Z' R' s' a' → Step w Z R s.hp w' Z' R' s'.hp → K a' w') : Lw E.P o a w K := by
  have hρ : ∀ o x, opA E s.fr o = some x → VR w Z R x (a.eval o) := fun o x e => opA_vr sr o x e
  have ld : ∀ {x : AV} {h' : Hp}, Ld E.P w Z R s.hp x h' a.eval o → some (⟨putA s.fr o.dst x, h'⟩ : St) = some s' → Lw E.P o a w K := fun {x h'} hl e => by
    injection e with e; subst e
    obtain ⟨u, w', R', h1, h2, h3, h4⟩ := hl
    exact lw_val h1 (k _ w' Z R' ((sr.step h2 h4).put h3) h4)
  unfold op1 at e
  split at e
  · next x hx => exact ld ((evOpQ_sound sr.hh hρ hx).ld sr.hh) e
  · split at e
    · next x h' hx => exact ld (evOpN_sound hρ sr.hh hx).ld e
    · split at e
      · next x h' hx => exact ld (evOpW_sound hρ sr.hh hx) e
      · split at e
        next x hx => exact ld (evOpX_sound hE.I hρ sr.hh hx) e
        split at e
        · next t p q ho =>
          split at e
          · next y z hd hp hq =>
            obtain ⟨h', hst, rfl⟩ := Option.map_eq_some_iff.1 e
            obtain ⟨w', h1, h2, h3⟩ := evStore_sound hρ sr.hh ho hp hq hst
            refine lw_skip h1 ?_
            rw [hd]
            exact k _ w' Z R (sr.step h2 h3) h3
          · cases e
        · next f args tys ho =>
          split at e
          · next fv xs hf hxs =>
            obtain ⟨⟨x, h'⟩, hc, rfl⟩ := Option.map_eq_some_iff.1 e
            have hvf := hρ _ _ hf
            have hvs := opds_vr hρ hxs
            unfold callA at hc
            split at hc
            · next g first caps =>
              generalize hva : a.eval f = va at hvf
              cases hvf with
              | fn hl hl' hx hy' =>
                rename_i uf uc
                have hall : VRs w Z R (first ++ xs ++ caps) (uf ++ args.toList.map a.eval ++ uc) := ((VRs.mk hl hx).append hvs).append (VRs.mk hl' hy')
                have ent : Callable E.P g → RetTo E g (uf ++ args.toList.map a.eval ++ uc) w Z R s.hp x h' → Lw E.P o a w K := fun hcl hr => by
                  unfold Lw
                  rw [run_call ho hva rfl hcl w]
                  refine Ret.mono hr fun v w' hS => ?_
                  obtain ⟨Z', R', k1, k2, k3⟩ := hS
                  exact k _ w' Z' R' ((sr.step k1 k3).put k2) k3
                split at hc
                · next X hX =>
                  obtain ⟨hcl, hXs⟩ := hE.X g X hX
                  exact ent hcl (X_ret hE hX sr.hh sr.gl hall hc)
                · have hcall : Callable E.P g := by
                    unfold enterA at hc
                    split at hc
                    · cases hc
                    · next fn hfn => exact (hE.fn g fn hfn).2.1
                  exact ent hcall (enter_sound hE hCS hc sr.hh hall sr.gl (fun y hy => by cases hy))
            · next b' =>
              split at hc
              · next y hcy => cases hcy
              · cases hc
            · cases hc
          · cases e
        · cases e

/-- The tail: everything is loud. -/
theorem tail_sound (hE : EnvOk E) (hCS : CS E n) {ops : Array Oper} {b : Bool} {C : World → Prop} {loud : Nat → Bool} {T : Nat} {Q : Act → World → Prop} : ∀ {rest : List Oper} {s : St} {a : Act} {w : World} {Z : Nat → Prop} {R : List RI} {k : Nat}, opsA E (evC E n) ⟨none, b⟩ ops rest s = some s' → SR E base w Z R s a → T ≤ k → (k ≤ T → C w) → (∀ j, k ≤ j → loud j = true) →
    (∀ a' w' Z' R', SR E base w' Z' R' s' a' → Step w Z R s.hp w' Z' R' s'.hp → Q a' w') → wpMix E.P ops C loud T Q k rest a w
  | [], s, a, w, Z, R, k, e, sr, hT, hC, hl, q => by
    injection e with e; subst e
    exact ⟨hC, q a w Z R sr (Step.refl _ _ _ _)⟩
  | o :: rest, s, a, w, Z, R, k, e, sr, hT, hC, hl, q => by
    unfold opsA at e
    split at e
    · cases e
    · next hw =>
      have hw' := wantedA_eq sr hw
      refine ⟨hC, ?_⟩
      rw [if_neg (by rw [hw']; simp)]
      exact tail_sound hE hCS e (sr.put undef_vr) (by omega) (fun h => by omega) (fun j hj => hl j (by omega)) q
    · next hw =>
      have hw' := wantedA_eq sr hw
      refine ⟨hC, ?_⟩
      rw [if_pos hw', if_pos (hl k (Nat.le_refl _))]
      split at e
      · next s1 hs1 =>
        exact op1_lw hE hCS hs1 sr fun a' w' Z' R' sr' st => tail_sound hE hCS e sr' (by omega) (fun h => by omega) (fun j hj => hl j (by omega)) fun a'' w'' Z'' R'' sr'' st' => q a'' w'' Z'' R'' sr'' (st.trans st')
      · cases e

theorem tailGo_ge : ∀ (l : List Oper) (n : Nat), n ≤ tailGo l n
  | [], n => Nat.le_refl _
  | o :: l, n => by
    unfold tailGo
    split
    · exact Nat.le_refl _
    · exact Nat.le_trans (Nat.le_succ _) (tailGo_ge l (n + 1))

/-- New blocks stand behind the old ones. -/
theorem evOpN_pre {P : Program} {ρ : Operand → Option AV} {o : Op} {x : AV} (e : evOpN P ρ h o = some (x, h')) {b : Nat} {B : Option Blk} (hb : h[b]? = some B) : h'[b]? = some B := by
  have key : ∀ (l : Hp), (h ++ l)[b]? = some B := fun l => by rw [List.getElem?_append_left (List.getElem?_eq_some_iff.1 hb).1]; exact hb
  have box : ∀ {t : TypeId} {y : AV}, evBox h t y = some (x, h') → h'[b]? = some B := fun {t y} e => by
    unfold evBox at e
    split at e
    · injection e with e; injection e with _ e; subst e; exact key _
    · cases e
  unfold evOpN at e
  split at e
  · split at e
    · exact box e
    · cases e
  · split at e
    · exact box e
    · cases e
  · split at e
    · unfold evLit at e
      repeat (split at e <;> try (cases e; done))
      injection e with e; injection e with _ e; subst e; exact key _
    · cases e
  · split at e
    · unfold evMake at e
      repeat (split at e <;> try (cases e; done))
      injection e with e; injection e with _ e; subst e; exact key _
    · cases e
  · cases e
theorem callP_pre {ih : IH} {fv : AV} {xs : List AV} {x : AV} (e : callP E ih fv xs h = some (x, h')) {b : Nat} {B : Option Blk} (hb : h[b]? = some B) : h'[b]? = some B := by
  have key : ∀ (l : Hp), (h ++ l)[b]? = some B := fun l => by rw [List.getElem?_append_left (List.getElem?_eq_some_iff.1 hb).1]; exact hb
  unfold callP at e
  split at e
  · split at e
    · split at e
      · split at e
        · split at e
          · injection e with e; injection e with _ e; subst e; exact hb
          · cases e
        · cases e
      · split at e
        · split at e
          · injection e with e; injection e with _ e; subst e; exact hb
          · split at e
            · split at e
              · split at e
                · injection e with e; injection e with _ e; subst e; exact key _
                · cases e
              · cases e
            · cases e
        · cases e
    · cases e
  · cases e
theorem evLoad_congr {P : Program} {t : TypeId} {b i off : Nat} (hb : h[b]? = h'[b]?) : evLoad P h t (.pt b i off) = evLoad P h' t (.pt b i off) := by
  simp only [evLoad, hb]
/-- A load ahead of the first write reads what lay there before the region. -/
theorem load_quiet {w0 : World} {R0 : List RI} {h0 : Hp} {o : Oper} {x : AV} (hh0 : HR w0 Z R0 h0) (sr : SR E base w Z R s a) (hgr : w0.grownBy w none) (st : Step w0 Z R0 h0 w Z R s.hp) (hpre : ∀ (b : Nat) (B : Option Blk), h0[b]? = some B → s.hp[b]? = some B) (hl : isLd o.op = true) (hld : ldOk h0.length (opA E s.fr) o.op = true) (e : evOpQ E.P (opA E s.fr) s.hp o.op = some x) :
    ∃ u, VR w Z R x u ∧ QuietAt E.P (fun w' => w0.grownBy w' none) o u a := by
  have hρ : ∀ o x, opA E s.fr o = some x → VR w Z R x (a.eval o) := fun o x e => opA_vr sr o x e
  unfold isLd at hl
  split at hl
  · next t p ho =>
    rw [ho] at hld e
    simp only [evOpQ] at e
    split at e
    · next y hy =>
      have hv := hρ _ _ hy
      have main : ∀ (h1 : Hp), HR w0 Z R0 h1 → VR w0 Z R0 y (a.eval p) → evLoad E.P h1 t y = some x → ∃ u, VR w Z R x u ∧ QuietAt E.P (fun w' => w0.grownBy w' none) o u a := fun h1 hh1 hv0 e => by
        obtain ⟨u, k1, k2⟩ := evLoad_sound (P := E.P) (ρ := fun _ => some y) (ve := fun _ => a.eval p) (o := ⟨o.dst, .load t p, o.type, o.pos, o.after, o.guard⟩) hh1 (fun q x hx => by injection hx with hx; subst hx; exact hv0) (a := p) rfl rfl e
        refine ⟨u, k1.mono (fun b hb => hgr.block b (hh0.zlt b hb) (by simp)) (fun _ h => h) st.r, fun w' hw' => ?_⟩
        have k3 := k2 w' (fun _ => Same.of_grown hw')
        simp only [execOp, ho] at k3 ⊢
        exact k3
      simp only [ldOk, hy] at hld
      split at hld
      · next b i off hyb =>
        have hyb := Option.some.inj hyb
        subst hyb
        have hlt : b < h0.length := by simpa [Nat.blt_eq] using hld
        have hv0 : VR w0 Z R0 (.pt b i off) (a.eval p) := by
          generalize hva : a.eval p = va at hv
          cases hv with
          | pt hr =>
            have hbR : b < R0.length := by rw [hh0.len]; exact hlt
            have h1 := st.r b _ (List.getElem?_eq_getElem hbR)
            rw [hr] at h1
            injection h1 with h1
            rw [h1]
            exact .pt (List.getElem?_eq_getElem hbR)
        refine main h0 hh0 hv0 ?_
        have hb0 := hpre b _ (List.getElem?_eq_getElem hlt)
        rw [← e]
        exact evLoad_congr (by rw [hb0, List.getElem?_eq_getElem hlt])
      · next y' off hyb =>
        have hyb := Option.some.inj hyb
        subst hyb
        have hv0 : VR w0 Z R0 (.pe y' off) (a.eval p) := by
          generalize hva : a.eval p = va at hv
          cases hv with
          | pe hs hz h1 hu hx =>
            refine .pe hs hz h1 (fun j q hq => ?_) (hx.mono (fun b hb => (hgr.block b (hh0.zlt b hb) (by simp)).symm) (fun _ h => h) (fun _ _ h => h))
            exact (World.cell?_of_block (w := w) (w' := w0) (by exact (hgr.block _ (hh0.zlt _ hz) (by simp)).symm)).trans (hu j q hq)
        refine main h0 hh0 hv0 ?_
        rw [← e]
        rfl
      · cases hld
    · cases e
  · cases hl
/-- The operations ahead of the first write. -/
theorem mix_sound (hE : EnvOk E) (hCS : CS E n) {ops : Array Oper} {T : Nat} {Q : Act → World → Prop} {w0 : World} {Z : Nat → Prop} {R0 : List RI} {h0 : Hp} (hh0 : HR w0 Z R0 h0) (hT : T ≤ ops.size) :
    ∀ {rest : List Oper} {s : St} {a : Act} {w : World} {R : List RI} {k : Nat}, opsD E (evC E n) cx ops h0.length rest s = some s' → SR E base w Z R s a → w0.grownBy w none → Step w0 Z R0 h0 w Z R s.hp → (∀ (b : Nat) (B : Option Blk), h0[b]? = some B → s.hp[b]? = some B) → T = tailGo rest k → k + rest.length = ops.size → (∀ j, rest[j]? = ops[k + j]?) →
    (∀ a' w' Z' R', SR E base w' Z' R' s' a' → Step w0 Z R0 h0 w' Z' R' s'.hp → Q a' w') →
    wpMix E.P ops (fun w' => w0.grownBy w' none) (fun k => !((ops[k]?).any fun o => isQ o.op) || Nat.ble T k) T Q k rest a w
  | [], s, a, w, R, k, e, sr, hgr, st, hpre, hTk, hlen, hops, q => by
    injection e with e; subst e
    exact ⟨fun _ => hgr, q a w Z R sr st⟩
  | o :: rest, s, a, w, R, k, e, sr, hgr, st, hpre, hTk, hlen, hops, q => by
    have hok : ops[k]? = some o := by have := hops 0; simpa using this.symm
    have hops' : ∀ j, rest[j]? = ops[k + 1 + j]? := fun j => by have := hops (j + 1); simpa [Nat.add_assoc, Nat.add_comm 1 j] using this
    simp only [List.length_cons] at hlen
    unfold opsD at e
    split at e
    · next hW =>
      have hTk' : T = k := by rw [hTk]; unfold tailGo; rw [if_pos hW]
      refine tail_sound hE hCS e sr (by omega) (fun _ => hgr) (fun j hj => ?_) fun a' w' Z' R' sr' st' => q a' w' Z' R' sr' (st.trans st')
      have : Nat.ble T j = true := by rw [Nat.ble_eq]; omega
      simp [this]
    · next hW =>
      have hTk' : T = tailGo rest (k + 1) := by rw [hTk]; conv => lhs; unfold tailGo; rw [if_neg hW]
      have hkT : ¬ T ≤ k := by have := tailGo_ge rest (k + 1); omega
      have hble : Nat.ble T k = false := by
        cases hb : Nat.ble T k with
        | false => rfl
        | true => exact absurd (Nat.le_of_ble_eq_true hb) hkT
      refine ⟨fun _ => hgr, ?_⟩
      split at e
      · cases e
      · next hw =>
        have hw' := wantedA_eq sr hw
        rw [if_neg (by rw [hw']; simp)]
        exact mix_sound hE hCS hh0 hT e (sr.put undef_vr) hgr st hpre hTk' (by omega) hops' q
      · next hw =>
        have hw' := wantedA_eq sr hw
        rw [if_pos hw']
        have hρ : ∀ o x, opA E s.fr o = some x → VR w Z R x (a.eval o) := fun o x e => opA_vr sr o x e
        split at e
        · next x hx =>
          split at e
          · next hld =>
            have hq := isQ_of hx
            rw [if_neg (by simp [hok, hq, hble])]
            obtain ⟨u, hu, hrun⟩ := evOpQ_sound sr.hh hρ hx
            have hquiet : ∃ u, VR w Z R x u ∧ QuietAt E.P (fun w' => w0.grownBy w' none) o u a := by
              cases hl : isLd o.op with
              | false => exact ⟨u, hu, fun w' hw1 => hrun w' fun h => by rw [hl] at h; cases h⟩
              | true => exact load_quiet hh0 sr hgr st hpre hl hld hx
            obtain ⟨u, hu, hquiet⟩ := hquiet
            exact ⟨u, hquiet, mix_sound hE hCS hh0 hT e (sr.put hu) hgr st hpre hTk' (by omega) hops' q⟩
          · cases e
        · split at e
          · next x h' hx =>
            have hq := isQ_of_N hx
            rw [if_pos (by simp [hok, hq])]
            obtain ⟨u, w', R', h1, h2, h3, h4, h5⟩ := evOpN_sound hρ sr.hh hx
            refine lw_val h1 (mix_sound hE hCS hh0 hT e ((sr.step h2 h4).put h3) (pu_trans hgr h5) (st.trans h4) (fun b B hb => evOpN_pre hx (hpre b B hb)) hTk' (by omega) hops' q)
          · split at e
            · next f args tys ho =>
              split at e
              · next fv xs hf hxs =>
                split at e
                · next r hr =>
                  obtain ⟨x, h'⟩ := r
                  have hq : isQ o.op = false := by rw [ho]; rfl
                  rw [if_pos (by simp [hok, hq])]
                  obtain ⟨g, hva, hcl, hret⟩ := callP_sound hE hCS (hρ _ _ hf) (opds_vr hρ hxs) sr.hh sr.gl hr
                  unfold Lw
                  rw [run_call (uf := []) (uc := []) ho hva rfl hcl w]
                  simp only [List.nil_append, List.append_nil]
                  refine Ret.mono hret fun v w' hS => ?_
                  obtain ⟨hg1, R', k1, k2, k3⟩ := hS
                  refine mix_sound hE hCS hh0 hT e ((sr.step k1 k3).put k2) (pu_trans hgr hg1) (st.trans k3) (fun b B hb => callP_pre hr (hpre b B hb)) hTk' (by omega) hops' q
                · cases e
              · cases e
            · cases e

theorem tailGo_le : ∀ (l : List Oper) (n : Nat), tailGo l n ≤ n + l.length
  | [], n => Nat.le_refl _
  | o :: l, n => by
    unfold tailGo
    split
    · omega
    · have := tailGo_le l (n + 1); simp; omega

/-- A region that draws its order. -/
theorem draw_sound (hE : EnvOk E) (hCS : CS E n) {id : Nat} {ops : Array Oper} {Q : Exit → Act → World → Prop} (hd : drawOk (.region id ops true) = true) (e : opsD E (evC E n) cx ops s.hp.length ops.toList s = some s') (sr : SR E base w Z R s a)
    (k : ∀ a' w' Z' R', SR E base w' Z' R' s' a' → Step w Z R s.hp w' Z' R' s'.hp → Q .normal a' w') : (Code.region id ops true).wpIn (Fw ro) 0 E.P Q a w := by
  simp only [drawOk, Bool.not_true, Bool.false_or, Bool.and_eq_true] at hd
  have hgd : w.grownBy w.drew none := ch_drew w
  have hops : ops.toList.toArray = ops := by simp
  have st0 : Step w Z R s.hp w.drew Z R s.hp := ⟨rfl, rfl, rfl, Nat.le_refl _, fun c hc _ => rfl, fun _ h => .inl h, fun _ h => h, fun _ h => .inl h, fun _ _ h => h⟩
  have hsrd : SR E base w.drew Z R s a := ⟨sr.hh.keep (Nat.le_refl _) (fun c hc => hgd.block c hc (by simp)), sr.fr.off (fun c hc => rfl), sr.mks.step st0, sr.gl.off (fun c hc => rfl), sr.bs⟩
  have hm := mix_sound (cx := cx) hE hCS (ops := ops) (T := tailAt ops) (Q := fun a w => Q .normal a w) (w0 := w.drew) (h0 := s.hp) hsrd.hh (by have := tailGo_le ops.toList 0; unfold tailAt; simpa using this) (rest := ops.toList) (k := 0) e hsrd (pu_refl _) (Step.refl _ _ _ _) (fun b B hb => hb) rfl (by simp) (fun j => by simp) (fun a' w' Z' R' sr' st => k a' w' Z' R' sr' (st0.trans st))
  have := wp_region_mix (P := E.P) (id := id) (l := ops.toList) (a := a) (w := w) (C := fun w' => w.drew.grownBy w' none) (loud := fun k => !((ops[k]?).any fun o => isQ o.op) || Nat.ble (tailAt ops) k) (T := tailAt ops) (Q' := Q) ro 0 hE.mixed (by rw [hops]; exact hd.1) (by rw [hops]; exact hd.2) (by rw [hops]; exact hm)
  rw [hops] at this
  exact this
end
end Go.Proofs.YthofgamegondnaaDoor
