/- The abstract interpreter is sound: operations, regions, code. -/
import Derived.Test.YthofgamegondnaaDoorEvT
import Derived.LoopNIn
namespace Go.Proofs.YthofgamegondnaaDoor
open Go.RowKit

section
variable {E : Env} {w w' : World} {Z Z' : Nat → Prop} {R R' : List RI} {h h' : Hp} {base : Nat} {s s' : St} {a : Act} {n : Nat} {cx : Cx} {ro : Option Nat}

theorem evOpW_sound {P : Program} {ρ : Operand → Option AV} {ve : Operand → Value} {o : Oper} {x : AV} (hρ : ∀ o x, ρ o = some x → VR w Z R x (ve o)) (hh : HR w Z R h) (e : evOpW P ρ h o.op = some (x, h')) : Ld P w Z R h x h' ve o := by
  unfold evOpW at e
  split at e
  · next args tys ho =>
    split at e
    · next x y t t2 ha ht => exact evAppend_sound hρ hh ho ha ht e
    · cases e
  · next args tys ho =>
    split at e
    · next x y t t2 ha ht =>
      split at e
      · next hs => exact evCopy_sound hρ hh ho ha ht hs e
      · cases e
    · cases e
  · next args tys ho =>
    split at e
    · next x y t t2 ha ht => exact evUStr_sound hρ hh ho ha ht e
    · cases e
  · cases e

/-- One operation. -/
theorem op1_sound (hE : EnvOk E) (hCS : CS E n) {o : Oper} (e : op1 E (evC E n) cx o s = some s') (hro : cx.inR = false → ro = none) (sr : SR E base w Z R s a) (hy : YI cx w Z R s.hp) {next : Act → World → Prop} {Q : Exit → Act → World → Prop}
    (k : ∀ a' w' Z' R', SR E base w' Z' R' s' a' → Step w Z R s.hp w' Z' R' s'.hp → next a' w') : o.wpIn (Fw ro) 0 E.P a w next Q := by
  have hρ : ∀ o x, opA E s.fr o = some x → VR w Z R x (a.eval o) := fun o x e => opA_vr sr o x e
  have ld : ∀ {x : AV} {h' : Hp}, Ld E.P w Z R s.hp x h' a.eval o → some (⟨putA s.fr o.dst x, h'⟩ : St) = some s' → o.wpIn (Fw ro) 0 E.P a w next Q := fun {x h'} hl e => by
    injection e with e; subst e
    obtain ⟨u, w', R', h1, h2, h3, h4⟩ := hl
    exact wpIn_val ro h1 (k _ w' Z R' ((sr.step h2 h4).put h3) h4)
  unfold op1 at e
  split at e
  · next x hx => exact ld ((evOpQ_sound sr.hh hρ hx).ld sr.hh) e
  · split at e
    · next x h' hx => exact ld (evOpN_sound hρ sr.hh hx).ld e
    · split at e
      · next x h' hx => exact ld (evOpW_sound hρ sr.hh hx) e
      · split at e
        next x hx => exact ld (evOpX_sound hE.I hρ sr.hh hx) e
        split at e
        · next t p q ho =>
          split at e
          · next y z hd hp hq =>
            obtain ⟨h', hst, rfl⟩ := Option.map_eq_some_iff.1 e
            obtain ⟨w', h1, h2, h3⟩ := evStore_sound hρ sr.hh ho hp hq hst
            refine ⟨fun _ _ => trivial, ?_⟩
            rw [show (Fw ro).round = ro from rfl, semAt_run ro h1 (by simp)]
            show next (a.put o.dst undef) w'
            rw [hd]
            exact k _ w' Z R (sr.step h2 h3) h3
          · cases e
        · next f args tys ho =>
          split at e
          · next fv xs hf hxs =>
            obtain ⟨⟨x, h'⟩, hc, rfl⟩ := Option.map_eq_some_iff.1 e
            exact call_sound hE hCS hro ho rfl rfl (hρ _ _ hf) (opds_vr hρ hxs) sr.hh sr.gl hy hc fun u w' Z' R' h1 h2 h3 => k _ w' Z' R' ((sr.step h1 h3).put h2) h3
          · cases e
        · cases e

theorem undef_vr : VR w Z R (.tp []) undef := .tp (us := []) rfl (fun i x u hx => by simp at hx)

theorem opsA_sound (hE : EnvOk E) (hCS : CS E n) {ops : Array Oper} (hro : cx.inR = false → ro = none) {Q : Exit → Act → World → Prop} : ∀ {rest : List Oper} {s : St} {a : Act} {w : World} {Z : Nat → Prop} {R : List RI}, opsA E (evC E n) cx ops rest s = some s' → SR E base w Z R s a → YI cx w Z R s.hp →
    (∀ a' w' Z' R', SR E base w' Z' R' s' a' → Step w Z R s.hp w' Z' R' s'.hp → Q .normal a' w') → wpListIn (Fw ro) 0 E.P ops Q rest a w
  | [], s, a, w, Z, R, e, sr, hy, k => by
    injection e with e; subst e
    exact k a w Z R sr (Step.refl _ _ _ _)
  | o :: rest, s, a, w, Z, R, e, sr, hy, k => by
    unfold opsA at e
    split at e
    · cases e
    · next hw =>
      have hw' := wantedA_eq sr hw
      unfold wpListIn
      rw [if_neg (by rw [hw']; simp)]
      exact ⟨fun _ _ => trivial, opsA_sound hE hCS hro e (sr.put undef_vr) hy k⟩
    · next hw =>
      have hw' := wantedA_eq sr hw
      unfold wpListIn
      rw [if_pos hw']
      split at e
      · next s1 hs1 =>
        exact op1_sound hE hCS hs1 hro sr hy fun a' w' Z' R' sr' st => opsA_sound hE hCS hro e sr' (hy.step sr.hh st) fun a'' w'' Z'' R'' sr'' st' => k a'' w'' Z'' R'' sr'' (st.trans st')
      · cases e

def LS (E : Env) (n : Nat) : Prop := ∀ cx c s e s', drawOk c = true → evC E n cx (.loop c) s = some (e, s') → ∀ ro base Q a w Z R, (cx.inR = false → ro = none) → SR E base w Z R s a → YI cx w Z R s.hp →
  (∀ a' w' Z' R', SR E base w' Z' R' s' a' → Step w Z R s.hp w' Z' R' s'.hp → Q (exOf e) a' w') → Code.roundsIn (Fw ro) 0 E.P c Q n a w
theorem loop_sound (hCS : CS E n) (hLS : LS E n) : LS E (n + 1) := by
  intro cx x s e s' hd he ro base Q a w Z R hro sr hy k
  unfold evC evStep at he
  simp only at he
  show x.wpIn (Fw ro) 0 E.P (Exit.then (Code.roundsIn (Fw ro) 0 E.P x Q n) Q) a w
  split at he
  · next s1 h1 =>
    exact hCS cx x s _ s1 hd h1 ro base _ a w Z R hro sr hy fun a' w' Z' R' sr' st => hLS cx x s1 e s' hd he ro base Q a' w' Z' R' hro sr' (hy.step sr.hh st) fun a'' w'' Z'' R'' sr'' st' => k a'' w'' Z'' R'' sr'' (st.trans st')
  · next hne =>
    refine hCS cx x s e s' hd he ro base _ a w Z R hro sr hy fun a' w' Z' R' sr' st => ?_
    cases e with
    | normal => exact (hne s' he).elim
    | exit id => exact k a' w' Z' R' sr' st
    | ret => exact k a' w' Z' R' sr' st
/-- A dead entry: the number of something that is no block of cells. -/
theorem HR.dead (hh : HR w Z R h) {r : RI} : HR w Z (R ++ [r]) (h ++ [none]) ∧ Step w Z R h w Z (R ++ [r]) (h ++ [none]) ∧ (R ++ [r])[h.length]? = some r ∧ (∀ c, own (R ++ [r]) (h ++ [none]) c → own R h c) := by
  have hr' : ∀ (i : Nat) (x : RI), R[i]? = some x → (R ++ [r])[i]? = some x := fun i x hx => (getElem?_snoc _ _ _ _).2 (.inl hx)
  have hget : ∀ (b' : Nat) (B' : Blk), (h ++ [none])[b']? = some (some B') → h[b']? = some (some B') ∧ b' < R.length := fun b' B' hB' => by
    rcases (getElem?_snoc _ _ _ _).1 hB' with h1 | ⟨_, h1⟩
    · exact ⟨h1, by rw [hh.len]; exact (List.getElem?_eq_some_iff.1 h1).1⟩
    · cases h1
  have hgR : ∀ (b' : Nat) (x : RI), b' < R.length → (R ++ [r])[b']? = some x → R[b']? = some x := fun b' x hl hx => by rwa [List.getElem?_append_left hl] at hx
  have hown : ∀ c, own (R ++ [r]) (h ++ [none]) c → own R h c := fun c ⟨b', B', x, h1, h2, h3, h4⟩ => by
    obtain ⟨k1, k2⟩ := hget b' B' h1
    exact ⟨b', B', x, k1, h2, hgR b' x k2 h3, h4⟩
  refine ⟨⟨by simp [hh.len], fun b' B' hB' => ?_, fun b1 b2 B1 B2 r1 r2 h1 f1 h2 f2 g1 g2 e => ?_, hh.zlt⟩, ⟨rfl, rfl, rfl, Nat.le_refl _, fun _ _ _ => rfl, fun c hc => .inl (hown c hc), fun _ h => h, fun _ h => .inl h, hr'⟩, (getElem?_snoc _ _ _ _).2 (.inr ⟨hh.len.symm, rfl⟩), hown⟩
  · obtain ⟨k1, k2⟩ := hget b' B' hB'
    obtain ⟨r', arr', us', g1, g2, g3, g4, g5, g6, g7, g8, g9, g10⟩ := hh.blk b' B' k1
    exact ⟨r', arr', us', hr' _ _ g1, g2, g3, g4, g5, g6, g7, g8, g9.mono (fun _ _ => rfl) (fun _ h => h) hr', g10⟩
  · obtain ⟨k1, k2⟩ := hget b1 B1 h1
    obtain ⟨q1, q2⟩ := hget b2 B2 h2
    exact hh.inj b1 b2 B1 B2 r1 r2 k1 f1 q1 f2 (hgR _ _ k2 g1) (hgR _ _ q2 g2) e

/-- A range over a function. -/
theorem range_sound (hE : EnvOk E) (hCS : CS E n) {f : Operand} {ps : Array Tmp} {assign body : Code} {g : FuncId} {first caps : List AV} {x : AV} (hd1 : drawOk assign = true) (hd2 : drawOk body = true) {Q : Exit → Act → World → Prop} (sr : SR E base w Z R s a) (hvf : VR w Z R (.fn g first caps) (a.eval f))
    (hent : enterA E (evC E n) (some ⟨s.hp.length, s.fr, ps.toList, assign, body⟩) g (first ++ [.yl s.hp.length] ++ caps) (s.hp ++ [none]) = some (x, h'))
    (k : ∀ a' w' Z' R', SR E base w' Z' R' ⟨s.fr, h'⟩ a' → Step w Z R s.hp w' Z' R' h' → Q .normal a' w') : (Code.rangeFunc f ps assign body).wpIn (Fw none) 0 E.P Q a w := by
  generalize hva : a.eval f = va at hvf
  cases hvf with
  | fn hl hl' hx hy' =>
    rename_i uf uc
    refine wpIn_rangeFunc fun fnn _ => ?_
    have hcall : Callable E.P g := by
      unfold enterA at hent
      split at hent
      · cases hent
      · next fn hfn => exact (hE.fn g fn hfn).2.1
    obtain ⟨L, hL⟩ : ∃ L : Loop, L = { state := .ready, pending := none, fn := fnn, tmps := a.tmps, params := ps, assign, body, defers := w.heap.size } := ⟨_, rfl⟩
    obtain ⟨w1, hw1⟩ : ∃ w1, w1 = (w.alloc (.deferred (some []))).alloc (.loop L) := ⟨_, rfl⟩
    have hsz : w1.heap.size = w.heap.size + 2 := by rw [hw1]; simp
    have hg1 : w.grownBy w1 none := by
      rw [hw1]
      refine ⟨rfl, rfl, rfl, by simp; omega, fun c hc _ => ?_⟩
      rw [heap_alloc_old _ _ (by simp; omega), heap_alloc_old _ _ hc]
    have hmk : w1.heap[w.heap.size]? = some (.deferred (some [])) := by
      rw [hw1, heap_alloc_old _ _ (by simp)]; exact heap_alloc_new w _
    have hlp : w1.heap[w.heap.size + 1]? = some (.loop L) := by
      rw [hw1]
      have := heap_alloc_new (w.alloc (.deferred (some []))) (.loop L)
      simpa using this
    have hh1 := sr.hh.keep (w' := w1) hg1.size (fun c hc => hg1.block c hc (by simp))
    have st0 : Step w Z R s.hp w1 Z R s.hp := ⟨hg1.os, hg1.tape, hg1.output, hg1.size, fun c hc _ => hg1.block c hc (by simp), fun _ h => .inl h, fun _ h => h, fun _ h => .inl h, fun _ _ h => h⟩
    obtain ⟨hh2, st2, hlast, hown2⟩ := hh1.dead (r := ⟨w.heap.size + 1, 0, 0⟩)
    have st02 := st0.trans st2
    have hnz : ∀ c, w.heap.size ≤ c → ¬ Z c := fun c hc hz => by have := sr.hh.zlt c hz; omega
    have hno : ∀ c, w.heap.size ≤ c → ¬ own (R ++ [⟨w.heap.size + 1, 0, 0⟩]) (s.hp ++ [none]) c := fun c hc ho => by
      obtain ⟨b, B, r, q1, q2, q3, rfl⟩ := hown2 c ho
      have := sr.hh.rltL q1 q3; omega
    have hvs : VRs w1 Z (R ++ [⟨w.heap.size + 1, 0, 0⟩]) (first ++ [.yl s.hp.length] ++ caps) (uf ++ [Value.func (.yield (w.heap.size + 1)) #[] #[]] ++ uc) := by
      refine (VRs.append (VRs.step ⟨hl, hx⟩ sr.hh st02) ?_).append (VRs.step ⟨hl', hy'⟩ sr.hh st02)
      exact .cons (.yl hlast) .nil
    have hy : YI ⟨some ⟨s.hp.length, s.fr, ps.toList, assign, body⟩, false⟩ w1 Z (R ++ [⟨w.heap.size + 1, 0, 0⟩]) (s.hp ++ [none]) := by
      intro y hy
      injection hy with hy
      subst hy
      exact ⟨hd1, hd2, _, L, hlast, hnz _ (by simp), hno _ (by simp), hlp, by rw [hL], by rw [hL], by rw [hL], by rw [hL], by rw [hL], by rw [hL]; exact sr.fr.step sr.hh st02⟩
    have hr := enter_sound hE hCS hent hh2 hvs (sr.gl.step sr.hh st02) hy
    refine ⟨w.heap.size + 1, [mark w.heap.size], w1, { target := .fn (.func g) uc.toArray, args := uf.toArray ++ #[Value.func (.yield (w.heap.size + 1)) #[] #[]] }, w1, g, (uf ++ [Value.func (.yield (w.heap.size + 1)) #[] #[]] ++ uc).toArray, w1, ?_, ?_, fun _ _ => trivial, ?_, (fun h => by cases h), ?_⟩
    · rw [hw1, hL]; exact run_enterLoop_outer fnn a.tmps ps assign body
    · simp [resolve, hva, Deferred.ofValue]
      rfl
    · simp [invoke, hcall.run]
    · refine callsIn_fw none _ (Ret.calls hr fun v w3 hS => ?_)
      obtain ⟨Z3, R3, hh3, _, st3⟩ := hS
      obtain ⟨p1, p2, p3⟩ := st3.other hlp (hnz _ (by simp)) (hno _ (by simp))
      obtain ⟨m1, m2, m3⟩ := st3.other hmk (hnz _ (Nat.le_refl _)) (hno _ (Nat.le_refl _))
      refine ⟨_, _, run_endLoop p1 (by rw [hL]; simp), ?_⟩
      have hpend : L.pending = none := by rw [hL]
      split
      rotate_left
      · next hc => rw [hpend] at hc; cases hc
      have hb : ∀ c, (Z3 c ∨ own R3 h' c) → (w3.putObj (w.heap.size + 1) (.loop { L with state := .exhausted })).heap[c]? = w3.heap[c]? := fun c hc => put_ne (fun e => by subst e; exact hc.elim p2 p3)
      have st03 := st02.trans st3
      refine k _ _ Z3 R3 ⟨hh3.off (put_size _ _ _) hb, (sr.fr.step sr.hh st03).off fun c hc => hb c (.inl hc), ?_, (sr.gl.step sr.hh st03).off fun c hc => hb c (.inl hc), ?_⟩ ⟨st03.os, st03.tape, st03.output, ?_, fun c hc hn => ?_, st03.own_, st03.z, st03.z', st03.r⟩
      · refine ⟨⟨w.heap.size, sr.bs, rfl, (put_ne (by omega)).trans m1, m2, m3, fun d hd e => ?_⟩, ?_⟩
        · have : ∀ {D : List Deferred}, Mks base w Z R s.hp D → mark w.heap.size ∈ D → False := by
            intro D
            induction D with
            | nil => intro _ h; cases h
            | cons d D ih =>
              rintro ⟨⟨q, _, q2, q3, _⟩, hD⟩ hm
              rcases List.mem_cons.1 hm with hm | hm
              · rw [← hm] at q2
                have : w.heap.size = q := by unfold mark at q2; injection q2 with q2; injection q2
                have := heapLt q3; omega
              · exact ih hD hm
          subst e
          exact this sr.mks hd
        · refine Mks.put (sr.mks.step st03) fun d hd e => ?_
          have : ∀ {D : List Deferred}, Mks base w Z R s.hp D → mark (w.heap.size + 1) ∈ D → False := by
            intro D
            induction D with
            | nil => intro _ h; cases h
            | cons d D ih =>
              rintro ⟨⟨q, _, q2, q3, _⟩, hD⟩ hm
              rcases List.mem_cons.1 hm with hm | hm
              · rw [← hm] at q2
                have : w.heap.size + 1 = q := by unfold mark at q2; injection q2 with q2; injection q2
                have := heapLt q3; omega
              · exact ih hD hm
          subst e
          exact this sr.mks hd
      · rw [put_size]; exact Nat.le_trans sr.bs st03.size
      · rw [put_size]; exact st03.size
      · rw [put_ne (by omega)]; exact st03.block c hc hn

end
end Go.Proofs.YthofgamegondnaaDoor
