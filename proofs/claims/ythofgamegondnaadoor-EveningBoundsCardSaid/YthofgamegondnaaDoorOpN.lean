/- The abstract interpreter: operations that make blocks or write are sound. -/
import Derived.Test.YthofgamegondnaaDoorOpT
namespace Go.Proofs.YthofgamegondnaaDoor
open Go.RowKit

section
variable {P : Program} {w : World} {Z : Nat → Prop} {R : List RI} {h h' : Hp} {ρ : Operand → Option AV} {ve : Operand → Value} {o : Oper} {x : AV}

/-- The operation hands back a value that x tells; the world goes on to one of which h' tells. -/
def Ld (P : Program) (w : World) (Z : Nat → Prop) (R : List RI) (h : Hp) (x : AV) (h' : Hp) (ve : Operand → Value) (o : Oper) : Prop :=
  ∃ u w' R', (execOp ve o).run P w = .ok (.value u) w' ∧ HR w' Z R' h' ∧ VR w' Z R' x u ∧ Step w Z R h w' Z R' h'
/-- And nothing that was there has turned. -/
def Nw (P : Program) (w : World) (Z : Nat → Prop) (R : List RI) (h : Hp) (x : AV) (h' : Hp) (ve : Operand → Value) (o : Oper) : Prop :=
  ∃ u w' R', (execOp ve o).run P w = .ok (.value u) w' ∧ HR w' Z R' h' ∧ VR w' Z R' x u ∧ Step w Z R h w' Z R' h' ∧ w.grownBy w' none
theorem Nw.ld (n : Nw P w Z R h x h' ve o) : Ld P w Z R h x h' ve o := let ⟨u, w', R', h1, h2, h3, h4, _⟩ := n; ⟨u, w', R', h1, h2, h3, h4⟩
theorem Qt.ld (hh : HR w Z R h) (q : Qt P w Z R x ve o) : Ld P w Z R h x h ve o := let ⟨u, h1, h2⟩ := q; ⟨u, w, R, h2 w (fun _ => Same.refl w), hh, h1, Step.refl _ _ _ _⟩

theorem grown_alloc (w : World) (ob : Obj) : w.grownBy (w.alloc ob) none := ⟨rfl, rfl, rfl, by simp, fun _ hb _ => heap_alloc_old w ob hb⟩

/-- The cells of elements, one behind the other. -/
def flat' (us : List Value) : List Value := (us.map fun u => u.cells.toList).flatten
theorem flat_len {k : Nat} : ∀ {us : List Value}, (∀ u ∈ us, u.cells.size = k) → (flat' us).length = us.length * k
  | [], _ => by simp [flat']
  | u :: us, h => by
    have := flat_len (k := k) (us := us) (fun v hv => h v (by simp [hv]))
    simp only [flat', List.map_cons, List.flatten_cons, List.length_append, List.length_cons] at *
    rw [this, Array.length_toList, h u (by simp), Nat.add_mul, Nat.one_mul, Nat.add_comm]
theorem flat_get {k : Nat} : ∀ {us : List Value}, (∀ u ∈ us, u.cells.size = k) → ∀ (i : Nat) (u : Value), us[i]? = some u → ∀ (j : Nat) (q : Value), u.cells[j]? = some q → (flat' us)[i * k + j]? = some q
  | [], _, i, u, hu, _, _, _ => by simp at hu
  | v :: us, h, i, u, hu, j, q, hq => by
    have hv : v.cells.toList.length = k := by rw [Array.length_toList]; exact h v (by simp)
    simp only [flat', List.map_cons, List.flatten_cons]
    cases i with
    | zero =>
      simp at hu
      subst hu
      have hj : j < v.cells.size := (Array.getElem?_eq_some_iff.1 hq).1
      rw [Nat.zero_mul, Nat.zero_add, List.getElem?_append_left (by rw [Array.length_toList]; exact hj)]
      simpa using hq
    | succ i =>
      have := flat_get (k := k) (us := us) (fun v hv => h v (by simp [hv])) i u (by simpa using hu) j q hq
      rw [List.getElem?_append_right (by rw [hv, Nat.add_mul]; omega), hv]
      rw [show (i + 1) * k + j - k = i * k + j by rw [Nat.add_mul]; omega]
      exact this
theorem flat_append (us vs : List Value) : flat' (us ++ vs) = flat' us ++ flat' vs := by simp [flat']
theorem flat_take {k : Nat} : ∀ {us : List Value}, (∀ u ∈ us, u.cells.size = k) → ∀ n, flat' (us.take n) = (flat' us).take (n * k)
  | [], _, n => by simp [flat']
  | v :: us, h, 0 => by simp [flat']
  | v :: us, h, n + 1 => by
    have hv : v.cells.toList.length = k := by rw [Array.length_toList]; exact h v (by simp)
    have := flat_take (k := k) (us := us) (fun v hv => h v (by simp [hv])) n
    simp only [flat', List.take_succ_cons, List.map_cons, List.flatten_cons] at *
    rw [this, List.take_append, hv, List.take_of_length_le (l := v.cells.toList) (by rw [hv, Nat.add_mul]; omega)]
    congr 2
    rw [Nat.add_mul]; omega
theorem flat_drop {k : Nat} : ∀ {us : List Value}, (∀ u ∈ us, u.cells.size = k) → ∀ n, flat' (us.drop n) = (flat' us).drop (n * k)
  | [], _, n => by simp [flat']
  | v :: us, h, 0 => by simp [flat']
  | v :: us, h, n + 1 => by
    have hv : v.cells.toList.length = k := by rw [Array.length_toList]; exact h v (by simp)
    have := flat_drop (k := k) (us := us) (fun v hv => h v (by simp [hv])) n
    simp only [flat', List.drop_succ_cons, List.map_cons, List.flatten_cons] at *
    rw [this, List.drop_append, hv, List.drop_eq_nil_of_le (as := v.cells.toList) (by rw [hv, Nat.add_mul]; omega), List.nil_append]
    congr 1
    rw [Nat.add_mul]; omega

theorem evBox_sound {t : TypeId} {y : AV} {u : Value} (hh : HR w Z R h) (hv : VR w Z R y u) (e : evBox h t y = some (x, h')) :
    ∃ w' R', (newVar t u).run P w = .ok ⟨w.heap.size, 0, none⟩ w' ∧ HR w' Z R' h' ∧ VR w' Z R' x (.pointer (some ⟨w.heap.size, 0, none⟩)) ∧ Step w Z R h w' Z R' h' ∧ w.grownBy w' none := by
  unfold evBox at e
  split at e
  · next hnt =>
    injection e with e
    injection e with e1 e2
    subst e1 e2
    obtain ⟨hs, hc⟩ := hv.cells
    obtain ⟨h1, h2, h3⟩ := hh.new (cap := 1) (k := y.nc) (t := t) (es := [y]) (us := [u]) (arr := u.cells) (grown_alloc w _) (Nat.le_refl _) (heap_alloc_new w _) (.cons hv .nil) (by rw [hs]; omega) (by simp) (by unfold maxLen; omega) (fun i q hq => by
      cases i with
      | zero =>
        simp at hq; subst hq
        exact ⟨hs, hv.cells_one hnt, fun j q hq => by simpa using hq⟩
      | succ i => simp at hq)
    refine ⟨_, _, rfl, h1, ?_, h2, grown_alloc w _⟩
    have := VR.pt (w := w.alloc (.cells u.cells t)) (Z := Z) (b := h.length) (i := 0) (off := 0) h3
    simpa using this
  · cases e

theorem fillA_sound {k : Nat} : ∀ {ps : List (Nat × AV)} {vs : List Value} {es es' : List AV} {us : List Value},
    VRs w Z R (ps.map (·.2)) vs → VRs w Z R es us → (∀ u ∈ us, u.cells.size = k ∧ ∀ q ∈ u.cells, q.oneCell' = true) → fillA es k ps = some es' →
    ∃ us', Instr.fill (fun i => some (i * k, k)) (flat' us).toArray ((ps.map (·.1)).zip vs) = some (flat' us').toArray ∧ VRs w Z R es' us' ∧ (∀ u ∈ us', u.cells.size = k ∧ ∀ q ∈ u.cells, q.oneCell' = true)
  | [], vs, es, es', us, hv, hc, h1, e => by
    injection e with e; subst e
    exact ⟨us, by simp [Instr.fill], hc, h1⟩
  | (i, y) :: ps, vs, es, es', us, hv, hc, h1, e => by
    obtain ⟨v, vs', rfl, hy, hn⟩ := VRs.head (by simpa using hv)
    unfold fillA at e
    split at e
    · next hcond =>
      obtain ⟨k1, k2, k3⟩ := hcond
      have hsz : v.cells.size = k := by rw [hy.cells.1, k2]
      obtain ⟨u', g1, g2, _⟩ := hy.cells.2.elm (List.all_eq_true.2 fun q hq => hy.cells_one k3 q (by simpa using hq))
      have hul : i < us.length := by rw [hc.len]; exact k1
      have h1' : ∀ u ∈ us.set i u', u.cells.size = k ∧ ∀ q ∈ u.cells, q.oneCell' = true := fun u hu => by
        rcases List.mem_or_eq_of_mem_set hu with hu | rfl
        · exact h1 u hu
        · rw [g2]; exact ⟨by simpa using hsz, fun q hq => hy.cells_one k3 q (by simpa using hq)⟩
      obtain ⟨us', q1, q2, q3⟩ := fillA_sound hn (hc.set i g1) h1' e
      refine ⟨us', ?_, q2, q3⟩
      simp only [List.map_cons, List.zip_cons_cons]
      have hall : ∀ u ∈ us, u.cells.size = k := fun u hu => (h1 u hu).1
      have hfl := flat_len (k := k) hall
      rw [fill_step (fun i => some (i * k, k)) (flat' us) i v _ rfl hsz (by rw [hfl]; have := Nat.mul_le_mul_right k (show i + 1 ≤ us.length by omega); rw [Nat.add_mul] at this; omega)]
      have e2 : flat' (us.set i u') = (flat' us).take (i * k) ++ v.cells.toList ++ (flat' us).drop (i * k + k) := by
        rw [List.set_eq_take_append_cons_drop, if_pos hul, flat_append, flat_take hall]
        have : flat' (u' :: us.drop (i + 1)) = u'.cells.toList ++ flat' (us.drop (i + 1)) := by simp [flat']
        rw [this, flat_drop hall, g2, List.append_assoc]
        congr 3
        rw [Nat.add_mul]; omega
      rw [← e2]
      exact q1
    · cases e

theorem evLit_sound (hρ : ∀ o x, ρ o = some x → VR w Z R x (ve o)) (hh : HR w Z R h) {t : TypeId} {n : Nat} {ps : Array (Nat × Operand)} {xs : List (Nat × AV)} (ho : o.op = .buildSlice t n ps) (hp : partsOf ρ ps.toList = some xs) (e : evLit P h t n xs = some (x, h')) : Nw P w Z R h x h' ve o := by
  obtain ⟨p1, p2⟩ := partsOf_vr hρ hp
  unfold evLit at e
  split at e
  · next el hel =>
    have hund : P.underlying t = some (.slice el) := by
      unfold tyElem at hel
      split at hel
      · next h1 => injection hel with hel; subst hel; exact h1
      · cases hel
    split at e
    · next i z hi hz =>
      split at e
      · next hc =>
        obtain ⟨c1, c2, c3, c4⟩ := hc
        split at e
        · next es hes =>
          injection e with e
          injection e with e1 e2
          subst e1 e2
          obtain ⟨uz, hu, hnt, hrz, _⟩ := run_zero' (w := w) (Z := Z) (R := R) hz
          obtain ⟨u', g1, g2, _⟩ := hu.cells.2.elm (List.all_eq_true.2 fun q hq => hu.cells_one hnt q (by simpa using hq))
          have husz : uz.cells.size = i.size := by rw [hu.cells.1, c3]
          obtain ⟨us', q1, q2, q3⟩ := fillA_sound p2 (VRs.replicate n g1) (fun u hu' => by
            have := List.eq_of_mem_replicate hu'
            subst this
            rw [g2]; exact ⟨by simpa using husz, fun q hq => hu.cells_one hnt q (by simpa using hq)⟩) hes
          have hpl : ps.map (fun x => match x with | (i, x) => (i, ve x)) = ((xs.map (·.1)).zip (ps.toList.map fun p => ve p.2)).toArray := by
            apply Array.ext'
            rw [Array.toList_map, p1]
            simp only [List.zip_map']
          have hfl : (flat' us').length = us'.length * i.size := flat_len fun u hu => (q3 u hu).1
          have hlen : us'.length = n := by
            rw [q2.len]
            clear q1 q2 q3 hfl
            have : ∀ {ps : List (Nat × AV)} {es es' : List AV}, fillA es i.size ps = some es' → es'.length = es.length := by
              intro ps
              induction ps with
              | nil => intro es es' e; injection e with e; rw [e]
              | cons p ps ih =>
                intro es es' e
                obtain ⟨j, y⟩ := p
                unfold fillA at e
                split at e
                · rw [ih e]; simp
                · cases e
            rw [this hes]; simp
          have hsi : tySize P el = some i.size := by simp [tySize, hi]
          obtain ⟨r1, r2, r3⟩ := hh.new (w' := w.alloc (.cells (flat' us').toArray el)) (c := w.heap.size) (cap := n) (k := i.size) (t := el) (grown_alloc w _) (Nat.le_refl _) (heap_alloc_new w _) q2 (by simp [hfl, hlen]) (by have := q2.len; omega) (by have : n ≤ n * i.size := Nat.le_mul_of_pos_right n c2; unfold maxLen; omega) (fun j u hu => ⟨(q3 u (List.mem_of_getElem? hu)).1, (q3 u (List.mem_of_getElem? hu)).2, fun k q hq => by
            have := flat_get (fun u hu => (q3 u hu).1) j u hu k q hq
            simpa using this⟩)
          refine ⟨.slice (some ⟨w.heap.size, 0, none⟩) n n, _, _, ?_, r1, ?_, r2, grown_alloc w _⟩
          · have hcells : (Array.range (n * i.size)).map (fun j => uz.cells[j % uz.cells.size]!) = (flat' (List.replicate n u')).toArray := by
              apply Array.ext'
              apply List.ext_getElem?
              intro j
              rw [Array.toList_map]
              have hl2 : (flat' (List.replicate n u')).length = n * i.size := by
                rw [flat_len (k := i.size) (fun u hu' => by rw [List.eq_of_mem_replicate hu', g2]; simpa using husz)]; simp
              by_cases hj : j < n * i.size
              · have hk : j / i.size < n := Nat.div_lt_of_lt_mul (by rw [Nat.mul_comm]; exact hj)
                have hm : j % i.size < i.size := Nat.mod_lt _ c2
                have := flat_get (k := i.size) (us := List.replicate n u') (fun u hu' => by rw [List.eq_of_mem_replicate hu', g2]; simpa using husz) (j / i.size) u' (by simp [hk]) (j % i.size) uz.cells[j % i.size]! (by
                  rw [g2]
                  have hlt : j % i.size < uz.cells.size := by omega
                  simp [hlt])
                rw [show j / i.size * i.size + j % i.size = j by rw [Nat.mul_comm]; exact Nat.div_add_mod j i.size] at this
                rw [this]
                simp [hj, husz]
              · rw [List.getElem?_eq_none (by simp; omega), List.getElem?_eq_none (by simp [hl2]; omega)]
            have h24 : ¬ (n * i.size > 2 ^ 24) := by omega
            simp only [execOp, ho, hpl, Instr.buildSlice, Sem.run_bind, run_underlying hund, Result.andThen, run_size' hsi]
            rw [if_neg h24]
            by_cases h0 : n * i.size = 0
            · rw [if_pos h0]
              have hn0 : n = 0 := by
                rcases Nat.mul_eq_zero.1 h0 with h | h
                · exact h
                · omega
              subst hn0
              have e0 : ((Array.range (0 * i.size)).map fun j => (#[] : Array Value)[j % (#[] : Array Value).size]!) = (flat' (List.replicate 0 u')).toArray := by
                apply Array.ext'
                simp [flat']
              simp only [Sem.run_bind, Sem.run_pure, Result.andThen]
              rw [e0, q1]
              simp [newRow]
            · rw [if_neg h0]
              simp only [Sem.run_bind, hrz, Result.andThen, Sem.run_pure, hcells]
              rw [q1]
              simp [newRow]
          · have := VR.rf (w := w.alloc (.cells (flat' us').toArray el)) (Z := Z) (b := h.length) (lo := 0) (n := n) (m := n) (c := n) r3 (Nat.le_refl _) (Nat.le_refl _) (by simp) (by have : n ≤ n * i.size := Nat.le_mul_of_pos_right n c2; show n ≤ maxLen; unfold maxLen; omega)
            simpa using this
        · cases e
      · cases e
    · cases e
  · cases e
end
end Go.Proofs.YthofgamegondnaaDoor
