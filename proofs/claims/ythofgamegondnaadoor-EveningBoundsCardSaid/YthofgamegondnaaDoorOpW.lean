/- The abstract interpreter: operations that make blocks or write are sound (2). -/
import Derived.Test.YthofgamegondnaaDoorOpN
import Derived.Deep.AppendSrc
import Derived.Laws.IdiomCopy
namespace Go.Proofs.YthofgamegondnaaDoor
open Go.RowKit

section
variable {P : Program} {w : World} {Z : Nat → Prop} {R : List RI} {h h' : Hp} {ρ : Operand → Option AV} {ve : Operand → Value} {o : Oper} {x : AV}

theorem tyElem_und {t el : TypeId} (hel : tyElem P t = some el) : P.underlying t = some (.slice el) := by
  unfold tyElem at hel
  split at hel
  · next h1 => injection hel with hel; subst hel; exact h1
  · cases hel

theorem evMake_sound (hρ : ∀ o x, ρ o = some x → VR w Z R x (ve o)) (hh : HR w Z R h) {t : TypeId} {p q : Operand} {y z : AV} (ho : o.op = .makeSlice t p q) (hp : ρ p = some y) (hq : ρ q = some z) (e : evMake P h t y z = some (x, h')) : Nw P w Z R h x h' ve o := by
  unfold evMake at e
  split at e
  · next el n c hel hn hc =>
    have hund := tyElem_und hel
    split at e
    · next i z hi hz =>
      split at e
      · next hcond =>
        obtain ⟨rfl, c2, c3, c4, c5, c6⟩ := hcond
        injection e with e
        injection e with e1 e2
        subst e1 e2
        obtain ⟨k1, hv1⟩ := intOfA_inv hn (hρ _ _ hp)
        obtain ⟨k2, hv2⟩ := intOfA_inv hc (hρ _ _ hq)
        obtain ⟨uz, hu, hnt, _, i', hi', hz'⟩ := run_zero' (w := w) (Z := Z) (R := R) hz
        rw [hi] at hi'
        injection hi' with hi'
        subst hi'
        have husz : uz.cells.size = i.size := by rw [hu.cells.1, c5]
        have hrun := run_make (P := P) w t el i uz hund hi hz' k1 k2 n n c2 (Int.le_refl _) (by omega) (by omega)
        have hget : ∀ (a j : Nat) (q : Value), a < n.toNat → uz.cells[j]? = some q → (madeCells uz.cells (n.toNat * i.size))[a * i.size + j]? = some q := by
          intro a j q ha hj
          have hjl : j < i.size := by rw [← husz]; exact (Array.getElem?_eq_some_iff.1 hj).1
          have hlt : a * i.size + j < n.toNat * i.size := by
            have := Nat.mul_le_mul_right i.size (show a + 1 ≤ n.toNat by omega)
            rw [Nat.add_mul] at this; omega
          have hmod : (a * i.size + j) % i.size = j := by rw [Nat.add_comm, Nat.mul_comm, Nat.add_mul_mod_self_left, Nat.mod_eq_of_lt hjl]
          simp [madeCells, hlt, husz, hmod]
          have h2 : j < uz.cells.size := by omega
          simp [h2] at hj ⊢
          exact hj
        obtain ⟨r1, r2, r3⟩ := hh.new (w' := w.alloc (.cells (madeCells uz.cells (n.toNat * i.size)) el)) (c := w.heap.size) (cap := n.toNat) (k := i.size) (t := el) (grown_alloc w _) (Nat.le_refl _) (heap_alloc_new w _) (VRs.replicate n.toNat hu) (size_madeCells _ _) (by simp) (by unfold maxLen; omega) (fun j u hu' => by
          have hj : j < n.toNat := by have := (List.getElem?_eq_some_iff.1 hu').1; simpa using this
          have := List.eq_of_mem_replicate (List.mem_of_getElem? hu')
          subst this
          exact ⟨husz, hu.cells_one c6, fun k q hq => hget j k q hj hq⟩)
        refine ⟨_, _, _, by simp only [execOp, ho, hv1, hv2]; rw [Sem.run_bind, hrun]; rfl, r1, ?_, r2, grown_alloc w _⟩
        have := VR.rf (w := w.alloc (.cells (madeCells uz.cells (n.toNat * i.size)) el)) (Z := Z) (b := h.length) (lo := 0) (n := n.toNat) (m := n.toNat) (c := n.toNat) r3 (Nat.le_refl _) (Nat.le_refl _) (by simp) (by show n.toNat ≤ maxLen; unfold maxLen; omega)
        simpa using this
      · cases e
    · cases e
  · cases e

theorem evOpN_sound (hρ : ∀ o x, ρ o = some x → VR w Z R x (ve o)) (hh : HR w Z R h) (e : evOpN P ρ h o.op = some (x, h')) : Nw P w Z R h x h' ve o := by
  unfold evOpN at e
  split at e
  · next t ho =>
    split at e
    · next z hz =>
      obtain ⟨u, hu, _, hr, _⟩ := run_zero' (w := w) (Z := Z) (R := R) hz
      obtain ⟨w', R', h1, h2, h3, h4, h5⟩ := evBox_sound (P := P) hh hu e
      exact ⟨_, w', R', by simp [execOp, ho, Instr.alloc, hr, h1], h2, h3, h4, h5⟩
    · cases e
  · next t a ho =>
    split at e
    · next y hy =>
      obtain ⟨w', R', h1, h2, h3, h4, h5⟩ := evBox_sound (P := P) hh (hρ _ _ hy) e
      exact ⟨_, w', R', by simp [execOp, ho, Instr.box, h1], h2, h3, h4, h5⟩
    · cases e
  · next t n ps ho =>
    split at e
    · next xs hxs => exact evLit_sound hρ hh ho hxs e
    · cases e
  · next t a b ho =>
    split at e
    · next y z hy hz => exact evMake_sound hρ hh ho hy hz e
    · cases e
  · cases e

/-- Cells set one behind the other: the block, and the rest. -/
theorem heap_setCells (b : Nat) : ∀ (vs : List Value) (o : Nat) (w : World) (arr : Array Value) (t : TypeId), w.heap[b]? = some (.cells arr t (0, 0)) → o + vs.length ≤ arr.size →
    (w.setCells b o vs).heap[b]? = some (.cells (arr.toList.take o ++ vs ++ arr.toList.drop (o + vs.length)).toArray t (0, 0)) ∧ w.grownBy (w.setCells b o vs) (some b) ∧ (w.setCells b o vs).heap.size = w.heap.size
  | [], o, w, arr, t, hb, hl => by
    refine ⟨?_, ⟨rfl, rfl, rfl, Nat.le_refl _, fun _ _ _ => rfl⟩, rfl⟩
    simp only [World.setCells, List.append_nil, List.length_nil, Nat.add_zero, List.take_append_drop]
    exact hb
  | v :: vs, o, w, arr, t, hb, hl => by
    simp only [List.length_cons] at hl
    have h1 : (w.setCell ⟨b, o, none⟩ v).heap[b]? = some (.cells (arr.setIfInBounds o v) t (0, 0)) := by
      simp [World.setCell, Array.getElem?_modify, hb]
    obtain ⟨k1, k2, k3⟩ := heap_setCells b vs (o + 1) (w.setCell ⟨b, o, none⟩ v) (arr.setIfInBounds o v) t h1 (by simp; omega)
    refine ⟨?_, ?_, ?_⟩
    · rw [World.setCells, k1]
      congr 3
      rw [Array.toList_setIfInBounds]
      apply List.ext_getElem?
      intro q
      by_cases h1 : q < o
      · rw [List.append_assoc, List.getElem?_append_left (by simp; omega), List.append_assoc, List.getElem?_append_left (by simp; omega), List.getElem?_take_of_lt (by omega), List.getElem?_take_of_lt (by omega), List.getElem?_set_ne (by omega)]
      · by_cases h2 : q = o
        · subst h2
          rw [List.append_assoc, List.getElem?_append_left (by simp; omega), List.append_assoc, List.getElem?_append_right (by simp; omega), List.getElem?_take_of_lt (by omega), List.getElem?_set_self (by rw [Array.length_toList]; omega)]
          have hm : q - (arr.toList.take q).length = 0 := by simp; omega
          rw [hm]; rfl
        · by_cases h3 : q < o + 1 + vs.length
          · rw [List.append_assoc, List.getElem?_append_right (by simp; omega), List.getElem?_append_left (by simp; omega), List.append_assoc, List.getElem?_append_right (by simp; omega), List.getElem?_append_left (by simp; omega)]
            simp only [List.length_take, List.length_set, Array.length_toList]
            rw [show q - min o arr.size = (q - min (o + 1) arr.size) + 1 by omega, List.getElem?_cons_succ]
          · rw [List.getElem?_append_right (by simp; omega), List.getElem?_append_right (by simp; omega)]
            simp only [List.length_append, List.length_take, List.length_set, List.length_cons, List.getElem?_drop, Array.length_toList]
            rw [List.getElem?_set_ne (by omega)]
            congr 1
            omega
    · refine ⟨k2.os, k2.tape, k2.output, by rw [World.setCells, k3]; simp [World.setCell], fun k hk hne => ?_⟩
      rw [World.setCells, k2.block k (by simpa [World.setCell] using hk) hne]
      exact Below.heap_setCell _ _ _ _ (fun e => hne (by rw [e]))
    · rw [World.setCells, k3]; simp [World.setCell]

theorem splice_len {α : Type} (l m : List α) (a : Nat) (h : a + m.length ≤ l.length) : (l.take a ++ m ++ l.drop (a + m.length)).length = l.length := by
  simp only [List.length_append, List.length_take, List.length_drop]; omega
/-- Cells of an own block turned, element by element. -/
theorem HR.write (hh : HR w Z R h) {b lo : Nat} {B : Blk} {r : RI} {ys : List AV} {vs : List Value} (hB : h[b]? = some (some B)) (hf : B.fz = false) (hr : R[b]? = some r) (hle : lo + ys.length ≤ r.cap) (hlo : lo ≤ B.es.length) (hy : VRs w Z R ys vs) (h1 : ∀ u ∈ vs, u.cells.size = B.k ∧ ∀ q ∈ u.cells, q.oneCell' = true) :
    let es := B.es.take lo ++ ys ++ B.es.drop (lo + ys.length)
    let w' := w.setCells r.c (lo * B.k) (flat' vs)
    HR w' Z R (h.set b (some { B with es := es })) ∧ Step w Z R h w' Z R (h.set b (some { B with es := es })) ∧ (∀ j, j < (flat' vs).length → (w.cell? ⟨r.c, lo * B.k + j, none⟩).isSome = true) ∧ (∀ j, j < (flat' vs).length → w.frozen? ⟨r.c, lo * B.k + j, none⟩ = false) ∧ (∀ v ∈ flat' vs, v.oneCell' = true) := by
  intro es w'
  obtain ⟨r', arr, us, g1, g2, g3, g4, g5, g6, g7, g8, g9, g10⟩ := hh.blk b B hB
  rw [hr] at g1
  injection g1 with g1
  subst g1
  have hall : ∀ u ∈ us, u.cells.size = B.k := fun u hu => by
    obtain ⟨i, hi⟩ := List.mem_iff_getElem?.1 hu
    exact (g10 i u hi).1
  have hfl := flat_len (k := B.k) (us := vs) fun u hu => (h1 u hu).1
  have hvl : vs.length = ys.length := hy.len
  have hsz : lo * B.k + (flat' vs).length ≤ arr.size := by
    rw [hfl, g4, hvl, ← Nat.add_mul]; exact Nat.mul_le_mul_right _ hle
  obtain ⟨k1, k2, k3⟩ := heap_setCells r.c (flat' vs) (lo * B.k) w arr B.t g3 hsz
  have hus' : VRs w Z R es (us.take lo ++ vs ++ us.drop (lo + ys.length)) := ((g9.take lo).append hy).append (g9.drop _)
  have hlen : es.length ≤ r.cap := by simp [es]; omega
  have hput := hh.put (w' := w') (es := es) (us := us.take lo ++ vs ++ us.drop (lo + ys.length)) hB hf hr k2 k1 (by rw [← g4, List.size_toArray, splice_len arr.toList (flat' vs) (lo * B.k) (by rw [Array.length_toList]; exact hsz), Array.length_toList]) hlen hus' (fun i u hu => by
    have hA : ∀ (i : Nat) (u : Value), us[i]? = some u → ∀ (j : Nat) (q : Value), u.cells[j]? = some q → arr.toList[i * B.k + j]? = some q := fun i u hu j q hq => by simpa using (g10 i u hu).2.2 j q hq
    have hlow : lo * B.k ≤ arr.toList.length := by rw [Array.length_toList]; omega
    rcases Nat.lt_or_ge i lo with hi | hi
    · rw [List.append_assoc, List.getElem?_append_left (by simp [g9.len]; omega), List.getElem?_take_of_lt hi] at hu
      refine ⟨(g10 i u hu).1, (g10 i u hu).2.1, fun j q hq => ?_⟩
      have hj : j < B.k := by rw [← (g10 i u hu).1]; exact (Array.getElem?_eq_some_iff.1 hq).1
      have hlt : i * B.k + j < lo * B.k := by have := Nat.mul_le_mul_right B.k (show i + 1 ≤ lo by omega); rw [Nat.add_mul] at this; omega
      rw [List.getElem?_toArray, List.append_assoc, List.getElem?_append_left (by simp; omega), List.getElem?_take_of_lt hlt]
      exact hA i u hu j q hq
    · have hlenT : (us.take lo).length = lo := by simp [g9.len]; omega
      rcases Nat.lt_or_ge i (lo + ys.length) with hi2 | hi2
      · rw [List.append_assoc, List.getElem?_append_right (by omega), hlenT, List.getElem?_append_left (by omega)] at hu
        have hm := List.mem_of_getElem? hu
        refine ⟨(h1 u hm).1, (h1 u hm).2, fun j q hq => ?_⟩
        have hj : j < B.k := by rw [← (h1 u hm).1]; exact (Array.getElem?_eq_some_iff.1 hq).1
        have hfg := flat_get (k := B.k) (us := vs) (fun u hu => (h1 u hu).1) (i - lo) u hu j q hq
        have hsub : i * B.k + j - lo * B.k = (i - lo) * B.k + j := by
          rw [Nat.sub_mul]; have := Nat.mul_le_mul_right B.k hi; omega
        have hge : lo * B.k ≤ i * B.k := Nat.mul_le_mul_right B.k hi
        have hlt : (i - lo) * B.k + j < (flat' vs).length := (List.getElem?_eq_some_iff.1 hfg).1
        have hlt2 : ((arr.toList.take (lo * B.k))).length = lo * B.k := by simp; rw [Array.length_toList] at hlow; omega
        rw [List.getElem?_toArray, List.append_assoc, List.getElem?_append_right (by omega), hlt2, hsub, List.getElem?_append_left hlt]
        exact hfg
      · rw [List.getElem?_append_right (by simp [hvl, g9.len]; omega), List.getElem?_drop] at hu
        have hidx : lo + ys.length + (i - (us.take lo ++ vs).length) = i := by simp [hvl, g9.len]; omega
        rw [hidx] at hu
        refine ⟨(g10 i u hu).1, (g10 i u hu).2.1, fun j q hq => ?_⟩
        have hge : (lo + ys.length) * B.k ≤ i * B.k := Nat.mul_le_mul_right B.k hi2
        rw [Nat.add_mul] at hge
        have hlt2 : (arr.toList.take (lo * B.k) ++ flat' vs).length = lo * B.k + ys.length * B.k := by
          rw [List.length_append, List.length_take, hfl, hvl]; rw [Array.length_toList] at *; omega
        rw [List.getElem?_toArray, List.getElem?_append_right (by omega), hlt2, List.getElem?_drop, hfl, hvl]
        rw [show lo * B.k + ys.length * B.k + (i * B.k + j - (lo * B.k + ys.length * B.k)) = i * B.k + j by omega]
        exact hA i u hu j q hq)
  refine ⟨hput.1, hput.2, fun j hj => ?_, fun j hj => by simp [World.frozen?, g3], fun v hv => ?_⟩
  · have : lo * B.k + j < arr.size := by omega
    simp [World.cell?, g3, this]
  · obtain ⟨u, hu, hv'⟩ := List.mem_flatten.1 hv
    obtain ⟨u', hu', rfl⟩ := List.mem_map.1 hu
    exact (h1 u' hu').2 v (by simpa using hv')
end
end Go.Proofs.YthofgamegondnaaDoor
