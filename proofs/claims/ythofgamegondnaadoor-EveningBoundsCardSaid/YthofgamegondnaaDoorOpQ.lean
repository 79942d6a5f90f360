/- The abstract interpreter: operations that only read are sound. -/
import Derived.Test.YthofgamegondnaaDoorOp
namespace Go.Proofs.YthofgamegondnaaDoor
open Go.RowKit

/-- What lies in w lies in w' as well. -/
structure Same (w w' : World) : Prop where
  size : w.heap.size ≤ w'.heap.size
  block : ∀ c, c < w.heap.size → w'.heap[c]? = w.heap[c]?
theorem Same.refl (w : World) : Same w w := ⟨Nat.le_refl _, fun _ _ => rfl⟩
theorem Same.cell {w w' : World} (s : Same w w') {a : Addr} {u : Value} (h : w.cell? a = some u) : w'.cell? a = some u :=
  (World.cell?_of_block (s.block _ (World.block_lt_of_cell? w a h))).trans h
theorem Same.of_grown {w w' : World} (h : w.grownBy w' none) : Same w w' := ⟨h.size, fun c hc => h.block c hc (by simp)⟩

def isLd : Op → Bool
  | .load _ _ => true
  | _ => false
/-- The operation hands back a value that x tells, in every world (a load: in every world that holds what w holds). -/
def Qt (P : Program) (w : World) (Z : Nat → Prop) (R : List RI) (x : AV) (ve : Operand → Value) (o : Oper) : Prop :=
  ∃ u, VR w Z R x u ∧ ∀ w', (isLd o.op = true → Same w w') → (execOp ve o).run P w' = .ok (.value u) w'

section
variable {P : Program} {w : World} {Z : Nat → Prop} {R : List RI} {h : Hp} {ρ : Operand → Option AV} {ve : Operand → Value} {o : Oper} {x : AV}

theorem av1_vr {u : Value} (e : av1 u = some x) : VR w Z R x u := by
  unfold av1 at e
  split at e <;> first
    | (cases e; done)
    | (split at e
       · next hb => injection e with e; subst e; exact .st rfl (Nat.le_of_ble_eq_true hb)
       · cases e)
    | (injection e with e; subst e; first | exact .e0 | (refine .v ?_; cases u <;> first | rfl | (simp at *)))
theorem avL_vr : ∀ {us : List Value} {xs : List AV}, avL us = some xs → VRs w Z R xs us ∧ us.all Value.oneCell' = true
  | [], xs, e => by injection e with e; subst e; exact ⟨.nil, rfl⟩
  | u :: us, xs, e => by
    unfold avL at e
    split at e
    · next y r h1 h2 =>
      injection e with e
      subst e
      obtain ⟨h3, h4⟩ := avL_vr h2
      refine ⟨.cons (av1_vr h1) h3, ?_⟩
      have : u.oneCell' = true := by unfold av1 at h1; split at h1 <;> first | rfl | (cases h1; done) | (cases u <;> first | rfl | (simp at *))
      simp [this, h4]
    · cases e
theorem avOf_vr {u : Value} (e : avOf u = some x) : VR w Z R x u ∧ x.notTp = true := by
  unfold avOf at e
  split at e
  · next cs =>
    obtain ⟨xs, h1, rfl⟩ := Option.map_eq_some_iff.1 e
    obtain ⟨h2, h3⟩ := avL_vr (w := w) (Z := Z) (R := R) h1
    refine ⟨?_, rfl⟩
    have := VR.ag h2.len h3 h2.at_
    simpa using this
  · refine ⟨av1_vr e, ?_⟩
    unfold av1 at e
    split at e <;> first
      | (cases e; done)
      | (split at e
         · injection e with e; subst e; rfl
         · cases e)
      | (injection e with e; subst e; rfl)

theorem opds_vr (hρ : ∀ o x, ρ o = some x → VR w Z R x (ve o)) : ∀ {l : List Operand} {xs : List AV}, opds ρ l = some xs → VRs w Z R xs (l.map ve)
  | [], xs, e => by injection e with e; subst e; exact .nil
  | a :: l, xs, e => by
    unfold opds at e
    split at e
    · next y r h1 h2 => injection e with e; subst e; exact .cons (hρ _ _ h1) (opds_vr hρ h2)
    · cases e

theorem run_size' {t : TypeId} {m : Nat} (ht : tySize P t = some m) (w : World) : (sizeOf t).run P w = .ok m w := by
  obtain ⟨i, hi, hs⟩ := Option.map_eq_some_iff.1 ht
  simp [sizeOf, typeInfo, hi, hs]
theorem run_agg' {t : TypeId} {g : Bool} (ht : tyAgg P t = some g) (w : World) : (isAgg t).run P w = .ok g w := by
  obtain ⟨d, hd, hg⟩ := Option.map_eq_some_iff.1 ht
  unfold isAgg
  rw [Sem.run_bind, run_underlying hd w]
  subst hg
  cases d <;> rfl
theorem run_zero' {t : TypeId} {z : AV} (ht : tyZero P t = some z) : ∃ u, VR w Z R z u ∧ z.notTp = true ∧ (∀ w, (zeroValue t).run P w = .ok u w) ∧ ∃ i, P.info? t = some i ∧ i.zero = some u := by
  obtain ⟨u, hu, hz⟩ := Option.bind_eq_some_iff.1 ht
  obtain ⟨i, hi, hz'⟩ := Option.bind_eq_some_iff.1 hu
  obtain ⟨h1, h2⟩ := avOf_vr (w := w) (Z := Z) (R := R) hz
  exact ⟨u, h1, h2, fun w => by simp [zeroValue, typeInfo, hi, hz'], i, hi, hz'⟩

/-- Reading a variable whose cells are known. -/
theorem run_loadVar' {t : TypeId} {m : Nat} {g : Bool} (ht : tySize P t = some m) (hg : tyAgg P t = some g) {e y : AV} {u : Value} {a : Addr} {off : Nat} (hv : VR w Z R e u) (h1 : ∀ q ∈ u.cells, q.oneCell' = true) (he : getE e off m g = some y)
    (hc : ∀ (j : Nat) (q : Value), u.cells[j]? = some q → w.cell? ⟨a.block, a.off + j, none⟩ = some q) :
    ∃ v, VR w Z R y v ∧ ∀ w', Same w w' → (loadVar t ⟨a.block, a.off + off, none⟩).run P w' = .ok v w' := by
  obtain ⟨hsz, hcs⟩ := hv.cells
  unfold getE at he
  split at he
  · next hg' =>
    subst hg'
    split at he
    · next hle =>
      injection he with he
      subst he
      have hvs := (hcs.drop off).take m
      have hl : ((u.cells.toList.drop off).take m).length = m := by rw [hvs.len, List.length_take, List.length_drop]; omega
      refine ⟨.agg ((u.cells.toList.drop off).take m).toArray, .ag hvs.len (List.all_eq_true.2 fun q hq => h1 q (by have := List.mem_of_mem_drop (List.mem_of_mem_take hq); simpa using this)) hvs.at_, fun w' s => ?_⟩
      unfold loadVar
      rw [Sem.run_bind, run_agg' hg]
      have hlc := run_loadCells_list (P := P) w' ⟨a.block, a.off + off, none⟩ ((u.cells.toList.drop off).take m) (fun j q hq => by
        rw [List.getElem?_take] at hq
        split at hq
        · rw [List.getElem?_drop] at hq
          have hq' : u.cells[off + j]? = some q := by simpa using hq
          have := s.cell (hc _ _ hq')
          have e : (⟨a.block, a.off + off, none⟩ : Addr).add j = ⟨a.block, a.off + (off + j), none⟩ := by unfold Addr.add; split <;> simp_all [Nat.add_assoc]
          rw [e]; exact this
        · cases hq)
      rw [hl] at hlc
      simp [run_size' ht, hlc]
    · cases he
  · next hg' =>
    have hgf : g = false := by simpa using hg'
    subst hgf
    obtain ⟨v, hv1, hv2⟩ := hcs.get he
    have hv1' : u.cells[off]? = some v := by simpa using hv1
    refine ⟨v, hv2, fun w' s => ?_⟩
    unfold loadVar
    rw [Sem.run_bind, run_agg' hg]
    simp [s.cell (hc _ _ hv1')]

theorem evLoad_sound (hh : HR w Z R h) (hρ : ∀ o x, ρ o = some x → VR w Z R x (ve o)) {t : TypeId} {a : Operand} {p : AV} (hp : ρ a = some p) (ho : o.op = .load t a) (e : evLoad P h t p = some x) : Qt P w Z R x ve o := by
  unfold evLoad at e
  split at e
  · next m g hm hg =>
    have hv := hρ _ _ hp
    split at e
    · next b i off =>
      split at e
      · next B hB =>
        split at e
        · next el hel =>
          obtain ⟨r, arr, us, h1, h2, h3, h4, h5, h6, h7, h8, h9, h10⟩ := hh.blk b B hB
          obtain ⟨u, hu1, hu2⟩ := h9.get hel
          obtain ⟨g1, g2, g3⟩ := h10 _ _ hu1
          generalize hva : ve a = va at hv
          cases hv with
          | pt hr =>
            rw [h1] at hr
            injection hr with hr
            subst hr
            obtain ⟨v, k1, k2⟩ := run_loadVar' (w := w) (Z := Z) (R := R) (a := ⟨r.c, i * r.k, none⟩) hm hg hu2 g2 e (fun j q hq => by
              have := g3 j q hq
              rw [← h2] at this
              simp [World.cell?, h3, this])
            exact ⟨v, k1, fun w' s => by simp [execOp, ho, hva, Instr.loadAt, Instr.sureAddr, k2 w' (s (by rw [ho]; rfl))]⟩
        · cases e
      · cases e
    · next y off =>
      generalize hva : ve a = va at hv
      cases hv with
      | pe hs hz h1 hu hx =>
        rename_i a' u
        obtain ⟨v, k1, k2⟩ := run_loadVar' (w := w) (Z := Z) (R := []) (a := a') hm hg hx h1 e hu
        exact ⟨v, k1.up, fun w' s => by simp [execOp, ho, hva, Instr.loadAt, Instr.sureAddr, k2 w' (s (by rw [ho]; rfl))]⟩
    · cases e
  · cases e
end
end Go.Proofs.YthofgamegondnaaDoor
