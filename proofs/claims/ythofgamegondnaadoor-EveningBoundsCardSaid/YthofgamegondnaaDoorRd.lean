/- From what a row reads of its arguments to abstract values of Lean types. -/
import Derived.Test.YthofgamegondnaaDoorGs
import Derived.Deep.Slices
import Derived.ChangeArms
namespace Go.Proofs.YthofgamegondnaaDoor
open Go.RowKit Go.ChangeShapes Go.WideShapes Go.Deep

def good64 (n : Int) : Prop := -9223372036854775808 ≤ n ∧ n ≤ 9223372036854775807
/-- What a reading of a cell says. -/
structure Rg {α : Type} (P : Program) (c : Cd α) (t : TypeId) (good : α → Prop) : Prop where
  rd : ∀ {H : Type} {enc : TypeId × Value → H} {w : World} {base : Nat} {spare : Nat → Bool} {held : Bool} {fuel : Nat} {v : Value} {x : DataW H × List MemPlace}, DataW.trod enc P w base spare held fuel t [v] = some x → ∃ a, VR w (fun c => c < w.heap.size) [] (c.enc a) v ∧ good a ∧ v.oneCell' = true
theorem rd_int {P : Program} {t : TypeId} {k : IntKind} (ht : P.underlying t = some (.int k)) : Rg P (cdK k) t (fun n => (Lit.int k n).wf = true) := ⟨fun h => by
  obtain ⟨n, h1, _, h3⟩ := DataW.trod_int ht h
  injection h1 with h1
  subst h1
  exact ⟨n, .v rfl, h3, rfl⟩⟩
theorem rd_int64 {P : Program} {t : TypeId} (ht : P.underlying t = some (.int .i64)) : Rg P cdI t good64 := ⟨fun h => by
  obtain ⟨a, h1, h2, h3⟩ := (rd_int ht).rd h
  exact ⟨a, h1, bounds_i64 h2, h3⟩⟩
theorem oneCell_cells {v : Value} (h : v.oneCell' = true) : v.cells = #[v] := by cases v <;> first | rfl | (simp [Value.oneCell'] at h)
theorem spot_none {w : World} {a : Addr} {v : Value} (h : w.cell? (a.add 0) = some v) : a.spot = none := by
  cases hs : a.spot with
  | none => rfl
  | some s =>
    exfalso
    rw [show a.add 0 = a from rfl] at h
    unfold World.cell? at h
    split at h
    · rw [if_pos (by rw [hs]; rfl)] at h; cases h
    · cases h
theorem list_of {α : Type} {p : Nat → α → Prop} : ∀ {n : Nat}, (∀ i, i < n → ∃ a, p i a) → ∃ xs : List α, xs.length = n ∧ ∀ i a, xs[i]? = some a → p i a
  | 0, _ => ⟨[], rfl, fun i a h => by simp at h⟩
  | n + 1, h => by
    obtain ⟨xs, h1, h2⟩ := list_of (n := n) fun i hi => h i (by omega)
    obtain ⟨a, ha⟩ := h n (by omega)
    refine ⟨xs ++ [a], by simp [h1], fun i b hb => ?_⟩
    rcases (getElem?_snoc _ _ _ _).1 hb with hb | ⟨rfl, rfl⟩
    · exact h2 i b hb
    · rw [h1]; exact ha
theorem rd_slice {α : Type} {P : Program} {c : Cd α} {t e : TypeId} {good : α → Prop} (ht : P.underlying t = some (.slice e)) (hc : P.cellsOf e = 1) (r : Rg P c e good) : Rg P (cdL 1 c) t (fun xs => xs.length ≤ maxLen ∧ ∀ a ∈ xs, good a) := ⟨fun {H enc w base spare held fuel v x} h => by
  rcases open_slice1 ht hc h with ⟨h0, _⟩ | ⟨a, len, cap, m, n, V, D, Pl, h1, h2, h3, h4, h5, _, h6⟩
  · injection h0 with h0
    subst h0
    exact ⟨[], .sl (us := []) rfl rfl (Nat.le_refl _) (by unfold maxLen; omega) (fun h => by omega) (fun i x u hx => by simp at hx), ⟨by simp, fun a ha => by cases ha⟩, rfl⟩
  · injection h1 with h1
    subst h1
    have hlm : len ≤ m := by rw [h5]; split <;> omega
    obtain ⟨A, hAl, hA⟩ := list_of (n := len) (p := fun i a => VR w (fun c => c < w.heap.size) [] (c.enc a) (V i) ∧ good a ∧ (V i).oneCell' = true) (fun i hi => r.rd (h6 i (by omega)).2)
    have hA' : ∀ i, i < len → ∃ a, A[i]? = some a ∧ VR w (fun c => c < w.heap.size) [] (c.enc a) (V i) ∧ good a ∧ (V i).oneCell' = true := fun i hi => ⟨A[i]'(by omega), List.getElem?_eq_getElem (by omega), hA i _ (List.getElem?_eq_getElem (by omega))⟩
    refine ⟨A, ?_, ⟨by omega, fun q hq => ?_⟩, rfl⟩
    · refine .sl (us := (List.range len).map V) (by simp [hAl]) (by simp [hAl]) h3 h4 (fun h0 => ⟨a, rfl, spot_none (h6 0 (by omega)).1, ?_, fun i u hu => ?_⟩) (fun i x u hx hu => ?_)
      · have := (h6 0 (by omega)).1
        unfold World.cell? at this
        split at this
        · next hb => have := (Array.getElem?_eq_some_iff.1 hb).1; rw [show (a.add 0).block = a.block by unfold Addr.add; split <;> rfl] at this; exact this
        · cases this
      · rw [List.getElem?_map] at hu
        obtain ⟨j, hj, rfl⟩ := Option.map_eq_some_iff.1 hu
        obtain ⟨hj1, hj2⟩ := List.getElem?_eq_some_iff.1 hj
        simp at hj1 hj2
        subst hj2
        obtain ⟨_, _, _, _, ho⟩ := hA' i hj1
        rw [oneCell_cells ho]
        refine ⟨rfl, fun q hq => by simp at hq; subst hq; exact ho, fun j q hq => ?_⟩
        have hj0 : j = 0 := by
          have := (Array.getElem?_eq_some_iff.1 hq).1
          simp at this; exact this
        subst hj0
        simp at hq
        subst hq
        have hs := spot_none (h6 0 (by omega)).1
        have := (h6 i (by omega)).1
        obtain ⟨ab, ao, as⟩ := a
        simp only at hs
        subst hs
        rw [addr_add] at this
        simpa using this
      · rw [List.getElem?_map] at hx hu
        obtain ⟨q, hq, rfl⟩ := Option.map_eq_some_iff.1 hx
        obtain ⟨j, hj, rfl⟩ := Option.map_eq_some_iff.1 hu
        obtain ⟨hj1, hj2⟩ := List.getElem?_eq_some_iff.1 hj
        simp at hj1 hj2
        subst hj2
        exact (hA i q hq).1
    · obtain ⟨i, hi⟩ := List.getElem?_of_mem hq
      exact (hA i q hi).2.1⟩
theorem rd_string {P : Program} {t : TypeId} (ht : P.underlying t = some .string) : Rg P cdS t (fun b => b.length ≤ maxLen) := ⟨fun h => by
  obtain ⟨s, h1, _, h3⟩ := DataW.trod_string ht h
  injection h1 with h1
  subst h1
  exact ⟨s.data.toList, .st rfl (by simpa using h3), by simpa using h3, rfl⟩⟩
/-- An argument of one cell. -/
theorem rd_arg {α : Type} {H : Type} {enc : TypeId × Value → H} {P : Program} {c : Cd α} {t : TypeId} {good : α → Prop} (r : Rg P c t good) {w : World} {base : Nat} {spare : Nat → Bool} {held : Bool} {v : Value} {d : DataW H} {ps : List MemPlace} (ho : v.oneCell' = true) (h : DataW.Trod enc P w base spare held t v d ps) : ∃ a, VR w (fun c => c < w.heap.size) [] (c.enc a) v ∧ good a := by
  obtain ⟨fuel, hf⟩ := h
  rw [oneCell_cells ho] at hf
  obtain ⟨a, h1, h2, _⟩ := r.rd hf
  exact ⟨a, h1, h2⟩
theorem one_slice {P : Program} {w : World} {r : Reach} {b : Nat} {t e : TypeId} {v : Value} (ht : P.underlying t = some (.slice e)) (h : Value.okWide P w r b t v) : v.oneCell' = true := by
  obtain ⟨a, n, c, rfl⟩ := okWide_slice ht h; rfl
theorem one_int {P : Program} {w : World} {r : Reach} {b : Nat} {t : TypeId} {k : IntKind} {v : Value} (ht : P.underlying t = some (.int k)) (h : Value.okWide P w r b t v) : v.oneCell' = true := by
  obtain ⟨a, rfl⟩ := okWide_int ht h; rfl
theorem one_string {P : Program} {w : World} {r : Reach} {b : Nat} {t : TypeId} {v : Value} (ht : P.underlying t = some .string) (h : Value.okWide P w r b t v) : v.oneCell' = true := by
  obtain ⟨a, rfl⟩ := okWide_string ht h; rfl
theorem one_bool {P : Program} {w : World} {r : Reach} {b : Nat} {t : TypeId} {v : Value} (ht : P.underlying t = some .bool) (h : Value.okWide P w r b t v) : v.oneCell' = true := by
  obtain ⟨a, rfl⟩ := okWide_bool ht h; rfl
end Go.Proofs.YthofgamegondnaaDoor
