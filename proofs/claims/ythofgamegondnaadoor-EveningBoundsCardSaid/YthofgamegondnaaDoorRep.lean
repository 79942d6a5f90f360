/- The engine: data behind values. A 'Rep' says how a value of Go reads as data of ours, and which blocks it hangs on ('S'); slices of whatever elements of one cell; slices that are being built ('Bl'). -/
import Derived.Test.YthofgamegondnaaDoorMem
namespace Go.Proofs.YthofgamegondnaaDoor
open Go.RowKit

structure Rep (α : Type) where
  R : World → (Nat → Prop) → Value → α → Prop
  kept : ∀ {w w' : World} {S : Nat → Prop} {v : Value} {x : α}, R w S v x → (∀ b, S b → b < w.heap.size → w'.heap[b]? = w.heap[b]?) → R w' S v x
  mono : ∀ {w : World} {S S' : Nat → Prop} {v : Value} {x : α}, R w S v x → (∀ b, S b → S' b) → R w S' v x
  lt : ∀ {w : World} {S : Nat → Prop} {v : Value} {x : α}, R w S v x → R w (fun b => S b ∧ b < w.heap.size) v x
  one : ∀ {w : World} {S : Nat → Prop} {v : Value} {x : α}, R w S v x → v.oneCell' = true

def intR (k : IntKind) : Rep Int where
  R := fun _ _ v x => v = .int k x
  kept := fun h _ => h
  mono := fun h _ => h
  lt := fun h => h
  one := fun h => by rw [h]; rfl
abbrev iR : Rep Int := intR .i64
def boolR : Rep Bool where
  R := fun _ _ v x => v = .bool x
  kept := fun h _ => h
  mono := fun h _ => h
  lt := fun h => h
  one := fun h => by rw [h]; rfl
def strR : Rep ByteArray where
  R := fun _ _ v x => v = .string x
  kept := fun h _ => h
  mono := fun h _ => h
  lt := fun h => h
  one := fun h => by rw [h]; rfl

def SlR {α : Type} (r : Rep α) (w : World) (S : Nat → Prop) (v : Value) (xs : List α) : Prop :=
  ∃ L : List Value, Rd w S v L ∧ L.length = xs.length ∧ ∀ (i : Nat) (u : Value) (x : α), L[i]? = some u → xs[i]? = some x → r.R w S u x

theorem Rd.kept' {w w' : World} {S : Nat → Prop} {v : Value} {L : List Value} (h : Rd w S v L) (hk : ∀ b, S b → b < w.heap.size → w'.heap[b]? = w.heap[b]?) : Rd w' S v L :=
  ((h.lt).kept (fun b hb => hk b hb.1 hb.2)).mono fun _ hb => hb.1
theorem Rd.one {w : World} {S : Nat → Prop} {v : Value} {L : List Value} (h : Rd w S v L) : v.oneCell' = true := by
  obtain ⟨A, c, rfl, _⟩ := h
  rfl

def slR {α : Type} (r : Rep α) : Rep (List α) where
  R := SlR r
  kept := fun ⟨L, h, hl, hr⟩ hk => ⟨L, h.kept' hk, hl, fun i u x hu hx => r.kept (hr i u x hu hx) hk⟩
  mono := fun ⟨L, h, hl, hr⟩ hs => ⟨L, h.mono hs, hl, fun i u x hu hx => r.mono (hr i u x hu hx) hs⟩
  lt := fun ⟨L, h, hl, hr⟩ => ⟨L, h.lt, hl, fun i u x hu hx => r.lt (hr i u x hu hx)⟩
  one := fun ⟨_, h, _, _⟩ => h.one

abbrev rI : Rep (List Int) := slR iR
abbrev rII : Rep (List (List Int)) := slR rI
abbrev rIII : Rep (List (List (List Int))) := slR rII
abbrev rS : Rep (List ByteArray) := slR strR

/-- Up to block B. -/
abbrev Lo (B : Nat) : Nat → Prop := fun b => b < B
/-- From block lo to hi. -/
abbrev Iv (lo hi : Nat) : Nat → Prop := fun b => lo ≤ b ∧ b < hi

section
variable {α : Type} {r : Rep α} {w w' : World} {S : Nat → Prop} {v : Value} {x : α} {row : Option Nat}

theorem Rep.ch (h : r.R w S v x) (hg : w.grownBy w' row) (hs : ∀ g, row = some g → g < w.heap.size → ¬ S g) : r.R w' S v x :=
  r.kept h fun b hb hlt => hg.block b hlt fun e => hs b e.symm hlt hb
theorem Rep.pu (h : r.R w S v x) (hg : w.grownBy w' none) : r.R w' S v x := Rep.ch h hg fun _ e => by cases e
theorem Rep.below {B : Nat} (h : r.R w (Lo B) v x) (hb : Below B w w') : r.R w' (Lo B) v x := r.kept h fun b hlt _ => hb.block b hlt

theorem SlR.len {xs : List α} (h : (slR r).R w S v xs) : ∃ A c, v = .slice A xs.length c ∧ xs.length ≤ c ∧ c ≤ 9223372036854775807 := by
  obtain ⟨L, h, hl, _⟩ := h
  rw [← hl]
  exact h.len
theorem SlR.le {xs : List α} (h : (slR r).R w S v xs) : xs.length ≤ 9223372036854775807 := by
  obtain ⟨A, c, _, h1, h2⟩ := SlR.len h
  omega
theorem SlR.nil : (slR r).R w S (.slice none 0 0) ([] : List α) := ⟨[], Rd.nil, rfl, fun i u x hu _ => by simp at hu⟩

theorem cell_pu {a : Addr} {u : Value} (hg : w.grownBy w' none) (hc : w.cell? a = some u) : w'.cell? a = some u := hg.cell hc (by simp)
theorem pu_refl (w : World) : w.grownBy w none := ⟨rfl, rfl, rfl, Nat.le_refl _, fun _ _ _ => rfl⟩
theorem ch_alloc (w : World) (o : Obj) : w.grownBy (w.alloc o) none := ⟨rfl, rfl, rfl, by simp, fun _ hb _ => Below.heap_alloc _ _ _ hb⟩
theorem ch_setCell (w : World) (a : Addr) (u : Value) : w.grownBy (w.setCell a u) (some a.block) :=
  ⟨rfl, rfl, rfl, by simp [World.setCell], fun _ _ hne => Below.heap_setCell _ _ _ _ (fun e => hne (by rw [e]))⟩
theorem ch_drew (w : World) : w.grownBy w.drew none := ⟨rfl, rfl, rfl, Nat.le_refl _, fun _ _ _ => rfl⟩
theorem pu_below (h : w.grownBy w' none) : Below w.heap.size w w' := ⟨h.os, h.tape, h.output, h.size, fun k hk => h.block k hk (by simp)⟩
theorem below_pu (h : Below w.heap.size w w') : w.grownBy w' none := ⟨h.os, h.tape, h.output, h.size, fun k hk _ => h.block k hk⟩
theorem Below.ch {B : Nat} {w0 : World} (h : Below B w0 w) (hg : w.grownBy w' row) (hB : B ≤ w.heap.size) (hr : ∀ g, row = some g → B ≤ g) : Below B w0 w' :=
  h.grown hg hB hr
theorem Below.pu {B : Nat} {w0 : World} (h : Below B w0 w) (hg : w.grownBy w' none) (hB : B ≤ w.heap.size) : Below B w0 w' :=
  h.grown hg hB fun _ e => by cases e
end

/-- A slice that is being built: its own row, and what its elements hang on, lie in blocks from lo to hi; no element hangs on the row itself. -/
def Bl {α : Type} (r : Rep α) (e : TypeId) (w : World) (lo hi : Nat) (v : Value) (xs : List α) : Prop :=
  ∃ L : List Value, w.ownsRow lo e 1 v L.length L ∧ (∀ g, v.ownBlock = some g → g < hi) ∧ L.length = xs.length ∧ ∀ (i : Nat) (u : Value) (x : α), L[i]? = some u → xs[i]? = some x → r.R w (fun b => Iv lo hi b ∧ v.ownBlock ≠ some b) u x

section
variable {α : Type} {r : Rep α} {e : TypeId} {w w' : World} {lo hi : Nat} {v : Value} {xs : List α} {row : Option Nat}

theorem Bl.nil : Bl r e w lo hi (.slice none 0 0) ([] : List α) := ⟨[], World.ownsRow_nil _ _ _ _, fun g h => by simp [Value.ownBlock] at h, rfl, fun i u x hu _ => by simp at hu⟩
theorem Bl.ch (h : Bl r e w lo hi v xs) (hg : w.grownBy w' row) (hs : ∀ g, row = some g → g < w.heap.size → hi ≤ g ∨ g < lo) : Bl r e w' lo hi v xs := by
  obtain ⟨L, ho, hb, hl, hr⟩ := h
  refine ⟨L, ho.kept hg ?_, hb, hl, fun i u x hu hx => Rep.ch (hr i u x hu hx) hg fun g hrow hlt => ?_⟩
  · cases hv : v.ownBlock with
    | none => exact .inl rfl
    | some g =>
      refine .inr fun e => ?_
      have h1 := ho.lt g hv
      have h2 := hb g hv
      rcases hs g e.symm h1.2 with h3 | h3 <;> omega
  · rintro ⟨⟨h1, h2⟩, _⟩
    rcases hs g hrow hlt with h3 | h3 <;> omega
theorem Bl.pu (h : Bl r e w lo hi v xs) (hg : w.grownBy w' none) : Bl r e w' lo hi v xs := h.ch hg fun _ e => by cases e
theorem Bl.widen {hi' : Nat} (h : Bl r e w lo hi v xs) (hh : hi ≤ hi') : Bl r e w lo hi' v xs := by
  obtain ⟨L, ho, hb, hl, hr⟩ := h
  exact ⟨L, ho, fun g hg => by have := hb g hg; omega, hl, fun i u x hu hx => r.mono (hr i u x hu hx) fun b hb => ⟨⟨hb.1.1, by have := hb.1.2; omega⟩, hb.2⟩⟩
theorem Bl.top {hi' : Nat} (h : Bl r e w lo hi v xs) (hh : w.heap.size ≤ hi') : Bl r e w lo hi' v xs := by
  obtain ⟨L, ho, hb, hl, hr⟩ := h
  exact ⟨L, ho, fun g hg => by have := ho.lt g hg; omega, hl, fun i u x hu hx => r.mono (r.lt (hr i u x hu hx)) fun b hb => ⟨⟨hb.1.1.1, by have := hb.2; omega⟩, hb.1.2⟩⟩
theorem Bl.lower {lo' : Nat} (h : Bl r e w lo hi v xs) (hh : lo' ≤ lo) : Bl r e w lo' hi v xs := by
  obtain ⟨L, ho, hb, hl, hr⟩ := h
  refine ⟨L, ⟨ho.1, ?_⟩, hb, hl, fun i u x hu hx => r.mono (hr i u x hu hx) fun b hb => ⟨⟨by have := hb.1.1; omega, hb.1.2⟩, hb.2⟩⟩
  rcases ho.2 with h0 | ⟨g, cap, cur, h1, h2, h3⟩
  · exact .inl h0
  · exact .inr ⟨g, cap, cur, h1, by omega, h3⟩
theorem Bl.sl (h : Bl r e w lo hi v xs) : (slR r).R w (Iv lo hi) v xs := by
  obtain ⟨L, ho, hb, hl, hr⟩ := h
  refine ⟨L, ?_, hl, fun i u x hu hx => r.mono (hr i u x hu hx) fun b hb => hb.1⟩
  rcases Nat.eq_zero_or_pos L.length with h0 | h0
  · obtain ⟨A, c, hv, hc, hm, _⟩ := own_rd ho
    exact ⟨A, c, hv, hc, hm, fun h => absurd h (by omega)⟩
  · obtain ⟨g, cap, hv, h1, h2, h3, hnc, hcm⟩ := own_form ho h0
    exact ⟨_, cap, hv, hnc, hcm, fun _ => ⟨_, rfl, ⟨h1, hb g h3⟩, ho.cells h3⟩⟩
theorem Bl.len (h : Bl r e w lo hi v xs) : ∃ A c, v = .slice A xs.length c ∧ xs.length ≤ c ∧ c ≤ 9223372036854775807 := SlR.len h.sl
theorem Bl.push {x : α} {u v' : Value} {L : List Value} (h : Bl r e w lo hi v xs) (hx : r.R w (fun b => Iv lo hi b ∧ v.ownBlock ≠ some b) u x)
    (ho' : w'.ownsRow lo e 1 v' (L ++ [u]).length (L ++ [u])) (ho : w.ownsRow lo e 1 v L.length L) (hl : L.length = xs.length) (hg : w.grownBy w' v.ownBlock) (hat : v'.ownBlock = v.ownBlock ∨ v'.ownBlock = some (w.heap.size + 1)) (hhi : w'.heap.size ≤ hi) : Bl r e w' lo hi v' (xs ++ [x]) := by
  obtain ⟨L', hown, hb, hl', hr⟩ := h
  have hLL : L' = L := by
    rcases hown.2 with ⟨hv, h0⟩ | ⟨g, cap, cur, hv, _, hh, _, _, _, htk⟩
    · have h1 : L.length = 0 := by
        rcases ho.2 with ⟨hv', h0'⟩ | ⟨g, cap, cur, hv', _⟩
        · exact h0'
        · rw [hv] at hv'; cases hv'
      rw [List.eq_nil_of_length_eq_zero h0, List.eq_nil_of_length_eq_zero h1]
    · rcases ho.2 with ⟨hv', h0'⟩ | ⟨g', cap', cur', hv', _, hh', _, _, _, htk'⟩
      · rw [hv'] at hv; cases hv
      · rw [hv] at hv'
        injection hv' with e1 e2 e3
        injection e1 with e1
        injection e1 with e1
        subst e1
        rw [hh] at hh'
        injection hh' with hh'
        injection hh' with hh'
        rw [← htk, ← htk', hh', e2]
  subst hLL
  have key : ∀ (u : Value) (x : α), r.R w (fun b => Iv lo hi b ∧ v.ownBlock ≠ some b) u x → r.R w' (fun b => Iv lo hi b ∧ v'.ownBlock ≠ some b) u x := by
    intro u x hux
    have h1 := Rep.ch (r.lt hux) hg fun g hrow _ hS => hS.1.2 hrow
    refine r.mono h1 fun b hb => ⟨hb.1.1, fun hc => ?_⟩
    rcases hat with h2 | h2
    · rw [h2] at hc; exact hb.1.2 hc
    · rw [h2] at hc; injection hc with hc; have := hb.2; omega
  refine ⟨L' ++ [u], ho', fun g hgv => ?_, by simp [hl'], fun i q y hq hy => ?_⟩
  · have := (ho'.lt g hgv).2; omega
  · rcases Nat.lt_trichotomy i L'.length with h1 | h1 | h1
    · rw [List.getElem?_append_left h1] at hq
      rw [List.getElem?_append_left (by omega)] at hy
      exact key q y (hr i q y hq hy)
    · subst h1
      rw [List.getElem?_append_right (Nat.le_refl _)] at hq
      rw [hl', List.getElem?_append_right (Nat.le_refl _)] at hy
      simp at hq hy
      subst hq hy
      exact key u x hx
    · rw [List.getElem?_append_right (by omega)] at hq
      have : i - L'.length ≠ 0 := by omega
      simp [this] at hq
end

/-- What a call that only makes new blocks leaves; what a call leaves that writes to new blocks alone. -/
theorem pu_trans {a b c : World} (h : a.grownBy b none) (k : b.grownBy c none) : a.grownBy c none := h.trans k
theorem pu_row {a b c : World} {row : Option Nat} (h : a.grownBy b none) (k : b.grownBy c row) (hr : ∀ g, row = some g → g < b.heap.size → a.heap.size ≤ g) : a.grownBy c none :=
  ⟨k.os.trans h.os, k.tape.trans h.tape, k.output.trans h.output, Nat.le_trans h.size k.size, fun i hi hne => by
    refine (k.block i (Nat.lt_of_lt_of_le hi h.size) (fun e => ?_)).trans (h.block i hi hne)
    have := hr i e.symm (Nat.lt_of_lt_of_le hi h.size)
    omega⟩

/-- A whole block of the call's own. -/
def Bk (w : World) (g : Nat) (t : TypeId) (cs : List Value) : Prop := w.heap[g]? = some (.cells cs.toArray t (0, 0))
section
variable {w w' : World} {g : Nat} {t : TypeId} {cs : List Value} {row : Option Nat}
theorem Bk.lt (h : Bk w g t cs) : g < w.heap.size := by
  rcases Nat.lt_or_ge g w.heap.size with h1 | h1
  · exact h1
  · unfold Bk at h; rw [Array.getElem?_eq_none h1] at h; cases h
theorem Bk.cell (h : Bk w g t cs) {i : Nat} {u : Value} (hi : cs[i]? = some u) : w.cell? ⟨g, i, none⟩ = some u := by
  unfold Bk at h
  simp [World.cell?, h, hi]
theorem Bk.fz (h : Bk w g t cs) (i : Nat) : w.frozen? ⟨g, i, none⟩ = false := by
  unfold Bk at h
  simp [World.frozen?, h]
theorem Bk.ch (h : Bk w g t cs) (hg : w.grownBy w' row) (hne : row ≠ some g) : Bk w' g t cs := (hg.block g h.lt (fun e => hne e.symm)).trans h
theorem Bk.pu (h : Bk w g t cs) (hg : w.grownBy w' none) : Bk w' g t cs := h.ch hg (by simp)
theorem Bk.set (h : Bk w g t cs) (i : Nat) (u : Value) : Bk (w.setCell ⟨g, i, none⟩ u) g t (cs.set i u) := by
  unfold Bk at h ⊢
  simp [World.setCell, Array.getElem?_modify, h]
theorem Bk.new (w : World) (t : TypeId) (cs : List Value) : Bk (w.alloc (.cells cs.toArray t)) w.heap.size t cs := heap_alloc_new w _
/-- Its cells from the head on, as a value by parts. -/
theorem Bk.cells (h : Bk w g t cs) : ∀ j v, cs[j]? = some v → w.cell? ((⟨g, 0, none⟩ : Addr).add j) = some v := fun j v hj => by
  have := h.cell hj
  unfold Addr.add
  split
  · next e => subst e; exact this
  · simpa using this
end

/-- Values read as data, one by one. -/
def AllR {α : Type} (r : Rep α) (w : World) (S : Nat → Prop) : List Value → List α → Prop
  | [], [] => True
  | u :: us, x :: xs => r.R w S u x ∧ AllR r w S us xs
  | _, _ => False
theorem AllR.len {α : Type} {r : Rep α} {w : World} {S : Nat → Prop} : ∀ {us : List Value} {xs : List α}, AllR r w S us xs → us.length = xs.length
  | [], [], _ => rfl
  | _ :: _, _ :: _, h => by simp [AllR.len h.2]
theorem AllR.at_ {α : Type} {r : Rep α} {w : World} {S : Nat → Prop} : ∀ {us : List Value} {xs : List α}, AllR r w S us xs → ∀ (i : Nat) (u : Value) (x : α), us[i]? = some u → xs[i]? = some x → r.R w S u x
  | [], [], _, i, _, _, hu, _ => by simp at hu
  | _ :: _, _ :: _, h, 0, _, _, hu, hx => by simp at hu hx; subst hu hx; exact h.1
  | _ :: _, _ :: _, h, i + 1, _, _, hu, hx => AllR.at_ h.2 i _ _ (by simpa using hu) (by simpa using hx)
theorem AllR.one {α : Type} {r : Rep α} {w : World} {S : Nat → Prop} : ∀ {us : List Value} {xs : List α}, AllR r w S us xs → ∀ u ∈ us, u.oneCell' = true
  | [], [], _, u, hu => by simp at hu
  | _ :: _, _ :: _, h, u, hu => by
    rcases List.mem_cons.1 hu with rfl | hu
    · exact r.one h.1
    · exact AllR.one h.2 u hu

section rules
variable {P : Program} {Q : Exit → Act → World → Prop} {F : Frm} {l : List (Nat × Value)} {w : World} {ops : Array Oper} {rest : List Oper}
variable {X : List Oper → Frm → List (Nat × Value) → World → Prop} [inst : Runs P X]
variable {d : Nat} {ty t T e : TypeId} {pos : String} {af : Array Edge} {x y : Operand} {ds dT : TypeDesc} {sz by_ sT bT : Nat} {z zT : Value}

theorem st_lenS {w₂ : World} {α : Type} {r : Rep α} {S : Nat → Prop} {v : Value} {xs : List α} (hr : (slR r).R w₂ S v xs) (hT : Ty P T (.slice e) sT bT zT) (hx : ev l F.s x = v) :
    Rn P l F.s w ⟨some d, .call ⟨.builtin .len, #[x], #[T]⟩, ty, pos, af, none⟩ (.int .i64 (xs.length : Int)) := by
  obtain ⟨A, c, rfl, _⟩ := SlR.len hr
  exact st_len hT hx

/-- Reading an element: its address; what lies there. -/
theorem st_idxS {α : Type} {r : Rep α} [Inhabited α] {S : Nat → Prop} {v : Value} {xs : List α} {K : IntKind} {m : Int} (hr : (slR r).R w S v xs) (hT : Ty P T (.slice e) sT bT zT) (hE : Ty P e ds 1 by_ z) (hx : ev l F.s x = v) (hy : ev l F.s y = .int K m) (h0 : 0 ≤ m) (h1 : m < (xs.length : Int)) :
    ∃ q, (∃ (a : Addr) (u : Value), q = .pointer (some a) ∧ w.cell? a = some u ∧ r.R w S u (xs.getD m.toNat default)) ∧ ∀ w, Rn P l F.s w ⟨some d, .indexAddr T x y, ty, pos, af, none⟩ q := by
  obtain ⟨L, hrd, hl, hrr⟩ := hr
  have hlt : m.toNat < L.length := by omega
  have hlt' : m.toNat < xs.length := by omega
  obtain ⟨q, ⟨a, hq, _, hc⟩, hrn⟩ := st_idxR (P := P) (F := F) (l := l) (d := d) (ty := ty) (pos := pos) (af := af) m.toNat hT hE hrd hx hy (by omega) (List.getElem?_eq_getElem hlt)
  refine ⟨q, ⟨a, _, hq, hc, ?_⟩, hrn⟩
  have h2 := hrr m.toNat _ _ (List.getElem?_eq_getElem hlt) (List.getElem?_eq_getElem hlt')
  rwa [List.getD_eq_getElem?_getD, List.getElem?_eq_getElem hlt']
theorem st_idxI {S : Nat → Prop} {v : Value} {xs : List Int} {K K' : IntKind} {m : Int} (hr : (slR (intR K')).R w S v xs) (hT : Ty P T (.slice e) sT bT zT) (hE : Ty P e ds 1 by_ z) (hx : ev l F.s x = v) (hy : ev l F.s y = .int K m) (h0 : 0 ≤ m) (h1 : m < (xs.length : Int)) :
    ∃ q, (∃ a : Addr, q = .pointer (some a) ∧ w.cell? a = some (.int K' (xs.getD m.toNat 0))) ∧ ∀ w, Rn P l F.s w ⟨some d, .indexAddr T x y, ty, pos, af, none⟩ q := by
  obtain ⟨q, ⟨a, u, hq, hc, hu⟩, hrn⟩ := st_idxS (P := P) (F := F) (l := l) (d := d) (ty := ty) (pos := pos) (af := af) hr hT hE hx hy h0 h1
  exact ⟨q, ⟨a, hq, by rw [hc]; exact congrArg some hu⟩, hrn⟩

include inst in
/-- 'append(s, x)' onto a slice that is being built. -/
theorem wl_pushB {α : Type} {r : Rep α} {d1 d2 lo hi : Nat} {ty1 ty2 : TypeId} {pos1 pos2 : String} {af1 af2 : Array Edge} {s : Operand} {v u : Value} {xs : List α} {q : α} (h : Bl r e w lo hi v xs) (hq : r.R w (fun b => Iv lo w.heap.size b ∧ v.ownBlock ≠ some b) u q) (hlo : lo ≤ w.heap.size) (hT : Ty P T (.slice e) sT bT zT) (hE : Ty P e ds 1 by_ z) (hz : z.oneCell' = true)
    (hs : ev l F.s s = v) (hx : ev l F.s x = u) (hn : (xs.length + 1) * by_ ≤ 140737488355328) (hn' : xs.length + 1 ≤ 140737488355328) (hsd : ev [(d1, .slice (some ⟨w.heap.size, 0, none⟩) 1 1)] (fr l F.s) s = ev l F.s s) (hN1 : Nat.blt d1 F.N = true) (hN2 : Nat.blt d2 F.N = true)
    (k : ∀ v' w', Bl r e w' lo w'.heap.size v' (xs ++ [q]) → w.grownBy w' v.ownBlock → (∀ g, v.ownBlock = some g → lo ≤ g ∧ g < hi ∧ g < w.heap.size) → w.heap.size < w'.heap.size → X rest F ((d2, v') :: (d1, .slice (some ⟨w.heap.size, 0, none⟩) 1 1) :: l) w') :
    X (⟨some d1, .buildSlice T 1 #[(0, x)], ty1, pos1, af1, none⟩ :: ⟨some d2, .call ⟨.builtin .append, #[s, .tmp d1], #[T, T]⟩, ty2, pos2, af2, none⟩ :: rest) F l w := by
  have hh := h
  obtain ⟨L, ho, hb, hl, hr⟩ := hh
  refine wl_push hT hE hz ho hlo hs hx (r.one hq) (by rw [hl]; exact hn) (by rw [hl]; unfold maxLen; omega) hsd hN1 hN2 fun v' w' how hg hat hsz => k v' w' ?_ hg (fun g hv => ⟨(ho.lt g hv).1, hb g hv, (ho.lt g hv).2⟩) hsz
  have how' : w'.ownsRow lo e 1 v' (L ++ [u]).length (L ++ [u]) := by simpa using how
  have h1 : Bl r e w lo w'.heap.size v xs := h.top (by omega)
  have hq' : r.R w (fun b => Iv lo w'.heap.size b ∧ v.ownBlock ≠ some b) u q := r.mono hq fun b hb => ⟨⟨hb.1.1, by have := hb.1.2; omega⟩, hb.2⟩
  exact h1.push hq' how' ho hl hg hat (Nat.le_refl _)

include inst in
theorem wl_boxK {v : Value} (hx : ev l F.s x = v) (hv : v.oneCell' = true) (hN : Nat.blt d F.N = true)
    (k : ∀ (w' : World) (g : Nat), g = w.heap.size → w'.heap.size = w.heap.size + 1 → Bk w' g t [v] → w.grownBy w' none → X rest F ((d, .pointer (some ⟨g, 0, none⟩)) :: l) w') : X (⟨some d, .box t x, ty, pos, af, none⟩ :: rest) F l w :=
  wl_box hx hv hN (k _ _ rfl (by simp) (Bk.new w t [v]) (ch_alloc w _))
include inst in
theorem wl_boxG {cs : List Value} (hx : ev l F.s x = .agg cs.toArray) (hN : Nat.blt d F.N = true)
    (k : ∀ (w' : World) (g : Nat), g = w.heap.size → w'.heap.size = w.heap.size + 1 → Bk w' g t cs → w.grownBy w' none → X rest F ((d, .pointer (some ⟨g, 0, none⟩)) :: l) w') : X (⟨some d, .box t x, ty, pos, af, none⟩ :: rest) F l w :=
  wl_boxAgg hx hN (k _ _ rfl (by simp) (Bk.new w t cs) (ch_alloc w _))
include inst in
theorem wl_allocK {cs : List Value} (h : Ty P t ds sz by_ z) (hz : z.cells = cs.toArray) (hN : Nat.blt d F.N = true)
    (k : ∀ (w' : World) (g : Nat), g = w.heap.size → w'.heap.size = w.heap.size + 1 → Bk w' g t cs → w.grownBy w' none → X rest F ((d, .pointer (some ⟨g, 0, none⟩)) :: l) w') : X (⟨some d, .alloc t, ty, pos, af, none⟩ :: rest) F l w :=
  wl_alloc h hN (by rw [hz]; exact k _ _ rfl (by simp) (Bk.new w t cs) (ch_alloc w _))
include inst in
theorem wl_storeK {g i : Nat} {tb : TypeId} {cs : List Value} {v : Value} (hb : Bk w g tb cs) (h : Ty P t ds 1 by_ z) (hx : ev l F.s x = .pointer (some ⟨g, i, none⟩)) (hi : i < cs.length) (hy : ev l F.s y = v) (hv : v.oneCell' = true)
    (k : ∀ w', Bk w' g tb (cs.set i v) → w.grownBy w' (some g) → w'.heap.size = w.heap.size → X rest F l w') : X (⟨none, .store t x y, ty, pos, af, none⟩ :: rest) F l w :=
  wl_store h hx hy hv (hb.cell (List.getElem?_eq_getElem hi)) (hb.fz i) (k _ (hb.set i v) (ch_setCell w _ v) (by simp [World.setCell]))

include inst in
theorem wl_makeB {α : Type} {r : Rep α} {K K' : IntKind} {m : Int} (x' : α) (hT : Ty P T (.slice e) sT bT zT) (hE : Ty P e ds 1 by_ z) (hz : z.oneCell' = true) (hxz : ∀ S, r.R w S z x') (hx : ev l F.s x = .int K m) (hy : ev l F.s y = .int K' m) (h0 : 0 ≤ m) (hb : (by_ : Int) * m ≤ 140737488355328 ∧ m ≤ 140737488355328) (hN : Nat.blt d F.N = true)
    (k : ∀ (w' : World) (g : Nat), g = w.heap.size → w.heap.size < w'.heap.size → Bl r e w' w.heap.size w'.heap.size (.slice (some ⟨g, 0, none⟩) m.toNat m.toNat) (List.replicate m.toNat x') → w.grownBy w' none → X rest F ((d, .slice (some ⟨g, 0, none⟩) m.toNat m.toNat) :: l) w') :
    X (⟨some d, .makeSlice T x y, ty, pos, af, none⟩ :: rest) F l w := by
  have hmn : m = (m.toNat : Int) := by omega
  refine wl_make (n := m.toNat) hT hE hz hx hmn hy hmn ?_ (by unfold maxLen; omega) hN fun w' ho hg hs => ?_
  · have h1 : ((by_ * m.toNat : Nat) : Int) ≤ 140737488355328 := by rw [Int.natCast_mul, ← hmn]; exact hb.1
    omega
  · refine k w' _ rfl hs ⟨List.replicate m.toNat z, by simpa using ho, fun g hg => by simp [Value.ownBlock] at hg; omega, by simp, fun i u q hu hq => ?_⟩ hg
    simp only [List.getElem?_replicate] at hu hq
    split at hu
    · next hlt =>
      rw [if_pos hlt] at hq
      injection hu with hu
      injection hq with hq
      subst hu hq
      exact r.kept (hxz _) fun b _ hlt => hg.block b hlt (by simp)
    · cases hu

theorem Bl.own {α : Type} {r : Rep α} {lo hi g : Nat} {v : Value} {xs : List α} (h : Bl r e w lo hi v xs) (hv : v.ownBlock = some g) : lo ≤ g ∧ g < hi ∧ g < w.heap.size := by
  obtain ⟨L, ho, hb, _, _⟩ := h
  exact ⟨(ho.lt g hv).1, hb g hv, (ho.lt g hv).2⟩
theorem Bl.key {α : Type} {r : Rep α} {lo hi : Nat} {v : Value} {xs : List α} (h : Bl r e w lo hi v xs) : ∀ g, v.ownBlock = some g → lo ≤ g ∧ g < hi ∧ g < w.heap.size := fun _ hv => h.own hv

/-- The address of an element that may be written. -/
theorem st_idxB {lo hi : Nat} {v : Value} {xs : List Int} {K K' : IntKind} {m : Int} (hr : Bl (intR K') e w lo hi v xs) (hT : Ty P T (.slice e) sT bT zT) (hE : Ty P e ds 1 by_ z) (hx : ev l F.s x = v) (hy : ev l F.s y = .int K m) (h0 : 0 ≤ m) (h1 : m < (xs.length : Int)) :
    ∃ q, (∃ g : Nat, q = .pointer (some ⟨g, m.toNat, none⟩) ∧ v.ownBlock = some g ∧ w.cell? ⟨g, m.toNat, none⟩ = some (.int K' (xs.getD m.toNat 0))) ∧ ∀ w, Rn P l F.s w ⟨some d, .indexAddr T x y, ty, pos, af, none⟩ q := by
  obtain ⟨L, ho, hb, hl, hrr⟩ := hr
  have hlt : m.toNat < L.length := by omega
  have hlt' : m.toNat < xs.length := by omega
  obtain ⟨g, cap, rfl, _, _, hg, _, _⟩ := own_form ho (by omega)
  have h2 := hrr m.toNat _ _ (List.getElem?_eq_getElem hlt) (List.getElem?_eq_getElem hlt')
  have h3 := own_cell ho (List.getElem?_eq_getElem hlt)
  refine ⟨_, ⟨g, rfl, hg, ?_⟩, fun _ => st_idxO m.toNat hT hE hx hy (by omega) hlt⟩
  rw [h3, List.getD_eq_getElem?_getD, List.getElem?_eq_getElem hlt']
  exact congrArg some h2
include inst in
theorem wl_storeB {α : Type} {r : Rep α} {lo hi g i : Nat} {v u : Value} {xs : List α} {q : α} (hr : Bl r e w lo hi v xs) (hE : Ty P e ds 1 by_ z) (hx : ev l F.s x = .pointer (some ⟨g, i, none⟩)) (hg : v.ownBlock = some g) (hi' : i < xs.length) (hy : ev l F.s y = u) (hq : ∀ w' S, r.R w' S u q)
    (k : ∀ w', Bl r e w' lo hi v (xs.set i q) → w.grownBy w' (some g) → w'.heap.size = w.heap.size → X rest F l w') : X (⟨none, .store e x y, ty, pos, af, none⟩ :: rest) F l w := by
  obtain ⟨L, ho, hb, hl, hrr⟩ := hr
  have hlt : i < L.length := by omega
  obtain ⟨g', cap, rfl, _, _, hg', _, _⟩ := own_form ho (by omega)
  rw [hg'] at hg
  injection hg with hg
  subst hg
  obtain ⟨h1, h2, ⟨u', h3⟩, h4⟩ := own_store ho hlt u
  refine wl_store hE hx hy (r.one (hq w (fun _ => True))) h3 h4 (k _ ⟨L.set i u, by simpa using h1, hb, by simp [hl], fun j p y hp hy => ?_⟩ h2 (by simp [World.setCell]))
  by_cases hij : i = j
  · subst hij
    rw [List.getElem?_set_self (by omega)] at hp hy
    injection hp with hp
    injection hy with hy
    subst hp hy
    exact hq _ _
  · rw [List.getElem?_set_ne hij] at hp hy
    refine Rep.ch (hrr j p y hp hy) h2 fun g hg hlt hS => hS.2 ?_
    rw [← hg]
    rfl
include inst in
theorem wl_storeG {g : Nat} {tb : TypeId} {old cs : List Value} (hb : Bk w g tb old) (h : Ty P t ds sz by_ z) (hx : ev l F.s x = .pointer (some ⟨g, 0, none⟩)) (hy : ev l F.s y = .agg cs.toArray) (hn : cs.length = old.length) (hs : sz = old.length) (h1 : cs.all Value.oneCell' = true)
    (k : ∀ w', Bk w' g tb cs → w.grownBy w' (some g) → w'.heap.size = w.heap.size → X rest F l w') : X (⟨none, .store t x y, ty, pos, af, none⟩ :: rest) F l w := by
  obtain ⟨w', hr, he, hg, hz⟩ := run_storeAgg (P := P) h (old := old.toArray) hb (by simp) hn hs (fun u hu => List.all_eq_true.1 h1 u hu)
  exact Runs.skip (P := P) rfl rfl (by simp [execOp, hx, hy, Instr.storeAt, Instr.sureAddr, hr]) (k w' he hg hz)
/-- A slice written out. -/
theorem lit_run {α : Type} {r : Rep α} {lo n : Nat} {parts : Array (Nat × Operand)} {us : List Value} {xs : List α} (hT : Ty P T (.slice e) sT bT zT) (hE : Ty P e ds 1 by_ z) (hz : z.oneCell' = true)
    (hparts : parts.toList.map (fun p => (p.1, ev l F.s p.2)) = frameOf 0 us) (hn : us.length = n) (hlt : n ≤ 65536) (hr : AllR r w (fun b => lo ≤ b) us xs) (hlo : lo ≤ w.heap.size) :
    ∃ (w' : World) (g : Nat), (execOp (ev l F.s) ⟨some d, .buildSlice T n parts, ty, pos, af, none⟩).run P w = .ok (.value (.slice (some ⟨g, 0, none⟩) n n)) w' ∧ g = w.heap.size ∧ w'.heap.size = w.heap.size + 1 ∧ Bl r e w' lo w'.heap.size (.slice (some ⟨g, 0, none⟩) n n) xs ∧ w.grownBy w' none := by
  subst hn
  have hzc : z.cells = #[z] := by cases z <;> first | rfl | (simp [Value.oneCell'] at hz)
  have hfill : ∀ (us : List Value), (∀ u ∈ us, u.oneCell' = true) → ∀ (pre post : List Value), post.length = us.length → Instr.fill (fun i => some (i * 1, 1)) (pre ++ post).toArray (frameOf pre.length us) = some (pre ++ us).toArray := by
    intro us
    induction us with
    | nil => intro _ pre post hp; simp at hp; subst hp; rfl
    | cons u us ih =>
      intro h1 pre post hp
      match post, hp with
      | q :: post, hp =>
        have huc : u.cells = #[u] := by have := h1 u (by simp); cases u <;> first | rfl | (simp [Value.oneCell'] at this)
        have h2 := ih (fun q hq => h1 q (by simp [hq])) (pre ++ [u]) post (by simpa using hp)
        simp only [List.length_append, List.length_singleton, List.append_assoc, List.singleton_append] at h2
        simp only [frameOf, Instr.fill, huc]
        rw [if_neg (by simp)]
        rw [← h2]
        congr 1
        apply Array.ext'
        simp
  have hcells : (Array.range (us.length * 1)).map (fun j => z.cells[j % z.cells.size]!) = (List.replicate us.length z).toArray := by
    apply Array.ext
    · simp
    · intro j h1 h2
      simp [hzc, Nat.mod_one]
  have hf := hfill us hr.one [] (List.replicate us.length z) (by simp)
  simp only [List.nil_append, List.length_nil] at hf
  have hrun : (execOp (ev l F.s) ⟨some d, .buildSlice T us.length parts, ty, pos, af, none⟩).run P w = .ok (.value (.slice (some ⟨w.heap.size, 0, none⟩) us.length us.length)) (w.alloc (.cells us.toArray e)) := by
    have hp' : parts.map (fun x => match x with | (i, x) => (i, ev l F.s x)) = (frameOf 0 us).toArray := by
      apply Array.ext'
      rw [Array.toList_map]
      exact hparts
    have h24 : ¬ us.length * 1 > 2 ^ 24 := by omega
    simp only [execOp, hp', Instr.buildSlice, Sem.run_bind, run_und hT, Result.andThen, run_size hE]
    rw [if_neg h24]
    by_cases h0 : us.length * 1 = 0
    · have hnil : us = [] := List.eq_nil_of_length_eq_zero (by omega)
      subst hnil
      have e0 : Array.map (fun _ : Nat => (default : Value)) (Array.range 0) = #[] := Array.size_eq_zero_iff.1 (by simp)
      simp [Instr.fill, frameOf, newRow, e0]
    · rw [if_neg h0]
      simp only [Sem.run_bind, run_zero hE, Result.andThen, hcells, hf, Sem.run_pure]
      simp [newRow]
  have hh : (w.alloc (.cells us.toArray e)).heap[w.heap.size]? = some (.cells us.toArray e (0, 0)) := heap_alloc_new w _
  refine ⟨_, _, hrun, rfl, by simp, ⟨us, ⟨by simp, .inr ⟨w.heap.size, us.length, us.toArray, rfl, hlo, hh, Nat.le_refl _, by unfold maxLen; omega, by simp, by simp⟩⟩, fun g hg => ?_, hr.len, fun i u x hu hx => ?_⟩, ch_alloc w _⟩
  · simp [Value.ownBlock] at hg
    subst hg
    simp
  · have h1 := Rep.pu (r.lt (hr.at_ i u x hu hx)) (ch_alloc w (.cells us.toArray e))
    refine r.mono h1 fun b hb => ⟨⟨hb.1, by simp; have := hb.2; omega⟩, fun hc => ?_⟩
    simp [Value.ownBlock] at hc
    have := hb.2
    omega
include inst in
theorem wl_lit {α : Type} {r : Rep α} {lo n : Nat} {parts : Array (Nat × Operand)} {us : List Value} {xs : List α} (hT : Ty P T (.slice e) sT bT zT) (hE : Ty P e ds 1 by_ z) (hz : z.oneCell' = true)
    (hparts : parts.toList.map (fun p => (p.1, ev l F.s p.2)) = frameOf 0 us) (hn : us.length = n) (hlt : n ≤ 65536) (hr : AllR r w (fun b => lo ≤ b) us xs) (hlo : lo ≤ w.heap.size) (hN : Nat.blt d F.N = true)
    (k : ∀ (w' : World) (g : Nat), g = w.heap.size → w'.heap.size = w.heap.size + 1 → Bl r e w' lo w'.heap.size (.slice (some ⟨g, 0, none⟩) n n) xs → w.grownBy w' none → X rest F ((d, .slice (some ⟨g, 0, none⟩) n n) :: l) w') :
    X (⟨some d, .buildSlice T n parts, ty, pos, af, none⟩ :: rest) F l w := by
  obtain ⟨w', g, h1, h2, h3, h4, h5⟩ := lit_run (P := P) (ty := ty) (pos := pos) (af := af) (d := d) (F := F) hT hE hz hparts hn hlt hr hlo
  exact Runs.run (P := P) rfl rfl hN h1 (k w' g h2 h3 h4 h5)

/-- 'append(s, x...)' onto a slice that is being built, out of another slice. -/
theorem append_run {α : Type} {r : Rep α} {lo hi : Nat} {a b : Operand} {v u : Value} {S : Nat → Prop} {xs ys : List α} (h : Bl r e w lo hi v xs) (hu : (slR r).R w S u ys) (hS : ∀ q, S q → q < w.heap.size → lo ≤ q ∧ v.ownBlock ≠ some q) (hlo : lo ≤ w.heap.size) (hT : Ty P T (.slice e) sT bT zT) (hE : Ty P e ds 1 by_ z) (hz : z.oneCell' = true)
    (ha : ev l F.s a = v) (hb : ev l F.s b = u) (hn : (xs.length + ys.length) * by_ ≤ 140737488355328) (hn' : xs.length + ys.length ≤ 140737488355328) :
    ∃ (v' : Value) (w' : World), (execOp (ev l F.s) ⟨some d, .call ⟨.builtin .append, #[a, b], #[T, T]⟩, ty, pos, af, none⟩).run P w = .ok (.value v') w' ∧ Bl r e w' lo w'.heap.size v' (xs ++ ys) ∧ w.grownBy w' v.ownBlock ∧ (∀ g, v.ownBlock = some g → lo ≤ g ∧ g < hi ∧ g < w.heap.size) ∧ w.heap.size ≤ w'.heap.size := by
  obtain ⟨L, ho, hbd, hl, hr⟩ := h
  obtain ⟨M, hrd, hml, hmr⟩ := hu
  obtain ⟨A, c, rfl, hc, hm, hcell⟩ := hrd
  obtain ⟨i, hi', hz', hs', hb'⟩ := hE.ex
  have hzc : z.cells = #[z] := by cases z <;> first | rfl | (simp [Value.oneCell'] at hz)
  have hone : ∀ q ∈ M, q.oneCell' = true := by
    intro q hq
    obtain ⟨j, hj, hjq⟩ := List.mem_iff_getElem.1 hq
    exact r.one (hmr j q (ys[j]'(by omega)) (by rw [List.getElem?_eq_getElem hj, hjq]) (List.getElem?_eq_getElem (by omega)))
  have hLown : ∀ g, v.ownBlock = some g → lo ≤ g ∧ g < hi ∧ g < w.heap.size := fun g hv => ⟨(ho.lt g hv).1, hbd g hv, (ho.lt g hv).2⟩
  rcases Nat.eq_zero_or_pos M.length with h0 | h0
  · have hM : M = [] := List.eq_nil_of_length_eq_zero h0
    have hy : ys = [] := List.eq_nil_of_length_eq_zero (by omega)
    subst hM hy
    have hrun : (Builtin.append_ #[T, T] ty #[v, .slice A 0 c]).run P w = .ok v w := by
      rcases A with _ | ad
      · rcases ho.2 with ⟨rfl, _⟩ | ⟨g, cap, cur, rfl, _, _, hnc, _⟩
        · simp [Builtin.append_, run_underlying hT.und, sizeOf, typeInfo, hi', Builtin.lenOf, Builtin.firstCells]
        · simp [Builtin.append_, run_underlying hT.und, sizeOf, typeInfo, hi', Builtin.lenOf, Builtin.firstCells, hnc, storeCells]
      · rcases ho.2 with ⟨rfl, _⟩ | ⟨g, cap, cur, rfl, _, _, hnc, _⟩
        · simp [Builtin.append_, run_underlying hT.und, sizeOf, typeInfo, hi', Builtin.lenOf, Builtin.firstCells, loadCells, loadCellsFrom]
        · simp [Builtin.append_, run_underlying hT.und, sizeOf, typeInfo, hi', Builtin.lenOf, Builtin.firstCells, hnc, storeCells, loadCells, loadCellsFrom]
    refine ⟨v, w, ?_, ?_, ⟨rfl, rfl, rfl, Nat.le_refl _, fun _ _ _ => rfl⟩, hLown, Nat.le_refl _⟩
    · simp only [List.length_nil] at hb
      simp [execOp, resolve, invoke, builtin, ha, hb, hrun]
    · rw [List.append_nil]
      exact Bl.top (hi := hi) ⟨L, ho, hbd, hl, hr⟩ (Nat.le_refl _)
  · obtain ⟨ad, rfl, hSa, hcells⟩ := hcell h0
    obtain ⟨v', w', hrun, how, hg, _, hat⟩ := run_append_own_at (P := P) w lo T ty e i z 1 by_ hT.und hi' hz' hs' hb' (by rw [hzc]; rfl) (by decide) v L.length L ho ad M.length c M (by simp) hcells hone (by unfold maxLen; omega) (by rw [hl, hml]; exact hn) hlo
    have how' : w'.ownsRow lo e 1 v' (L ++ M).length (L ++ M) := by simpa using how
    refine ⟨v', w', by simp [execOp, resolve, invoke, builtin, ha, hb, hrun], ⟨L ++ M, how', fun g hv => (how'.lt g hv).2, by simp [hl, hml], fun j q y hq hy => ?_⟩, hg, hLown, hg.size⟩
    have key : ∀ (u : Value) (x : α), r.R w (fun b => Iv lo w.heap.size b ∧ v.ownBlock ≠ some b) u x → r.R w' (fun b => Iv lo w'.heap.size b ∧ v'.ownBlock ≠ some b) u x := by
      intro u x hux
      have h1 := Rep.ch hux hg fun g hrow _ hS => hS.2 hrow
      refine r.mono h1 fun b hb => ⟨⟨hb.1.1, by have := hb.1.2; have := hg.size; omega⟩, fun hc => ?_⟩
      rcases hat with h2 | h2
      · rw [h2] at hc; exact hb.2 hc
      · rw [h2] at hc; injection hc with hc; have := hb.1.2; omega
    rcases Nat.lt_or_ge j L.length with h1 | h1
    · rw [List.getElem?_append_left h1] at hq
      rw [List.getElem?_append_left (by omega)] at hy
      exact key q y (r.mono (r.lt (hr j q y hq hy)) fun b hb => ⟨⟨hb.1.1.1, hb.2⟩, hb.1.2⟩)
    · rw [List.getElem?_append_right h1] at hq
      rw [List.getElem?_append_right (by omega), ← hl] at hy
      exact key q y (r.mono (r.lt (hmr _ q y hq hy)) fun b hb => ⟨⟨(hS b hb.1 hb.2).1, hb.2⟩, (hS b hb.1 hb.2).2⟩)
include inst in
theorem wl_append {α : Type} {r : Rep α} {lo hi : Nat} {a b : Operand} {v u : Value} {S : Nat → Prop} {xs ys : List α} (h : Bl r e w lo hi v xs) (hu : (slR r).R w S u ys) (hS : ∀ q, S q → q < w.heap.size → lo ≤ q ∧ v.ownBlock ≠ some q) (hlo : lo ≤ w.heap.size) (hT : Ty P T (.slice e) sT bT zT) (hE : Ty P e ds 1 by_ z) (hz : z.oneCell' = true)
    (ha : ev l F.s a = v) (hb : ev l F.s b = u) (hn : (xs.length + ys.length) * by_ ≤ 140737488355328) (hn' : xs.length + ys.length ≤ 140737488355328) (hN : Nat.blt d F.N = true)
    (k : ∀ v' w', Bl r e w' lo w'.heap.size v' (xs ++ ys) → w.grownBy w' v.ownBlock → (∀ g, v.ownBlock = some g → lo ≤ g ∧ g < hi ∧ g < w.heap.size) → w.heap.size ≤ w'.heap.size → X rest F ((d, v') :: l) w') :
    X (⟨some d, .call ⟨.builtin .append, #[a, b], #[T, T]⟩, ty, pos, af, none⟩ :: rest) F l w := by
  obtain ⟨v', w', h1, h2, h3, h4, h5⟩ := append_run (P := P) (ty := ty) (pos := pos) (af := af) (d := d) (F := F) h hu hS hlo hT hE hz ha hb hn hn'
  exact Runs.run (P := P) rfl rfl hN h1 (k v' w' h2 h3 h4 h5)
end rules
end Go.Proofs.YthofgamegondnaaDoor
