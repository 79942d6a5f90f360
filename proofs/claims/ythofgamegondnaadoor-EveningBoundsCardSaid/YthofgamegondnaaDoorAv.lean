/- The abstract interpreter: values, blocks, and what they say of a world. Plain definitions and lemmas over any program. -/
import Derived.Test.YthofgamegondnaaDoorMem
namespace Go.Proofs.YthofgamegondnaaDoor
open Go.RowKit

/-- Abstract values. 'sl': a slice in memory that nobody writes, told by its elements (k cells each). 'rf': a slice of block b of the own blocks, from element lo on, n long, at least m elements of room. 'pt': the address of cell 'off' of element i of own block b. 'pe': the address of cell 'off' of something that lies in memory that nobody writes. 'e0': an empty slice without room. -/
inductive AV where
  | v (x : Value)
  | st (bs : List UInt8)
  | e0
  | sl (k : Nat) (xs : List AV)
  | rf (b lo n m : Nat)
  | pt (b i off : Nat)
  | pe (x : AV) (off : Nat)
  | ag (cs : List AV)
  | tp (vs : List AV)
  | fn (f : FuncId) (first caps : List AV)
  | yl (b : Nat)
  deriving Inhabited

def AV.cel : AV → List AV
  | .ag cs => cs
  | x => [x]
def AV.nc : AV → Nat
  | .ag cs => cs.length
  | _ => 1
/-- One element of one cell stands for itself. -/
def elm : List AV → AV
  | [x] => x
  | cs => .ag cs

/-- An own block: cells an element, the elements' type, the elements; 'fz': nobody may write it any more. -/
structure Blk where
  k : Nat
  t : TypeId
  es : List AV
  fz : Bool
  deriving Inhabited
abbrev Hp := List (Option Blk)

/-- Where an own block lies: the block of the world, cells an element, elements that fit. -/
structure RI where
  c : Nat
  k : Nat
  cap : Nat

inductive VR (w : World) (Z : Nat → Prop) : List RI → AV → Value → Prop
  | v {ρ : List RI} {x : Value} (h : x.oneCell' = true) : VR w Z ρ (.v x) x
  | st {ρ : List RI} {s : ByteArray} {bs : List UInt8} (h : s.data.toList = bs) (hn : bs.length ≤ maxLen) : VR w Z ρ (.st bs) (.string s)
  | e0 {ρ : List RI} {A : Option Addr} : VR w Z ρ .e0 (.slice A 0 0)
  | sl {ρ : List RI} {k c n : Nat} {xs : List AV} {A : Option Addr} {us : List Value} (hn : xs.length = n) (hl : us.length = xs.length) (hc : n ≤ c) (hm : c ≤ maxLen)
      (ha : 0 < n → ∃ a, A = some a ∧ a.spot = none ∧ Z a.block ∧ ∀ (i : Nat) (u : Value), us[i]? = some u → u.cells.size = k ∧ (∀ q ∈ u.cells, q.oneCell' = true) ∧ ∀ (j : Nat) (q : Value), u.cells[j]? = some q → w.cell? ⟨a.block, a.off + (i * k + j), none⟩ = some q)
      (hx : ∀ (i : Nat) (x : AV) (u : Value), xs[i]? = some x → us[i]? = some u → VR w Z [] x u) : VR w Z ρ (.sl k xs) (.slice A n c)
  | rf {ρ : List RI} {b lo n m c : Nat} {r : RI} (hr : ρ[b]? = some r) (h0 : n ≤ m) (h1 : m ≤ c) (h2 : lo + c ≤ r.cap) (hm : r.cap ≤ maxLen) : VR w Z ρ (.rf b lo n m) (.slice (some ⟨r.c, lo * r.k, none⟩) n c)
  | pt {ρ : List RI} {b i off : Nat} {r : RI} (hr : ρ[b]? = some r) : VR w Z ρ (.pt b i off) (.pointer (some ⟨r.c, i * r.k + off, none⟩))
  | pe {ρ : List RI} {off : Nat} {x : AV} {a : Addr} {u : Value} (hs : a.spot = none) (hz : Z a.block) (h1 : ∀ q ∈ u.cells, q.oneCell' = true) (hu : ∀ (j : Nat) (q : Value), u.cells[j]? = some q → w.cell? ⟨a.block, a.off + j, none⟩ = some q) (hx : VR w Z [] x u) : VR w Z ρ (.pe x off) (.pointer (some ⟨a.block, a.off + off, none⟩))
  | ag {ρ : List RI} {cs : List AV} {us : List Value} (hl : us.length = cs.length) (h1 : us.all Value.oneCell' = true) (hx : ∀ (i : Nat) (x : AV) (u : Value), cs[i]? = some x → us[i]? = some u → VR w Z ρ x u) : VR w Z ρ (.ag cs) (.agg us.toArray)
  | tp {ρ : List RI} {cs : List AV} {us : List Value} (hl : us.length = cs.length) (hx : ∀ (i : Nat) (x : AV) (u : Value), cs[i]? = some x → us[i]? = some u → VR w Z ρ x u) : VR w Z ρ (.tp cs) (.tuple us.toArray)
  | fn {ρ : List RI} {f : FuncId} {p q : List AV} {us vs : List Value} (hl : us.length = p.length) (hl' : vs.length = q.length) (hx : ∀ (i : Nat) (x : AV) (u : Value), p[i]? = some x → us[i]? = some u → VR w Z ρ x u) (hy : ∀ (i : Nat) (x : AV) (u : Value), q[i]? = some x → vs[i]? = some u → VR w Z ρ x u) : VR w Z ρ (.fn f p q) (.func (.func f) us.toArray vs.toArray)
  | yl {ρ : List RI} {b : Nat} {r : RI} (hr : ρ[b]? = some r) : VR w Z ρ (.yl b) (.func (.yield r.c) #[] #[])

/-- Lists of them. -/
structure VRs (w : World) (Z : Nat → Prop) (ρ : List RI) (xs : List AV) (us : List Value) : Prop where
  len : us.length = xs.length
  at_ : ∀ (i : Nat) (x : AV) (u : Value), xs[i]? = some x → us[i]? = some u → VR w Z ρ x u

section
variable {w w' : World} {Z Z' : Nat → Prop} {ρ ρ' : List RI} {x : AV} {u : Value} {xs ys : List AV} {us vs : List Value}

theorem VR.mono (h : VR w Z ρ x u) (hw : ∀ b, Z b → w'.heap[b]? = w.heap[b]?) (hz : ∀ b, Z b → Z' b) (hr : ∀ (i : Nat) (r : RI), ρ[i]? = some r → ρ'[i]? = some r) : VR w' Z' ρ' x u := by
  induction h generalizing ρ' with
  | v h => exact .v h
  | st h hn => exact .st h hn
  | e0 => exact .e0
  | sl hn hl hc hm ha _ ih =>
    refine .sl hn hl hc hm (fun h0 => ?_) (fun i x u hx hu => ih i x u hx hu (fun _ _ h => h))
    obtain ⟨a, h1, h2, h3, h4⟩ := ha h0
    exact ⟨a, h1, h2, hz _ h3, fun i u hu => ⟨(h4 i u hu).1, (h4 i u hu).2.1, fun j q hq => (World.cell?_of_block (by exact hw _ h3)).trans ((h4 i u hu).2.2 j q hq)⟩⟩
  | rf h0 h1 h2 h3 h4 => exact .rf (hr _ _ h0) h1 h2 h3 h4
  | pt h => exact .pt (hr _ _ h)
  | pe hs h3 h1 hu _ ih => exact .pe hs (hz _ h3) h1 (fun j q hq => (World.cell?_of_block (by exact hw _ h3)).trans (hu j q hq)) (ih fun _ _ h => h)
  | ag hl h1 _ ih => exact .ag hl h1 (fun i x u hx hu => ih i x u hx hu hr)
  | tp hl _ ih => exact .tp hl (fun i x u hx hu => ih i x u hx hu hr)
  | fn hl hl' _ _ ih ih' => exact .fn hl hl' (fun i x u hx hu => ih i x u hx hu hr) (fun i x u hx hu => ih' i x u hx hu hr)
  | yl h => exact .yl (hr _ _ h)

theorem VR.up (h : VR w Z [] x u) : VR w Z ρ x u := h.mono (fun _ _ => rfl) (fun _ h => h) (fun i r h => by simp at h)
theorem VRs.mono (h : VRs w Z ρ xs us) (hw : ∀ b, Z b → w'.heap[b]? = w.heap[b]?) (hz : ∀ b, Z b → Z' b) (hr : ∀ (i : Nat) (r : RI), ρ[i]? = some r → ρ'[i]? = some r) : VRs w' Z' ρ' xs us :=
  ⟨h.len, fun i x u hx hu => (h.at_ i x u hx hu).mono hw hz hr⟩

theorem VRs.nil : VRs w Z ρ [] [] := ⟨rfl, fun i x u h => by simp at h⟩
theorem VRs.cons (h : VR w Z ρ x u) (hs : VRs w Z ρ xs us) : VRs w Z ρ (x :: xs) (u :: us) :=
  ⟨by simp [hs.len], fun i y q hy hq => by
    cases i with
    | zero => simp at hy hq; subst hy hq; exact h
    | succ i => simp at hy hq; exact hs.at_ i y q hy hq⟩
theorem VRs.head (h : VRs w Z ρ (x :: xs) us) : ∃ u us', us = u :: us' ∧ VR w Z ρ x u ∧ VRs w Z ρ xs us' := by
  cases us with
  | nil => have := h.len; simp at this
  | cons u us => exact ⟨u, us, rfl, h.at_ 0 x u rfl rfl, ⟨by have := h.len; simpa using this, fun i y q hy hq => h.at_ (i + 1) y q (by simpa using hy) (by simpa using hq)⟩⟩
theorem VRs.get {i : Nat} (h : VRs w Z ρ xs us) (hx : xs[i]? = some x) : ∃ u, us[i]? = some u ∧ VR w Z ρ x u := by
  have hlt : i < us.length := by rw [h.len]; exact (List.getElem?_eq_some_iff.1 hx).1
  exact ⟨us[i], List.getElem?_eq_getElem hlt, h.at_ i x _ hx (List.getElem?_eq_getElem hlt)⟩
theorem VRs.append (h : VRs w Z ρ xs us) (h' : VRs w Z ρ ys vs) : VRs w Z ρ (xs ++ ys) (us ++ vs) :=
  ⟨by simp [h.len, h'.len], fun i y q hy hq => by
    by_cases hi : i < xs.length
    · rw [List.getElem?_append_left hi] at hy
      rw [List.getElem?_append_left (by rw [h.len]; exact hi)] at hq
      exact h.at_ i y q hy hq
    · rw [List.getElem?_append_right (by omega)] at hy
      rw [List.getElem?_append_right (by rw [h.len]; omega), h.len] at hq
      exact h'.at_ _ y q hy hq⟩
theorem VRs.take (h : VRs w Z ρ xs us) (n : Nat) : VRs w Z ρ (xs.take n) (us.take n) :=
  ⟨by simp [h.len], fun i y q hy hq => by
    rw [List.getElem?_take] at hy hq
    split at hy
    · next hi => rw [if_pos hi] at hq; exact h.at_ i y q hy hq
    · cases hy⟩
theorem VRs.drop (h : VRs w Z ρ xs us) (n : Nat) : VRs w Z ρ (xs.drop n) (us.drop n) :=
  ⟨by simp [h.len], fun i y q hy hq => by
    rw [List.getElem?_drop] at hy hq
    exact h.at_ _ y q hy hq⟩
theorem VRs.set (h : VRs w Z ρ xs us) (n : Nat) (hx : VR w Z ρ x u) : VRs w Z ρ (xs.set n x) (us.set n u) :=
  ⟨by simp [h.len], fun i y q hy hq => by
    rw [List.getElem?_set] at hy hq
    split at hy
    · next hi =>
      rw [if_pos hi] at hq
      have hl := h.len
      by_cases hn : n < xs.length
      · rw [if_pos hn] at hy
        rw [if_pos (by omega)] at hq
        injection hy with hy; injection hq with hq; subst hy hq; exact hx
      · rw [if_neg hn] at hy; cases hy
    · next hi => rw [if_neg hi] at hq; exact h.at_ i y q hy hq⟩
theorem VRs.replicate (n : Nat) (hx : VR w Z ρ x u) : VRs w Z ρ (List.replicate n x) (List.replicate n u) :=
  ⟨by simp, fun i y q hy hq => by
    simp only [List.getElem?_replicate] at hy hq
    split at hy
    · next hi => rw [if_pos hi] at hq; injection hy with hy; injection hq with hq; subst hy hq; exact hx
    · cases hy⟩

/-- The cells of a value. -/
theorem VR.cells (h : VR w Z ρ x u) : u.cells.size = x.nc ∧ VRs w Z ρ x.cel u.cells.toList := by
  have one : ∀ {y : AV} {u : Value}, VR w Z ρ y u → u.cells = #[u] → y.nc = 1 → y.cel = [y] → u.cells.size = y.nc ∧ VRs w Z ρ y.cel u.cells.toList := by
    intro y u h e h1 h2
    rw [e, h1, h2]
    exact ⟨rfl, .cons h .nil⟩
  cases h with
  | v h => exact one (.v h) (by cases u <;> first | rfl | (simp [Value.oneCell'] at h)) rfl rfl
  | st h hn => exact one (.st h hn) rfl rfl rfl
  | e0 => exact one .e0 rfl rfl rfl
  | sl hn hl hc hm ha hx => exact one (.sl hn hl hc hm ha hx) rfl rfl rfl
  | rf h0 h1 h2 h3 h4 => exact one (.rf h0 h1 h2 h3 h4) rfl rfl rfl
  | pt h => exact one (.pt h) rfl rfl rfl
  | pe hs h3 h1 hu hx => exact one (.pe hs h3 h1 hu hx) rfl rfl rfl
  | ag hl h1 hx => exact ⟨by simp [Value.cells, AV.nc, hl], ⟨by simp [Value.cells, AV.cel, hl], by simpa [Value.cells, AV.cel] using hx⟩⟩
  | tp hl hx => exact one (.tp hl hx) rfl rfl rfl
  | fn hl hl' hx hy => exact one (.fn hl hl' hx hy) rfl rfl rfl
  | yl hr => exact one (.yl hr) rfl rfl rfl

def AV.notTp : AV → Bool
  | .tp _ => false
  | _ => true
def AV.notAg : AV → Bool
  | .ag _ => false
  | _ => true
theorem VR.one (h : VR w Z ρ x u) (ha : x.notAg = true) (ht : x.notTp = true) : u.oneCell' = true := by
  cases h <;> first | assumption | rfl | (simp [AV.notAg] at ha) | (simp [AV.notTp] at ht)
/-- All cells of what may be stored are of one cell. -/
theorem VR.cells_one (h : VR w Z ρ x u) (ht : x.notTp = true) : ∀ q ∈ u.cells, q.oneCell' = true := by
  cases h with
  | ag hl h1 hx =>
    intro q hq
    simp [Value.cells] at hq
    exact List.all_eq_true.1 h1 q hq
  | tp hl hx => simp [AV.notTp] at ht
  | v h => intro q hq; rw [show u.cells = #[u] by cases u <;> first | rfl | (simp [Value.oneCell'] at h)] at hq; simp at hq; subst hq; exact h
  | _ => intro q hq; simp [Value.cells] at hq; subst hq; rfl
/-- Put together out of cells. -/
theorem VRs.elm (h : VRs w Z ρ xs us) (h1 : us.all Value.oneCell' = true) : ∃ u, VR w Z ρ (elm xs) u ∧ u.cells = us.toArray ∧ (Go.Proofs.YthofgamegondnaaDoor.elm xs).notTp = true := by
  have hs : ∀ (xs : List AV), Go.Proofs.YthofgamegondnaaDoor.elm xs = .ag xs → VRs w Z ρ xs us → ∃ u, VR w Z ρ (Go.Proofs.YthofgamegondnaaDoor.elm xs) u ∧ u.cells = us.toArray ∧ (Go.Proofs.YthofgamegondnaaDoor.elm xs).notTp = true := by
    intro xs e h
    rw [e]
    exact ⟨_, .ag h.len h1 h.at_, rfl, rfl⟩
  match xs, h with
  | [], h => exact hs [] rfl h
  | [x], h =>
    obtain ⟨u, us', rfl, hu, hn⟩ := h.head
    have : us' = [] := by have := hn.len; simpa using this
    subst this
    have ho : u.oneCell' = true := by simpa using h1
    refine ⟨u, hu, by cases u <;> first | rfl | (simp [Value.oneCell'] at ho), ?_⟩
    show x.notTp = true
    cases hu <;> first | rfl | (simp [Value.oneCell'] at ho)
  | x :: y :: l, h => exact hs _ rfl h
end

/-- The own blocks that are live. -/
def own (ρ : List RI) (h : Hp) (c : Nat) : Prop := ∃ (b : Nat) (B : Blk) (r : RI), h[b]? = some (some B) ∧ B.fz = false ∧ ρ[b]? = some r ∧ r.c = c

/-- What the own blocks hold. -/
structure HR (w : World) (Z : Nat → Prop) (ρ : List RI) (h : Hp) : Prop where
  len : ρ.length = h.length
  blk : ∀ (b : Nat) (B : Blk), h[b]? = some (some B) → ∃ r arr us, ρ[b]? = some r ∧ r.k = B.k ∧ w.heap[r.c]? = some (.cells arr B.t (0, 0)) ∧ arr.size = r.cap * B.k ∧ B.es.length ≤ r.cap ∧ r.cap ≤ maxLen ∧ (B.fz = true → Z r.c) ∧ (B.fz = false → ¬ Z r.c) ∧
    VRs w Z ρ B.es us ∧ ∀ (i : Nat) (u : Value), us[i]? = some u → u.cells.size = B.k ∧ (∀ q ∈ u.cells, q.oneCell' = true) ∧ ∀ (j : Nat) (q : Value), u.cells[j]? = some q → arr[i * B.k + j]? = some q
  inj : ∀ (b b' : Nat) (B B' : Blk) (r r' : RI), h[b]? = some (some B) → B.fz = false → h[b']? = some (some B') → B'.fz = false → ρ[b]? = some r → ρ[b']? = some r' → r.c = r'.c → b = b'
  zlt : ∀ c, Z c → c < w.heap.size

/-- From one state to a later one: only own blocks have turned. -/
structure Step (w : World) (Z : Nat → Prop) (ρ : List RI) (h : Hp) (w' : World) (Z' : Nat → Prop) (ρ' : List RI) (h' : Hp) : Prop where
  os : w'.os = w.os
  tape : w'.tape = w.tape
  output : w'.output = w.output
  size : w.heap.size ≤ w'.heap.size
  block : ∀ c, c < w.heap.size → ¬ own ρ h c → w'.heap[c]? = w.heap[c]?
  own_ : ∀ c, own ρ' h' c → own ρ h c ∨ w.heap.size ≤ c
  z : ∀ c, Z c → Z' c
  z' : ∀ c, Z' c → Z c ∨ own ρ h c ∨ w.heap.size ≤ c
  r : ∀ (i : Nat) (x : RI), ρ[i]? = some x → ρ'[i]? = some x

section
variable {w w' w'' : World} {Z Z' Z'' : Nat → Prop} {ρ ρ' ρ'' : List RI} {h h' h'' : Hp} {x : AV} {u : Value}
theorem Step.refl (w : World) (Z : Nat → Prop) (ρ : List RI) (h : Hp) : Step w Z ρ h w Z ρ h :=
  ⟨rfl, rfl, rfl, Nat.le_refl _, fun _ _ _ => rfl, fun _ h => .inl h, fun _ h => h, fun _ h => .inl h, fun _ _ h => h⟩
theorem Step.trans (s : Step w Z ρ h w' Z' ρ' h') (t : Step w' Z' ρ' h' w'' Z'' ρ'' h'') : Step w Z ρ h w'' Z'' ρ'' h'' := by
  refine ⟨t.os.trans s.os, t.tape.trans s.tape, t.output.trans s.output, Nat.le_trans s.size t.size, fun c hc hn => ?_, fun c hc => ?_, fun c hc => t.z c (s.z c hc), fun c hc => ?_, fun i x hx => t.r i x (s.r i x hx)⟩
  · rw [t.block c (Nat.lt_of_lt_of_le hc s.size) fun ho => ?_]
    · exact s.block c hc hn
    · rcases s.own_ c ho with h1 | h1
      · exact hn h1
      · omega
  · rcases t.own_ c hc with h1 | h1
    · exact s.own_ c h1
    · exact .inr (Nat.le_trans s.size h1)
  · rcases t.z' c hc with h1 | h1 | h1
    · exact s.z' c h1
    · rcases s.own_ c h1 with h2 | h2
      · exact .inr (.inl h2)
      · exact .inr (.inr h2)
    · exact .inr (.inr (Nat.le_trans s.size h1))
theorem HR.rltL (hh : HR w Z ρ h) {b : Nat} {B : Blk} {r : RI} (hB : h[b]? = some (some B)) (hr : ρ[b]? = some r) : r.c < w.heap.size := by
  obtain ⟨r', _, _, g1, _, g3, _⟩ := hh.blk b B hB
  rw [hr] at g1
  injection g1 with g1
  subst g1
  exact (Array.getElem?_eq_some_iff.1 g3).1
theorem HR.notZ (hh : HR w Z ρ h) {c : Nat} (hc : own ρ h c) : ¬ Z c := by
  obtain ⟨b, B, r, h1, h2, h3, rfl⟩ := hc
  obtain ⟨r', _, _, g1, _, _, _, _, _, _, g2, _⟩ := hh.blk b B h1
  rw [h3] at g1
  injection g1 with g1
  subst g1
  exact g2 h2
/-- Values are kept by a step. -/
theorem VR.step (hv : VR w Z ρ x u) (hh : HR w Z ρ h) (s : Step w Z ρ h w' Z' ρ' h') : VR w' Z' ρ' x u :=
  hv.mono (fun b hb => s.block b (hh.zlt b hb) fun ho => hh.notZ ho hb) s.z s.r
theorem VRs.step {xs : List AV} {us : List Value} (hv : VRs w Z ρ xs us) (hh : HR w Z ρ h) (s : Step w Z ρ h w' Z' ρ' h') : VRs w' Z' ρ' xs us :=
  ⟨hv.len, fun i x u hx hu => (hv.at_ i x u hx hu).step hh s⟩

/-- The world grows or other blocks than those that count turn: the blocks' contents are kept. -/
theorem HR.keep (hh : HR w Z ρ h) (hs : w.heap.size ≤ w'.heap.size) (hb : ∀ c, c < w.heap.size → w'.heap[c]? = w.heap[c]?) : HR w' Z ρ h := by
  refine ⟨hh.len, fun b B hB => ?_, hh.inj, fun c hc => Nat.lt_of_lt_of_le (hh.zlt c hc) hs⟩
  obtain ⟨r, arr, us, h1, h2, h3, h4, h5, h6, h7, h8, h9, h10⟩ := hh.blk b B hB
  exact ⟨r, arr, us, h1, h2, (hb _ (hh.rltL hB h1)).trans h3, h4, h5, h6, h7, h8, h9.mono (fun c hc => hb c (hh.zlt c hc)) (fun _ h => h) (fun _ _ h => h), h10⟩
end

section newblock
variable {w : World} {Z : Nat → Prop} {ρ : List RI} {h : Hp}
theorem getElem?_snoc {α : Type} (l : List α) (a : α) (i : Nat) (b : α) : (l ++ [a])[i]? = some b ↔ l[i]? = some b ∨ (i = l.length ∧ b = a) := by
  by_cases hi : i < l.length
  · rw [List.getElem?_append_left hi]
    exact ⟨.inl, fun h => h.elim id fun h => by omega⟩
  · rw [List.getElem?_append_right (by omega)]
    constructor
    · intro hh
      have : i = l.length := by
        rcases Nat.eq_zero_or_pos (i - l.length) with h0 | h0
        · omega
        · rw [List.getElem?_eq_none (by simp; omega)] at hh; cases hh
      subst this
      simp at hh
      exact .inr ⟨rfl, hh.symm⟩
    · rintro (hh | ⟨rfl, rfl⟩)
      · rw [List.getElem?_eq_none (by omega)] at hh; cases hh
      · simp

/-- A new block. -/
theorem HR.new {w' : World} {c : Nat} (hh : HR w Z ρ h) {k : Nat} {t : TypeId} {es : List AV} {us : List Value} {arr : Array Value} {cap : Nat} (hg : w.grownBy w' none) (hc : w.heap.size ≤ c) (hb : w'.heap[c]? = some (.cells arr t (0, 0))) (he : VRs w Z ρ es us) (hsz : arr.size = cap * k) (hle : es.length ≤ cap) (hcm : cap ≤ maxLen)
    (hu : ∀ (i : Nat) (u : Value), us[i]? = some u → u.cells.size = k ∧ (∀ q ∈ u.cells, q.oneCell' = true) ∧ ∀ (j : Nat) (q : Value), u.cells[j]? = some q → arr[i * k + j]? = some q) :
    HR w' Z (ρ ++ [⟨c, k, cap⟩]) (h ++ [some ⟨k, t, es, false⟩]) ∧ Step w Z ρ h w' Z (ρ ++ [⟨c, k, cap⟩]) (h ++ [some ⟨k, t, es, false⟩]) ∧ (ρ ++ [(⟨c, k, cap⟩ : RI)])[h.length]? = some ⟨c, k, cap⟩ := by
  have hold : ∀ c, c < w.heap.size → w'.heap[c]? = w.heap[c]? := fun c hc => hg.block c hc (by simp)
  have hcl : c < w'.heap.size := (Array.getElem?_eq_some_iff.1 hb).1
  have hr : ∀ (i : Nat) (x : RI), ρ[i]? = some x → (ρ ++ [(⟨c, k, cap⟩ : RI)])[i]? = some x := fun i x hx => (getElem?_snoc _ _ _ _).2 (.inl hx)
  have hlast : (ρ ++ [(⟨c, k, cap⟩ : RI)])[h.length]? = some ⟨c, k, cap⟩ := (getElem?_snoc _ _ _ _).2 (.inr ⟨hh.len.symm, rfl⟩)
  have hmono : ∀ {x : AV} {u : Value}, VR w Z ρ x u → VR w' Z (ρ ++ [⟨c, k, cap⟩]) x u := fun hv => hv.mono (fun b hb => hold b (hh.zlt b hb)) (fun _ h => h) hr
  have hz : ∀ d, Z d → d ≠ c := fun d hd e => by have := hh.zlt d hd; omega
  refine ⟨⟨by simp [hh.len], fun b B hB => ?_, fun b b' B B' r r' hB hf hB' hf' h1 h2 e => ?_, fun c hc => Nat.lt_of_lt_of_le (hh.zlt c hc) hg.size⟩, ⟨hg.os, hg.tape, hg.output, hg.size, fun c hc _ => hold c hc, fun d hd => ?_, fun _ h => h, fun _ h => .inl h, hr⟩, hlast⟩
  · rcases (getElem?_snoc _ _ _ _).1 hB with hB | ⟨rfl, hE⟩
    · obtain ⟨r, arr', us', h1, h2, h3, h4, h5, h6, h7, h8, h9, h10⟩ := hh.blk b B hB
      exact ⟨r, arr', us', hr _ _ h1, h2, (hold _ (hh.rltL hB h1)).trans h3, h4, h5, h6, h7, h8, ⟨h9.len, fun i x u hx hu' => hmono (h9.at_ i x u hx hu')⟩, h10⟩
    · have hE := (Option.some.inj hE)
      subst hE
      exact ⟨_, arr, us, hlast, rfl, hb, hsz, hle, hcm, (fun h => by cases h), (fun _ hZ => hz _ hZ rfl), ⟨he.len, fun i x u hx hu' => hmono (he.at_ i x u hx hu')⟩, hu⟩
  · rcases (getElem?_snoc _ _ _ _).1 h1 with h1 | ⟨e1, rfl⟩ <;> rcases (getElem?_snoc _ _ _ _).1 h2 with h2 | ⟨e2, rfl⟩
    · refine hh.inj b b' B B' r r' ?_ hf ?_ hf' h1 h2 e
      · rcases (getElem?_snoc _ _ _ _).1 hB with hB | ⟨e3, _⟩
        · exact hB
        · have := (List.getElem?_eq_some_iff.1 h1).1; have := hh.len; omega
      · rcases (getElem?_snoc _ _ _ _).1 hB' with hB | ⟨e3, _⟩
        · exact hB
        · have := (List.getElem?_eq_some_iff.1 h2).1; have := hh.len; omega
    · have hB0 : h[b]? = some (some B) := by
        rcases (getElem?_snoc _ _ _ _).1 hB with hB | ⟨e3, _⟩
        · exact hB
        · have := (List.getElem?_eq_some_iff.1 h1).1; have := hh.len; omega
      have := hh.rltL hB0 h1; simp at e; omega
    · have hB0 : h[b']? = some (some B') := by
        rcases (getElem?_snoc _ _ _ _).1 hB' with hB | ⟨e3, _⟩
        · exact hB
        · have := (List.getElem?_eq_some_iff.1 h2).1; have := hh.len; omega
      have := hh.rltL hB0 h2; simp at e; omega
    · omega
  · obtain ⟨b, B, r, h1, h2, h3, rfl⟩ := hd
    rcases (getElem?_snoc _ _ _ _).1 h3 with h3 | ⟨_, rfl⟩
    · rcases (getElem?_snoc _ _ _ _).1 h1 with h1 | ⟨e3, _⟩
      · exact .inl ⟨b, B, r, h1, h2, h3, rfl⟩
      · have := (List.getElem?_eq_some_iff.1 h3).1; have := hh.len; omega
    · exact .inr hc
/-- The contents of a live block turn. -/
theorem HR.put {w' : World} (hh : HR w Z ρ h) {b : Nat} {B : Blk} {r : RI} {es : List AV} {us : List Value} {arr : Array Value} (hB : h[b]? = some (some B)) (hf : B.fz = false) (hr : ρ[b]? = some r) (hg : w.grownBy w' (some r.c)) (hb : w'.heap[r.c]? = some (.cells arr B.t (0, 0))) (hsz : arr.size = r.cap * B.k) (hle : es.length ≤ r.cap)
    (he : VRs w Z ρ es us) (hu : ∀ (i : Nat) (u : Value), us[i]? = some u → u.cells.size = B.k ∧ (∀ q ∈ u.cells, q.oneCell' = true) ∧ ∀ (j : Nat) (q : Value), u.cells[j]? = some q → arr[i * B.k + j]? = some q) :
    HR w' Z ρ (h.set b (some { B with es := es })) ∧ Step w Z ρ h w' Z ρ (h.set b (some { B with es := es })) := by
  have hown : own ρ h r.c := ⟨b, B, r, hB, hf, hr, rfl⟩
  have hold : ∀ c, c < w.heap.size → c ≠ r.c → w'.heap[c]? = w.heap[c]? := fun c hc hne => hg.block c hc (by intro e; injection e with e; exact hne e)
  have hzr : ∀ c, Z c → c ≠ r.c := fun c hc e => hh.notZ hown (e ▸ hc)
  have hmono : ∀ {x : AV} {u : Value}, VR w Z ρ x u → VR w' Z ρ x u := fun hv => hv.mono (fun b hb => hold b (hh.zlt b hb) (hzr b hb)) (fun _ h => h) (fun _ _ h => h)
  have hbl : b < h.length := (List.getElem?_eq_some_iff.1 hB).1
  have hget : ∀ (b' : Nat) (B' : Blk), (h.set b (some { B with es := es }))[b']? = some (some B') → (b' = b ∧ B' = { B with es := es }) ∨ (b' ≠ b ∧ h[b']? = some (some B')) := fun b' B' hB' => by
    rw [List.getElem?_set] at hB'
    split at hB'
    · next e =>
      subst e
      try rw [if_pos hbl] at hB'
      injection hB' with hB'
      injection hB' with hB'
      exact .inl ⟨rfl, hB'.symm⟩
    · next e => exact .inr ⟨fun e' => e e'.symm, hB'⟩
  have hown' : ∀ (b' : Nat) (B' : Blk), (h.set b (some { B with es := es }))[b']? = some (some B') → B'.fz = false → ∃ B'', h[b']? = some (some B'') ∧ B''.fz = false := fun b' B' hB' hf' => by
    rcases hget b' B' hB' with ⟨rfl, rfl⟩ | ⟨_, h1⟩
    · exact ⟨B, hB, hf⟩
    · exact ⟨B', h1, hf'⟩
  refine ⟨⟨by simp [hh.len], fun b' B' hB' => ?_, fun b1 b2 B1 B2 r1 r2 h1 f1 h2 f2 g1 g2 e => ?_, fun c hc => Nat.lt_of_lt_of_le (hh.zlt c hc) hg.size⟩,
    ⟨hg.os, hg.tape, hg.output, hg.size, fun c hc hn => hold c hc (fun e => hn (e ▸ hown)), fun c hc => ?_, fun _ h => h, fun _ h => .inl h, fun _ _ h => h⟩⟩
  · rcases hget b' B' hB' with ⟨rfl, rfl⟩ | ⟨hne, h1⟩
    · obtain ⟨r', arr', us', g1, g2, g3, g4, g5, g6, g7, g8, g9, g10⟩ := hh.blk b' B hB
      rw [hr] at g1
      injection g1 with g1
      subst g1
      exact ⟨r, arr, us, hr, g2, hb, hsz, hle, g6, g7, g8, ⟨he.len, fun i x u hx hu' => hmono (he.at_ i x u hx hu')⟩, hu⟩
    · obtain ⟨r', arr', us', g1, g2, g3, g4, g5, g6, g7, g8, g9, g10⟩ := hh.blk b' B' h1
      have hcne : r'.c ≠ r.c := by
        intro e
        cases hfz : B'.fz with
        | true => exact hzr _ (g7 hfz) e
        | false => exact hne (hh.inj b' b B' B r' r h1 hfz hB hf g1 hr e)
      exact ⟨r', arr', us', g1, g2, (hold _ (hh.rltL h1 g1) hcne).trans g3, g4, g5, g6, g7, g8, ⟨g9.len, fun i x u hx hu' => hmono (g9.at_ i x u hx hu')⟩, g10⟩
  · obtain ⟨B1', h1', f1'⟩ := hown' b1 B1 h1 f1
    obtain ⟨B2', h2', f2'⟩ := hown' b2 B2 h2 f2
    exact hh.inj b1 b2 B1' B2' r1 r2 h1' f1' h2' f2' g1 g2 e
  · obtain ⟨b', B', r', h1, h2, h3, rfl⟩ := hc
    obtain ⟨B'', k1, k2⟩ := hown' b' B' h1 h2
    exact .inl ⟨b', B'', r', k1, k2, h3, rfl⟩
/-- A block is given up. -/
theorem HR.kill (hh : HR w Z ρ h) (b : Nat) : HR w Z ρ (h.set b none) ∧ Step w Z ρ h w Z ρ (h.set b none) := by
  have hget : ∀ (b' : Nat) (B' : Blk), (h.set b none)[b']? = some (some B') → h[b']? = some (some B') := fun b' B' hB' => by
    rw [List.getElem?_set] at hB'
    split at hB'
    · split at hB' <;> cases hB'
    · exact hB'
  refine ⟨⟨by simp [hh.len], fun b' B' hB' => hh.blk b' B' (hget b' B' hB'), fun b1 b2 B1 B2 r1 r2 h1 f1 h2 f2 => hh.inj b1 b2 B1 B2 r1 r2 (hget _ _ h1) f1 (hget _ _ h2) f2, hh.zlt⟩, ⟨rfl, rfl, rfl, Nat.le_refl _, fun _ _ _ => rfl, fun c hc => ?_, fun _ h => h, fun _ h => .inl h, fun _ _ h => h⟩⟩
  obtain ⟨b', B', r', h1, h2, h3, rfl⟩ := hc
  exact .inl ⟨b', B', r', hget _ _ h1, h2, h3, rfl⟩
/-- A block goes on under another number. -/
theorem HR.rename (hh : HR w Z ρ h) {b : Nat} {B : Blk} {r : RI} (hB : h[b]? = some (some B)) (hr : ρ[b]? = some r) :
    HR w Z (ρ ++ [r]) (h.set b none ++ [some B]) ∧ Step w Z ρ h w Z (ρ ++ [r]) (h.set b none ++ [some B]) ∧ (ρ ++ [r])[h.length]? = some r := by
  have hr' : ∀ (i : Nat) (x : RI), ρ[i]? = some x → (ρ ++ [r])[i]? = some x := fun i x hx => (getElem?_snoc _ _ _ _).2 (.inl hx)
  have hlast : (ρ ++ [r])[h.length]? = some r := (getElem?_snoc _ _ _ _).2 (.inr ⟨hh.len.symm, rfl⟩)
  have hmono : ∀ {x : AV} {u : Value}, VR w Z ρ x u → VR w Z (ρ ++ [r]) x u := fun hv => hv.mono (fun _ _ => rfl) (fun _ h => h) hr'
  have hget : ∀ (b' : Nat) (B' : Blk), (h.set b none ++ [some B])[b']? = some (some B') → (b' ≠ b ∧ b' < h.length ∧ h[b']? = some (some B')) ∨ (b' = h.length ∧ B' = B) := fun b' B' hB' => by
    rcases (getElem?_snoc _ _ _ _).1 hB' with hB' | ⟨e1, e2⟩
    · rw [List.getElem?_set] at hB'
      split at hB'
      · split at hB' <;> cases hB'
      · next hne => exact .inl ⟨fun e => hne e.symm, (List.getElem?_eq_some_iff.1 hB').1, hB'⟩
    · rw [List.length_set] at e1
      exact .inr ⟨e1, Option.some.inj e2⟩
  -- where a block of the new list lies in the old one
  have hback : ∀ (b' : Nat) (B' : Blk) (x : RI), (h.set b none ++ [some B])[b']? = some (some B') → (ρ ++ [r])[b']? = some x → ∃ b'', h[b'']? = some (some B') ∧ ρ[b'']? = some x ∧ (b'' = b ↔ b' = h.length) ∧ (b'' ≠ b → b'' = b') := fun b' B' x hB' hx => by
    rcases hget b' B' hB' with ⟨h1, h2, h3⟩ | ⟨rfl, rfl⟩
    · rcases (getElem?_snoc _ _ _ _).1 hx with hx | ⟨e, _⟩
      · exact ⟨b', h3, hx, ⟨fun e => absurd e h1, fun e => by omega⟩, fun _ => rfl⟩
      · have := hh.len; omega
    · rw [hlast] at hx
      injection hx with hx
      subst hx
      exact ⟨b, hB, hr, ⟨fun _ => rfl, fun _ => rfl⟩, fun h => absurd rfl h⟩
  refine ⟨⟨by simp [hh.len], fun b' B' hB' => ?_, fun b1 b2 B1 B2 r1 r2 h1 f1 h2 f2 g1 g2 e => ?_, hh.zlt⟩, ⟨rfl, rfl, rfl, Nat.le_refl _, fun _ _ _ => rfl, fun c hc => ?_, fun _ h => h, fun _ h => .inl h, hr'⟩, hlast⟩
  · have hx : ∃ x, (ρ ++ [r])[b']? = some x := by
      have : b' < (ρ ++ [r]).length := by have := (List.getElem?_eq_some_iff.1 hB').1; simp [hh.len] at *; omega
      exact ⟨_, List.getElem?_eq_getElem this⟩
    obtain ⟨x, hx⟩ := hx
    obtain ⟨b'', k1, k2, _, _⟩ := hback b' B' x hB' hx
    obtain ⟨r', arr', us', g1, g2, g3, g4, g5, g6, g7, g8, g9, g10⟩ := hh.blk b'' B' k1
    rw [k2] at g1
    injection g1 with g1
    subst g1
    exact ⟨x, arr', us', hx, g2, g3, g4, g5, g6, g7, g8, ⟨g9.len, fun i x u hx hu' => hmono (g9.at_ i x u hx hu')⟩, g10⟩
  · obtain ⟨c1, k1, k2, k3, k4⟩ := hback b1 B1 r1 h1 g1
    obtain ⟨c2, q1, q2, q3, q4⟩ := hback b2 B2 r2 h2 g2
    have hcc := hh.inj c1 c2 B1 B2 r1 r2 k1 f1 q1 f2 k2 q2 e
    subst hcc
    by_cases hb : c1 = b
    · rw [k3.1 hb, q3.1 hb]
    · rw [← k4 hb, ← q4 hb]
  · obtain ⟨b', B', x, h1, h2, h3, rfl⟩ := hc
    obtain ⟨b'', k1, k2, _, _⟩ := hback b' B' x h1 h3
    exact .inl ⟨b'', B', x, k1, h2, k2, rfl⟩
end newblock
end Go.Proofs.YthofgamegondnaaDoor
