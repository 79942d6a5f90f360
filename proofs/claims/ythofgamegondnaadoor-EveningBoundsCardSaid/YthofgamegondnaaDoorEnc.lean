/- Values of Lean types as abstract values; operations on them. -/
import Derived.Test.YthofgamegondnaaDoorRun
namespace Go.Proofs.YthofgamegondnaaDoor
open Go.RowKit

def idx {α : Type} (xs : List α) (i : Int) : Option α := if 0 ≤ i then xs[i.toNat]? else none
def eK (k : IntKind) (n : Int) : AV := .v (.int k n)
def eI (n : Int) : AV := .v (.int .i64 n)
def eB (b : Bool) : AV := .v (.bool b)

def mnI (a b : Int) : Int := if b < a then b else a
def mxI (a b : Int) : Int := if b > a then b else a
theorem if_f {α : Type} {c : Bool} {a b : α} (h : c = false) : (if c = true then a else b) = b := by rw [h]; rfl

section
variable {P : Program} {h : Hp} {ρ : Operand → Option AV}
theorem q_indexAddr {t : TypeId} {x i : Operand} {a b r : AV} (hx : ρ x = some a) (hi : ρ i = some b) (he : evIndexAddr P h t a b = some r) : evOpQ P ρ h (.indexAddr t x i) = some r := by
  show (match ρ x, ρ i with | some x, some i => evIndexAddr P h t x i | _, _ => none) = some r
  rw [hx, hi]; exact he
theorem ix_sl {α : Type} {xs : List α} {e : α → AV} {t el : TypeId} {k : Nat} {ki : IntKind} {i : Int} {v : α} (hu : P.underlying t = some (.slice el)) (hs : tySize P el = some k) (hv : idx xs i = some v) : evIndexAddr P h t (.sl k (xs.map e)) (.v (.int ki i)) = some (.pe (e v) 0) := by
  unfold idx at hv
  split at hv
  · next h0 =>
    unfold evIndexAddr
    have h1 : ¬ i < 0 := by omega
    simp [intOfA, h1, hu, hv, hs]
  · cases hv
theorem q_len {t : TypeId} {x : Operand} {a r : AV} (hx : ρ x = some a) (he : evLen P t a = some r) : evOpQ P ρ h (.call ⟨.builtin .len, #[x], #[t]⟩) = some r := by
  show (match opds ρ [x], [t] with | some [x], [t] => evLen P t x | _, _ => none) = some r
  simp only [opds, hx]; exact he
theorem len_sl {α : Type} {xs : List α} {e : α → AV} {t el : TypeId} {k : Nat} (hu : P.underlying t = some (.slice el)) : evLen P t (.sl k (xs.map e)) = some (eI xs.length) := by
  unfold evLen; simp [hu, eI]
theorem q_bin {op : BinOp} {t t' : TypeId} {x y : Operand} {a b r : AV} (hx : ρ x = some a) (hy : ρ y = some b) (he : evBin op a b = some r) : evOpQ P ρ h (.binOp op t x y t') = some r := by
  show (match ρ x, ρ y with | some x, some y => (match evBin op x y with | some z => some z | none => evEq P op t x y) | _, _ => none) = some r
  rw [hx, hy]
  simp only [he]
theorem bin_quo {k : IntKind} {a b : Int} (hb : ¬ b = 0) : evBin .quo (.v (.int k a)) (.v (.int k b)) = some (.v (.int k (wr k (a.tdiv b)))) := by
  simp [evBin, isShift, intBin, hb]
theorem bin_rem {k : IntKind} {a b : Int} (hb : ¬ b = 0) : evBin .rem (.v (.int k a)) (.v (.int k b)) = some (.v (.int k (a.tmod b))) := by
  simp [evBin, isShift, intBin, hb]
end
end Go.Proofs.YthofgamegondnaaDoor
