/- What the printed texts want besides. -/
import Derived.Test.YthofgamegondnaaDoorEnv
import Derived.Test.YthofgamegondnaaDoorGs
namespace Go.Proofs.YthofgamegondnaaDoor
open Go.RowKit
def codeOf (f : Func) : Code := match f.body with
  | some c => c
  | none => .skip
def sA : Code → Code
  | .seq a _ => a
  | c => c
def sB : Code → Code
  | .seq _ b => b
  | c => c
def cA : Code → Code
  | .cond _ a _ => a
  | c => c
def cB : Code → Code
  | .cond _ _ b => b
  | c => c
def bA : Code → Code
  | .block _ a => a
  | c => c
def lA : Code → Code
  | .loop a => a
  | c => c
/-- A part of code, by its way. -/
def pc : Code → List Nat → Code
  | c, [] => c
  | .seq a _, 0 :: l => pc a l
  | .seq _ b, _ :: l => pc b l
  | .cond _ a _, 0 :: l => pc a l
  | .cond _ _ b, _ :: l => pc b l
  | .block _ a, _ :: l => pc a l
  | .loop a, _ :: l => pc a l
  | c, _ :: _ => c
/-- What is told of a function, in no environment of its own. -/
def XOk (f : FuncId) (g : List AV → Option AV) : Prop := Callable E0.P f ∧ ∀ xs x, g xs = some x → ∀ w Z us, (∀ c, Z c → c < w.heap.size) → GI E0 w Z → VRs w Z [] xs us → Ret E0.P f us.toArray w fun v w' => w.grownBy w' none ∧ VR w' (fun c => Z c ∨ (w.heap.size ≤ c ∧ c < w'.heap.size)) [] x v
section
variable {E : Env} {cx : Cx} {c : Code} {s s1 : St} {Q : Ex → St → Prop} {n : Nat} {e0 : Ex}
theorem SemN.mono {Q' : Ex → St → Prop} (h : SemN E cx c n s Q) (hq : ∀ e s, Q e s → Q' e s) : SemN E cx c n s Q' :=
  fun ro base Qm a w Z R h1 h2 h3 k => h ro base Qm a w Z R h1 h2 h3 fun e s' a' w' Z' R' hQ => k e s' a' w' Z' R' (hq e s' hQ)
theorem SemN.wkQ (h : SemN E cx c n s fun e s' => ∃ s2, Wk E s' s2 ∧ Q e s2) : SemN E cx c n s Q := by
  intro ro base Qm a w Z R h1 h2 h3 k
  refine h ro base Qm a w Z R h1 h2 h3 fun e s' a' w' Z' R' hQ sr st => ?_
  obtain ⟨s2, hw, hq⟩ := hQ
  obtain ⟨Z2, R2, sr2, st2⟩ := hw _ w' Z' R' a' sr
  exact k e s2 a' w' Z2 R2 hq sr2 (st.trans st2)
theorem Sem.cutN (h : SemN E cx c n s fun e s' => e = e0 ∧ Wk E s' s1) (k : Q e0 s1) : SemN E cx c n s Q :=
  SemN.wkQ (SemN.mono h fun e s' h => ⟨s1, h.2, by rw [h.1]; exact k⟩)
end
theorem EnvOk.x {E : Env} {f : FuncId} {g : List AV → Option AV} (h : EnvOk (E.withX f g)) (hP : E.P = E0.P) (hG : E.G = E0.G) : XOk f g := by
  obtain ⟨h1, h2⟩ := h.X f g (if_pos rfl)
  have e1 : (E.withX f g).P = E0.P := hP
  refine ⟨e1 ▸ h1, fun xs x hx w Z us hz hg hv => ?_⟩
  have := h2 xs x hx w Z us hz (fun q y hy => hg q y (by rw [← hG]; exact hy)) hv
  exact e1 ▸ this
end Go.Proofs.YthofgamegondnaaDoor
