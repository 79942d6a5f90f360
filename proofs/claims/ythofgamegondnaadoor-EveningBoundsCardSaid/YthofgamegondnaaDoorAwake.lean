/- The closed part of every law of this chapter: awake. -/
import Derived.Test.YthofgamegondnaaDoorTabs
import Derived.Test.YthofgamegondnaaDoorEnv
namespace Go.Proofs.YthofgamegondnaaDoor
open Go.RowKit
def isT (r : Option (AV × Hp)) : Bool := match r with
  | some (.v (.bool true), _) => true
  | _ => false
theorem isT_inv {r : Option (AV × Hp)} (h : isT r = true) : ∃ h', r = some (.v (.bool true), h') := by
  unfold isT at h
  split at h
  · exact ⟨_, rfl⟩
  · cases h
set_option maxRecDepth 1000000 in
theorem awakeT : isT (evCall E0 1000 16 [] []) = true := by kernel_rfl
theorem awake_ev : ∃ h, evCall E0 1000 16 [] [] = some (.v (.bool true), h) := isT_inv awakeT
theorem awake_ret (w : World) : Ret Tryd.prog 16 #[] w fun v w' => v = .bool true ∧ w.grownBy w' none := by
  obtain ⟨h, e⟩ := awake_ev
  exact ret_true (Z := fun _ => False) (us := []) E0_ok e (fun c hc => hc.elim) (fun g x h => by cases h) .nil

def xAwake : List AV → Option AV
  | [] => some (.v (.bool true))
  | _ => none
theorem vr_true {w : World} {Z : Nat → Prop} : VR w Z [] (.v (.bool true)) (.bool true) := .v rfl

noncomputable def Ew : Env := E0.withX 16 xAwake
theorem Ew_ok : EnvOk Ew := by
  refine EnvOk.withX E0_ok ⟨Tryd.call16⟩ ?_
  intro xs x h w Z us _ _ hv
  unfold xAwake at h
  split at h
  · injection h with h; subst h
    have : us = [] := by have := hv.len; simpa using this
    subst this
    exact Ret.mono (awake_ret w) fun v w' h => ⟨h.2, by rw [h.1]; exact vr_true⟩
  · cases h
end Go.Proofs.YthofgamegondnaaDoor
