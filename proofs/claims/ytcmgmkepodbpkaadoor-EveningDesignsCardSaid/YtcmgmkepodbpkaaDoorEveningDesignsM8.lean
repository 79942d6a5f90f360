/- Lemmas for the proof. -/
import Derived.Test.YtcmgmkepodbpkaaDoorEveningDesignsM1
import Derived.Test.YtcmgmkepodbpkaaDoorEveningDesignsM2
import Derived.Test.YtcmgmkepodbpkaaDoorEveningDesignsM3
import Derived.Test.YtcmgmkepodbpkaaDoorEveningDesignsM4
import Derived.Test.YtcmgmkepodbpkaaDoorEveningDesignsM5
import Derived.Test.YtcmgmkepodbpkaaDoorEveningDesignsM6
import Derived.Test.YtcmgmkepodbpkaaDoorEveningDesignsM7
namespace Go.Proofs.YtcmgmkepodbpkaaDoor
open Go.RowKit
def eqI1 : List Int → List Nat → Bool
 | [], [] => true
 | .ofNat a :: r, b :: s => Nat.beq a b && eqI1 r s
 | _, _ => false
def eqI2 : List (List Int) → List (List Nat) → Bool
 | [], [] => true
 | a :: r, b :: s => eqI1 a b && eqI2 r s
 | _, _ => false
def eqI3 : List (List (List Int)) → List (List (List Nat)) → Bool
 | [], [] => true
 | a :: r, b :: s => eqI2 a b && eqI3 r s
 | _, _ => false
theorem eqI1_eq : ∀ {a : List Int} {b : List Nat}, eqI1 a b = true → a = toI1 b
 | [], [], _ => rfl
 | .ofNat a :: r, b :: s, h => by
  simp only [eqI1, Bool.and_eq_true] at h
  rw [eqI1_eq h.2, Nat.eq_of_beq_eq_true h.1]
  rfl
 | .negSucc _ :: _, _ :: _, h => by simp [eqI1] at h
 | [], _ :: _, h => by simp [eqI1] at h
 | .ofNat _ :: _, [], h => by simp [eqI1] at h
 | .negSucc _ :: _, [], h => by simp [eqI1] at h
theorem eqI2_eq : ∀ {a : List (List Int)} {b : List (List Nat)}, eqI2 a b = true → a = toI2 b
 | [], [], _ => rfl
 | a :: r, b :: s, h => by
  simp only [eqI2, Bool.and_eq_true] at h
  rw [eqI2_eq h.2, eqI1_eq h.1]
  rfl
 | [], _ :: _, h => by simp [eqI2] at h
 | _ :: _, [], h => by simp [eqI2] at h
theorem eqI3_eq : ∀ {a : List (List (List Int))} {b : List (List (List Nat))}, eqI3 a b = true → a = toI3 b
 | [], [], _ => rfl
 | a :: r, b :: s, h => by
  simp only [eqI3, Bool.and_eq_true] at h
  rw [eqI3_eq h.2, eqI2_eq h.1]
  rfl
 | [], _ :: _, h => by simp [eqI3] at h
 | _ :: _, [], h => by simp [eqI3] at h
/-- What a function hands back is this schedule. -/
def isS (o : Option (List (List (List Int)) × Int)) (s : List (List (List Nat))) : Bool := match o with
 | some (t, .ofNat 0) => eqI3 t s
 | _ => false
theorem isS_eq {o : Option (List (List (List Int)) × Int)} {s : List (List (List Nat))} (h : isS o s = true) : o = some (toI3 s, 0) := by
 unfold isS at h
 split at h
 ·rw [eqI3_eq h]; rfl
 ·cases h
def rP (n : Nat) : Bool := isS (ref09_Pairs (Int.ofNat n)) (pairsN n)
theorem rp_1 : allL (fun k => rP (k + 2)) 31 = true := by kernel_rfl
theorem rp_2 : allL (fun k => rP (k + 33)) 16 = true := by kernel_rfl
theorem rp_3 : allL (fun k => rP (k + 49)) 16 = true := by kernel_rfl
theorem rpairs_eq {n : Nat} (h2 : 2 ≤ n) (h : n ≤ 64) : ref09_Pairs n = some (toI3 (pairsN n), 0) := by
 refine isS_eq (o := ref09_Pairs (Int.ofNat n)) ?_
 show rP n = true
 by_cases h1 : n < 33
 ·have := allL_at rp_1 (n - 2) (by omega)
  simpa [show n - 2 + 2 = n by omega] using this
 ·by_cases h3 : n < 49
  ·have := allL_at rp_2 (n - 33) (by omega)
   simpa [show n - 33 + 33 = n by omega] using this
  ·have := allL_at rp_3 (n - 49) (by omega)
   simpa [show n - 49 + 49 = n by omega] using this
end Go.Proofs.YtcmgmkepodbpkaaDoor
