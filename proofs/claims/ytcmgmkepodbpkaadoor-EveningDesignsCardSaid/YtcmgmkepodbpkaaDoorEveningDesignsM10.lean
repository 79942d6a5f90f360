/- Lemmas for the proof. -/
import Derived.Test.YtcmgmkepodbpkaaDoorEveningDesignsM1
import Derived.Test.YtcmgmkepodbpkaaDoorEveningDesignsM2
import Derived.Test.YtcmgmkepodbpkaaDoorEveningDesignsM3
import Derived.Test.YtcmgmkepodbpkaaDoorEveningDesignsM4
import Derived.Test.YtcmgmkepodbpkaaDoorEveningDesignsM5
import Derived.Test.YtcmgmkepodbpkaaDoorEveningDesignsM6
import Derived.Test.YtcmgmkepodbpkaaDoorEveningDesignsM7
import Derived.Test.YtcmgmkepodbpkaaDoorEveningDesignsM8
import Derived.Test.YtcmgmkepodbpkaaDoorEveningDesignsM9
namespace Go.Proofs.YtcmgmkepodbpkaaDoor
open Go.RowKit
def rN (k q : Nat) : Bool := isS (ref09_Net (Int.ofNat k) (Int.ofNat q)) (ntN k q)
theorem rn_all : (fldN.all fun q => allL (fun k => rN (k + 1) q) (min q (64 / q))) = true := by kernel_rfl
theorem rnet_in {k q : Nat} (hq : q ∈ fldN) (hk1 : 1 ≤ k) (hk : k ≤ q) (h64 : k * q ≤ 64) : ref09_Net k q = some (toI3 (ntN k q), 0) := by
 refine isS_eq (o := ref09_Net (Int.ofNat k) (Int.ofNat q)) ?_
 show rN k q = true
 have h1 := List.all_eq_true.1 rn_all q hq
 have hq0 : 0 < q := by omega
 have h2 : k ≤ 64 / q := (Nat.le_div_iff_mul_le hq0).2 h64
 have := allL_at h1 (k - 1) (by omega)
 simpa [show k - 1 + 1 = k by omega] using this
end Go.Proofs.YtcmgmkepodbpkaaDoor
