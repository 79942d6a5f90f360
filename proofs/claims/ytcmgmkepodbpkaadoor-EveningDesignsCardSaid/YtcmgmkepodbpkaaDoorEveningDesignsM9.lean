/- Lemmas for the proof. -/
import Derived.Test.YtcmgmkepodbpkaaDoorEveningDesignsM1
import Derived.Test.YtcmgmkepodbpkaaDoorEveningDesignsM2
import Derived.Test.YtcmgmkepodbpkaaDoorEveningDesignsM3
import Derived.Test.YtcmgmkepodbpkaaDoorEveningDesignsM4
import Derived.Test.YtcmgmkepodbpkaaDoorEveningDesignsM5
import Derived.Test.YtcmgmkepodbpkaaDoorEveningDesignsM6
import Derived.Test.YtcmgmkepodbpkaaDoorEveningDesignsM7
import Derived.Test.YtcmgmkepodbpkaaDoorEveningDesignsM8
namespace Go.Proofs.YtcmgmkepodbpkaaDoor
open Go.RowKit
def rR (n : Nat) : Bool := isS (ref09_Rings (Int.ofNat n)) (ringsN n)
theorem rr_1 : allL (fun k => rR (2 * k + 3)) 16 = true := by kernel_rfl
theorem rr_2 : allL (fun k => rR (2 * k + 35)) 8 = true := by kernel_rfl
theorem rr_3 : allL (fun k => rR (2 * k + 51)) 7 = true := by kernel_rfl
theorem rrings_eq {n : Nat} (h3 : 3 ≤ n) (h : n ≤ 64) (ho : n % 2 = 1) : ref09_Rings n = some (toI3 (ringsN n), 0) := by
 refine isS_eq (o := ref09_Rings (Int.ofNat n)) ?_
 show rR n = true
 by_cases h1 : n < 35
 ·have := allL_at rr_1 ((n - 3) / 2) (by omega)
  simpa [show 2 * ((n - 3) / 2) + 3 = n by omega] using this
 ·by_cases h2 : n < 51
  ·have := allL_at rr_2 ((n - 35) / 2) (by omega)
   simpa [show 2 * ((n - 35) / 2) + 35 = n by omega] using this
  ·have := allL_at rr_3 ((n - 51) / 2) (by omega)
   simpa [show 2 * ((n - 51) / 2) + 51 = n by omega] using this
end Go.Proofs.YtcmgmkepodbpkaaDoor
