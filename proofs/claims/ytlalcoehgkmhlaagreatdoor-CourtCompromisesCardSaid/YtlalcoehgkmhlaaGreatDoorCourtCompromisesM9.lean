/- Lemmas for the proof. -/
import Derived.Test.YtlalcoehgkmhlaaGreatDoorCourtCompromisesM1
import Derived.Test.YtlalcoehgkmhlaaGreatDoorCourtCompromisesM2
import Derived.Test.YtlalcoehgkmhlaaGreatDoorCourtCompromisesM3
import Derived.Test.YtlalcoehgkmhlaaGreatDoorCourtCompromisesM4
import Derived.Test.YtlalcoehgkmhlaaGreatDoorCourtCompromisesM5
import Derived.Test.YtlalcoehgkmhlaaGreatDoorCourtCompromisesM6
import Derived.Test.YtlalcoehgkmhlaaGreatDoorCourtCompromisesM7
import Derived.Test.YtlalcoehgkmhlaaGreatDoorCourtCompromisesM8
namespace Go.Proofs.YtlalcoehgkmhlaaGreatDoor
open Go.RowKit
/-- All orders, in lexicographic order. -/
def G8:Nat->List Int->List (List Int)
 | 0,_=>[[]]
 | k + 1,l=>l.flatMap fun x=>(G8 k (l.erase x)).map (x::·)
/-- Each one's next. -/
def MJ:List (List Int)->Bool
 | []=>true
 | [p]=>II p==some (false,p)
 | p::q::r=>(II p==some (true,q))&&MJ (q::r)
theorem AA7:MJ (G8 0 [])=true:=by kernel_rfl
theorem AA8:MJ (G8 1 [0])=true:=by kernel_rfl
theorem AA9:MJ (G8 2 [0,1])=true:=by kernel_rfl
theorem ABA:MJ (G8 3 [0,1,2])=true:=by kernel_rfl
theorem ABB:MJ (G8 4 [0,1,2,3])=true:=by kernel_rfl
theorem ABC:MJ (G8 5 [0,1,2,3,4])=true:=by kernel_rfl
theorem ABE:MJ (G8 7 [0,1,2,3,4,5,6])=true:=by kernel_rfl
theorem ABD:MJ (G8 6 [0,1,2,3,4,5])=true:=by kernel_rfl
end Go.Proofs.YtlalcoehgkmhlaaGreatDoor
