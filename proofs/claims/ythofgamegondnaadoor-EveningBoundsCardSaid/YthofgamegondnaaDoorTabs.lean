/- A world for the witnesses of this seat's rows: the tables hold what they are laid with. -/
import Derived.Test.YthofgamegondnaaDoorCards
import Derived.Test.YthofgamegondnaaDoorTie
import Derived.Test.YthofgamegondnaaDoorPost
import Derived.WalkKit
import Derived.ProofKit
import Derived.OpenShut
import Derived.Deep.DeepHandedRow
import Derived.Lib.LaidTab
namespace Go.Proofs.YthofgamegondnaaDoor
open Go.ChangeShapes Go.WideShapes Go.ChangeAt Go.RowKit
def cellsOfData {H : Type} : DataW H → Array Value
  | .agg xs => (xs.map fun
    | .lit (.int k n) => Value.int k n
    | _ => .bool false).toArray
  | _ => #[]
def putCells (vs : Array Value) : Obj → Obj
  | .cells _ t frozen => .cells vs t frozen
  | o => o
noncomputable def laidWorld (os : Os) : World :=
  { World.holding Tryd.prog os ⟨#[], #[], []⟩ with heap := (((World.holding Tryd.prog os ⟨#[], #[], []⟩).heap.modify 0 (putCells (cellsOfData (Rows.laid_internal_strconv_uint64pow10 (H := Unit))))).modify 1 (putCells (cellsOfData (Rows.laid_math_bits_deBruijn32tab (H := Unit))))).modify 2 (putCells (cellsOfData (Rows.laid_math_bits_deBruijn64tab (H := Unit)))) }
theorem ownKnob0 : ownKnob Tryd.prog.godebug = none := by kernel_rfl
theorem laidOut : laidOutB Tryd.prog = true := by kernel_rfl
theorem mem_of_laid {x : TypeId} {l : List TypeId} (p : TypeId → Bool) (h : l.all p = true) (hx : x ∈ l) : p x = true := List.all_eq_true.1 h x hx
end Go.Proofs.YthofgamegondnaaDoor
