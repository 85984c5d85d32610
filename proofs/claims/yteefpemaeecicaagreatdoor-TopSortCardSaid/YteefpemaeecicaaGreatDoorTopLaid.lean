/- A world that meets the rows' condition: the one listed table is laid. No condition. -/
import Derived.Test.YteefpemaeecicaaGreatDoorRows
import Derived.Lib.LaidTab
import Derived.Lib.TrailingZeros
import Derived.ProofKit
namespace Go.Proofs.YteefpemaeecicaaGreatDoor
open Go.ChangeShapes Go.WideShapes Go.ChangeAt Go.RowKit
def tabZ : List Int := Lib.deBruijn64tab.map fun (n : Nat) => (n : Int)
/-- A world that meets the condition: the settled one, the table laid. -/
noncomputable def laidWorld (os : Os) : World :=
  { World.holding Tryz.prog os ⟨#[], #[], []⟩ with heap := (World.holding Tryz.prog os ⟨#[], #[], []⟩).heap.modify 0 fun
      | .cells _ t frozen => .cells (tabZ.map fun z => Value.int .u8 z).toArray t frozen
      | o => o }
theorem laid_met (os : Os) (args : Array Value) : laidMet Tryz.prog [("math/bits.deBruijn64tab", Rows.laid_math_bits_deBruijn64tab)] ((laidWorld os).forCall (fun _ _ => 0) ⟨#[], args, []⟩).memory :=
  laidMet_of_run' 8 (by kernel_rfl) (by kernel_rfl)
end Go.Proofs.YteefpemaeecicaaGreatDoor
