/- The table that the rows list: what the condition gives a walk; a world that meets the condition. -/
import Derived.Test.YtdcpbjpghgbbiaaDoorRows
import Derived.Test.YtdcpbjpghgbbiaaDoorQuietT
import Derived.Lib.LaidTab
import Derived.Lib.TrailingZeros
import Derived.Shelf.Spec.TrailingZeros
import Derived.ProofKit
namespace Go.Proofs.YtdcpbjpghgbbiaaDoor
open Go.ChangeShapes Go.WideShapes Go.ChangeAt Go.RowKit Go.Shelf

def tabZ : List Int := Lib.deBruijn64tab.map fun (n : Nat) => (n : Int)
theorem tab_data : Rows.laid_math_bits_deBruijn64tab (H := Unit) = Lib.tabData .u8 tabZ := by kernel_rfl
theorem tab_g : Tryd.prog.globalNamed "math/bits.deBruijn64tab" = some 0 := by kernel_rfl
theorem tab_type : (Tryd.prog.globals[0]?).map (·.type) = some 60 := by kernel_rfl
theorem tab_cells5 : Tryd.prog.cellsOf 5 = 1 := by kernel_rfl
theorem tab_cells60 : Tryd.prog.cellsOf 60 = 64 := by kernel_rfl

theorem tab_at {W : World} (h : laidMet Tryd.prog [("math/bits.deBruijn64tab", Rows.laid_math_bits_deBruijn64tab)] W) : TabAt 0 Lib.deBruijn64tab W := by
  rw [tab_data] at h
  have hT := Lib.tabIs_of_head tab_g tab_type Tryd.underlying60 Tryd.underlying5 tab_cells5 tab_cells60 h
  intro j hj
  have := hT.cell tab_g j (by simpa [tabZ] using hj)
  rw [this]
  simp [tabZ, List.getElem?_eq_getElem hj]

/-- A world that meets the condition: the settled one, the table laid. -/
noncomputable def laidWorld (os : Os) : World :=
  { World.holding Tryd.prog os ⟨#[], #[], []⟩ with heap := (World.holding Tryd.prog os ⟨#[], #[], []⟩).heap.modify 0 fun
      | .cells _ t frozen => .cells (tabZ.map fun z => Value.int .u8 z).toArray t frozen
      | o => o }
theorem laid_met (os : Os) (args : Array Value) : laidMet Tryd.prog [("math/bits.deBruijn64tab", Rows.laid_math_bits_deBruijn64tab)] ((laidWorld os).forCall (fun _ _ => 0) ⟨#[], args, []⟩).memory :=
  laidMet_of_run' 8 (by kernel_rfl) (by kernel_rfl)

end Go.Proofs.YtdcpbjpghgbbiaaDoor
