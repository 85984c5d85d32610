/- The walk of TopSort: true for any bytes. No condition. -/
import Derived.Test.YteefpemaeecicaaGreatDoorExSoW
open Go Go.RowKit Go.Proofs Go.IntWalk
open Go.Proofs.YteefpemaeecicaaGreatDoor
namespace Go.Proofs.YteefpemaeecicaaGreatDoor
open Ev
set_option linter.unusedVariables false
theorem topSort_walk (a0 : Option Addr) (len0 cap0 : Nat) (z0 : List Int) (w : World) (w0 : IsRow .u8 w a0 len0 cap0 z0) : Calls Tryz.prog 5 #[.slice a0 len0 cap0] w (fun e w' => e = .returned (.bool true) ∧ Below w.heap.size w w') := by
  obtain ⟨l, rfl, h1, h2, h3⟩ := isrow_rd w0
  exact sort_calls a0 l cap0 w h1 h2 h3
end Go.Proofs.YteefpemaeecicaaGreatDoor
