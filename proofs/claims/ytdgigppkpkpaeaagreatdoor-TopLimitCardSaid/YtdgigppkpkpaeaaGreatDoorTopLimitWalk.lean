/- The walk of TopLimit: true for every number. No condition. -/
import Derived.Test.YtdgigppkpkpaeaaGreatDoorEvTopLimitR0
open Go Go.RowKit Go.Proofs
namespace Go.Proofs.YtdgigppkpkpaeaaGreatDoor
open Ev
set_option linter.unusedVariables false
set_option linter.unusedSimpArgs false
set_option linter.constructorNameAsVariable false
theorem topLimit_walk (n : Int) (w : World) : Calls Tryz.prog 6 #[.int .i64 n] w (fun e w' => e = .returned (.bool true) ∧ Below w.heap.size w w') := by
  refine law_calls (k := 5) LT_ok (fun r hr => ?_) (by omega) n w
  have h : [AV.x 5 r] ∈ lsTopLimit0 := by
    match r, hr with
    | 0, _ => exact by simp [lsTopLimit0]
    | 1, _ => exact by simp [lsTopLimit0]
    | 2, _ => exact by simp [lsTopLimit0]
    | 3, _ => exact by simp [lsTopLimit0]
    | 4, _ => exact by simp [lsTopLimit0]
    | n + 5, h => omega
  exact ⟨_, runTopLimit0, h⟩
end Go.Proofs.YtdgigppkpkpaeaaGreatDoor
