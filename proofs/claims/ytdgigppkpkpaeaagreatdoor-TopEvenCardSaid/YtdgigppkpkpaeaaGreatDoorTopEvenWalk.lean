/- The walk of TopEven: true for every number. No condition. -/
import Derived.Test.YtdgigppkpkpaeaaGreatDoorEvTopEvenR0
import Derived.Test.YtdgigppkpkpaeaaGreatDoorEvTopEvenR1
import Derived.Test.YtdgigppkpkpaeaaGreatDoorEvTopEvenR2
import Derived.Test.YtdgigppkpkpaeaaGreatDoorEvTopEvenR3
open Go Go.RowKit Go.Proofs
namespace Go.Proofs.YtdgigppkpkpaeaaGreatDoor
open Ev
set_option linter.unusedVariables false
set_option linter.unusedSimpArgs false
set_option linter.constructorNameAsVariable false
theorem topEven_walk (n : Int) (w : World) : Calls Tryz.prog 4 #[.int .i64 n] w (fun e w' => e = .returned (.bool true) ∧ Below w.heap.size w w') := by
  refine law_calls (k := 40) LT_ok (fun r hr => ?_) (by omega) n w
  have h : [AV.x 40 r] ∈ lsTopEven0 ∨ [AV.x 40 r] ∈ lsTopEven1 ∨ [AV.x 40 r] ∈ lsTopEven2 ∨ [AV.x 40 r] ∈ lsTopEven3 := by
    match r, hr with
    | 0, _ => exact Or.inl (by simp [lsTopEven0])
    | 1, _ => exact Or.inr (Or.inl (by simp [lsTopEven1]))
    | 2, _ => exact Or.inr (Or.inr (Or.inl (by simp [lsTopEven2])))
    | 3, _ => exact Or.inr (Or.inr (Or.inr (by simp [lsTopEven3])))
    | 4, _ => exact Or.inl (by simp [lsTopEven0])
    | 5, _ => exact Or.inr (Or.inl (by simp [lsTopEven1]))
    | 6, _ => exact Or.inr (Or.inr (Or.inl (by simp [lsTopEven2])))
    | 7, _ => exact Or.inr (Or.inr (Or.inr (by simp [lsTopEven3])))
    | 8, _ => exact Or.inl (by simp [lsTopEven0])
    | 9, _ => exact Or.inr (Or.inl (by simp [lsTopEven1]))
    | 10, _ => exact Or.inr (Or.inr (Or.inl (by simp [lsTopEven2])))
    | 11, _ => exact Or.inr (Or.inr (Or.inr (by simp [lsTopEven3])))
    | 12, _ => exact Or.inl (by simp [lsTopEven0])
    | 13, _ => exact Or.inr (Or.inl (by simp [lsTopEven1]))
    | 14, _ => exact Or.inr (Or.inr (Or.inl (by simp [lsTopEven2])))
    | 15, _ => exact Or.inr (Or.inr (Or.inr (by simp [lsTopEven3])))
    | 16, _ => exact Or.inl (by simp [lsTopEven0])
    | 17, _ => exact Or.inr (Or.inl (by simp [lsTopEven1]))
    | 18, _ => exact Or.inr (Or.inr (Or.inl (by simp [lsTopEven2])))
    | 19, _ => exact Or.inr (Or.inr (Or.inr (by simp [lsTopEven3])))
    | 20, _ => exact Or.inl (by simp [lsTopEven0])
    | 21, _ => exact Or.inr (Or.inl (by simp [lsTopEven1]))
    | 22, _ => exact Or.inr (Or.inr (Or.inl (by simp [lsTopEven2])))
    | 23, _ => exact Or.inr (Or.inr (Or.inr (by simp [lsTopEven3])))
    | 24, _ => exact Or.inl (by simp [lsTopEven0])
    | 25, _ => exact Or.inr (Or.inl (by simp [lsTopEven1]))
    | 26, _ => exact Or.inr (Or.inr (Or.inl (by simp [lsTopEven2])))
    | 27, _ => exact Or.inr (Or.inr (Or.inr (by simp [lsTopEven3])))
    | 28, _ => exact Or.inl (by simp [lsTopEven0])
    | 29, _ => exact Or.inr (Or.inl (by simp [lsTopEven1]))
    | 30, _ => exact Or.inr (Or.inr (Or.inl (by simp [lsTopEven2])))
    | 31, _ => exact Or.inr (Or.inr (Or.inr (by simp [lsTopEven3])))
    | 32, _ => exact Or.inl (by simp [lsTopEven0])
    | 33, _ => exact Or.inr (Or.inl (by simp [lsTopEven1]))
    | 34, _ => exact Or.inr (Or.inr (Or.inl (by simp [lsTopEven2])))
    | 35, _ => exact Or.inr (Or.inr (Or.inr (by simp [lsTopEven3])))
    | 36, _ => exact Or.inl (by simp [lsTopEven0])
    | 37, _ => exact Or.inr (Or.inl (by simp [lsTopEven1]))
    | 38, _ => exact Or.inr (Or.inr (Or.inl (by simp [lsTopEven2])))
    | 39, _ => exact Or.inr (Or.inr (Or.inr (by simp [lsTopEven3])))
    | n + 40, h => omega
  rcases h with h | h | h | h
  · exact ⟨_, runTopEven0, h⟩
  · exact ⟨_, runTopEven1, h⟩
  · exact ⟨_, runTopEven2, h⟩
  · exact ⟨_, runTopEven3, h⟩
end Go.Proofs.YtdgigppkpkpaeaaGreatDoor
