/- The walk of TopCollatz: true for every number. No condition. -/
import Derived.Test.YtdgigppkpkpaeaaGreatDoorEvTopCollatzR0
import Derived.Test.YtdgigppkpkpaeaaGreatDoorEvTopCollatzR1
import Derived.Test.YtdgigppkpkpaeaaGreatDoorEvTopCollatzR2
import Derived.Test.YtdgigppkpkpaeaaGreatDoorEvTopCollatzR3
import Derived.Test.YtdgigppkpkpaeaaGreatDoorEvTopCollatzR4
import Derived.Test.YtdgigppkpkpaeaaGreatDoorEvTopCollatzR5
import Derived.Test.YtdgigppkpkpaeaaGreatDoorEvTopCollatzR6
import Derived.Test.YtdgigppkpkpaeaaGreatDoorEvTopCollatzR7
import Derived.Test.YtdgigppkpkpaeaaGreatDoorEvTopCollatzR8
import Derived.Test.YtdgigppkpkpaeaaGreatDoorEvTopCollatzR9
import Derived.Test.YtdgigppkpkpaeaaGreatDoorEvTopCollatzR10
import Derived.Test.YtdgigppkpkpaeaaGreatDoorEvTopCollatzR11
open Go Go.RowKit Go.Proofs
namespace Go.Proofs.YtdgigppkpkpaeaaGreatDoor
open Ev
set_option linter.unusedVariables false
set_option linter.unusedSimpArgs false
set_option linter.constructorNameAsVariable false
theorem topCollatz_walk (n : Int) (w : World) : Calls Tryz.prog 3 #[.int .i64 n] w (fun e w' => e = .returned (.bool true) ∧ Below w.heap.size w w') := by
  refine law_calls (k := 60) LT_ok (fun r hr => ?_) (by omega) n w
  have h : [AV.x 60 r] ∈ lsTopCollatz0 ∨ [AV.x 60 r] ∈ lsTopCollatz1 ∨ [AV.x 60 r] ∈ lsTopCollatz2 ∨ [AV.x 60 r] ∈ lsTopCollatz3 ∨ [AV.x 60 r] ∈ lsTopCollatz4 ∨ [AV.x 60 r] ∈ lsTopCollatz5 ∨ [AV.x 60 r] ∈ lsTopCollatz6 ∨ [AV.x 60 r] ∈ lsTopCollatz7 ∨ [AV.x 60 r] ∈ lsTopCollatz8 ∨ [AV.x 60 r] ∈ lsTopCollatz9 ∨ [AV.x 60 r] ∈ lsTopCollatz10 ∨ [AV.x 60 r] ∈ lsTopCollatz11 := by
    match r, hr with
    | 0, _ => exact Or.inr (Or.inr (Or.inr (Or.inr (Or.inr (Or.inr (Or.inl (by simp [lsTopCollatz6])))))))
    | 1, _ => exact Or.inl (by simp [lsTopCollatz0])
    | 2, _ => exact Or.inr (Or.inr (Or.inr (Or.inr (Or.inr (Or.inr (Or.inr (Or.inr (Or.inr (Or.inr (Or.inl (by simp [lsTopCollatz10])))))))))))
    | 3, _ => exact Or.inr (Or.inr (Or.inr (Or.inr (Or.inr (Or.inr (Or.inr (Or.inr (Or.inr (Or.inr (Or.inr (by simp [lsTopCollatz11])))))))))))
    | 4, _ => exact Or.inr (Or.inr (Or.inr (Or.inr (Or.inr (Or.inr (Or.inr (Or.inl (by simp [lsTopCollatz7]))))))))
    | 5, _ => exact Or.inr (Or.inr (Or.inr (Or.inr (Or.inr (Or.inl (by simp [lsTopCollatz5]))))))
    | 6, _ => exact Or.inr (Or.inr (Or.inr (Or.inr (Or.inr (Or.inr (Or.inr (Or.inl (by simp [lsTopCollatz7]))))))))
    | 7, _ => exact Or.inr (Or.inr (Or.inr (Or.inr (Or.inr (Or.inr (Or.inr (Or.inr (Or.inr (Or.inl (by simp [lsTopCollatz9]))))))))))
    | 8, _ => exact Or.inr (Or.inr (Or.inr (Or.inr (Or.inr (Or.inr (Or.inl (by simp [lsTopCollatz6])))))))
    | 9, _ => exact Or.inr (Or.inl (by simp [lsTopCollatz1]))
    | 10, _ => exact Or.inr (Or.inr (Or.inr (Or.inr (Or.inr (Or.inr (Or.inl (by simp [lsTopCollatz6])))))))
    | 11, _ => exact Or.inr (Or.inr (Or.inr (Or.inr (Or.inr (Or.inr (Or.inr (Or.inr (Or.inr (Or.inl (by simp [lsTopCollatz9]))))))))))
    | 12, _ => exact Or.inr (Or.inr (Or.inr (Or.inr (Or.inr (Or.inr (Or.inr (Or.inr (Or.inl (by simp [lsTopCollatz8])))))))))
    | 13, _ => exact Or.inr (Or.inr (Or.inr (Or.inr (Or.inr (Or.inr (Or.inr (Or.inr (Or.inl (by simp [lsTopCollatz8])))))))))
    | 14, _ => exact Or.inr (Or.inr (Or.inr (Or.inr (Or.inr (Or.inr (Or.inr (Or.inl (by simp [lsTopCollatz7]))))))))
    | 15, _ => exact Or.inr (Or.inr (Or.inr (Or.inr (Or.inr (Or.inr (Or.inr (Or.inr (Or.inl (by simp [lsTopCollatz8])))))))))
    | 16, _ => exact Or.inr (Or.inr (Or.inr (Or.inl (by simp [lsTopCollatz3]))))
    | 17, _ => exact Or.inr (Or.inr (Or.inr (Or.inr (Or.inr (Or.inr (Or.inr (Or.inr (Or.inr (Or.inr (Or.inl (by simp [lsTopCollatz10])))))))))))
    | 18, _ => exact Or.inr (Or.inr (Or.inr (Or.inr (Or.inr (Or.inr (Or.inr (Or.inr (Or.inr (Or.inr (Or.inr (by simp [lsTopCollatz11])))))))))))
    | 19, _ => exact Or.inr (Or.inr (Or.inr (Or.inl (by simp [lsTopCollatz3]))))
    | 20, _ => exact Or.inr (Or.inr (Or.inr (Or.inr (Or.inl (by simp [lsTopCollatz4])))))
    | 21, _ => exact Or.inr (Or.inr (Or.inr (Or.inr (Or.inr (Or.inr (Or.inr (Or.inr (Or.inr (Or.inl (by simp [lsTopCollatz9]))))))))))
    | 22, _ => exact Or.inr (Or.inr (Or.inr (Or.inr (Or.inr (Or.inr (Or.inr (Or.inr (Or.inl (by simp [lsTopCollatz8])))))))))
    | 23, _ => exact Or.inr (Or.inr (Or.inr (Or.inr (Or.inr (Or.inr (Or.inl (by simp [lsTopCollatz6])))))))
    | 24, _ => exact Or.inr (Or.inr (Or.inr (Or.inr (Or.inr (Or.inr (Or.inr (Or.inr (Or.inr (Or.inl (by simp [lsTopCollatz9]))))))))))
    | 25, _ => exact Or.inr (Or.inl (by simp [lsTopCollatz1]))
    | 26, _ => exact Or.inr (Or.inr (Or.inl (by simp [lsTopCollatz2])))
    | 27, _ => exact Or.inr (Or.inr (Or.inr (Or.inr (Or.inr (Or.inr (Or.inr (Or.inr (Or.inr (Or.inl (by simp [lsTopCollatz9]))))))))))
    | 28, _ => exact Or.inr (Or.inr (Or.inr (Or.inr (Or.inr (Or.inr (Or.inr (Or.inr (Or.inr (Or.inr (Or.inl (by simp [lsTopCollatz10])))))))))))
    | 29, _ => exact Or.inr (Or.inr (Or.inr (Or.inr (Or.inr (Or.inr (Or.inr (Or.inr (Or.inr (Or.inr (Or.inr (by simp [lsTopCollatz11])))))))))))
    | 30, _ => exact Or.inr (Or.inr (Or.inr (Or.inr (Or.inl (by simp [lsTopCollatz4])))))
    | 31, _ => exact Or.inr (Or.inr (Or.inl (by simp [lsTopCollatz2])))
    | 32, _ => exact Or.inr (Or.inr (Or.inr (Or.inr (Or.inr (Or.inr (Or.inr (Or.inr (Or.inr (Or.inr (Or.inl (by simp [lsTopCollatz10])))))))))))
    | 33, _ => exact Or.inr (Or.inr (Or.inr (Or.inr (Or.inl (by simp [lsTopCollatz4])))))
    | 34, _ => exact Or.inr (Or.inr (Or.inr (Or.inr (Or.inr (Or.inl (by simp [lsTopCollatz5]))))))
    | 35, _ => exact Or.inr (Or.inr (Or.inr (Or.inr (Or.inr (Or.inr (Or.inl (by simp [lsTopCollatz6])))))))
    | 36, _ => exact Or.inr (Or.inr (Or.inr (Or.inr (Or.inr (Or.inr (Or.inr (Or.inr (Or.inl (by simp [lsTopCollatz8])))))))))
    | 37, _ => exact Or.inr (Or.inr (Or.inr (Or.inr (Or.inr (Or.inr (Or.inr (Or.inl (by simp [lsTopCollatz7]))))))))
    | 38, _ => exact Or.inr (Or.inr (Or.inr (Or.inr (Or.inr (Or.inr (Or.inl (by simp [lsTopCollatz6])))))))
    | 39, _ => exact Or.inr (Or.inr (Or.inr (Or.inr (Or.inr (Or.inr (Or.inr (Or.inl (by simp [lsTopCollatz7]))))))))
    | 40, _ => exact Or.inr (Or.inr (Or.inr (Or.inl (by simp [lsTopCollatz3]))))
    | 41, _ => exact Or.inr (Or.inr (Or.inr (Or.inr (Or.inr (Or.inr (Or.inr (Or.inr (Or.inr (Or.inr (Or.inl (by simp [lsTopCollatz10])))))))))))
    | 42, _ => exact Or.inr (Or.inr (Or.inr (Or.inr (Or.inr (Or.inr (Or.inr (Or.inr (Or.inr (Or.inl (by simp [lsTopCollatz9]))))))))))
    | 43, _ => exact Or.inr (Or.inr (Or.inr (Or.inr (Or.inr (Or.inr (Or.inr (Or.inr (Or.inr (Or.inr (Or.inl (by simp [lsTopCollatz10])))))))))))
    | 44, _ => exact Or.inr (Or.inr (Or.inr (Or.inr (Or.inr (Or.inr (Or.inr (Or.inr (Or.inr (Or.inr (Or.inr (by simp [lsTopCollatz11])))))))))))
    | 45, _ => exact Or.inr (Or.inr (Or.inr (Or.inr (Or.inr (Or.inr (Or.inl (by simp [lsTopCollatz6])))))))
    | 46, _ => exact Or.inr (Or.inr (Or.inr (Or.inr (Or.inr (Or.inl (by simp [lsTopCollatz5]))))))
    | 47, _ => exact Or.inl (by simp [lsTopCollatz0])
    | 48, _ => exact Or.inr (Or.inr (Or.inr (Or.inr (Or.inr (Or.inr (Or.inr (Or.inr (Or.inr (Or.inr (Or.inl (by simp [lsTopCollatz10])))))))))))
    | 49, _ => exact Or.inr (Or.inr (Or.inr (Or.inr (Or.inr (Or.inr (Or.inr (Or.inr (Or.inr (Or.inr (Or.inr (by simp [lsTopCollatz11])))))))))))
    | 50, _ => exact Or.inr (Or.inr (Or.inr (Or.inr (Or.inr (Or.inr (Or.inr (Or.inr (Or.inr (Or.inr (Or.inr (by simp [lsTopCollatz11])))))))))))
    | 51, _ => exact Or.inr (Or.inr (Or.inr (Or.inr (Or.inr (Or.inr (Or.inr (Or.inr (Or.inr (Or.inr (Or.inr (by simp [lsTopCollatz11])))))))))))
    | 52, _ => exact Or.inr (Or.inr (Or.inl (by simp [lsTopCollatz2])))
    | 53, _ => exact Or.inr (Or.inl (by simp [lsTopCollatz1]))
    | 54, _ => exact Or.inl (by simp [lsTopCollatz0])
    | 55, _ => exact Or.inr (Or.inr (Or.inr (Or.inr (Or.inr (Or.inr (Or.inr (Or.inr (Or.inl (by simp [lsTopCollatz8])))))))))
    | 56, _ => exact Or.inr (Or.inr (Or.inr (Or.inr (Or.inr (Or.inr (Or.inr (Or.inr (Or.inl (by simp [lsTopCollatz8])))))))))
    | 57, _ => exact Or.inr (Or.inr (Or.inr (Or.inr (Or.inr (Or.inr (Or.inr (Or.inl (by simp [lsTopCollatz7]))))))))
    | 58, _ => exact Or.inr (Or.inr (Or.inr (Or.inr (Or.inr (Or.inr (Or.inr (Or.inl (by simp [lsTopCollatz7]))))))))
    | 59, _ => exact Or.inr (Or.inr (Or.inr (Or.inr (Or.inr (Or.inr (Or.inr (Or.inr (Or.inr (Or.inl (by simp [lsTopCollatz9]))))))))))
    | n + 60, h => omega
  rcases h with h | h | h | h | h | h | h | h | h | h | h | h
  · exact ⟨_, runTopCollatz0, h⟩
  · exact ⟨_, runTopCollatz1, h⟩
  · exact ⟨_, runTopCollatz2, h⟩
  · exact ⟨_, runTopCollatz3, h⟩
  · exact ⟨_, runTopCollatz4, h⟩
  · exact ⟨_, runTopCollatz5, h⟩
  · exact ⟨_, runTopCollatz6, h⟩
  · exact ⟨_, runTopCollatz7, h⟩
  · exact ⟨_, runTopCollatz8, h⟩
  · exact ⟨_, runTopCollatz9, h⟩
  · exact ⟨_, runTopCollatz10, h⟩
  · exact ⟨_, runTopCollatz11, h⟩
end Go.Proofs.YtdgigppkpkpaeaaGreatDoor
