/- The program's small: from nought to k - 1. No condition. -/
import Derived.Test.YteefpemaeecicaaGreatDoorExSeat
import Derived.WalkKit
import Derived.IntWalk
import Derived.WalkLawsBesides
open Go Go.RowKit Go.Proofs Go.IntWalk
namespace Go.Proofs.YteefpemaeecicaaGreatDoor.Ev
set_option linter.unusedVariables false
theorem small_walk (z : Int) (k : Nat) (w : World) (h0 : 0 < k) (h1 : k ≤ 1000000) :
    Calls Tryz.prog 9 #[.int .i64 z, .int .i64 (k : Int)] w fun e w' => e = .returned (.int .i64 ((z.tmod (k : Int)).natAbs : Int)) ∧ w = w' := by
  obtain ⟨K, hK⟩ : ∃ K : Int, (k : Int) = K := ⟨_, rfl⟩
  rw [hK]
  have hz : K ≠ 0 := by omega
  have hzb : (K == 0) = false := beq_eq_false_iff_ne.2 hz
  have b1 := Int.lt_tmod_of_pos z (show (0 : Int) < K by omega)
  have b2 := Int.tmod_lt_of_pos z (show (0 : Int) < K by omega)
  obtain ⟨r, hr⟩ : ∃ r, z.tmod K = r := ⟨_, rfl⟩
  rcases Int.lt_or_le r 0 with hn | hn
  · have e1 : wrap64 (-r) = -r := wrap64_in _ (by omega)
    have e3 : IntKind.i64.wrap (-r) = -r := wrap_small _ (by omega) (by omega)
    have e2 : ((r.natAbs : Nat) : Int) = -r := by omega
    rw [hr, e2]
    go_enter Tryz.func9, Tryz.ntmps9
    go_wp2
    go_ret
    exact ⟨rfl, rfl⟩
  · have e2 : ((r.natAbs : Nat) : Int) = r := by omega
    rw [hr, e2]
    go_enter Tryz.func9, Tryz.ntmps9
    go_wp2
    go_ret
    exact ⟨rfl, rfl⟩
end Go.Proofs.YteefpemaeecicaaGreatDoor.Ev
