/- The reference's Wrap of 32 bits. No condition. -/
import Derived.Test.YteefpemaeecicaaGreatDoorEwSeat
import Derived.Test.YteefpemaeecicaaGreatDoorEwWrap
import Derived.WalkKit
import Derived.IntWalk
import Derived.WalkLawsBesides
open Go Go.RowKit Go.Proofs Go.IntWalk
namespace Go.Proofs.YteefpemaeecicaaGreatDoor.Ev
set_option linter.unusedVariables false
theorem one_block (w : World) (o : Obj) : Below w.heap.size w (w.alloc o) := (Below.refl _ _).alloc (Nat.le_refl _) _

theorem and_low32 (n : Int) : bits .and .i64 n 4294967295 = n % 4294967296 := by
  have e1 : (BitVec.ofInt 64 n &&& BitVec.ofInt 64 4294967295).toNat = (n % 4294967296).toNat := by
    rw [BitVec.toNat_and, BitVec.toNat_ofInt, BitVec.toNat_ofInt]
    have e3 : ((4294967295 : Int) % ((2 ^ 64 : Nat) : Int)).toNat = 2 ^ 32 - 1 := by decide
    rw [e3, Nat.and_two_pow_sub_one_eq_mod]
    have : ((2 ^ 64 : Nat) : Int) = 18446744073709551616 := by decide
    rw [this]
    have : (2 : Nat) ^ 32 = 4294967296 := by decide
    rw [this]
    omega
  show IntKind.i64.wrap ((BitVec.ofInt 64 n &&& BitVec.ofInt 64 4294967295).toNat : Int) = n % 4294967296
  rw [e1]
  simp [IntKind.wrap, IntKind.bits, IntKind.signed]
  omega
theorem refwrap_32 (n : Int) : (if bits .and .i64 n 4294967295 < 2147483648 then bits .and .i64 n 4294967295 else bits .and .i64 n 4294967295 - 4294967296) = IntKind.i32.wrap n ∧ 0 ≤ bits .and .i64 n 4294967295 ∧ bits .and .i64 n 4294967295 < 4294967296 := by
  have e := and_low32 n
  rw [e]
  refine ⟨?_, by omega, by omega⟩
  simp [IntKind.wrap, IntKind.bits, IntKind.signed]
  split <;> omega
theorem refwrap_calls (n : Int) (w : World) : Calls Tryz.prog 19 #[.int .i64 1, .int .i64 n] w fun e w' => e = .returned (.agg #[.int .i64 1, .int .i64 (IntKind.i32.wrap n)]) ∧ Below w.heap.size w w' := by
  obtain ⟨h1, h2, h3⟩ := refwrap_32 n
  rw [← h1]
  obtain ⟨x, hx⟩ : ∃ x, x = bits .and .i64 n 4294967295 := ⟨_, rfl⟩
  rw [← hx] at h2 h3 ⊢
  have hand := hx.symm
  clear hx h1
  by_cases hc : x < 2147483648
  · rw [if_pos hc]
    have hd : decide (2147483648 ≤ x) = false := decide_eq_false (by omega)
    go_enter Tryz.func19, Tryz.ntmps19
    go_wp2
    exact bodyPost_ret (v := .agg #[.int .i64 1, .int .i64 x]) (by simp [results, Tryz.results19, go_sem]) rfl ⟨rfl, one_block _ _⟩
  · rw [if_neg hc]
    have hd : decide (2147483648 ≤ x) = true := decide_eq_true (by omega)
    go_enter Tryz.func19, Tryz.ntmps19
    go_wp2
    exact bodyPost_ret (v := .agg #[.int .i64 1, .int .i64 (x - 4294967296)]) (by simp [results, Tryz.results19, go_sem]) rfl ⟨rfl, one_block _ _⟩
theorem refwrapF_ok [Rho] : FcOk Tryz.prog 19 wrapF := wrapF_ok ⟨Tryz.f19, Tryz.func19, by kernel_rfl, by decide⟩ refwrap_calls
end Go.Proofs.YteefpemaeecicaaGreatDoor.Ev
