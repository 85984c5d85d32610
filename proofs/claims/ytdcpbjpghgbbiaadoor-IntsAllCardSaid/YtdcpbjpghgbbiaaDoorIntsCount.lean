/- The contract of math/bits.OnesCount64: it counts the ones. No condition but the number's range. -/
import Derived.Test.YtdcpbjpghgbbiaaDoorIntsWalks
import Derived.Test.YtdcpbjpghgbbiaaDoorIntsPop
namespace Go.Proofs.YtdcpbjpghgbbiaaDoor
open Go.RowKit
set_option linter.unusedVariables false
set_option maxHeartbeats 1000000
theorem u64_nat (n : Nat) (h : n < 18446744073709551616) : IntKind.u64.wrap (n : Int) = (n : Int) := by
  simp [IntKind.wrap, IntKind.bits, IntKind.signed]; omega
theorem and_u64 (a b : Nat) (ha : a < 18446744073709551616) (hb : b < 18446744073709551616) : bits .and .u64 (a : Int) (b : Int) = ((a &&& b : Nat) : Int) := by
  have e : (BitVec.ofInt 64 (a : Int) &&& BitVec.ofInt 64 (b : Int)).toNat = a &&& b := by
    rw [BitVec.toNat_and, BitVec.toNat_ofInt, BitVec.toNat_ofInt]
    congr 1 <;> omega
  show IntKind.u64.wrap ((BitVec.ofInt 64 (a : Int) &&& BitVec.ofInt 64 (b : Int)).toNat : Int) = _
  rw [e]
  exact u64_nat _ (Nat.lt_of_le_of_lt Nat.and_le_left ha)
theorem and_i64_low (f : Nat) (hf : f < 18446744073709551616) : bits .and .i64 (wrap64 (f : Int)) 127 = ((f % 128 : Nat) : Int) := by
  have e : (BitVec.ofInt 64 (wrap64 (f : Int)) &&& BitVec.ofInt 64 127).toNat = f % 128 := by
    rw [BitVec.toNat_and, BitVec.toNat_ofInt, BitVec.toNat_ofInt]
    have e1 : (wrap64 (f : Int) % ((2 ^ 64 : Nat) : Int)).toNat = f := by unfold wrap64; omega
    have e2 : ((127 : Int) % ((2 ^ 64 : Nat) : Int)).toNat = 2 ^ 7 - 1 := by decide
    rw [e1, e2, Nat.and_two_pow_sub_one_eq_mod]
  show IntKind.i64.wrap ((BitVec.ofInt 64 (wrap64 (f : Int)) &&& BitVec.ofInt 64 127).toNat : Int) = _
  rw [e]
  simp [IntKind.wrap, IntKind.bits, IntKind.signed]
  omega
theorem s1_lt (x r : Nat) (hx : x < 18446744073709551616) : x / 2 &&& r ≤ x / 2 ∧ x &&& r ≤ x := ⟨Nat.and_le_left, Nat.and_le_left⟩
theorem pop_any (x : Nat) (hx : x < 18446744073709551616) (w : World) :
    Calls Tryd.prog 34 #[.int .u64 x] w fun e w' => e = .returned (.int .i64 (Lib.onesCount x)) ∧ w = w' := by
  obtain ⟨a, ha⟩ : ∃ a, a = s1 x 6148914691236517205 := ⟨_, rfl⟩
  obtain ⟨b, hb⟩ : ∃ b, b = s2 a 3689348814741910323 := ⟨_, rfl⟩
  obtain ⟨c, hc⟩ : ∃ c, c = s3 b 1085102592571150095 := ⟨_, rfl⟩
  obtain ⟨d, hd⟩ : ∃ d, d = c + c / 256 := ⟨_, rfl⟩
  obtain ⟨e, he⟩ : ∃ e, e = d + d / 65536 := ⟨_, rfl⟩
  obtain ⟨f, hf⟩ : ∃ f, f = e + e / 4294967296 := ⟨_, rfl⟩
  obtain ⟨b1, b2, b3, hpop⟩ := ones_swar x a b c d e f hx ha hb hc hd he hf
  have la : a < 18446744073709551616 := by
    have h1 : x / 2 &&& 6148914691236517205 ≤ 6148914691236517205 := Nat.and_le_right
    have h2 : x &&& 6148914691236517205 ≤ 6148914691236517205 := Nat.and_le_right
    rw [ha]; unfold s1; omega
  have lb : b < 18446744073709551616 := by
    have h1 : a / 4 &&& 3689348814741910323 ≤ 3689348814741910323 := Nat.and_le_right
    have h2 : a &&& 3689348814741910323 ≤ 3689348814741910323 := Nat.and_le_right
    rw [hb]; unfold s2; omega
  have lc : c < 18446744073709551616 := by
    have h1 : b / 16 + b &&& 1085102592571150095 ≤ 1085102592571150095 := Nat.and_le_right
    rw [hc]; unfold s3; omega
  have lb' : b / 16 + b < 18446744073709551616 := by
    have h1 : a / 4 &&& 3689348814741910323 ≤ 3689348814741910323 := Nat.and_le_right
    have h2 : a &&& 3689348814741910323 ≤ 3689348814741910323 := Nat.and_le_right
    rw [hb]; unfold s2; omega
  have e1 : IntKind.u64.wrap (bits .and .u64 ((x : Int) / 2) 6148914691236517205 + bits .and .u64 (x : Int) 6148914691236517205) = (a : Int) := by
    have p1 := and_u64 (x / 2) 6148914691236517205 (by omega) (by decide)
    have p2 := and_u64 x 6148914691236517205 hx (by decide)
    rw [show ((x / 2 : Nat) : Int) = (x : Int) / 2 from rfl] at p1
    rw [show ((6148914691236517205 : Nat) : Int) = 6148914691236517205 from rfl] at p1 p2
    rw [p1, p2, ← u64_nat a la, ha]
    rfl
  have e2 : IntKind.u64.wrap (bits .and .u64 ((a : Int) / 4) 3689348814741910323 + bits .and .u64 (a : Int) 3689348814741910323) = (b : Int) := by
    have p1 := and_u64 (a / 4) 3689348814741910323 (by omega) (by decide)
    have p2 := and_u64 a 3689348814741910323 la (by decide)
    rw [show ((a / 4 : Nat) : Int) = (a : Int) / 4 from rfl] at p1
    rw [show ((3689348814741910323 : Nat) : Int) = 3689348814741910323 from rfl] at p1 p2
    rw [p1, p2, ← u64_nat b lb, hb]
    rfl
  have e3 : bits .and .u64 (IntKind.u64.wrap ((b : Int) / 16 + (b : Int))) 1085102592571150095 = (c : Int) := by
    have p0 : IntKind.u64.wrap ((b : Int) / 16 + (b : Int)) = ((b / 16 + b : Nat) : Int) := u64_nat (b / 16 + b) lb'
    have p1 := and_u64 (b / 16 + b) 1085102592571150095 lb' (by decide)
    rw [p0, hc]
    exact p1
  have e4 : IntKind.u64.wrap ((c : Int) + (c : Int) / 256) = (d : Int) := by rw [hd]; exact u64_nat (c + c / 256) (by omega)
  have e5 : IntKind.u64.wrap ((d : Int) + (d : Int) / 65536) = (e : Int) := by rw [he]; exact u64_nat (d + d / 65536) (by omega)
  have e6 : IntKind.u64.wrap ((e : Int) + (e : Int) / 4294967296) = (f : Int) := by rw [hf]; exact u64_nat (e + e / 4294967296) (by omega)
  have e7 := and_i64_low f b3
  rw [hpop] at e7
  clear hpop b1 b2 b3 ha hb hc hd he hf la lb lc lb'
  go_enter Tryd.func34, Tryd.ntmps34
  go_wp2
  go_ret
  exact ⟨rfl, rfl⟩
end Go.Proofs.YtdcpbjpghgbbiaaDoor
