/- Turning bits, as bit vectors: there and back is nothing. -/
import Derived.Test.YtdcpbjpghgbbiaaDoorIntsBegun
namespace Go.Proofs.YtdcpbjpghgbbiaaDoor
open Go.RowKit
set_option linter.unusedVariables false

theorem ofInt_emod64 (z : Int) : BitVec.ofInt 64 (z % 18446744073709551616) = BitVec.ofInt 64 z := by
  apply BitVec.eq_of_toNat_eq
  rw [BitVec.toNat_ofInt, BitVec.toNat_ofInt]
  have : ((2 ^ 64 : Nat) : Int) = 18446744073709551616 := by decide
  rw [this]
  omega
theorem ofInt_wrap64 (z : Int) : BitVec.ofInt 64 (wrap64 z) = BitVec.ofInt 64 z := by
  apply BitVec.eq_of_toNat_eq
  rw [BitVec.toNat_ofInt, BitVec.toNat_ofInt]
  have : ((2 ^ 64 : Nat) : Int) = 18446744073709551616 := by decide
  rw [this]
  unfold wrap64
  omega
theorem u64_mod (z : Int) : IntKind.u64.wrap z = z % 18446744073709551616 := by simp [IntKind.wrap, IntKind.bits, IntKind.signed]
theorem ofInt_nat (v : BitVec 64) : BitVec.ofInt 64 (v.toNat : Int) = v := by
  apply BitVec.eq_of_toNat_eq
  rw [BitVec.toNat_ofInt]
  have := v.isLt
  have e : ((2 ^ 64 : Nat) : Int) = 18446744073709551616 := by decide
  rw [e]
  omega
theorem or_u64 (x y : Int) : BitVec.ofInt 64 (bits .or .u64 x y) = BitVec.ofInt 64 x ||| BitVec.ofInt 64 y := by
  show BitVec.ofInt 64 (IntKind.u64.wrap ((BitVec.ofInt 64 x ||| BitVec.ofInt 64 y).toNat : Int)) = _
  rw [u64_mod, ofInt_emod64, ofInt_nat]
theorem shl_64 (m : BitVec 64) (s : Nat) : BitVec.ofInt 64 ((m.toNat : Int) * 2 ^ s) = m <<< s := by
  have e : ((m.toNat : Int) * 2 ^ s) = ((m.toNat * 2 ^ s : Nat) : Int) := by push_cast; rfl
  rw [e]
  apply BitVec.eq_of_toNat_eq
  rw [BitVec.ofInt_natCast, BitVec.toNat_ofNat, BitVec.toNat_shiftLeft, Nat.shiftLeft_eq]
theorem shr_64 (m : BitVec 64) (s : Nat) : BitVec.ofInt 64 ((m.toNat : Int) / 2 ^ s) = m >>> s := by
  have e : ((m.toNat : Int) / 2 ^ s) = ((m.toNat / 2 ^ s : Nat) : Int) := by push_cast; rfl
  rw [e]
  apply BitVec.eq_of_toNat_eq
  have := m.isLt
  have h : m.toNat / 2 ^ s < 2 ^ 64 := Nat.lt_of_le_of_lt (Nat.div_le_self _ _) this
  rw [BitVec.ofInt_natCast, BitVec.toNat_ofNat, BitVec.toNat_ushiftRight, Nat.shiftRight_eq_div_pow, Nat.mod_eq_of_lt h]
theorem rot_vec (B : Int) (m : BitVec 64) (s : Int) : BitVec.ofInt 64 (rotU B (m.toNat : Int) s) = (m <<< s.toNat) ||| (m >>> (B - s).toNat) := by
  unfold rotU
  rw [ofInt_wrap64, or_u64, u64_mod, ofInt_emod64, shl_64, shr_64]
theorem back_64 (m : BitVec 64) (s : Nat) (h : s < 64) :
    ((((m <<< s) ||| (m >>> (64 - s))) <<< ((64 - s) % 64)) ||| (((m <<< s) ||| (m >>> (64 - s))) >>> (64 - (64 - s) % 64))) = m := by
  by_cases h0 : s = 0
  · subst h0; ext i hi; simp
  · rw [Nat.mod_eq_of_lt (show 64 - s < 64 by omega), show 64 - (64 - s) = s by omega]
    apply BitVec.eq_of_getLsbD_eq
    intro i hi
    simp only [BitVec.getLsbD_or, BitVec.getLsbD_shiftLeft, BitVec.getLsbD_ushiftRight]
    by_cases c : i < 64 - s
    · rw [show (s + i - s) = i by omega]
      simp only [c, show decide (s + i < 64) = true from decide_eq_true (by omega), show decide (s + i < s) = false from decide_eq_false (by omega)]
      have : m.getLsbD (64 - s + (s + i)) = false := BitVec.getLsbD_of_ge _ _ (by omega)
      simp [this]
    · have e1 : m.getLsbD (64 - s + (i - (64 - s))) = m.getLsbD i := by rw [show 64 - s + (i - (64 - s)) = i by omega]
      have e2 : m.getLsbD (64 - s + (s + i)) = false := BitVec.getLsbD_of_ge _ _ (by omega)
      simp [c, hi, e1, e2, show ¬ s + i < 64 by omega, show i - (64 - s) < s by omega]
def rv32 (m : BitVec 32) (s : Nat) : BitVec 32 := (((m.setWidth 64) <<< s) ||| ((m.setWidth 64) >>> (32 - s))).setWidth 32
theorem rv32_bit (m : BitVec 32) (s i : Nat) (hs : s ≤ 32) (hi : i < 32) : (rv32 m s).getLsbD i = (if i < s then m.getLsbD (32 - s + i) else m.getLsbD (i - s)) := by
  unfold rv32
  simp only [BitVec.getLsbD_setWidth, BitVec.getLsbD_or, BitVec.getLsbD_shiftLeft, BitVec.getLsbD_ushiftRight]
  by_cases c : i < s
  · simp [c, hi, show i < 64 by omega, show 32 - s + i < 64 by omega]
  · have : m.getLsbD (32 - s + i) = false := BitVec.getLsbD_of_ge _ _ (by omega)
    simp [c, hi, this, show i < 64 by omega, show i - s < 64 by omega]
theorem back_32 (m : BitVec 32) (s : Nat) (h : s < 32) : rv32 (rv32 m s) ((32 - s) % 32) = m := by
  apply BitVec.eq_of_getLsbD_eq
  intro i hi
  rw [rv32_bit _ _ _ (by omega) hi]
  by_cases h0 : s = 0
  · subst h0
    rw [if_neg (by omega), rv32_bit _ _ _ (by omega) (by omega), if_neg (by omega)]
    rfl
  · rw [Nat.mod_eq_of_lt (show 32 - s < 32 by omega)]
    by_cases c : i < 32 - s
    · rw [if_pos c, rv32_bit _ _ _ (by omega) (by omega), if_neg (by omega)]
      congr 1; omega
    · rw [if_neg c, rv32_bit _ _ _ (by omega) (by omega), if_pos (by omega)]
      congr 1; omega
theorem low2_nat (z : Int) : low (2, z) = ((BitVec.ofInt 64 z).toNat : Int) := by
  have : low (2, z) = z % 18446744073709551616 := rfl
  rw [this, BitVec.toNat_ofInt]
  have : ((2 ^ 64 : Nat) : Int) = 18446744073709551616 := by decide
  rw [this]
  omega
theorem low1_nat (z : Int) : low (1, z) = (((BitVec.ofInt 64 z).setWidth 32).toNat : Int) := by
  have : low (1, z) = z % 4294967296 := rfl
  rw [this, BitVec.toNat_setWidth, BitVec.toNat_ofInt]
  have : ((2 ^ 64 : Nat) : Int) = 18446744073709551616 := by decide
  rw [this]
  have : (2 : Nat) ^ 32 = 4294967296 := by decide
  rw [this]
  omega
theorem low_s32 (z : Int) : low (1, s32 z) = low (1, z) := by
  show s32 z % 4294967296 = z % 4294967296
  unfold s32
  simp [IntKind.wrap, IntKind.bits, IntKind.signed]
  split <;> omega
theorem turned_2 (X s : Int) (h : 0 ≤ s ∧ s < 64) : low (2, rotU 64 (low (2, rotU 64 (low (2, X)) s)) (-s % 64)) = low (2, X) := by
  obtain ⟨n, rfl⟩ : ∃ n : Nat, s = n := ⟨s.toNat, by omega⟩
  have hn : n < 64 := by omega
  have e : (-(n : Int) % 64).toNat = (64 - n) % 64 := by omega
  have e' : (64 - -(n : Int) % 64).toNat = 64 - (64 - n) % 64 := by omega
  have e'' : (64 - (n : Int)).toNat = 64 - n := by omega
  rw [low2_nat X, low2_nat (rotU 64 _ (n : Int)), low2_nat (rotU 64 _ _), rot_vec, rot_vec, e, e', e'', Int.toNat_natCast, back_64 _ _ hn]
theorem turned_1 (X s : Int) (h : 0 ≤ s ∧ s < 32) : low (1, rotU 32 (low (1, s32 (rotU 32 (low (1, X)) s))) (-s % 32)) = low (1, X) := by
  obtain ⟨n, rfl⟩ : ∃ n : Nat, s = n := ⟨s.toNat, by omega⟩
  have hn : n < 32 := by omega
  have e : (-(n : Int) % 32).toNat = (32 - n) % 32 := by omega
  have e' : (32 - -(n : Int) % 32).toNat = 32 - (32 - n) % 32 := by omega
  have e'' : (32 - (n : Int)).toNat = 32 - n := by omega
  have w : ∀ m : BitVec 32, (m.toNat : Int) = ((m.setWidth 64).toNat : Int) := fun m => by
    rw [BitVec.toNat_setWidth, Nat.mod_eq_of_lt (Nat.lt_trans m.isLt (by decide))]
  rw [low_s32, low1_nat X, w, low1_nat (rotU 32 _ (n : Int)), rot_vec, e'', Int.toNat_natCast]
  rw [w (BitVec.setWidth 32 _), low1_nat (rotU 32 _ _), rot_vec, e, e']
  show (((rv32 (rv32 ((BitVec.ofInt 64 X).setWidth 32) n) ((32 - n) % 32)).toNat : Nat) : Int) = _
  rw [back_32 _ _ hn, ← w]
end Go.Proofs.YtdcpbjpghgbbiaaDoor
