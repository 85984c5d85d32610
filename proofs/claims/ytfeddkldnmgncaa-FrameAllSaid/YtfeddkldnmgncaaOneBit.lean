/- Plain facts on one turned bit: bit i of a text is bit i%8 of byte i/8; no two bits of a text of at most a hundred bytes turn the sum alike. No program here. -/
import Derived.Test.YtfeddkldnmgncaaBurst
namespace Go.Proofs.Ytfeddkldnmgncaa.Crc

/-- Bit i is turned. -/
def turn (l : List Nat) (i : Nat) : List Nat := l.set (i / 8) (l.getD (i / 8) 0 ^^^ 2 ^ (i % 8))

theorem turn_eq (l : List Nat) (i : Nat) (h : i < 8 * l.length) : turn l i = burst l (i / 8) [2 ^ (i % 8)] := (burst_one l (i / 8) _ (by omega)).symm

theorem pow_lt8 (i : Nat) : 2 ^ (i % 8) < 256 := Nat.pow_lt_pow_right (a := 2) (n := 8) (by decide) (Nat.mod_lt _ (by decide))

theorem turn_bytes {l : List Nat} (hl : Bytes l) (i : Nat) (h : i < 8 * l.length) : Bytes (turn l i) := by
  rw [turn_eq l i h]
  exact burst_bytes hl (by intro b hb; rw [List.mem_singleton.1 hb]; exact pow_lt8 i)

theorem turn_length (l : List Nat) (i : Nat) : (turn l i).length = l.length := by simp [turn]

theorem turn_num {l : List Nat} (hl : Bytes l) (i : Nat) (h : i < 8 * l.length) : num l ^^^ num (turn l i) = 2 ^ i := by
  rw [turn_eq l i h, burst_num hl (by intro b hb; rw [List.mem_singleton.1 hb]; exact pow_lt8 i) (by simp; omega)]
  simp only [num, Nat.mul_zero, Nat.add_zero]
  rw [← Nat.pow_add]
  congr 1; omega

theorem turn_sum {l : List Nat} (hl : Bytes l) (i : Nat) (h : i < 8 * l.length) : sum (turn l i) ≠ sum l := by
  refine (sum_ne l (turn l i) hl (turn_bytes hl i h) (turn_length l i).symm i 1 (by decide) (by decide) (by omega) ?_).symm
  rw [turn_num hl i h, Nat.mul_one]

/-- The first rounds of the lowest bit, none of which comes back to it. -/
def comesBack : Nat → Nat → Bool
  | 0, _ => false
  | n + 1, x => x == 1 || comesBack n (rnd x)

theorem never_back : comesBack 799 (rnd 1) = false := by decide +kernel

theorem comesBack_false : ∀ (n x : Nat), comesBack n x = false → ∀ d, d < n → rnds d x ≠ 1
  | 0, _, _, d, hd => absurd hd (by omega)
  | n + 1, x, h, d, hd => by
    simp only [comesBack, Bool.or_eq_false_iff, beq_eq_false_iff_ne] at h
    cases d with
    | zero => exact h.1
    | succ d => exact comesBack_false n (rnd x) h.2 d (by omega)

theorem rnds_one_ne (d : Nat) (h0 : 0 < d) (h : d < 800) : rnds d 1 ≠ 1 := by
  obtain ⟨e, rfl⟩ : ∃ e, d = e + 1 := ⟨d - 1, by omega⟩
  exact comesBack_false 799 (rnd 1) never_back e (by omega)

theorem xor_self_cancel (a b c : Nat) : (a ^^^ b) ^^^ (a ^^^ c) = b ^^^ c := xor_mid a b c

theorem turn_two {l : List Nat} (hl : Bytes l) (hlen : l.length ≤ 100) (i k : Nat) (hik : i < k) (hk : k < 8 * l.length) : sum (turn l i) ≠ sum (turn l k) := by
  intro e
  have hi : i < 8 * l.length := by omega
  have h := sum_xor (turn l i) (turn l k) (turn_bytes hl i hi) (turn_bytes hl k hk) (by rw [turn_length, turn_length])
  have hx : num (turn l i) ^^^ num (turn l k) = 2 ^ i ^^^ 2 ^ k := by
    rw [← turn_num hl i hi, ← turn_num hl k hk, xor_mid]
  rw [e, Nat.xor_self, turn_length, hx, rnds_xor] at h
  have e1 : rnds (8 * l.length) (2 ^ i) = rnds (8 * l.length - i) 1 := by
    have := rnds_pow i (8 * l.length) 1 (by omega); rwa [Nat.mul_one] at this
  have e2 : rnds (8 * l.length) (2 ^ k) = rnds (8 * l.length - k) 1 := by
    have := rnds_pow k (8 * l.length) 1 (by omega); rwa [Nat.mul_one] at this
  rw [e1, e2, show 8 * l.length - i = (k - i) + (8 * l.length - k) by omega, rnds_add, ← rnds_xor] at h
  have h1 : rnds (k - i) 1 ^^^ 1 < 2 ^ 32 := Nat.xor_lt_two_pow (rnds_lt _ (by decide)) (by decide)
  have h2 : rnds (k - i) 1 ^^^ 1 ≠ 0 := fun h0 => rnds_one_ne (k - i) (by omega) (by omega) (xor_eq_zero h0)
  exact rnds_ne _ h1 h2 h.symm

end Go.Proofs.Ytfeddkldnmgncaa.Crc
