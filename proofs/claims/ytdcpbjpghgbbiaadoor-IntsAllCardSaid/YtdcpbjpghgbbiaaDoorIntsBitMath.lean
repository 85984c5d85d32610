/- Plain numbers: ones, leading and trailing noughts; what a count bit by bit gives. No program here. -/
import Derived.Test.YtdcpbjpghgbbiaaDoorIntsOne2
namespace Go.Proofs.YtdcpbjpghgbbiaaDoor
open Go.RowKit
set_option linter.unusedVariables false

theorem pop_succ : ∀ f u, Lib.popAux (f + 1) u = Lib.popAux f u + u / 2 ^ f % 2
  | 0, u => by simp [Lib.popAux]
  | f + 1, u => by
    have ih := pop_succ f (u / 2)
    have e1 : Lib.popAux (f + 1 + 1) u = u % 2 + Lib.popAux (f + 1) (u / 2) := rfl
    have e2 : Lib.popAux (f + 1) u = u % 2 + Lib.popAux f (u / 2) := rfl
    rw [e1, ih, e2, Nat.div_div_eq_div_mul, Nat.pow_succ, Nat.mul_comm 2]
    omega
theorem pop_fuel (u f : Nat) (h : u < 2 ^ f) : ∀ g, Lib.popAux (f + g) u = Lib.popAux f u
  | 0 => rfl
  | g + 1 => by
    rw [← Nat.add_assoc, pop_succ, pop_fuel u f h g]
    have : u / 2 ^ (f + g) = 0 := by
      apply Nat.div_eq_of_lt
      exact Nat.lt_of_lt_of_le h (Nat.pow_le_pow_right (by decide) (by omega))
    rw [this]
    rfl
theorem pop_compl : ∀ f u, u < 2 ^ f → Lib.popAux f (2 ^ f - 1 - u) + Lib.popAux f u = f
  | 0, u, h => rfl
  | f + 1, u, h => by
    have e1 : ∀ x, Lib.popAux (f + 1) x = x % 2 + Lib.popAux f (x / 2) := fun _ => rfl
    rw [Nat.pow_succ] at h ⊢
    have ih := pop_compl f (u / 2) (by omega)
    rw [e1, e1]
    have h1 : (2 ^ f * 2 - 1 - u) / 2 = 2 ^ f - 1 - u / 2 := by omega
    rw [h1]
    omega
theorem pop_le : ∀ f u, Lib.popAux f u ≤ f
  | 0, u => Nat.le_refl _
  | f + 1, u => by
    have e1 : Lib.popAux (f + 1) u = u % 2 + Lib.popAux f (u / 2) := rfl
    have := pop_le f (u / 2)
    omega
theorem pop_len : ∀ f u, Lib.popAux f u ≤ Lib.bitLenAux f u
  | 0, u => Nat.le_refl _
  | f + 1, u => by
    have ih := pop_len f (u / 2)
    have e1 : Lib.popAux (f + 1) u = u % 2 + Lib.popAux f (u / 2) := rfl
    have e2 : Lib.bitLenAux (f + 1) u = if u = 0 then 0 else 1 + Lib.bitLenAux f (u / 2) := rfl
    rw [e1, e2]
    split
    · rename_i h; subst h
      have : Lib.popAux f (0 / 2) = 0 := by
        have z : ∀ f, Lib.popAux f 0 = 0 := by
          intro f; induction f with
          | zero => rfl
          | succ f ih => show 0 % 2 + Lib.popAux f (0 / 2) = 0; simpa using ih
        exact z f
      omega
    · omega
theorem ctz_pop : ∀ f u, 0 < u → u < 2 ^ f → Lib.ctzFrom f u + Lib.popAux f u ≤ Lib.bitLenAux f u
  | 0, u, h0, h => by simp at h; omega
  | f + 1, u, h0, h => by
    have e1 : Lib.popAux (f + 1) u = u % 2 + Lib.popAux f (u / 2) := rfl
    have e2 : Lib.bitLenAux (f + 1) u = if u = 0 then 0 else 1 + Lib.bitLenAux f (u / 2) := rfl
    have e3 : Lib.ctzFrom (f + 1) u = if u % 2 = 1 then 0 else 1 + Lib.ctzFrom f (u / 2) := rfl
    rw [e1, e2, e3, if_neg (show ¬ u = 0 by omega)]
    rw [Nat.pow_succ] at h
    have hl := pop_len f (u / 2)
    by_cases hm : u % 2 = 1
    · rw [if_pos hm]; omega
    · rw [if_neg hm]
      have ih := ctz_pop f (u / 2) (by omega) (by omega)
      omega
theorem len_bounds : ∀ (f x : Nat), x < 2 ^ f → x ≠ 0 → 1 ≤ Lib.bitLenAux f x ∧ 2 ^ (Lib.bitLenAux f x - 1) ≤ x ∧ x < 2 ^ Lib.bitLenAux f x
  | 0, x, h, h0 => by simp at h; omega
  | f + 1, x, h, h0 => by
    have e2 : Lib.bitLenAux (f + 1) x = if x = 0 then 0 else 1 + Lib.bitLenAux f (x / 2) := rfl
    rw [e2, if_neg h0]
    rw [Nat.pow_succ] at h
    by_cases h1 : x / 2 = 0
    · have hz : Lib.bitLenAux f (x / 2) = 0 := by rw [h1]; cases f <;> rfl
      rw [hz]
      have : x = 1 := by omega
      subst this
      decide
    · obtain ⟨a, b, c⟩ := len_bounds f (x / 2) (by omega) h1
      refine ⟨by omega, ?_, ?_⟩
      · have : 1 + Lib.bitLenAux f (x / 2) - 1 = (Lib.bitLenAux f (x / 2) - 1) + 1 := by omega
        rw [this, Nat.pow_succ]; omega
      · rw [Nat.add_comm 1, Nat.pow_succ]; omega
theorem len_zero : Lib.bitLen 0 = 0 := rfl
theorem len_eq (x b : Nat) (h64 : x < 2 ^ 64) (h1 : 2 ^ b ≤ x) (h2 : x < 2 ^ (b + 1)) : Lib.bitLen x = b + 1 := by
  have hx : x ≠ 0 := by have := Nat.two_pow_pos b; omega
  obtain ⟨a, c, d⟩ := len_bounds 64 x h64 hx
  show Lib.bitLenAux 64 x = b + 1
  rcases Nat.lt_trichotomy (Lib.bitLenAux 64 x) (b + 1) with h | h | h
  · have := Nat.pow_le_pow_right (n := 2) (by decide) (show Lib.bitLenAux 64 x ≤ b by omega)
    omega
  · exact h
  · have := Nat.pow_le_pow_right (n := 2) (by decide) (show b + 1 ≤ Lib.bitLenAux 64 x - 1 by omega)
    omega
theorem two_adic : ∀ (c j a b : Nat), 2 ^ c * (2 * a + 1) = 2 ^ j * (2 * b + 1) → c = j
  | 0, 0, _, _, _ => rfl
  | 0, j + 1, a, b, h => by
    rw [Nat.pow_succ, Nat.mul_comm (2 ^ j) 2, Nat.mul_assoc] at h
    generalize 2 ^ j * (2 * b + 1) = z at h
    omega
  | c + 1, 0, a, b, h => by
    rw [Nat.pow_succ, Nat.mul_comm (2 ^ c) 2, Nat.mul_assoc] at h
    generalize 2 ^ c * (2 * a + 1) = z at h
    omega
  | c + 1, j + 1, a, b, h => by
    rw [Nat.pow_succ, Nat.mul_comm (2 ^ c) 2, Nat.mul_assoc, Nat.pow_succ, Nat.mul_comm (2 ^ j) 2, Nat.mul_assoc] at h
    rw [two_adic c j a b (Nat.eq_of_mul_eq_mul_left (by decide) h)]
theorem ctz_eq (x j m : Nat) (h64 : x < 2 ^ 64) (h : x = 2 ^ j * (2 * m + 1)) : Lib.ctz 64 x = j := by
  have h0 : x ≠ 0 := by have := Nat.two_pow_pos j; rw [h]; exact Nat.mul_ne_zero (by omega) (by omega)
  obtain ⟨m', h1, _⟩ := Lib.ctzFrom_spec 64 x (by omega) h64
  have e : Lib.ctz 64 x = Lib.ctzFrom 64 x := by simp [Lib.ctz, h0]
  rw [e]
  exact two_adic _ _ m' m (by rw [← h1, ← h])
theorem ctz_zero : Lib.ctz 64 0 = 64 := rfl
theorem ctz_lt (x n : Nat) (hn : n ≤ 64) (h0 : x ≠ 0) (h : x < 2 ^ n) : Lib.ctz 64 x < n := by
  have h64 : x < 2 ^ 64 := Nat.lt_of_lt_of_le h (Nat.pow_le_pow_right (by decide) hn)
  obtain ⟨m', h1, _⟩ := Lib.ctzFrom_spec 64 x (by omega) h64
  have e : Lib.ctz 64 x = Lib.ctzFrom 64 x := by simp [Lib.ctz, h0]
  rw [e]
  rcases Nat.lt_or_ge (Lib.ctzFrom 64 x) n with h2 | h2
  · exact h2
  · have h3 := Nat.pow_le_pow_right (n := 2) (by decide) h2
    have h4 : 2 ^ Lib.ctzFrom 64 x * 1 ≤ 2 ^ Lib.ctzFrom 64 x * (2 * m' + 1) := Nat.mul_le_mul_left _ (by omega)
    omega
theorem len_le (x n : Nat) (hn : n ≤ 64) (h : x < 2 ^ n) : Lib.bitLen x ≤ n := Lib.bitLen_le x n hn h
theorem len_pos (x : Nat) (h64 : x < 2 ^ 64) (h0 : x ≠ 0) : 1 ≤ Lib.bitLen x := (len_bounds 64 x h64 h0).1
/-- The sum of all three is no greater than the width. -/
theorem all_three (x n : Nat) (hn : n ≤ 64) (h0 : x ≠ 0) (h : x < 2 ^ n) : (n - Lib.bitLen x) + Lib.ctz 64 x + Lib.onesCount x ≤ n := by
  have h64 : x < 2 ^ 64 := Nat.lt_of_lt_of_le h (Nat.pow_le_pow_right (by decide) hn)
  have h1 := ctz_pop 64 x (by omega) h64
  have e : Lib.ctz 64 x = Lib.ctzFrom 64 x := by simp [Lib.ctz, h0]
  have h2 := len_le x n hn h
  have e1 : Lib.onesCount x = Lib.popAux 64 x := rfl
  have e2 : Lib.bitLen x = Lib.bitLenAux 64 x := rfl
  rw [e2] at h2
  rw [e, e1, e2]
  omega
theorem ones_compl (n x : Nat) (hn : n ≤ 64) (h : x < 2 ^ n) : Lib.onesCount x + Lib.onesCount (2 ^ n - 1 - x) = n := by
  have e1 : ∀ y, y < 2 ^ n → Lib.onesCount y = Lib.popAux n y := fun y hy => by
    have := pop_fuel y n hy (64 - n)
    rw [show n + (64 - n) = 64 by omega] at this
    exact this
  rw [e1 x h, e1 _ (by omega), Nat.add_comm]
  exact pop_compl n x h
theorem ones_le (x n : Nat) (hn : n ≤ 64) (h : x < 2 ^ n) : Lib.onesCount x ≤ n := by
  have := pop_fuel x n h (64 - n)
  rw [show n + (64 - n) = 64 by omega] at this
  show Lib.popAux 64 x ≤ n
  rw [this]
  exact pop_le n x
/-- One bit more on top. -/
theorem bit_top (r i : Nat) (hr : r < 2 ^ i) (hi : i < 64) : Lib.bitLen (r + 2 ^ i) = i + 1 ∧ Lib.ctz 64 (r + 2 ^ i) = (if r = 0 then i else Lib.ctz 64 r) := by
  have h64 : r + 2 ^ i < 2 ^ 64 := by
    have := Nat.pow_le_pow_right (n := 2) (by decide) (show i + 1 ≤ 64 by omega)
    rw [Nat.pow_succ] at this
    omega
  refine ⟨len_eq _ i h64 (by omega) (by rw [Nat.pow_succ]; omega), ?_⟩
  by_cases h0 : r = 0
  · rw [if_pos h0]
    subst h0
    exact ctz_eq _ i 0 h64 (by omega)
  · rw [if_neg h0]
    have hlt := ctz_lt r i (by omega) h0 hr
    obtain ⟨m', h1, _⟩ := Lib.ctzFrom_spec 64 r (by omega) (by omega)
    have e : Lib.ctz 64 r = Lib.ctzFrom 64 r := by simp [Lib.ctz, h0]
    rw [← e] at h1
    refine ctz_eq _ _ (m' + 2 ^ (i - Lib.ctz 64 r - 1)) h64 ?_
    have h2 : 2 ^ i = 2 ^ Lib.ctz 64 r * (2 * 2 ^ (i - Lib.ctz 64 r - 1)) := by
      rw [← Nat.pow_succ', ← Nat.pow_add]
      congr 1
      omega
    rw [h2]
    conv => lhs; lhs; rw [h1]
    rw [← Nat.mul_add]
    congr 1
    omega
end Go.Proofs.YtdcpbjpghgbbiaaDoor
