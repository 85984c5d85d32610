/- How math/bits.OnesCount64 counts: by bytes, side by side; plain numbers, no program. -/
import Derived.WalkKit
import Derived.Lib.BitFns
namespace Go.Proofs.YtdcpbjpghgbbiaaDoor
open Go.RowKit
set_option linter.unusedVariables false

theorem and_split (a b c d : Nat) (hb : b < 256) (hd : d < 256) : (256 * a + b) &&& (256 * c + d) = 256 * (a &&& c) + (b &&& d) := by
  apply Nat.eq_of_testBit_eq
  intro i
  rw [Nat.testBit_and]
  have e : ∀ a b : Nat, b < 2 ^ 8 → (256 * a + b).testBit i = if i < 8 then b.testBit i else a.testBit (i - 8) := fun a b h => Nat.testBit_two_pow_mul_add a h i
  rw [e a b hb, e c d hd, e _ _ (Nat.and_lt_two_pow b hd)]
  split <;> simp
def s1 (x r : Nat) : Nat := (x / 2 &&& r) + (x &&& r)
def s2 (x r : Nat) : Nat := (x / 4 &&& r) + (x &&& r)
def s3 (x r : Nat) : Nat := (x / 16 + x) &&& r
def rep (v : Nat) : Nat → Nat
  | 0 => 0
  | n + 1 => 256 * rep v n + v
theorem and_lt (a m : Nat) (h : m < 256) : a &&& m < 256 := Nat.lt_of_le_of_lt Nat.and_le_right h
theorem byte1 : ∀ l < 256, ∀ p < 2, (128 * p + l / 2) &&& 85 = (l / 2) &&& 85 := by decide +kernel
theorem byte2 : ∀ l < 256, ∀ p < 4, (64 * p + l / 4) &&& 51 = (l / 4) &&& 51 := by decide +kernel
theorem byte3 : ∀ l < 69, ∀ p < 5, (16 * p + l / 16 + l) &&& 15 = (l / 16 + l) &&& 15 := by decide +kernel
theorem byte4 : ∀ l < 256, s1 l 85 < 256 ∧ s2 (s1 l 85) 51 < 69 ∧ s2 (s1 l 85) 51 % 16 < 5 ∧ s3 (s2 (s1 l 85) 51) 15 = Lib.popAux 8 l ∧ Lib.popAux 8 l < 9 := by decide +kernel
theorem s1_split (h l r : Nat) (hl : l < 256) : s1 (256 * h + l) (256 * r + 85) = 256 * s1 h r + s1 l 85 := by
  unfold s1
  have e : (256 * h + l) / 2 = 256 * (h / 2) + (128 * (h % 2) + l / 2) := by omega
  rw [e, and_split _ _ _ _ (by omega) (by decide), and_split _ _ _ _ hl (by decide), byte1 l hl _ (by omega)]
  omega
theorem s2_split (h l r : Nat) (hl : l < 256) : s2 (256 * h + l) (256 * r + 51) = 256 * s2 h r + s2 l 51 := by
  unfold s2
  have e : (256 * h + l) / 4 = 256 * (h / 4) + (64 * (h % 4) + l / 4) := by omega
  rw [e, and_split _ _ _ _ (by omega) (by decide), and_split _ _ _ _ hl (by decide), byte2 l hl _ (by omega)]
  omega
theorem s3_split (h l r : Nat) (hl : l < 69) (hh : h % 16 < 5) : s3 (256 * h + l) (256 * r + 15) = 256 * s3 h r + s3 l 15 := by
  unfold s3
  have e : (256 * h + l) / 16 + (256 * h + l) = 256 * (h / 16 + h) + (16 * (h % 16) + l / 16 + l) := by omega
  rw [e, and_split _ _ _ _ (by omega) (by decide), byte3 l hl _ hh]
def sp : Nat → Nat → Nat
  | 0, _ => 0
  | n + 1, x => 256 * sp n (x / 256) + Lib.popAux 8 (x % 256)
theorem swar (n : Nat) : ∀ x, x < 256 ^ n → s2 (s1 x (rep 85 n)) (rep 51 n) % 16 < 5 ∧ s3 (s2 (s1 x (rep 85 n)) (rep 51 n)) (rep 15 n) = sp n x := by
  induction n with
  | zero => intro x hx; have : x = 0 := by simpa using hx
            subst this; decide
  | succ n ih =>
    intro x hx
    have hd : x / 256 < 256 ^ n := by rw [Nat.div_lt_iff_lt_mul (by decide)]; rw [Nat.pow_succ] at hx; exact hx
    obtain ⟨i1, i2⟩ := ih _ hd
    obtain ⟨b0, b1, b2, b3, b4⟩ := byte4 (x % 256) (by omega)
    have ex : x = 256 * (x / 256) + x % 256 := by omega
    generalize hh : x / 256 = h at *
    generalize hl : x % 256 = l at *
    have hl' : l < 256 := by omega
    have e1 : rep 85 (n + 1) = 256 * rep 85 n + 85 := rfl
    have e2 : rep 51 (n + 1) = 256 * rep 51 n + 51 := rfl
    have e3 : rep 15 (n + 1) = 256 * rep 15 n + 15 := rfl
    have e4 : sp (n + 1) x = 256 * sp n (x / 256) + Lib.popAux 8 (x % 256) := rfl
    rw [e4, hh, hl, ← i2, ← b3, e1, e2, e3]
    rw [ex, s1_split h l _ hl', s2_split _ _ _ b0, s3_split _ _ _ b1 i1]
    exact ⟨by omega, rfl⟩
theorem pop_byte (n x : Nat) : Lib.popAux (n + 8) x = Lib.popAux 8 (x % 256) + Lib.popAux n (x / 256) := by
  have e : x / 256 = x / 2 / 2 / 2 / 2 / 2 / 2 / 2 / 2 := by omega
  rw [e]
  generalize hn : Lib.popAux n (x / 2 / 2 / 2 / 2 / 2 / 2 / 2 / 2) = P
  have e1 : Lib.popAux (n + 8) x = x % 2 + (x / 2 % 2 + (x / 2 / 2 % 2 + (x / 2 / 2 / 2 % 2 + (x / 2 / 2 / 2 / 2 % 2 + (x / 2 / 2 / 2 / 2 / 2 % 2 + (x / 2 / 2 / 2 / 2 / 2 / 2 % 2 + (x / 2 / 2 / 2 / 2 / 2 / 2 / 2 % 2 + Lib.popAux n (x / 2 / 2 / 2 / 2 / 2 / 2 / 2 / 2)))))))) := rfl
  have e2 : Lib.popAux 8 (x % 256) = x % 256 % 2 + (x % 256 / 2 % 2 + (x % 256 / 2 / 2 % 2 + (x % 256 / 2 / 2 / 2 % 2 + (x % 256 / 2 / 2 / 2 / 2 % 2 + (x % 256 / 2 / 2 / 2 / 2 / 2 % 2 + (x % 256 / 2 / 2 / 2 / 2 / 2 / 2 % 2 + (x % 256 / 2 / 2 / 2 / 2 / 2 / 2 / 2 % 2 + 0))))))) := rfl
  rw [e1, e2, hn]
  omega
/-- What the last three sums make of eight bytes, each no greater than eight. -/
theorem fold8 (p0 p1 p2 p3 p4 p5 p6 p7 c d e f : Nat) (h0 : p0 < 9) (h1 : p1 < 9) (h2 : p2 < 9) (h3 : p3 < 9) (h4 : p4 < 9) (h5 : p5 < 9) (h6 : p6 < 9) (h7 : p7 < 9)
    (hc : c = 256 * (256 * (256 * (256 * (256 * (256 * (256 * (256 * 0 + p7) + p6) + p5) + p4) + p3) + p2) + p1) + p0)
    (hd : d = c + c / 256) (he : e = d + d / 65536) (hf : f = e + e / 4294967296) : d < 18446744073709551616 ∧ e < 18446744073709551616 ∧ f < 18446744073709551616 ∧ f % 128 = p0 + p1 + p2 + p3 + p4 + p5 + p6 + p7 := by
  have c1 : c / 256 = 256 * (256 * (256 * (256 * (256 * (256 * p7 + p6) + p5) + p4) + p3) + p2) + p1 := by omega
  have d1 : d = 256 * (256 * (256 * (256 * (256 * (256 * (256 * p7 + (p6 + p7)) + (p5 + p6)) + (p4 + p5)) + (p3 + p4)) + (p2 + p3)) + (p1 + p2)) + (p0 + p1) := by omega
  have d2 : d / 65536 = 256 * (256 * (256 * (256 * (256 * p7 + (p6 + p7)) + (p5 + p6)) + (p4 + p5)) + (p3 + p4)) + (p2 + p3) := by clear hd hc c1; omega
  have e1 : e = 256 * (256 * (256 * (256 * (256 * (256 * (256 * p7 + (p6 + p7)) + (p5 + p6 + p7)) + (p4 + p5 + p6 + p7)) + (p3 + p4 + p5 + p6)) + (p2 + p3 + p4 + p5)) + (p1 + p2 + p3 + p4)) + (p0 + p1 + p2 + p3) := by clear hd hc c1; omega
  have e2 : e / 4294967296 = 256 * (256 * (256 * p7 + (p6 + p7)) + (p5 + p6 + p7)) + (p4 + p5 + p6 + p7) := by clear he hd hc c1 d1 d2; omega
  have f1 : f = 128 * (2 * (256 * (256 * (256 * (256 * (256 * (256 * p7 + (p6 + p7)) + (p5 + p6 + p7)) + (p4 + p5 + p6 + p7)) + (p3 + p4 + p5 + p6 + p7)) + (p2 + p3 + p4 + p5 + p6 + p7)) + (p1 + p2 + p3 + p4 + p5 + p6 + p7))) + (p0 + p1 + p2 + p3 + p4 + p5 + p6 + p7) := by clear he hd hc c1 d1 d2; omega
  refine ⟨by clear hd hc c1 d2 e1 e2 f1 he hf; omega, by clear hd hc c1 d1 d2 e2 f1 he hf; omega, by clear hd hc c1 d1 d2 e1 e2 he hf; omega, by clear hd hc c1 d1 d2 e1 e2 he hf; omega⟩
theorem ones_swar (x a b c d e f : Nat) (hx : x < 18446744073709551616) (ha : a = s1 x 6148914691236517205) (hb : b = s2 a 3689348814741910323) (hc : c = s3 b 1085102592571150095)
    (hd : d = c + c / 256) (he : e = d + d / 65536) (hf : f = e + e / 4294967296) : d < 18446744073709551616 ∧ e < 18446744073709551616 ∧ f < 18446744073709551616 ∧ f % 128 = Lib.onesCount x := by
  have m1 : rep 85 8 = 6148914691236517205 := by decide +kernel
  have m2 : rep 51 8 = 3689348814741910323 := by decide +kernel
  have m3 : rep 15 8 = 1085102592571150095 := by decide +kernel
  have hs := (swar 8 x (by have : (256 : Nat) ^ 8 = 18446744073709551616 := by decide +kernel
                           omega)).2
  rw [m1, m2, m3, ← ha, ← hb, ← hc] at hs
  have q : ∀ y, Lib.popAux 8 (y % 256) < 9 := fun y => (byte4 (y % 256) (by omega)).2.2.2.2
  have P : Lib.onesCount x = Lib.popAux 8 (x % 256) + Lib.popAux 8 (x / 256 % 256) + Lib.popAux 8 (x / 256 / 256 % 256) + Lib.popAux 8 (x / 256 / 256 / 256 % 256) + Lib.popAux 8 (x / 256 / 256 / 256 / 256 % 256) + Lib.popAux 8 (x / 256 / 256 / 256 / 256 / 256 % 256) + Lib.popAux 8 (x / 256 / 256 / 256 / 256 / 256 / 256 % 256) + Lib.popAux 8 (x / 256 / 256 / 256 / 256 / 256 / 256 / 256 % 256) := by
    show Lib.popAux 64 x = _
    have e0 := pop_byte 56 x
    have e1 := pop_byte 48 (x / 256)
    have e2 := pop_byte 40 (x / 256 / 256)
    have e3 := pop_byte 32 (x / 256 / 256 / 256)
    have e4 := pop_byte 24 (x / 256 / 256 / 256 / 256)
    have e5 := pop_byte 16 (x / 256 / 256 / 256 / 256 / 256)
    have e6 := pop_byte 8 (x / 256 / 256 / 256 / 256 / 256 / 256)
    have e7 := pop_byte 0 (x / 256 / 256 / 256 / 256 / 256 / 256 / 256)
    rw [Nat.zero_add] at e7
    rw [show Lib.popAux 0 (x / 256 / 256 / 256 / 256 / 256 / 256 / 256 / 256) = 0 from rfl] at e7
    rw [e0, e1, e2, e3, e4, e5, e6, e7]
    clear e0 e1 e2 e3 e4 e5 e6 e7 hs hd he hf
    generalize Lib.popAux 8 (x % 256) = q0
    generalize Lib.popAux 8 (x / 256 % 256) = q1
    omega
  rw [P]
  exact fold8 _ _ _ _ _ _ _ _ c d e f (q _) (q _) (q _) (q _) (q _) (q _) (q _) (q _) hs hd he hf
end Go.Proofs.YtdcpbjpghgbbiaaDoor
