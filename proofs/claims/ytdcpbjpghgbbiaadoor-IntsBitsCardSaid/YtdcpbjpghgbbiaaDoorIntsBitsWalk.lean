/- The walk of IntsBits: it returns true and writes nothing that was there. No condition but the kinds' own ranges and the laid table. Printed by gen_laws2.py. -/
import Derived.Test.YtdcpbjpghgbbiaaDoorIntsBegun
import Derived.Test.YtdcpbjpghgbbiaaDoorIntsBitMath
import Derived.BigQuiet
namespace Go.Proofs.YtdcpbjpghgbbiaaDoor
open Go.RowKit
set_option linter.unusedVariables false
set_option maxHeartbeats 8000000
set_option maxRecDepth 100000

theorem eq_yes (k n : Int) (w : World) : Calls Tryd.prog 23 #[.agg #[.int .i64 k, .int .i64 n], .agg #[.int .i64 k, .int .i64 n]] w fun e w' => e = .returned (.bool true) ∧ Below w.heap.size w w' :=
  (eq_any k n k n w).mono fun _ _ h => ⟨h.1.trans (by simp), h.2⟩
theorem may_2 (n : Int) : Hid (mayB (2, n) = true) := rfl
theorem s32_range (n : Int) : -2147483648 ≤ s32 n ∧ s32 n ≤ 2147483647 := by
  unfold s32
  simp [IntKind.wrap, IntKind.bits, IntKind.signed]
  constructor <;> (split <;> omega)
theorem may_1 (n : Int) (h1 : -2147483648 ≤ n) (h2 : n ≤ 2147483647) : Hid (mayB (1, n) = true) := by
  show mayB (1, n) = true
  simp [mayB, h1, h2]
theorem s32_id (n : Int) (h1 : -2147483648 ≤ n) (h2 : n ≤ 2147483647) : s32 n = n := by
  unfold s32
  simp [IntKind.wrap, IntKind.bits, IntKind.signed]
  split <;> omega
theorem asize (w : World) (o : Obj) : (w.alloc o).heap.size = w.heap.size + 1 := by simp
theorem wk_small (k m : Int) (hk : k = 1 ∨ k = 2) (h : 0 ≤ m ∧ m ≤ 64) : wk k m = m := by
  rcases hk with rfl | rfl
  · exact s32_id m (by omega) (by omega)
  · rfl
theorem low_n (k X : Int) (hk : k = 1 ∨ k = 2) : low (k, X) < 2 ^ (32 * k.toNat) ∧ 0 ≤ low (k, X) := by
  rcases hk with rfl | rfl
  · have e : low (1, X) = X % 4294967296 := rfl
    rw [e]; constructor
    · exact Int.emod_lt_of_pos _ (by decide)
    · exact Int.emod_nonneg _ (by decide)
  · have e : low (2, X) = X % 18446744073709551616 := rfl
    rw [e]; constructor
    · exact Int.emod_lt_of_pos _ (by decide)
    · exact Int.emod_nonneg _ (by decide)
theorem compl_1 (a : Int) : low (1, wk 1 (-a - 1)) = 4294967295 - low (1, wk 1 a) := by
  have e : ∀ X, low (1, X) = X % 4294967296 := fun _ => rfl
  rw [e, e]
  show s32 _ % 4294967296 = 4294967295 - s32 _ % 4294967296
  unfold s32
  simp [IntKind.wrap, IntKind.bits, IntKind.signed]
  omega
theorem compl_2 (a : Int) : low (2, wk 2 (-a - 1)) = 18446744073709551615 - low (2, wk 2 a) := by
  have e : ∀ X, low (2, X) = X % 18446744073709551616 := fun _ => rfl
  rw [e, e]
  show (-a - 1) % 18446744073709551616 = 18446744073709551615 - a % 18446744073709551616
  omega
/-- What the counts are, of a number below 2^n. -/
theorem counts (u n : Nat) (hn : n = 32 ∨ n = 64) (h : u < 2 ^ n) :
    0 ≤ (Lib.onesCount u : Int) ∧ (Lib.onesCount u : Int) ≤ 64 ∧ wrap64 (wrap64 (64 - (Lib.bitLen u : Int) - 64) + n) = (n : Int) - Lib.bitLen u ∧ 0 ≤ (n : Int) - Lib.bitLen u ∧ (n : Int) - Lib.bitLen u ≤ 64 ∧ 0 ≤ min (Lib.ctz 64 u : Int) n ∧ min (Lib.ctz 64 u : Int) n ≤ 64 := by
  have a1 := ones_le u n (by omega) h
  have a2 := len_le u n (by omega) h
  refine ⟨by omega, by omega, by unfold wrap64; omega, by omega, by omega, by omega, by omega⟩
theorem ones_facts (k X Y : Int) (n : Nat) (hk : k = 1 ∨ k = 2) (hn : (n : Int) = 32 * k) (hc : low (k, Y) = 2 ^ n - 1 - low (k, X)) (h0 : X = 0 ↔ low (k, X) = 0) :
    ∃ P Q L T : Int, Hid (wk k (Lib.onesCount (low (k, X)).toNat : Int) = P) ∧ Hid (wk k (Lib.onesCount (low (k, Y)).toNat : Int) = Q) ∧ Hid (wk k (wrap64 (wrap64 (64 - (Lib.bitLen (low (k, X)).toNat : Int) - 64) + 32 * k)) = L) ∧ Hid (wk k (min (Lib.ctz 64 (low (k, X)).toNat : Int) (32 * k)) = T) ∧
      P + Q = n ∧ (0 ≤ P ∧ P ≤ 64) ∧ (0 ≤ Q ∧ Q ≤ 64) ∧ 0 ≤ L ∧ L ≤ n ∧ 0 ≤ T ∧ T ≤ n ∧ (X = 0 → L = n ∧ T = n) ∧ (¬ X = 0 → ¬ L = n ∧ ¬ T = n ∧ L + T + P ≤ n) := by
  have hn' : n = 32 ∨ n = 64 := by omega
  have hkn : 32 * k.toNat = n := by omega
  obtain ⟨b1, b2⟩ := low_n k X hk
  obtain ⟨b3, b4⟩ := low_n k Y hk
  rw [hkn] at b1 b3
  have hpow : ((2 ^ n : Nat) : Int) = 2 ^ n := by simp
  generalize low (k, X) = U at *
  generalize low (k, Y) = V at *
  obtain ⟨u, rfl⟩ := Int.eq_ofNat_of_zero_le b2
  obtain ⟨v, rfl⟩ := Int.eq_ofNat_of_zero_le b4
  rw [← hpow] at b1 b3 hc
  have hu : u < 2 ^ n := by omega
  have hv : v = 2 ^ n - 1 - u := by omega
  obtain ⟨c1, c2, c3, c4, c5, c6, c7⟩ := counts u n hn' hu
  obtain ⟨g1, g2, _⟩ := counts v n hn' (by omega)
  have hs := ones_compl n u (by omega) hu
  rw [← hv] at hs
  have hl := len_le u n (by omega) hu
  simp only [Int.toNat_natCast]
  rw [← hn]
  refine ⟨Lib.onesCount u, Lib.onesCount v, n - Lib.bitLen u, min (Lib.ctz 64 u) n, wk_small k _ hk ⟨c1, c2⟩, wk_small k _ hk ⟨g1, g2⟩, ?_, wk_small k _ hk ⟨c6, c7⟩, by omega, ⟨c1, c2⟩, ⟨g1, g2⟩, c4, by omega, c6, by omega, fun hX => ?_, fun hX => ?_⟩
  · show wk k _ = _
    rw [c3]
    exact wk_small k _ hk ⟨c4, c5⟩
  · have : u = 0 := by have := h0.1 hX; omega
    subst this
    rw [len_zero, ctz_zero]
    omega
  · have hu0 : ¬ u = 0 := fun e => hX (h0.2 (by omega))
    have p1 := len_pos u (Nat.lt_of_lt_of_le hu (Nat.pow_le_pow_right (by decide) (by omega))) hu0
    have p2 := ctz_lt u n (by omega) hu0 hu
    have p3 := all_three u n (by omega) hu0 hu
    omega
theorem ones_facts_1 (a X Y : Int) (ha : -9223372036854775808 ≤ a ∧ a ≤ 9223372036854775807) (hX : X = wk 1 a) (hY : Y = wk 1 (-a - 1)) :
    ∃ P Q L T : Int, Hid (wk 1 (Lib.onesCount (low (1, X)).toNat : Int) = P) ∧ Hid (wk 1 (Lib.onesCount (low (1, Y)).toNat : Int) = Q) ∧ Hid (wk 1 (wrap64 (wrap64 (64 - (Lib.bitLen (low (1, X)).toNat : Int) - 64) + 32 * 1)) = L) ∧ Hid (wk 1 (min (Lib.ctz 64 (low (1, X)).toNat : Int) (32 * 1)) = T) ∧
      P + Q = 32 ∧ (0 ≤ P ∧ P ≤ 64) ∧ (0 ≤ Q ∧ Q ≤ 64) ∧ 0 ≤ L ∧ L ≤ 32 ∧ 0 ≤ T ∧ T ≤ 32 ∧ Hid (mayB (1, X) = true) ∧ Hid (mayB (1, Y) = true) ∧ (X = 0 → L = 32 ∧ T = 32) ∧ (¬ X = 0 → ¬ L = 32 ∧ ¬ T = 32 ∧ L + T + P ≤ 32) := by
  have rX : -2147483648 ≤ X ∧ X ≤ 2147483647 := by rw [hX]; exact s32_range a
  have rY : -2147483648 ≤ Y ∧ Y ≤ 2147483647 := by rw [hY]; exact s32_range _
  have hc : low (1, Y) = 2 ^ 32 - 1 - low (1, X) := by rw [hX, hY, compl_1]; rfl
  have h0 : X = 0 ↔ low (1, X) = 0 := by
    have e : low (1, X) = X % 4294967296 := rfl
    rw [e]; omega
  obtain ⟨P, Q, L, T, h1, h2, h3, h4, h5, h6, h7, h8, h9, h10, h11, h12, h13⟩ := ones_facts 1 X Y 32 (.inl rfl) (by decide) hc h0
  exact ⟨P, Q, L, T, h1, h2, h3, h4, h5, h6, h7, h8, h9, h10, h11, may_1 X rX.1 rX.2, may_1 Y rY.1 rY.2, h12, h13⟩
theorem ones_facts_2 (a X Y : Int) (ha : -9223372036854775808 ≤ a ∧ a ≤ 9223372036854775807) (hX : X = wk 2 a) (hY : Y = wk 2 (-a - 1)) :
    ∃ P Q L T : Int, Hid (wk 2 (Lib.onesCount (low (2, X)).toNat : Int) = P) ∧ Hid (wk 2 (Lib.onesCount (low (2, Y)).toNat : Int) = Q) ∧ Hid (wk 2 (wrap64 (wrap64 (64 - (Lib.bitLen (low (2, X)).toNat : Int) - 64) + 32 * 2)) = L) ∧ Hid (wk 2 (min (Lib.ctz 64 (low (2, X)).toNat : Int) (32 * 2)) = T) ∧
      P + Q = 64 ∧ (0 ≤ P ∧ P ≤ 64) ∧ (0 ≤ Q ∧ Q ≤ 64) ∧ 0 ≤ L ∧ L ≤ 64 ∧ 0 ≤ T ∧ T ≤ 64 ∧ Hid (mayB (2, X) = true) ∧ Hid (mayB (2, Y) = true) ∧ (X = 0 → L = 64 ∧ T = 64) ∧ (¬ X = 0 → ¬ L = 64 ∧ ¬ T = 64 ∧ L + T + P ≤ 64) := by
  have rX : -9223372036854775808 ≤ X ∧ X ≤ 9223372036854775807 := by rw [hX]; exact ha
  have rY : -9223372036854775808 ≤ Y ∧ Y ≤ 9223372036854775807 := by rw [hY, show wk 2 (-a - 1) = -a - 1 from rfl]; omega
  have hc : low (2, Y) = 2 ^ 64 - 1 - low (2, X) := by rw [hX, hY, compl_2]; rfl
  have h0 : X = 0 ↔ low (2, X) = 0 := by
    have e : low (2, X) = X % 18446744073709551616 := rfl
    rw [e]; omega
  obtain ⟨P, Q, L, T, h1, h2, h3, h4, h5, h6, h7, h8, h9, h10, h11, h12, h13⟩ := ones_facts 2 X Y 64 (.inr rfl) (by decide) hc h0
  exact ⟨P, Q, L, T, h1, h2, h3, h4, h5, h6, h7, h8, h9, h10, h11, may_2 X, may_2 Y, h12, h13⟩
theorem not_i64 (a : Int) (h : -9223372036854775808 ≤ a ∧ a ≤ 9223372036854775807) : bits .xor .i64 (-1) a = -a - 1 := by
  have e : (BitVec.ofInt 64 (-1) ^^^ BitVec.ofInt 64 a).toNat = (18446744073709551615 - a % 18446744073709551616).toNat := by
    have e1 : BitVec.ofInt 64 (-1) = BitVec.allOnes 64 := by decide
    rw [e1, BitVec.allOnes_xor, BitVec.toNat_not, BitVec.toNat_ofInt]
    have : ((2 ^ 64 : Nat) : Int) = 18446744073709551616 := by decide
    rw [this]
    omega
  show IntKind.i64.wrap ((BitVec.ofInt 64 (-1) ^^^ BitVec.ofInt 64 a).toNat : Int) = _
  rw [e]
  simp [IntKind.wrap, IntKind.bits, IntKind.signed]
  omega
theorem or_two (p q : Nat) (h : q < p) : 2 ^ p ||| 2 ^ q = 2 ^ q + 2 ^ p := by
  have := Nat.two_pow_add_eq_or_of_lt (Nat.pow_lt_pow_right (a := 2) (by decide) h) 1
  rw [Nat.mul_one] at this
  rw [← this, Nat.add_comm]
theorem ones_top (r i : Nat) (hr : r < 2 ^ i) (hi : i < 64) : Lib.onesCount (r + 2 ^ i) = Lib.onesCount r + 1 := by
  have hp : r + 2 ^ i < 2 ^ (i + 1) := by rw [Nat.pow_succ]; omega
  have e1 : Lib.onesCount (r + 2 ^ i) = Lib.popAux (i + 1) (r + 2 ^ i) := by
    have := pop_fuel (r + 2 ^ i) (i + 1) hp (63 - i)
    rw [show i + 1 + (63 - i) = 64 by omega] at this
    exact this
  have e2 : Lib.onesCount r = Lib.popAux i r := by
    have := pop_fuel r i hr (64 - i)
    rw [show i + (64 - i) = 64 by omega] at this
    exact this
  have mods : ∀ f r g, Lib.popAux f (r + 2 ^ f * g) = Lib.popAux f r := by
    intro f
    induction f with
    | zero => intro r g; rfl
    | succ f ih =>
      intro r g
      have e : ∀ x, Lib.popAux (f + 1) x = x % 2 + Lib.popAux f (x / 2) := fun _ => rfl
      rw [e, e]
      have h1 : (r + 2 ^ (f + 1) * g) / 2 = r / 2 + 2 ^ f * g := by rw [Nat.pow_succ, Nat.mul_assoc, Nat.mul_left_comm]; omega
      have h2 : (r + 2 ^ (f + 1) * g) % 2 = r % 2 := by rw [Nat.pow_succ, Nat.mul_assoc, Nat.mul_left_comm]; omega
      rw [h1, h2, ih]
  rw [e1, e2, pop_succ]
  have h1 := mods i r 1
  rw [Nat.mul_one] at h1
  rw [h1]
  have h2 : (r + 2 ^ i) / 2 ^ i = 1 := by
    rw [Nat.add_div_right _ (Nat.two_pow_pos i), Nat.div_eq_of_lt hr]
  rw [h2]
theorem two_bits (p q : Nat) (hp : p < 64) (hq : q < 64) : Lib.bitLen (2 ^ p ||| 2 ^ q) = max p q + 1 ∧ Lib.ctz 64 (2 ^ p ||| 2 ^ q) = min p q ∧ Lib.onesCount (2 ^ p ||| 2 ^ q) = if p = q then 1 else 2 := by
  have one : ∀ i, i < 64 → Lib.bitLen (2 ^ i) = i + 1 ∧ Lib.ctz 64 (2 ^ i) = i ∧ Lib.onesCount (2 ^ i) = 1 := fun i hi => by
    have h1 := bit_top 0 i (Nat.two_pow_pos i) hi
    have h2 := ones_top 0 i (Nat.two_pow_pos i) hi
    rw [Nat.zero_add] at h1 h2
    exact ⟨h1.1, h1.2, h2⟩
  have lt : ∀ p q, q < p → p < 64 → Lib.bitLen (2 ^ q + 2 ^ p) = p + 1 ∧ Lib.ctz 64 (2 ^ q + 2 ^ p) = q ∧ Lib.onesCount (2 ^ q + 2 ^ p) = 2 := fun p q h hp => by
    have hlt := Nat.pow_lt_pow_right (a := 2) (by decide) h
    have h1 := bit_top (2 ^ q) p hlt hp
    have h2 := ones_top (2 ^ q) p hlt hp
    have h3 := one q (by omega)
    have hz := Nat.two_pow_pos q
    rw [if_neg (by omega), h3.2.1] at h1
    rw [h3.2.2] at h2
    exact ⟨h1.1, h1.2, h2⟩
  rcases Nat.lt_trichotomy p q with h | h | h
  · rw [Nat.or_comm, or_two q p h, if_neg (by omega)]
    obtain ⟨a, b, c⟩ := lt q p h hq
    exact ⟨by omega, by omega, c⟩
  · subst h
    rw [Nat.or_self, if_pos rfl]
    obtain ⟨a, b, c⟩ := one p hp
    exact ⟨by omega, by omega, c⟩
  · rw [or_two p q h, if_neg (by omega)]
    obtain ⟨a, b, c⟩ := lt p q h hp
    exact ⟨by omega, by omega, c⟩
theorem ofInt_pow (p : Nat) (h : p < 64) : (BitVec.ofInt 64 (wrap64 (2 ^ p))).toNat = 2 ^ p := by
  have hlt : 2 ^ p < 2 ^ 64 := Nat.pow_lt_pow_right (by decide) h
  have e : ((2 ^ p : Nat) : Int) = (2 : Int) ^ p := by simp
  rw [BitVec.toNat_ofInt, ← e]
  generalize 2 ^ p = z at hlt ⊢
  unfold wrap64
  omega
theorem or_low (p q : Nat) (hp : p < 64) (hq : q < 64) : bits .or .i64 (wrap64 (2 ^ p)) (wrap64 (2 ^ q)) % 18446744073709551616 = ((2 ^ p ||| 2 ^ q : Nat) : Int) := by
  have e : (BitVec.ofInt 64 (wrap64 (2 ^ p)) ||| BitVec.ofInt 64 (wrap64 (2 ^ q))).toNat = 2 ^ p ||| 2 ^ q := by
    rw [BitVec.toNat_or, ofInt_pow p hp, ofInt_pow q hq]
  have hlt : 2 ^ p ||| 2 ^ q < 2 ^ 64 := Nat.or_lt_two_pow (Nat.pow_lt_pow_right (by decide) hp) (Nat.pow_lt_pow_right (by decide) hq)
  have e2 : bits .or .i64 (wrap64 (2 ^ p)) (wrap64 (2 ^ q)) = IntKind.i64.wrap ((BitVec.ofInt 64 (wrap64 (2 ^ p)) ||| BitVec.ofInt 64 (wrap64 (2 ^ q))).toNat : Int) := rfl
  rw [e2, e]
  simp [IntKind.wrap, IntKind.bits, IntKind.signed]
  omega
theorem bits_low_1 (p q : Nat) (hp : p < 32) (hq : q < 32) : low (1, wk 1 (bits .or .i64 (wrap64 (2 ^ p)) (wrap64 (2 ^ q)))) = ((2 ^ p ||| 2 ^ q : Nat) : Int) := by
  have e : ∀ X, low (1, X) = X % 4294967296 := fun _ => rfl
  have h := or_low p q (by omega) (by omega)
  have hlt : 2 ^ p ||| 2 ^ q < 2 ^ 32 := Nat.or_lt_two_pow (Nat.pow_lt_pow_right (by decide) hp) (Nat.pow_lt_pow_right (by decide) hq)
  have hw : ∀ B, wk 1 B = s32 B := fun _ => rfl
  generalize bits .or .i64 (wrap64 (2 ^ p)) (wrap64 (2 ^ q)) = B at *
  generalize 2 ^ p ||| 2 ^ q = C at *
  rw [hw, e]
  unfold s32
  simp [IntKind.wrap, IntKind.bits, IntKind.signed]
  omega
theorem bits_low_2 (p q : Nat) (hp : p < 64) (hq : q < 64) : low (2, wk 2 (bits .or .i64 (wrap64 (2 ^ p)) (wrap64 (2 ^ q)))) = ((2 ^ p ||| 2 ^ q : Nat) : Int) := by
  have e : ∀ X, low (2, X) = X % 18446744073709551616 := fun _ => rfl
  have hw : ∀ B, wk 2 B = B := fun _ => rfl
  have h := or_low p q hp hq
  generalize bits .or .i64 (wrap64 (2 ^ p)) (wrap64 (2 ^ q)) = B at *
  generalize 2 ^ p ||| 2 ^ q = C at *
  rw [hw, e]
  exact h
theorem bits_facts (k n n1 V I K : Int) (hk : k = 1 ∨ k = 2) (hn : n = 32 * k) (hn1 : n1 = n - 1) (I0 : 0 ≤ I) (I1 : I < n) (K0 : 0 ≤ K) (K1 : K < n) (hV : low (k, V) = ((2 ^ I.toNat ||| 2 ^ K.toNat : Nat) : Int)) :
    Hid (wk k (wrap64 (wrap64 (64 - (Lib.bitLen (low (k, V)).toNat : Int) - 64) + 32 * k)) = n1 - max I K) ∧ Hid (wk k (min (Lib.ctz 64 (low (k, V)).toNat : Int) (32 * k)) = min I K) ∧ Hid (wk k (Lib.onesCount (low (k, V)).toNat : Int) = if I = K then 1 else 2) := by
  obtain ⟨a, b, c⟩ := two_bits I.toNat K.toNat (by omega) (by omega)
  rw [hV, Int.toNat_natCast, a, b, c]
  refine ⟨?_, ?_, ?_⟩
  · show wk k _ = _
    have : wrap64 (wrap64 (64 - ((max I.toNat K.toNat + 1 : Nat) : Int) - 64) + 32 * k) = n1 - max I K := by unfold wrap64; omega
    rw [this]
    exact wk_small k _ hk (by omega)
  · show wk k _ = _
    have : min ((min I.toNat K.toNat : Nat) : Int) (32 * k) = min I K := by omega
    rw [this]
    exact wk_small k _ hk (by omega)
  · show wk k _ = _
    rw [wk_small k _ hk (by split <;> decide)]
    by_cases h : I = K
    · subst h; simp
    · rw [if_neg (by omega), if_neg h]; rfl
theorem zero_facts_1 : Hid (wk 1 (wrap64 (wrap64 (64 - (Lib.bitLen (low (1, 0)).toNat : Int) - 64) + 32 * 1)) = 32) ∧ Hid (wk 1 (min (Lib.ctz 64 (low (1, 0)).toNat : Int) (32 * 1)) = 32) := ⟨by show wk 1 _ = _; decide +kernel, by show wk 1 _ = _; decide +kernel⟩
theorem zero_facts_2 : Hid (wk 2 (wrap64 (wrap64 (64 - (Lib.bitLen (low (2, 0)).toNat : Int) - 64) + 32 * 2)) = 64) ∧ Hid (wk 2 (min (Lib.ctz 64 (low (2, 0)).toNat : Int) (32 * 2)) = 64) := ⟨by show wk 2 _ = _; decide +kernel, by show wk 2 _ = _; decide +kernel⟩
theorem may_wk1 (n : Int) : Hid (mayB (1, wk 1 n) = true) := by
  have hw : wk 1 n = s32 n := rfl
  rw [hw]
  exact may_1 _ (s32_range n).1 (s32_range n).2
theorem intsBits_walk (i k : Int) (wide : Bool) (w0 : (Lit.int .i64 i).wf = true) (w1 : (Lit.int .i64 k).wf = true) (w : World) (htab : TabAt 0 Lib.deBruijn64tab w) :
    Calls Tryd.prog 12 #[.int .i64 i, .int .i64 k, .bool wide] w fun e w' => e = .returned (.bool true) ∧ Below w.heap.size w w' := by
  cases wide
  · by_cases hi : i < 0
    · have d0 : decide (i < 0) = true := decide_eq_true hi
      clear w0 w1 hi
      go_enter Tryd.func12, Tryd.ntmps12
      go_wp2_with fail
      refine (begun_any w).mono ?_
      rintro e w1 ⟨rfl, hbw⟩
      go_wp2_with fail
      go_ret
      exact ⟨rfl, hbw⟩
    · by_cases hj : k < 0
      · have d0 : decide (i < 0) = false := decide_eq_false hi
        have d1 : decide (k < 0) = true := decide_eq_true hj
        clear w0 w1 hi hj
        go_enter Tryd.func12, Tryd.ntmps12
        go_wp2_with fail
        refine (begun_any w).mono ?_
        rintro e w1 ⟨rfl, hbw⟩
        go_wp2_with fail
        go_ret
        exact ⟨rfl, hbw⟩
      · have d0 : decide (i < 0) = false := decide_eq_false hi
        have d1 : decide (k < 0) = false := decide_eq_false hj
        obtain ⟨I, hI⟩ : ∃ I, i.tmod 32 = I := ⟨_, rfl⟩
        obtain ⟨K, hK⟩ : ∃ K, k.tmod 32 = K := ⟨_, rfl⟩
        have I0 : 0 ≤ I := by rw [← hI]; exact Int.tmod_nonneg _ (by omega)
        have I1 : I < 32 := by rw [← hI]; exact Int.tmod_lt_of_pos _ (by omega)
        have K0 : 0 ≤ K := by rw [← hK]; exact Int.tmod_nonneg _ (by omega)
        have K1 : K < 32 := by rw [← hK]; exact Int.tmod_lt_of_pos _ (by omega)
        have hlow := bits_low_1 I.toNat K.toNat (by omega) (by omega)
        obtain ⟨V, hV⟩ : ∃ V, wk 1 (bits .or .i64 (wrap64 (2 ^ I.toNat)) (wrap64 (2 ^ K.toNat))) = V := ⟨_, rfl⟩
        rw [hV] at hlow
        obtain ⟨HL, HT, HP⟩ := bits_facts 1 32 31 V I K (.inl rfl) (by decide) (by decide) I0 I1 K0 K1 hlow
        have MV : Hid (mayB (1, V) = true) := by rw [← hV]; exact may_wk1 _
        have M0 : Hid (mayB (1, 0) = true) := may_1 0 (by omega) (by omega)
        obtain ⟨Z1, Z2⟩ := zero_facts_1
        have HV := Lib.hid hV
        clear w0 w1 hV hlow
        by_cases hs : I = K
        · rw [if_pos hs] at HP
          subst hs
          rw [Int.max_self] at HL
          rw [Int.min_self] at HT
          go_enter Tryd.func12, Tryd.ntmps12
          go_wp2_with fail
          refine (begun_any w).mono ?_
          rintro e w1 ⟨rfl, hbw⟩
          have hB : Boxes w1 [] := trivial
          go_wp2_with fail
          go_quiet (fail)
          go_wp2_with fail
          refine (refwrap_1 _ _).mono ?_
          rintro e w2 ⟨rfl, hb2⟩
          replace hbw := (below_drewN hbw _).trans (hb2.mono hbw.size)
          replace hB : Boxes w2 [] := trivial
          clear hb2
          rw [HV.out]
          replace hB := hB.new (1) (V) 23
          replace hbw := hbw.alloc hbw.size (.cells #[.int .i64 (1), .int .i64 (V)] 23)
          have hB' := hB
          obtain ⟨⟨z0, x0, y0⟩, _⟩ := hB'
          go_wp2_with fail
          clear z0 x0 y0
          refine (one_clz 103 1 V _ (.inl rfl) rfl rfl rfl (show ofV 103 = (1, 103) by decide) (show kindsV 103 = ([1], 1, true) by decide) MV).mono ?_
          rintro e w3 ⟨rfl, hb3⟩
          replace hbw := hbw.trans (hb3.mono hbw.size)
          replace hB := hB.below hb3
          clear hb3
          try simp only [asize] at hB
          unfold T1
          rw [HL.out]
          replace hB := hB.new (1) (31 - I) 23
          replace hbw := hbw.alloc hbw.size (.cells #[.int .i64 (1), .int .i64 (31 - I)] 23)
          have hB' := hB
          obtain ⟨⟨z0, x0, y0⟩, ⟨z1, x1, y1⟩, _⟩ := hB'
          go_wp2_with fail
          clear z0 x0 y0 z1 x1 y1
          refine (one_ctz 104 1 V _ (.inl rfl) rfl rfl rfl (show ofV 104 = (1, 104) by decide) (show kindsV 104 = ([1], 1, true) by decide) MV (tab_up htab hbw (tab_size htab))).mono ?_
          rintro e w4 ⟨rfl, hb4⟩
          replace hbw := hbw.trans (hb4.mono hbw.size)
          replace hB := hB.below hb4
          clear hb4
          try simp only [asize] at hB
          unfold T1
          rw [HT.out]
          replace hB := hB.new (1) (I) 23
          replace hbw := hbw.alloc hbw.size (.cells #[.int .i64 (1), .int .i64 (I)] 23)
          have hB' := hB
          obtain ⟨⟨z0, x0, y0⟩, ⟨z1, x1, y1⟩, ⟨z2, x2, y2⟩, _⟩ := hB'
          go_wp2_with fail
          clear z0 x0 y0 z1 x1 y1 z2 x2 y2
          refine (one_pop 105 1 V _ (.inl rfl) rfl rfl rfl (show ofV 105 = (1, 105) by decide) (show kindsV 105 = ([1], 1, true) by decide) MV).mono ?_
          rintro e w5 ⟨rfl, hb5⟩
          replace hbw := hbw.trans (hb5.mono hbw.size)
          replace hB := hB.below hb5
          clear hb5
          try simp only [asize] at hB
          unfold T1
          rw [HP.out]
          replace hB := hB.new (1) (1) 23
          replace hbw := hbw.alloc hbw.size (.cells #[.int .i64 (1), .int .i64 (1)] 23)
          have hB' := hB
          obtain ⟨⟨z0, x0, y0⟩, ⟨z1, x1, y1⟩, ⟨z2, x2, y2⟩, ⟨z3, x3, y3⟩, _⟩ := hB'
          go_wp2_with fail
          clear z0 x0 y0 z1 x1 y1 z2 x2 y2 z3 x3 y3
          refine (one_clz 103 1 0 _ (.inl rfl) rfl rfl rfl (show ofV 103 = (1, 103) by decide) (show kindsV 103 = ([1], 1, true) by decide) M0).mono ?_
          rintro e w6 ⟨rfl, hb6⟩
          replace hbw := hbw.trans (hb6.mono hbw.size)
          replace hB := hB.below hb6
          clear hb6
          try simp only [asize] at hB
          unfold T1
          rw [Z1.out]
          replace hB := hB.new (1) (32) 23
          replace hbw := hbw.alloc hbw.size (.cells #[.int .i64 (1), .int .i64 (32)] 23)
          have hB' := hB
          obtain ⟨⟨z0, x0, y0⟩, ⟨z1, x1, y1⟩, ⟨z2, x2, y2⟩, ⟨z3, x3, y3⟩, ⟨z4, x4, y4⟩, _⟩ := hB'
          go_wp2_with fail
          clear z0 x0 y0 z1 x1 y1 z2 x2 y2 z3 x3 y3 z4 x4 y4
          refine (one_ctz 104 1 0 _ (.inl rfl) rfl rfl rfl (show ofV 104 = (1, 104) by decide) (show kindsV 104 = ([1], 1, true) by decide) M0 (tab_up htab hbw (tab_size htab))).mono ?_
          rintro e w7 ⟨rfl, hb7⟩
          replace hbw := hbw.trans (hb7.mono hbw.size)
          replace hB := hB.below hb7
          clear hb7
          try simp only [asize] at hB
          unfold T1
          rw [Z2.out]
          replace hB := hB.new (1) (32) 23
          replace hbw := hbw.alloc hbw.size (.cells #[.int .i64 (1), .int .i64 (32)] 23)
          have hB' := hB
          obtain ⟨⟨z0, x0, y0⟩, ⟨z1, x1, y1⟩, ⟨z2, x2, y2⟩, ⟨z3, x3, y3⟩, ⟨z4, x4, y4⟩, ⟨z5, x5, y5⟩, _⟩ := hB'
          go_wp2_with fail
          go_ret
          exact ⟨rfl, hbw⟩
        · rw [if_neg hs] at HP
          have d2 : (I == K) = false := beq_eq_false_iff_ne.2 hs
          obtain ⟨L, eL⟩ : ∃ L, 31 - max I K = L := ⟨_, rfl⟩
          obtain ⟨T, eT⟩ : ∃ T, min I K = T := ⟨_, rfl⟩
          rw [eT] at HT
          rw [eL] at HL
          clear hs
          go_enter Tryd.func12, Tryd.ntmps12
          go_wp2_with fail
          refine (begun_any w).mono ?_
          rintro e w1 ⟨rfl, hbw⟩
          have hB : Boxes w1 [] := trivial
          go_wp2_with fail
          go_quiet (fail)
          go_wp2_with fail
          refine (refwrap_1 _ _).mono ?_
          rintro e w2 ⟨rfl, hb2⟩
          replace hbw := (below_drewN hbw _).trans (hb2.mono hbw.size)
          replace hB : Boxes w2 [] := trivial
          clear hb2
          rw [HV.out]
          replace hB := hB.new (1) (V) 23
          replace hbw := hbw.alloc hbw.size (.cells #[.int .i64 (1), .int .i64 (V)] 23)
          have hB' := hB
          obtain ⟨⟨z0, x0, y0⟩, _⟩ := hB'
          go_wp2_with fail
          clear z0 x0 y0
          refine (one_clz 103 1 V _ (.inl rfl) rfl rfl rfl (show ofV 103 = (1, 103) by decide) (show kindsV 103 = ([1], 1, true) by decide) MV).mono ?_
          rintro e w3 ⟨rfl, hb3⟩
          replace hbw := hbw.trans (hb3.mono hbw.size)
          replace hB := hB.below hb3
          clear hb3
          try simp only [asize] at hB
          unfold T1
          rw [HL.out]
          replace hB := hB.new (1) (L) 23
          replace hbw := hbw.alloc hbw.size (.cells #[.int .i64 (1), .int .i64 (L)] 23)
          have hB' := hB
          obtain ⟨⟨z0, x0, y0⟩, ⟨z1, x1, y1⟩, _⟩ := hB'
          go_wp2_with fail
          clear z0 x0 y0 z1 x1 y1
          refine (one_ctz 104 1 V _ (.inl rfl) rfl rfl rfl (show ofV 104 = (1, 104) by decide) (show kindsV 104 = ([1], 1, true) by decide) MV (tab_up htab hbw (tab_size htab))).mono ?_
          rintro e w4 ⟨rfl, hb4⟩
          replace hbw := hbw.trans (hb4.mono hbw.size)
          replace hB := hB.below hb4
          clear hb4
          try simp only [asize] at hB
          unfold T1
          rw [HT.out]
          replace hB := hB.new (1) (T) 23
          replace hbw := hbw.alloc hbw.size (.cells #[.int .i64 (1), .int .i64 (T)] 23)
          have hB' := hB
          obtain ⟨⟨z0, x0, y0⟩, ⟨z1, x1, y1⟩, ⟨z2, x2, y2⟩, _⟩ := hB'
          go_wp2_with fail
          clear z0 x0 y0 z1 x1 y1 z2 x2 y2
          refine (one_pop 105 1 V _ (.inl rfl) rfl rfl rfl (show ofV 105 = (1, 105) by decide) (show kindsV 105 = ([1], 1, true) by decide) MV).mono ?_
          rintro e w5 ⟨rfl, hb5⟩
          replace hbw := hbw.trans (hb5.mono hbw.size)
          replace hB := hB.below hb5
          clear hb5
          try simp only [asize] at hB
          unfold T1
          rw [HP.out]
          replace hB := hB.new (1) (2) 23
          replace hbw := hbw.alloc hbw.size (.cells #[.int .i64 (1), .int .i64 (2)] 23)
          have hB' := hB
          obtain ⟨⟨z0, x0, y0⟩, ⟨z1, x1, y1⟩, ⟨z2, x2, y2⟩, ⟨z3, x3, y3⟩, _⟩ := hB'
          go_wp2_with fail
          clear z0 x0 y0 z1 x1 y1 z2 x2 y2 z3 x3 y3
          refine (one_clz 103 1 0 _ (.inl rfl) rfl rfl rfl (show ofV 103 = (1, 103) by decide) (show kindsV 103 = ([1], 1, true) by decide) M0).mono ?_
          rintro e w6 ⟨rfl, hb6⟩
          replace hbw := hbw.trans (hb6.mono hbw.size)
          replace hB := hB.below hb6
          clear hb6
          try simp only [asize] at hB
          unfold T1
          rw [Z1.out]
          replace hB := hB.new (1) (32) 23
          replace hbw := hbw.alloc hbw.size (.cells #[.int .i64 (1), .int .i64 (32)] 23)
          have hB' := hB
          obtain ⟨⟨z0, x0, y0⟩, ⟨z1, x1, y1⟩, ⟨z2, x2, y2⟩, ⟨z3, x3, y3⟩, ⟨z4, x4, y4⟩, _⟩ := hB'
          go_wp2_with fail
          clear z0 x0 y0 z1 x1 y1 z2 x2 y2 z3 x3 y3 z4 x4 y4
          refine (one_ctz 104 1 0 _ (.inl rfl) rfl rfl rfl (show ofV 104 = (1, 104) by decide) (show kindsV 104 = ([1], 1, true) by decide) M0 (tab_up htab hbw (tab_size htab))).mono ?_
          rintro e w7 ⟨rfl, hb7⟩
          replace hbw := hbw.trans (hb7.mono hbw.size)
          replace hB := hB.below hb7
          clear hb7
          try simp only [asize] at hB
          unfold T1
          rw [Z2.out]
          replace hB := hB.new (1) (32) 23
          replace hbw := hbw.alloc hbw.size (.cells #[.int .i64 (1), .int .i64 (32)] 23)
          have hB' := hB
          obtain ⟨⟨z0, x0, y0⟩, ⟨z1, x1, y1⟩, ⟨z2, x2, y2⟩, ⟨z3, x3, y3⟩, ⟨z4, x4, y4⟩, ⟨z5, x5, y5⟩, _⟩ := hB'
          go_wp2_with fail
          go_ret
          exact ⟨rfl, hbw⟩
  · by_cases hi : i < 0
    · have d0 : decide (i < 0) = true := decide_eq_true hi
      clear w0 w1 hi
      go_enter Tryd.func12, Tryd.ntmps12
      go_wp2_with fail
      refine (begun_any w).mono ?_
      rintro e w1 ⟨rfl, hbw⟩
      go_wp2_with fail
      go_ret
      exact ⟨rfl, hbw⟩
    · by_cases hj : k < 0
      · have d0 : decide (i < 0) = false := decide_eq_false hi
        have d1 : decide (k < 0) = true := decide_eq_true hj
        clear w0 w1 hi hj
        go_enter Tryd.func12, Tryd.ntmps12
        go_wp2_with fail
        refine (begun_any w).mono ?_
        rintro e w1 ⟨rfl, hbw⟩
        go_wp2_with fail
        go_ret
        exact ⟨rfl, hbw⟩
      · have d0 : decide (i < 0) = false := decide_eq_false hi
        have d1 : decide (k < 0) = false := decide_eq_false hj
        obtain ⟨I, hI⟩ : ∃ I, i.tmod 64 = I := ⟨_, rfl⟩
        obtain ⟨K, hK⟩ : ∃ K, k.tmod 64 = K := ⟨_, rfl⟩
        have I0 : 0 ≤ I := by rw [← hI]; exact Int.tmod_nonneg _ (by omega)
        have I1 : I < 64 := by rw [← hI]; exact Int.tmod_lt_of_pos _ (by omega)
        have K0 : 0 ≤ K := by rw [← hK]; exact Int.tmod_nonneg _ (by omega)
        have K1 : K < 64 := by rw [← hK]; exact Int.tmod_lt_of_pos _ (by omega)
        have hlow := bits_low_2 I.toNat K.toNat (by omega) (by omega)
        obtain ⟨V, hV⟩ : ∃ V, wk 2 (bits .or .i64 (wrap64 (2 ^ I.toNat)) (wrap64 (2 ^ K.toNat))) = V := ⟨_, rfl⟩
        rw [hV] at hlow
        obtain ⟨HL, HT, HP⟩ := bits_facts 2 64 63 V I K (.inr rfl) (by decide) (by decide) I0 I1 K0 K1 hlow
        have MV : Hid (mayB (2, V) = true) := by rw [← hV]; exact may_2 _
        have M0 : Hid (mayB (2, 0) = true) := may_2 0
        obtain ⟨Z1, Z2⟩ := zero_facts_2
        have HV := Lib.hid hV
        clear w0 w1 hV hlow
        by_cases hs : I = K
        · rw [if_pos hs] at HP
          subst hs
          rw [Int.max_self] at HL
          rw [Int.min_self] at HT
          go_enter Tryd.func12, Tryd.ntmps12
          go_wp2_with fail
          refine (begun_any w).mono ?_
          rintro e w1 ⟨rfl, hbw⟩
          have hB : Boxes w1 [] := trivial
          go_wp2_with fail
          go_quiet (fail)
          go_wp2_with fail
          refine (refwrap_2 _ _).mono ?_
          rintro e w2 ⟨rfl, hb2⟩
          replace hbw := (below_drewN hbw _).trans (hb2.mono hbw.size)
          replace hB : Boxes w2 [] := trivial
          clear hb2
          rw [HV.out]
          replace hB := hB.new (2) (V) 23
          replace hbw := hbw.alloc hbw.size (.cells #[.int .i64 (2), .int .i64 (V)] 23)
          have hB' := hB
          obtain ⟨⟨z0, x0, y0⟩, _⟩ := hB'
          go_wp2_with fail
          clear z0 x0 y0
          refine (one_clz 121 2 V _ (.inr rfl) rfl rfl rfl (show ofV 121 = (2, 103) by decide) (show kindsV 121 = ([2], 2, true) by decide) MV).mono ?_
          rintro e w3 ⟨rfl, hb3⟩
          replace hbw := hbw.trans (hb3.mono hbw.size)
          replace hB := hB.below hb3
          clear hb3
          try simp only [asize] at hB
          unfold T1
          rw [HL.out]
          replace hB := hB.new (2) (63 - I) 23
          replace hbw := hbw.alloc hbw.size (.cells #[.int .i64 (2), .int .i64 (63 - I)] 23)
          have hB' := hB
          obtain ⟨⟨z0, x0, y0⟩, ⟨z1, x1, y1⟩, _⟩ := hB'
          go_wp2_with fail
          clear z0 x0 y0 z1 x1 y1
          refine (one_ctz 122 2 V _ (.inr rfl) rfl rfl rfl (show ofV 122 = (2, 104) by decide) (show kindsV 122 = ([2], 2, true) by decide) MV (tab_up htab hbw (tab_size htab))).mono ?_
          rintro e w4 ⟨rfl, hb4⟩
          replace hbw := hbw.trans (hb4.mono hbw.size)
          replace hB := hB.below hb4
          clear hb4
          try simp only [asize] at hB
          unfold T1
          rw [HT.out]
          replace hB := hB.new (2) (I) 23
          replace hbw := hbw.alloc hbw.size (.cells #[.int .i64 (2), .int .i64 (I)] 23)
          have hB' := hB
          obtain ⟨⟨z0, x0, y0⟩, ⟨z1, x1, y1⟩, ⟨z2, x2, y2⟩, _⟩ := hB'
          go_wp2_with fail
          clear z0 x0 y0 z1 x1 y1 z2 x2 y2
          refine (one_pop 123 2 V _ (.inr rfl) rfl rfl rfl (show ofV 123 = (2, 105) by decide) (show kindsV 123 = ([2], 2, true) by decide) MV).mono ?_
          rintro e w5 ⟨rfl, hb5⟩
          replace hbw := hbw.trans (hb5.mono hbw.size)
          replace hB := hB.below hb5
          clear hb5
          try simp only [asize] at hB
          unfold T1
          rw [HP.out]
          replace hB := hB.new (2) (1) 23
          replace hbw := hbw.alloc hbw.size (.cells #[.int .i64 (2), .int .i64 (1)] 23)
          have hB' := hB
          obtain ⟨⟨z0, x0, y0⟩, ⟨z1, x1, y1⟩, ⟨z2, x2, y2⟩, ⟨z3, x3, y3⟩, _⟩ := hB'
          go_wp2_with fail
          clear z0 x0 y0 z1 x1 y1 z2 x2 y2 z3 x3 y3
          refine (one_clz 121 2 0 _ (.inr rfl) rfl rfl rfl (show ofV 121 = (2, 103) by decide) (show kindsV 121 = ([2], 2, true) by decide) M0).mono ?_
          rintro e w6 ⟨rfl, hb6⟩
          replace hbw := hbw.trans (hb6.mono hbw.size)
          replace hB := hB.below hb6
          clear hb6
          try simp only [asize] at hB
          unfold T1
          rw [Z1.out]
          replace hB := hB.new (2) (64) 23
          replace hbw := hbw.alloc hbw.size (.cells #[.int .i64 (2), .int .i64 (64)] 23)
          have hB' := hB
          obtain ⟨⟨z0, x0, y0⟩, ⟨z1, x1, y1⟩, ⟨z2, x2, y2⟩, ⟨z3, x3, y3⟩, ⟨z4, x4, y4⟩, _⟩ := hB'
          go_wp2_with fail
          clear z0 x0 y0 z1 x1 y1 z2 x2 y2 z3 x3 y3 z4 x4 y4
          refine (one_ctz 122 2 0 _ (.inr rfl) rfl rfl rfl (show ofV 122 = (2, 104) by decide) (show kindsV 122 = ([2], 2, true) by decide) M0 (tab_up htab hbw (tab_size htab))).mono ?_
          rintro e w7 ⟨rfl, hb7⟩
          replace hbw := hbw.trans (hb7.mono hbw.size)
          replace hB := hB.below hb7
          clear hb7
          try simp only [asize] at hB
          unfold T1
          rw [Z2.out]
          replace hB := hB.new (2) (64) 23
          replace hbw := hbw.alloc hbw.size (.cells #[.int .i64 (2), .int .i64 (64)] 23)
          have hB' := hB
          obtain ⟨⟨z0, x0, y0⟩, ⟨z1, x1, y1⟩, ⟨z2, x2, y2⟩, ⟨z3, x3, y3⟩, ⟨z4, x4, y4⟩, ⟨z5, x5, y5⟩, _⟩ := hB'
          go_wp2_with fail
          go_ret
          exact ⟨rfl, hbw⟩
        · rw [if_neg hs] at HP
          have d2 : (I == K) = false := beq_eq_false_iff_ne.2 hs
          obtain ⟨L, eL⟩ : ∃ L, 63 - max I K = L := ⟨_, rfl⟩
          obtain ⟨T, eT⟩ : ∃ T, min I K = T := ⟨_, rfl⟩
          rw [eT] at HT
          rw [eL] at HL
          clear hs
          go_enter Tryd.func12, Tryd.ntmps12
          go_wp2_with fail
          refine (begun_any w).mono ?_
          rintro e w1 ⟨rfl, hbw⟩
          have hB : Boxes w1 [] := trivial
          go_wp2_with fail
          go_quiet (fail)
          go_wp2_with fail
          refine (refwrap_2 _ _).mono ?_
          rintro e w2 ⟨rfl, hb2⟩
          replace hbw := (below_drewN hbw _).trans (hb2.mono hbw.size)
          replace hB : Boxes w2 [] := trivial
          clear hb2
          rw [HV.out]
          replace hB := hB.new (2) (V) 23
          replace hbw := hbw.alloc hbw.size (.cells #[.int .i64 (2), .int .i64 (V)] 23)
          have hB' := hB
          obtain ⟨⟨z0, x0, y0⟩, _⟩ := hB'
          go_wp2_with fail
          clear z0 x0 y0
          refine (one_clz 121 2 V _ (.inr rfl) rfl rfl rfl (show ofV 121 = (2, 103) by decide) (show kindsV 121 = ([2], 2, true) by decide) MV).mono ?_
          rintro e w3 ⟨rfl, hb3⟩
          replace hbw := hbw.trans (hb3.mono hbw.size)
          replace hB := hB.below hb3
          clear hb3
          try simp only [asize] at hB
          unfold T1
          rw [HL.out]
          replace hB := hB.new (2) (L) 23
          replace hbw := hbw.alloc hbw.size (.cells #[.int .i64 (2), .int .i64 (L)] 23)
          have hB' := hB
          obtain ⟨⟨z0, x0, y0⟩, ⟨z1, x1, y1⟩, _⟩ := hB'
          go_wp2_with fail
          clear z0 x0 y0 z1 x1 y1
          refine (one_ctz 122 2 V _ (.inr rfl) rfl rfl rfl (show ofV 122 = (2, 104) by decide) (show kindsV 122 = ([2], 2, true) by decide) MV (tab_up htab hbw (tab_size htab))).mono ?_
          rintro e w4 ⟨rfl, hb4⟩
          replace hbw := hbw.trans (hb4.mono hbw.size)
          replace hB := hB.below hb4
          clear hb4
          try simp only [asize] at hB
          unfold T1
          rw [HT.out]
          replace hB := hB.new (2) (T) 23
          replace hbw := hbw.alloc hbw.size (.cells #[.int .i64 (2), .int .i64 (T)] 23)
          have hB' := hB
          obtain ⟨⟨z0, x0, y0⟩, ⟨z1, x1, y1⟩, ⟨z2, x2, y2⟩, _⟩ := hB'
          go_wp2_with fail
          clear z0 x0 y0 z1 x1 y1 z2 x2 y2
          refine (one_pop 123 2 V _ (.inr rfl) rfl rfl rfl (show ofV 123 = (2, 105) by decide) (show kindsV 123 = ([2], 2, true) by decide) MV).mono ?_
          rintro e w5 ⟨rfl, hb5⟩
          replace hbw := hbw.trans (hb5.mono hbw.size)
          replace hB := hB.below hb5
          clear hb5
          try simp only [asize] at hB
          unfold T1
          rw [HP.out]
          replace hB := hB.new (2) (2) 23
          replace hbw := hbw.alloc hbw.size (.cells #[.int .i64 (2), .int .i64 (2)] 23)
          have hB' := hB
          obtain ⟨⟨z0, x0, y0⟩, ⟨z1, x1, y1⟩, ⟨z2, x2, y2⟩, ⟨z3, x3, y3⟩, _⟩ := hB'
          go_wp2_with fail
          clear z0 x0 y0 z1 x1 y1 z2 x2 y2 z3 x3 y3
          refine (one_clz 121 2 0 _ (.inr rfl) rfl rfl rfl (show ofV 121 = (2, 103) by decide) (show kindsV 121 = ([2], 2, true) by decide) M0).mono ?_
          rintro e w6 ⟨rfl, hb6⟩
          replace hbw := hbw.trans (hb6.mono hbw.size)
          replace hB := hB.below hb6
          clear hb6
          try simp only [asize] at hB
          unfold T1
          rw [Z1.out]
          replace hB := hB.new (2) (64) 23
          replace hbw := hbw.alloc hbw.size (.cells #[.int .i64 (2), .int .i64 (64)] 23)
          have hB' := hB
          obtain ⟨⟨z0, x0, y0⟩, ⟨z1, x1, y1⟩, ⟨z2, x2, y2⟩, ⟨z3, x3, y3⟩, ⟨z4, x4, y4⟩, _⟩ := hB'
          go_wp2_with fail
          clear z0 x0 y0 z1 x1 y1 z2 x2 y2 z3 x3 y3 z4 x4 y4
          refine (one_ctz 122 2 0 _ (.inr rfl) rfl rfl rfl (show ofV 122 = (2, 104) by decide) (show kindsV 122 = ([2], 2, true) by decide) M0 (tab_up htab hbw (tab_size htab))).mono ?_
          rintro e w7 ⟨rfl, hb7⟩
          replace hbw := hbw.trans (hb7.mono hbw.size)
          replace hB := hB.below hb7
          clear hb7
          try simp only [asize] at hB
          unfold T1
          rw [Z2.out]
          replace hB := hB.new (2) (64) 23
          replace hbw := hbw.alloc hbw.size (.cells #[.int .i64 (2), .int .i64 (64)] 23)
          have hB' := hB
          obtain ⟨⟨z0, x0, y0⟩, ⟨z1, x1, y1⟩, ⟨z2, x2, y2⟩, ⟨z3, x3, y3⟩, ⟨z4, x4, y4⟩, ⟨z5, x5, y5⟩, _⟩ := hB'
          go_wp2_with fail
          go_ret
          exact ⟨rfl, hbw⟩

end Go.Proofs.YtdcpbjpghgbbiaaDoor
