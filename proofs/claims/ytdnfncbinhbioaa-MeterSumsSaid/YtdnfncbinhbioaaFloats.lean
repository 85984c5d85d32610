/- Whole numbers as words of the format 'double': 'Fl x n': the word x stands for the whole number n (a zero of either sign). Sums, differences, products of such are exact below 2^53. No program here. -/
import Derived.Laws.ComplexArith
namespace Go.Proofs.Ytdnfncbinhbioaa
open Ieee

/-- The datum d stands for the whole number n. -/
def Whole (d : Datum) (n : Int) : Prop :=
  ∃ (s : Bool) (q : Nat), d = .number s (n.natAbs * 2 ^ q) (-(q : Int)) ∧ (n ≠ 0 → (s = true ↔ n < 0))

/-- The word x stands for the whole number n. -/
def Fl (x : Nat) (n : Int) : Prop := Whole (FloatKind.f64.decode x) n

theorem signed_of {s : Bool} {n : Int} (h : n ≠ 0 → (s = true ↔ n < 0)) (q k : Nat) : signed s (n.natAbs * 2 ^ q) k = n * 2 ^ (q + k) := by
  have e : ((n.natAbs * 2 ^ q) <<< k : Nat) = n.natAbs * 2 ^ (q + k) := by
    rw [Nat.shiftLeft_eq, Nat.mul_assoc, Nat.pow_add]
  have ec : (((n.natAbs * 2 ^ (q + k) : Nat)) : Int) = (n.natAbs : Int) * 2 ^ (q + k) := by
    rw [Int.natCast_mul, Int.natCast_pow]; rfl
  unfold signed
  rw [e, ec]
  by_cases h0 : n = 0
  · subst h0; simp
  · have h1 := h h0
    by_cases hn : n < 0
    · rw [if_pos (h1.2 hn)]
      have : (n.natAbs : Int) = -n := by omega
      rw [this, Int.neg_mul, Int.neg_neg]
    · rw [if_neg (fun e => hn (h1.1 e))]
      have : (n.natAbs : Int) = n := by omega
      rw [this]

theorem pow_pos' (q : Nat) : (0 : Int) < 2 ^ q := Int.pow_pos (by decide)

theorem natAbs_mul_pow (n : Int) (q : Nat) : (n * 2 ^ q).natAbs = n.natAbs * 2 ^ q := by
  rw [Int.natAbs_mul, Int.natAbs_pow]; rfl

theorem sum_whole {d e : Datum} {a b : Int} (hd : Whole d a) (he : Whole e b) : ∃ r, d.sum e = some r ∧ Whole r (a + b) := by
  obtain ⟨s, q, rfl, hs⟩ := hd
  obtain ⟨t, r, rfl, ht⟩ := he
  refine ⟨_, rfl, ?_⟩
  have hm : (min (-(q : Int)) (-(r : Int))) = -((max q r : Nat) : Int) := by omega
  have e1 : (-(q : Int) - min (-(q : Int)) (-(r : Int))).toNat = max q r - q := by omega
  have e2 : (-(r : Int) - min (-(q : Int)) (-(r : Int))).toNat = max q r - r := by omega
  have et : signed s (a.natAbs * 2 ^ q) (-(q : Int) - min (-(q : Int)) (-(r : Int))).toNat + signed t (b.natAbs * 2 ^ r) (-(r : Int) - min (-(q : Int)) (-(r : Int))).toNat = (a + b) * 2 ^ (max q r) := by
    rw [e1, e2, signed_of hs, signed_of ht, show q + (max q r - q) = max q r by omega, show r + (max q r - r) = max q r by omega, Int.add_mul]
  rw [et, hm]
  refine ⟨if (a + b) * 2 ^ (max q r) = 0 then s && t else decide ((a + b) * 2 ^ (max q r) < 0), max q r, by rw [natAbs_mul_pow], fun h0 => ?_⟩
  have hp := pow_pos' (max q r)
  have hne : (a + b) * 2 ^ (max q r) ≠ 0 := Int.mul_ne_zero h0 (by omega)
  rw [if_neg hne]
  by_cases hn : a + b < 0
  · simp [hn, Int.mul_neg_of_neg_of_pos hn hp]
  · have : 0 ≤ (a + b) * 2 ^ (max q r) := Int.mul_nonneg (by omega) (by omega)
    simp [hn, this]

theorem opposite_whole {d : Datum} {a : Int} (hd : Whole d a) : Whole d.opposite (-a) := by
  obtain ⟨s, q, rfl, hs⟩ := hd
  refine ⟨!s, q, by simp [Datum.opposite], fun h0 => ?_⟩
  have := hs (by omega)
  cases s <;> simp at this ⊢ <;> omega

theorem product_whole {d e : Datum} {a b : Int} (hd : Whole d a) (he : Whole e b) : ∃ r, d.product e = some r ∧ Whole r (a * b) := by
  obtain ⟨s, q, rfl, hs⟩ := hd
  obtain ⟨t, r, rfl, ht⟩ := he
  refine ⟨_, rfl, s ^^ t, q + r, ?_, fun h0 => ?_⟩
  · rw [Int.natAbs_mul, Nat.pow_add]
    congr 1
    · rw [Nat.mul_assoc, Nat.mul_assoc, Nat.mul_left_comm (2 ^ q)]
    · omega
  · have ha : a ≠ 0 := fun e => h0 (by rw [e]; simp)
    have hb : b ≠ 0 := fun e => h0 (by rw [e]; simp)
    have h1 := hs ha
    have h2 := ht hb
    rcases Int.lt_or_lt_of_ne ha with ha' | ha' <;> rcases Int.lt_or_lt_of_ne hb with hb' | hb'
    · have := Int.mul_pos_of_neg_of_neg ha' hb'
      rw [h1.2 ha', h2.2 hb']; simp; omega
    · have := Int.mul_neg_of_neg_of_pos ha' hb'
      have ht' : t = false := by cases t; rfl; have := h2.1 rfl; omega
      rw [h1.2 ha', ht']; simp; omega
    · have := Int.mul_neg_of_pos_of_neg ha' hb'
      have hs' : s = false := by cases s; rfl; have := h1.1 rfl; omega
      rw [hs', h2.2 hb']; simp; omega
    · have := Int.mul_pos ha' hb'
      have ht' : t = false := by cases t; rfl; have := h2.1 rfl; omega
      have hs' : s = false := by cases s; rfl; have := h1.1 rfl; omega
      rw [hs', ht']; simp; omega

theorem compare_mul {a b p : Int} (hp : 0 < p) : compare (a * p) (b * p) = compare a b := by
  rcases Int.lt_trichotomy a b with h | h | h
  · have := Int.mul_lt_mul_of_pos_right h hp
    rw [Int.compare_eq_lt.2 h, Int.compare_eq_lt.2 this]
  · rw [h]; simp
  · have := Int.mul_lt_mul_of_pos_right h hp
    rw [Int.compare_eq_gt.2 h, Int.compare_eq_gt.2 this]

theorem order_whole {d e : Datum} {a b : Int} (hd : Whole d a) (he : Whole e b) : d.order e = some (compare a b) := by
  obtain ⟨s, q, rfl, hs⟩ := hd
  obtain ⟨t, r, rfl, ht⟩ := he
  have e1 : (-(q : Int) - min (-(q : Int)) (-(r : Int))).toNat = max q r - q := by omega
  have e2 : (-(r : Int) - min (-(q : Int)) (-(r : Int))).toNat = max q r - r := by omega
  show some (compare (signed s (a.natAbs * 2 ^ q) (-(q : Int) - min (-(q : Int)) (-(r : Int))).toNat) (signed t (b.natAbs * 2 ^ r) (-(r : Int) - min (-(q : Int)) (-(r : Int))).toNat)) = _
  rw [e1, e2, signed_of hs, signed_of ht, show q + (max q r - q) = max q r by omega, show r + (max q r - r) = max q r by omega, compare_mul (pow_pos' _)]

theorem log2_mul_pow (n q : Nat) (h : n ≠ 0) : (n * 2 ^ q).log2 = n.log2 + q := by
  refine (Nat.log2_eq_iff (Nat.mul_ne_zero h (by have := Nat.two_pow_pos q; omega))).2 ⟨?_, ?_⟩
  · rw [Nat.pow_add]; exact Nat.mul_le_mul_right _ (Nat.log2_self_le h)
  · rw [show n.log2 + q + 1 = (n.log2 + 1) + q by omega, Nat.pow_add]
    exact Nat.mul_lt_mul_of_pos_right Nat.lt_log2_self (Nat.two_pow_pos q)

theorem cut_whole (way : Toward) (s : Bool) (n q : Nat) : way.cut s (n * 2 ^ q) q = n := by
  by_cases h0 : n = 0
  · subst h0
    unfold Toward.cut
    cases way <;> simp
  · have hl := log2_mul_pow n q h0
    have hg : 1 <<< min q ((n * 2 ^ q).log2 + 2) = 2 ^ q := by
      rw [hl, Nat.min_eq_left (by omega), Nat.one_shiftLeft]
    have hp := Nat.two_pow_pos q
    unfold Toward.cut
    simp only [hg, Nat.mul_div_cancel _ hp, Nat.mul_mod_left]
    have : ¬ 2 ^ q < 0 := by omega
    have h2 : ¬ 2 ^ q = 0 := by omega
    cases way <;> simp

theorem toInt_whole {d : Datum} {a : Int} (hd : Whole d a) : d.toInt .zero = some a := by
  obtain ⟨s, q, rfl, hs⟩ := hd
  unfold Datum.toInt Datum.integral
  have e1 : (-(q : Int)).toNat = 0 := by omega
  have e2 : (-(-(q : Int))).toNat = q := by omega
  simp only [e1, e2, Nat.shiftLeft_zero, cut_whole]
  have := signed_of hs 0 0
  simpa using this

theorem infRung_double : Ieee.double.infRung = 2047 * 4503599627370496 := by decide
theorem binade_double : Ieee.double.binade = 4503599627370496 := by decide
theorem signWeight_double : Ieee.double.signWeight = 9223372036854775808 := by decide
theorem leastPlace_double : Ieee.double.leastPlace = -1074 := by decide

theorem word_neg (s : Bool) {r : Nat} (h : r < 9223372036854775808) : (Ieee.double.word s r / 9223372036854775808 % 2 == 1) = s ∧ Ieee.double.word s r % 9223372036854775808 = r := by
  unfold Ieee.Format.word
  rw [signWeight_double]
  cases s
  · constructor
    · rw [beq_eq_false_iff_ne]; simp; omega
    · simp; omega
  · constructor
    · rw [beq_iff_eq]; simp; omega
    · simp; omega

theorem write_whole {d : Datum} {a : Int} (hd : Whole d a) (h : a.natAbs < 2 ^ 53) : Whole (Ieee.double.read (Ieee.double.write d)) a := by
  obtain ⟨s, q, rfl, hs⟩ := hd
  show Whole (Ieee.double.read (Ieee.double.nearest s (a.natAbs * 2 ^ q) (-(q : Int)))) a
  generalize hN : a.natAbs = N at h
  unfold Ieee.Format.nearest
  by_cases h0 : N = 0
  · subst h0
    rw [if_pos (by simp)]
    obtain ⟨w1, w2⟩ := word_neg s (r := 0) (by decide)
    unfold Ieee.Format.read
    rw [signWeight_double, w1, w2, binade_double]
    obtain ⟨q', hq'⟩ : ∃ q' : Nat, q' = 1074 := ⟨_, rfl⟩
    refine ⟨s, q', ?_, hs⟩
    rw [if_pos (by decide), leastPlace_double, hN, Nat.zero_mul, hq']
    rfl
  · have hne : N * 2 ^ q ≠ 0 := Nat.mul_ne_zero h0 (by have := Nat.two_pow_pos q; omega)
    rw [if_neg hne]
    have hl := log2_mul_pow N q h0
    have hlN : N.log2 ≤ 52 := by
      have := (Nat.log2_lt h0).2 h
      omega
    obtain ⟨D, hD⟩ : ∃ D, D = 52 - N.log2 := ⟨_, rfl⟩
    have hlast : max (-(q : Int) + ((N * 2 ^ q).log2 : Nat) - (Ieee.double.fractionBits : Nat)) Ieee.double.leastPlace = -(D : Int) := by
      rw [hl, leastPlace_double]
      show max (-(q : Int) + ((N.log2 + q : Nat) : Int) - ((52 : Nat) : Int)) (-1074) = _
      omega
    have hkept : Toward.even.cut s ((N * 2 ^ q) <<< (-(q : Int) - -(D : Int)).toNat) (-(D : Int) - -(q : Int)).toNat = N * 2 ^ D := by
      rw [Nat.shiftLeft_eq, Nat.mul_assoc, ← Nat.pow_add]
      by_cases hqd : q ≤ D
      · have e1 : (-(D : Int) - -(q : Int)).toNat = 0 := by omega
        have e2 : q + (-(q : Int) - -(D : Int)).toNat = D := by omega
        rw [e1, e2]
        have := cut_whole .even s (N * 2 ^ D) 0
        simpa using this
      · have e1 : (-(q : Int) - -(D : Int)).toNat = 0 := by omega
        have e2 : (-(D : Int) - -(q : Int)).toNat = q - D := by omega
        rw [e1, e2, Nat.add_zero, show q = D + (q - D) by omega, Nat.pow_add, ← Nat.mul_assoc, show D + (q - D) - D = q - D by omega]
        exact cut_whole .even s (N * 2 ^ D) (q - D)
    have hlo : 4503599627370496 ≤ N * 2 ^ D := by
      have h1 := Nat.log2_self_le h0
      have h2 : 2 ^ N.log2 * 2 ^ D ≤ N * 2 ^ D := Nat.mul_le_mul_right _ h1
      rw [← Nat.pow_add, show N.log2 + D = 52 by omega] at h2
      exact h2
    have hhi : N * 2 ^ D < 9007199254740992 := by
      have h1 : N < 2 ^ (N.log2 + 1) := Nat.lt_log2_self
      have h2 : N * 2 ^ D < 2 ^ (N.log2 + 1) * 2 ^ D := Nat.mul_lt_mul_of_pos_right h1 (Nat.two_pow_pos D)
      rw [← Nat.pow_add, show N.log2 + 1 + D = 53 by omega] at h2
      exact h2
    simp only [hlast, hkept]
    have hr : (-(D : Int) - Ieee.double.leastPlace).toNat = 1074 - D := by rw [leastPlace_double]; omega
    generalize hK : N * 2 ^ D = K at hlo hhi ⊢
    have hD0 : D ≤ 52 := by omega
    have hm : min ((-(D : Int) - Ieee.double.leastPlace).toNat * Ieee.double.binade + K) Ieee.double.infRung = (1074 - D) * 4503599627370496 + K := by
      rw [hr, binade_double, infRung_double]
      exact Nat.min_eq_left (by omega)
    rw [hm]
    clear hm
    have hD52 : D ≤ 52 := by omega
    obtain ⟨w1, w2⟩ := word_neg s (r := (1074 - D) * 4503599627370496 + K) (by omega)
    unfold Ieee.Format.read
    rw [signWeight_double, w1, w2, binade_double, infRung_double, leastPlace_double]
    have hm1 : ((1074 - D) * 4503599627370496 + K) % 4503599627370496 = K - 4503599627370496 := by omega
    have hd1 : ((1074 - D) * 4503599627370496 + K) / 4503599627370496 = 1074 - D + 1 := by omega
    refine ⟨s, D, ?_, hs⟩
    simp only []
    rw [if_neg (by omega), if_pos (by omega), hm1, hd1, hN, hK]
    have e1 : 4503599627370496 + (K - 4503599627370496) = K := by omega
    have e2 : (-1074 + ((1074 - D + 1 - 1 : Nat) : Int)) = -(D : Int) := by omega
    rw [e1, e2]

theorem fl_add {x y : Nat} {a b : Int} (hx : Fl x a) (hy : Fl y b) (h : (a + b).natAbs < 2 ^ 53) : ∃ r, floatBits .add .f64 x y = some r ∧ Fl r (a + b) := by
  obtain ⟨r, hr, hw⟩ := sum_whole hx hy
  refine ⟨Ieee.double.write r, ?_, write_whole hw h⟩
  show ((Ieee.double.read x).sum (Ieee.double.read y)).map Ieee.double.write = _
  have hr' : (Ieee.double.read x).sum (Ieee.double.read y) = some r := hr
  rw [hr']; rfl
theorem fl_sub {x y : Nat} {a b : Int} (hx : Fl x a) (hy : Fl y b) (h : (a - b).natAbs < 2 ^ 53) : ∃ r, floatBits .sub .f64 x y = some r ∧ Fl r (a - b) := by
  obtain ⟨r, hr, hw⟩ := sum_whole hx (opposite_whole hy)
  refine ⟨Ieee.double.write r, ?_, write_whole (by rwa [Int.sub_eq_add_neg]) h⟩
  show ((Ieee.double.read x).sum (Ieee.double.read y).opposite).map Ieee.double.write = _
  have hr' : (Ieee.double.read x).sum (Ieee.double.read y).opposite = some r := hr
  rw [hr']; rfl
theorem fl_mul {x y : Nat} {a b : Int} (hx : Fl x a) (hy : Fl y b) (h : (a * b).natAbs < 2 ^ 53) : ∃ r, floatBits .mul .f64 x y = some r ∧ Fl r (a * b) := by
  obtain ⟨r, hr, hw⟩ := product_whole hx hy
  refine ⟨Ieee.double.write r, ?_, write_whole hw h⟩
  show ((Ieee.double.read x).product (Ieee.double.read y)).map Ieee.double.write = _
  have hr' : (Ieee.double.read x).product (Ieee.double.read y) = some r := hr
  rw [hr']; rfl
theorem fl_of_int {n : Int} (h : n.natAbs < 2 ^ 53) : Fl (floatOfInt .f64 n) n := by
  refine write_whole (d := .number (decide (n < 0)) n.natAbs 0) ⟨decide (n < 0), 0, by simp, fun _ => by simp⟩ h
theorem fl_order {x y : Nat} {a b : Int} (hx : Fl x a) (hy : Fl y b) : FloatKind.f64.format.order x y = some (compare a b) := order_whole hx hy
theorem fl_eq {x y : Nat} {a b : Int} (hx : Fl x a) (hy : Fl y b) : (FloatKind.f64.format.order x y == some .eq) = decide (a = b) := by
  rw [fl_order hx hy]
  by_cases h : a = b
  · simp [h]
  · rcases Int.lt_or_lt_of_ne h with h' | h'
    · rw [Int.compare_eq_lt.2 h']; simp [h]
    · rw [Int.compare_eq_gt.2 h']; simp [h]
theorem fl_int {x : Nat} {a : Int} (hx : Fl x a) (h1 : -9223372036854775808 ≤ a) (h2 : a ≤ 9223372036854775807) : floatToIntVal .f64 x .i64 = some a := by
  unfold floatToIntVal
  rw [toInt_whole hx]
  have e1 : IntKind.i64.min = -9223372036854775808 := by decide
  have e2 : IntKind.i64.max = 9223372036854775807 := by decide
  simp only [e1, e2]
  rw [if_pos ⟨h1, h2⟩]

theorem fl_neg {x : Nat} {a : Int} (hx : Fl x a) : Fl (Op.negFloat .f64 x) (-a) := by
  have hr : Ieee.double.read (x ^^^ 2 ^ 63) = (Ieee.double.read x).opposite := by
    have e1 : (x ^^^ 2 ^ 63) % 9223372036854775808 = x % 9223372036854775808 := by
      have := Nat.xor_mod_two_pow (a := x) (b := 2 ^ 63) (n := 63)
      simpa using this
    have e2 : ((x ^^^ 2 ^ 63) / 9223372036854775808 % 2 == 1) = !(x / 9223372036854775808 % 2 == 1) := by
      have h1 := Nat.testBit_xor x (2 ^ 63) 63
      rw [Nat.testBit_two_pow_self] at h1
      have h2 : ∀ y : Nat, y.testBit 63 = (y / 9223372036854775808 % 2 == 1) := fun y => by
        rw [Nat.testBit_eq_decide_div_mod_eq]
        by_cases h : y / 2 ^ 63 % 2 = 1 <;> simp [h]
      rw [← h2, ← h2, h1]; simp
    unfold Ieee.Format.read
    rw [signWeight_double]
    simp only [e1, e2]
    split
    · rfl
    · split
      · rfl
      · split <;> rfl
  show Whole (Ieee.double.read (x ^^^ 2 ^ 63)) (-a)
  rw [hr]
  exact opposite_whole hx

end Go.Proofs.Ytdnfncbinhbioaa
