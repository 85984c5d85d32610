/- The walk of MeterApart: it returns true and writes nothing that was there. No condition but the kinds' own ranges. -/
import Derived.Test.YtdnfncbinhbioaaMeterWalks
namespace Go.Proofs.Ytdnfncbinhbioaa
open Go.RowKit
set_option linter.unusedVariables false
attribute [local irreducible] floatOfInt

/-- What the code makes of a number: from 0 below m. -/
theorem mod_em (n m : Int) (h : 0 < m) : (n.tmod m + m) % m = n % m ∧ 0 ≤ n % m ∧ n % m < m := by
  have e := mod_of n m h
  rw [Int.tmod_eq_emod_of_nonneg (by have := Int.lt_tmod_of_pos n h; omega)] at e
  exact ⟨e, Int.emod_nonneg n (by omega), Int.emod_lt_of_pos n h⟩

theorem det1 (a b c d f n k1 k2 : Int) (e1 : a - 2 * b + f + 1 - (c - 2 * d + f + 1) = 1000003 * k1) (e2 : 2 * a + b + n - (2 * c + d + n) = 1000003 * k2) : 5 * (a - c) = 1000003 * (k1 + 2 * k2) ∧ 5 * (b - d) = 1000003 * (k2 - 2 * k1) := by
  have e3 : 1000003 * (k1 + 2 * k2) = 1000003 * k1 + 2 * (1000003 * k2) := by rw [Int.mul_add, Int.mul_left_comm]
  have e4 : 1000003 * (k2 - 2 * k1) = 1000003 * k2 - 2 * (1000003 * k1) := by rw [Int.mul_sub, Int.mul_left_comm]
  rw [e3, e4]
  clear e3 e4
  generalize 1000003 * k1 = x at *
  generalize 1000003 * k2 = y at *
  omega
theorem ap_a1 (x k : Int) (h : 5 * x = 1000003 * k) : ∃ y, x = y + 200000 * k ∧ 5 * y = 3 * k := by
  obtain ⟨y, hy⟩ : ∃ y, y = x - 200000 * k := ⟨_, rfl⟩
  refine ⟨y, by rw [hy, Int.sub_add_cancel], ?_⟩
  have : 1000003 * k = 5 * (200000 * k) + 3 * k := by
      rw [← Int.mul_assoc, ← Int.add_mul, show (5 * 200000 + 3 : Int) = 1000003 from by decide]
  rw [this] at h
  generalize 200000 * k = z at *
  omega
theorem ap_a2 (y k : Int) (h3 : 5 * y = 3 * k) : ∃ j, k = 5 * j ∧ y = 3 * j := ⟨k / 5, by omega, by omega⟩
theorem ap_a3 (j : Int) : 3 * j + 200000 * (5 * j) = 1000003 * j := by
  rw [← Int.mul_assoc, ← Int.add_mul, show (3 + 200000 * 5 : Int) = 1000003 from by decide]
theorem ap_a4 (j : Int) (h1 : -1000003 < 1000003 * j) (h2 : 1000003 * j < 1000003) : j = 0 := by
  rcases Int.lt_trichotomy j 0 with hj | hj | hj
  · have : 1000003 * j ≤ 1000003 * (-1) := Int.mul_le_mul_of_nonneg_left (by omega) (by omega)
    generalize 1000003 * j = z at *
    omega
  · exact hj
  · have : 1000003 * 1 ≤ 1000003 * j := Int.mul_le_mul_of_nonneg_left (by omega) (by omega)
    generalize 1000003 * j = z at *
    omega
theorem small5 (x k : Int) (h : 5 * x = 1000003 * k) (h1 : -1000003 < x) (h2 : x < 1000003) : x = 0 := by
  obtain ⟨y, e, h3⟩ := ap_a1 x k h
  clear h
  obtain ⟨j, e1, e2⟩ := ap_a2 y k h3
  clear h3
  rw [e1, e2, ap_a3] at e
  clear e1 e2
  rw [e] at h1 h2 ⊢
  rw [ap_a4 j h1 h2]; rfl

theorem apart_plain {a b c d f n : Int} (ha : 0 ≤ a ∧ a < 1000003) (hb : 0 ≤ b ∧ b < 1000003) (hc : 0 ≤ c ∧ c < 1000003) (hd : 0 ≤ d ∧ d < 1000003) :
    ((decide ((a - 2 * b + f + 1) % 1000003 = (c - 2 * d + f + 1) % 1000003) && decide ((2 * a + b + n) % 1000003 = (2 * c + d + n) % 1000003)) == (decide (a = c) && decide (b = d))) = true := by
  by_cases h : a = c ∧ b = d
  · obtain ⟨rfl, rfl⟩ := h; simp
  · have hr : (decide (a = c) && decide (b = d)) = false := by
      by_cases h1 : a = c
      · have : ¬ b = d := fun e => h ⟨h1, e⟩
        simp [this]
      · simp [h1]
    rw [hr]
    by_cases h1 : (a - 2 * b + f + 1) % 1000003 = (c - 2 * d + f + 1) % 1000003
    · by_cases h2 : (2 * a + b + n) % 1000003 = (2 * c + d + n) % 1000003
      · obtain ⟨k1, e1⟩ := Int.dvd_of_emod_eq_zero (Int.emod_eq_emod_iff_emod_sub_eq_zero.1 h1)
        obtain ⟨k2, e2⟩ := Int.dvd_of_emod_eq_zero (Int.emod_eq_emod_iff_emod_sub_eq_zero.1 h2)
        clear h1 h2 hr
        obtain ⟨q1, q2⟩ := det1 a b c d f n k1 k2 e1 e2
        clear e1 e2
        have r1 := small5 _ _ q1 (by clear q1 q2; omega) (by clear q1 q2; omega)
        have r2 := small5 _ _ q2 (by clear q1 q2; omega) (by clear q1 q2; omega)
        clear q1 q2
        exact (h ⟨by omega, by omega⟩).elim
      · simp [h2]
    · simp [h1]

set_option maxHeartbeats 1000000 in
theorem meterApart_walk (a b c d fn n : Int) (w0 : (Lit.int .i64 a).wf = true) (w1 : (Lit.int .i64 b).wf = true) (w2 : (Lit.int .i64 c).wf = true) (w3 : (Lit.int .i64 d).wf = true) (w4 : (Lit.int .i64 fn).wf = true) (w5 : (Lit.int .i64 n).wf = true) (w : World) :
    Calls Try.prog 7 #[.int .i64 a, .int .i64 b, .int .i64 c, .int .i64 d, .int .i64 fn, .int .i64 n] w fun e w' => e = .returned (.bool true) ∧ Below w.heap.size w w' := by
  clear w0 w1 w2 w3 w4 w5
  have p (x : Int) := And.intro (Int.lt_tmod_of_pos x (show (0:Int) < 1000003 by decide)) (Int.tmod_lt_of_pos x (show (0:Int) < 1000003 by decide))
  obtain ⟨ea, A1, A2⟩ := mod_em a 1000003 (by decide)
  obtain ⟨eb, B1, B2⟩ := mod_em b 1000003 (by decide)
  obtain ⟨ec, C1, C2⟩ := mod_em c 1000003 (by decide)
  obtain ⟨ed, D1, D2⟩ := mod_em d 1000003 (by decide)
  obtain ⟨ef, F1, F2⟩ := mod_em fn 1001 (by decide)
  generalize a % 1000003 = A at ea A1 A2
  generalize b % 1000003 = B at eb B1 B2
  generalize c % 1000003 = C at ec C1 C2
  generalize d % 1000003 = D at ed D1 D2
  generalize fn % 1001 = F at ef F1 F2
  have ef2 : fn.tmod 1001 % 1001 = F := by rw [← ef, Int.add_emod_right]
  obtain ⟨a1, a2⟩ := p a
  obtain ⟨b1, b2⟩ := p b
  obtain ⟨c1, c2⟩ := p c
  obtain ⟨d1, d2⟩ := p d
  have f1 := Int.lt_tmod_of_pos fn (show (0:Int) < 1001 by decide)
  have f2 := Int.tmod_lt_of_pos fn (show (0:Int) < 1001 by decide)
  clear p
  go_enter Try.func7, Try.ntmps7
  go_wp2_with fail
  refine (begun_any w).mono ?_
  rintro e w1 ⟨rfl, hb1⟩
  go_wp2_with fail
  clear ea eb ec ed a1 a2 b1 b2 c1 c2 d1 d2
  have hA := fl_of_int (n := A) (by omega)
  have hB := fl_of_int (n := B) (by omega)
  have hC := fl_of_int (n := C) (by omega)
  have hD := fl_of_int (n := D) (by omega)
  have o1 := fl_eq hA hC
  have o2 := fl_eq hB hD
  generalize floatOfInt .f64 A = xa at *
  generalize floatOfInt .f64 B = xb at *
  generalize floatOfInt .f64 C = xc at *
  generalize floatOfInt .f64 D = xd at *
  have O1 := Lib.hid o1; clear o1
  have O2 := Lib.hid o2; clear o2
  refine (mark_any xa xb A B F n w1 hA hB A1 A2 B1 B2 F1 (by omega)).mono ?_
  rintro e w2 ⟨rfl, rfl⟩
  go_wp2_with fail
  refine (mark_any xc xd C D F n w1 hC hD C1 C2 D1 D2 F1 (by omega)).mono ?_
  rintro e w2 ⟨rfl, rfl⟩
  have hz1 := Int.emod_nonneg (A - 2 * B + F + 1) (show (1000003 : Int) ≠ 0 by decide)
  have hz2 := Int.emod_lt_of_pos (A - 2 * B + F + 1) (show (0 : Int) < 1000003 by decide)
  have hz3 := Int.emod_nonneg (C - 2 * D + F + 1) (show (1000003 : Int) ≠ 0 by decide)
  have hz4 := Int.emod_lt_of_pos (C - 2 * D + F + 1) (show (0 : Int) < 1000003 by decide)
  have hz5 := Int.emod_nonneg (2 * A + B + n) (show (1000003 : Int) ≠ 0 by decide)
  have hz6 := Int.emod_lt_of_pos (2 * A + B + n) (show (0 : Int) < 1000003 by decide)
  have hz7 := Int.emod_nonneg (2 * C + D + n) (show (1000003 : Int) ≠ 0 by decide)
  have hz8 := Int.emod_lt_of_pos (2 * C + D + n) (show (0 : Int) < 1000003 by decide)
  have o3 := fl_eq (fl_of_int (n := (A - 2 * B + F + 1) % 1000003) (by omega)) (fl_of_int (n := (C - 2 * D + F + 1) % 1000003) (by omega))
  have o4 := fl_eq (fl_of_int (n := (2 * A + B + n) % 1000003) (by omega)) (fl_of_int (n := (2 * C + D + n) % 1000003) (by omega))
  have hp := apart_plain (f := F) (n := n) ⟨A1, A2⟩ ⟨B1, B2⟩ ⟨C1, C2⟩ ⟨D1, D2⟩
  rw [← o3, ← o4, ← O1.out, ← O2.out] at hp
  clear hz1 hz2 hz3 hz4 hz5 hz6 hz7 hz8 o3 o4
  generalize floatOfInt .f64 ((A - 2 * B + F + 1) % 1000003) = y1 at *
  generalize floatOfInt .f64 ((2 * A + B + n) % 1000003) = y2 at *
  generalize floatOfInt .f64 ((C - 2 * D + F + 1) % 1000003) = y3 at *
  generalize floatOfInt .f64 ((2 * C + D + n) % 1000003) = y4 at *
  have HP := Lib.hid hp; clear hp
  go_wp2_with fail
  go_ret
  exact ⟨congrArg (fun b => Ending.returned (.bool b)) HP.out, hb1⟩

end Go.Proofs.Ytdnfncbinhbioaa
