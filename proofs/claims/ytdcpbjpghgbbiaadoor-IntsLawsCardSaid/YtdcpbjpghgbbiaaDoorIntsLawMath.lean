/- What IntsLaws says, of numbers alone. -/
import Derived.Test.YtdcpbjpghgbbiaaDoorIntsRot
namespace Go.Proofs.YtdcpbjpghgbbiaaDoor
open Go.RowKit
set_option linter.unusedVariables false

def RK' (k x : Int) : Prop := if k = 1 then -2147483648 ≤ x ∧ x ≤ 2147483647 else -9223372036854775808 ≤ x ∧ x ≤ 9223372036854775807
theorem wk1_range (z : Int) : -2147483648 ≤ wk 1 z ∧ wk 1 z ≤ 2147483647 := by
  show -2147483648 ≤ s32 z ∧ s32 z ≤ 2147483647
  unfold s32
  simp [IntKind.wrap, IntKind.bits, IntKind.signed]
  constructor <;> (split <;> omega)
theorem wk_one (z : Int) : wk 1 z = s32 z := rfl
theorem wk_two (z : Int) : wk 2 z = z := rfl
theorem wrap64_range (z : Int) : -9223372036854775808 ≤ wrap64 z ∧ wrap64 z ≤ 9223372036854775807 := by
  unfold wrap64; omega
theorem low_eq_1 (x y : Int) (hx : -2147483648 ≤ x ∧ x ≤ 2147483647) (hy : -2147483648 ≤ y ∧ y ≤ 2147483647) (h : low (1, x) = low (1, y)) : x = y := by
  have h' : x % 4294967296 = y % 4294967296 := h
  omega
theorem low_eq_2 (x y : Int) (hx : -9223372036854775808 ≤ x ∧ x ≤ 9223372036854775807) (hy : -9223372036854775808 ≤ y ∧ y ≤ 9223372036854775807) (h : low (2, x) = low (2, y)) : x = y := by
  have h' : x % 18446744073709551616 = y % 18446744073709551616 := h
  omega
theorem rot_1 (X Y : Int) (hX : -2147483648 ≤ X ∧ X ≤ 2147483647) : wk 1 (reckV 1 120 (wk 1 (reckV 1 119 X Y)) Y) = X := by
  apply low_eq_1 _ _ (wk1_range _) hX
  rw [reckV_120, reckV_119, w32, wk_one, wk_one, low_s32]
  generalize low (1, Y) = y
  exact turned_1 X _ ⟨Int.emod_nonneg _ (by decide), Int.emod_lt_of_pos _ (by decide)⟩
theorem rot_2 (X Y : Int) (hX : -9223372036854775808 ≤ X ∧ X ≤ 9223372036854775807) : wk 2 (reckV 2 120 (wk 2 (reckV 2 119 X Y)) Y) = X := by
  have r : ∀ B M s, -9223372036854775808 ≤ rotU B M s ∧ rotU B M s ≤ 9223372036854775807 := fun B M s => wrap64_range _
  rw [reckV_120, reckV_119, w64, wk_two, wk_two]
  apply low_eq_2 _ _ (r _ _ _) hX
  generalize low (2, Y) = y
  exact turned_2 X _ ⟨Int.emod_nonneg _ (by decide), Int.emod_lt_of_pos _ (by decide)⟩
theorem back_1 (X Y : Int) (hX : -2147483648 ≤ X ∧ X ≤ 2147483647) : wk 1 (reckV 1 107 (wk 1 (reckV 1 106 X Y)) Y) = X := by
  apply low_eq_1 _ _ (wk1_range _) hX
  rw [reckV_107, reckV_106, wk_one, wk_one, low_s32]
  have h : low (1, s32 (wrap64 (X + Y))) = low (1, wrap64 (X + Y)) := low_s32 _
  generalize s32 (wrap64 (X + Y)) = S at *
  have h' : S % 4294967296 = wrap64 (X + Y) % 4294967296 := h
  show wrap64 (S - Y) % 4294967296 = X % 4294967296
  unfold wrap64 at *
  omega
theorem back_2 (X Y : Int) (hX : -9223372036854775808 ≤ X ∧ X ≤ 9223372036854775807) : wk 2 (reckV 2 107 (wk 2 (reckV 2 106 X Y)) Y) = X := by
  rw [reckV_107, reckV_106, wk_two, wk_two]
  unfold wrap64
  omega
theorem wrap64_ex32 (z : Int) : ∃ c, wrap64 z = z + 4294967296 * c := ⟨-(4294967296 * ((z + 9223372036854775808) / 18446744073709551616)), by unfold wrap64; omega⟩
theorem wrap64_ex64 (z : Int) : ∃ c, wrap64 z = z + 18446744073709551616 * c := ⟨-((z + 9223372036854775808) / 18446744073709551616), by unfold wrap64; omega⟩
theorem s32_ex (z : Int) : ∃ c, s32 z = z + 4294967296 * c := ⟨-((z + 2147483648) / 4294967296), by
  unfold s32
  simp [IntKind.wrap, IntKind.bits, IntKind.signed]
  split <;> omega⟩
theorem u64_ex (z : Int) : ∃ c, IntKind.u64.wrap z = z + 18446744073709551616 * c := ⟨-(z / 18446744073709551616), by rw [u64_mod]; omega⟩
/-- A number goes round by multiples of the kind's size. -/
theorem wk_ex_1 (z : Int) : ∃ c, wk 1 (wrap64 z) = z + 4294967296 * c := by
  obtain ⟨c, hc⟩ := wrap64_ex32 z
  obtain ⟨d, hd⟩ := s32_ex (wrap64 z)
  exact ⟨c + d, by rw [wk_one, hd, hc, Int.mul_add, Int.add_assoc]⟩
theorem wk_ex_2 (z : Int) : ∃ c, wk 2 (wrap64 z) = z + 18446744073709551616 * c := wrap64_ex64 z
theorem cong_div (m X Y Lx Ly D R Q M P N a b c d e f : Int) (hLx : Lx = X + m * a) (hLy : Ly = Y + m * b) (hD : Ly * D + R = Lx) (hQ : Q = D + m * c) (hM : M = R + m * d) (hP : P = Q * Y + m * e) (hN : N = P + M + m * f) : ∃ g, N = X + m * g := by
  refine ⟨a + c * Y - b * D + e + d + f, ?_⟩
  have h1 : Ly * D = Y * D + m * (b * D) := by rw [hLy, Int.add_mul, Int.mul_assoc]
  have h2 : Q * Y = D * Y + m * (c * Y) := by rw [hQ, Int.add_mul, Int.mul_assoc]
  have h3 : Y * D = D * Y := Int.mul_comm _ _
  have h4 : m * (a + c * Y - b * D + e + d + f) = m * a + m * (c * Y) - m * (b * D) + m * e + m * d + m * f := by
    rw [Int.mul_add, Int.mul_add, Int.mul_add, Int.mul_sub, Int.mul_add]
  rw [h4, hN, hP, hM, h2]
  rw [h1, h3, hLx] at hD
  generalize m * (c * Y) = t1 at *
  generalize m * (b * D) = t2 at *
  generalize D * Y = t3 at *
  omega
theorem eq_of_cong_1 (X N : Int) (hX : -2147483648 ≤ X ∧ X ≤ 2147483647) (hN : -2147483648 ≤ N ∧ N ≤ 2147483647) (h : ∃ g, N = X + 4294967296 * g) : N = X := by
  obtain ⟨g, hg⟩ := h; omega
theorem eq_of_cong_2 (X N : Int) (hX : -9223372036854775808 ≤ X ∧ X ≤ 9223372036854775807) (hN : -9223372036854775808 ≤ N ∧ N ≤ 9223372036854775807) (h : ∃ g, N = X + 18446744073709551616 * g) : N = X := by
  obtain ⟨g, hg⟩ := h; omega
/-- Divisor times quotient and rest. -/
theorem div_back_1 (X Y Lx Ly D R Q M a b c d : Int) (hX : -2147483648 ≤ X ∧ X ≤ 2147483647) (hLx : Lx = X + 4294967296 * a) (hLy : Ly = Y + 4294967296 * b) (hD : Ly * D + R = Lx) (hQ : Q = D + 4294967296 * c) (hM : M = R + 4294967296 * d) :
    wk 1 (reckV 1 106 (wk 1 (reckV 1 108 Q Y)) M) = X := by
  rw [reckV_106, reckV_108]
  obtain ⟨e, he⟩ := wk_ex_1 (Q * Y)
  obtain ⟨f, hf⟩ := wk_ex_1 (wk 1 (wrap64 (Q * Y)) + M)
  exact eq_of_cong_1 X _ hX (wk1_range _) (cong_div _ X Y Lx Ly D R Q M _ _ a b c d e f hLx hLy hD hQ hM he hf)
theorem div_back_2 (X Y Lx Ly D R Q M a b c d : Int) (hX : -9223372036854775808 ≤ X ∧ X ≤ 9223372036854775807) (hLx : Lx = X + 18446744073709551616 * a) (hLy : Ly = Y + 18446744073709551616 * b) (hD : Ly * D + R = Lx) (hQ : Q = D + 18446744073709551616 * c) (hM : M = R + 18446744073709551616 * d) :
    wk 2 (reckV 2 106 (wk 2 (reckV 2 108 Q Y)) M) = X := by
  rw [reckV_106, reckV_108]
  obtain ⟨e, he⟩ := wk_ex_2 (Q * Y)
  obtain ⟨f, hf⟩ := wk_ex_2 (wk 2 (wrap64 (Q * Y)) + M)
  exact eq_of_cong_2 X _ hX (wrap64_range _) (cong_div _ X Y Lx Ly D R Q M _ _ a b c d e f hLx hLy hD hQ hM he hf)
theorem low1_ex (X : Int) : ∃ a, low (1, X) = X + 4294967296 * a := ⟨-(X / 4294967296), by show X % 4294967296 = _; omega⟩
theorem low2_ex (X : Int) : ∃ a, low (2, X) = X + 18446744073709551616 * a := ⟨-(X / 18446744073709551616), by show X % 18446744073709551616 = _; omega⟩
/-- Not the one quotient that is too great. -/
def Fits (k X Y : Int) : Prop := ¬ (X = least k ∧ Y = -1)
def DivFacts (k ls lr X Y : Int) : Prop := ∃ Q M P, Hid (divV k ls X Y = (k, Q, 0)) ∧ Hid (divV k lr X Y = (k, M, 0)) ∧ Hid (wk k (reckV k 108 Q Y) = P) ∧ Hid (wk k (reckV k 106 P M) = X) ∧ Hid (mayB (k, Q) = true) ∧ Hid (mayB (k, M) = true) ∧ Hid (mayB (k, P) = true)
theorem may1 (n : Int) (h : -2147483648 ≤ n ∧ n ≤ 2147483647) : Hid (mayB (1, n) = true) := by
  show mayB (1, n) = true
  simp [mayB, h.1, h.2]
theorem may2 (n : Int) : Hid (mayB (2, n) = true) := rfl
theorem mkDiv (k ls lr X Y Q M P : Int) (h1 : divV k ls X Y = (k, Q, 0)) (h2 : divV k lr X Y = (k, M, 0)) (h3 : wk k (reckV k 108 Q Y) = P) (h4 : wk k (reckV k 106 P M) = X) (h5 : mayB (k, Q) = true) (h6 : mayB (k, M) = true) (h7 : mayB (k, P) = true) : DivFacts k ls lr X Y := ⟨Q, M, P, h1, h2, h3, h4, h5, h6, h7⟩
theorem divV_109 (k X Y : Int) (h0 : ¬ Y = 0) (hf : Fits k X Y) : divV k 109 X Y = (k, wk k (wrap64 (X.tdiv Y)), 0) := by
  unfold divV; rw [if_neg h0, if_pos rfl, if_neg hf]
theorem divV_111 (k X Y : Int) (h0 : ¬ Y = 0) (hf : Fits k X Y) : divV k 111 X Y = (k, wk k (X.tmod Y), 0) := by
  unfold divV; rw [if_neg h0, if_neg (by decide), if_neg (by decide), if_pos rfl, if_neg hf]
theorem divV_110 (k X Y : Int) (h0 : ¬ Y = 0) : divV k 110 X Y = (k, wk k (wrap64 (IntKind.u64.wrap ((low (k, X)).tdiv (low (k, Y))))), 0) := by
  unfold divV; rw [if_neg h0, if_neg (by decide), if_pos rfl]
theorem divV_112 (k X Y : Int) (h0 : ¬ Y = 0) : divV k 112 X Y = (k, wk k (wrap64 (low (k, X) % low (k, Y))), 0) := by
  unfold divV; rw [if_neg h0, if_neg (by decide), if_neg (by decide), if_neg (by decide)]
theorem signed_1 (X Y : Int) (hX : -2147483648 ≤ X ∧ X ≤ 2147483647) (h0 : ¬ Y = 0) (hf : Fits 1 X Y) : DivFacts 1 109 111 X Y := by
  obtain ⟨c, hc⟩ := wk_ex_1 (X.tdiv Y)
  obtain ⟨d, hd⟩ := s32_ex (X.tmod Y)
  exact mkDiv 1 109 111 X Y _ _ _ (divV_109 1 X Y h0 hf) (divV_111 1 X Y h0 hf) rfl
    (div_back_1 X Y X Y (X.tdiv Y) (X.tmod Y) _ _ 0 0 c d hX (by omega) (by omega) (Int.mul_tdiv_add_tmod X Y) hc hd) (may1 _ (wk1_range _)) (may1 _ (wk1_range _)) (may1 _ (wk1_range _))
theorem signed_2 (X Y : Int) (hX : -9223372036854775808 ≤ X ∧ X ≤ 9223372036854775807) (h0 : ¬ Y = 0) (hf : Fits 2 X Y) : DivFacts 2 109 111 X Y := by
  obtain ⟨c, hc⟩ := wk_ex_2 (X.tdiv Y)
  exact mkDiv 2 109 111 X Y _ _ _ (divV_109 2 X Y h0 hf) (divV_111 2 X Y h0 hf) rfl
    (div_back_2 X Y X Y (X.tdiv Y) (X.tmod Y) _ _ 0 0 c 0 hX (by omega) (by omega) (Int.mul_tdiv_add_tmod X Y) hc (by rw [wk_two]; omega)) (may2 _) (may2 _) (may2 _)
theorem unsigned_1 (X Y : Int) (hX : -2147483648 ≤ X ∧ X ≤ 2147483647) (h0 : ¬ Y = 0) : DivFacts 1 110 112 X Y := by
  obtain ⟨a, ha⟩ := low1_ex X
  obtain ⟨b, hb⟩ := low1_ex Y
  obtain ⟨u, hu⟩ := u64_ex ((low (1, X)).tdiv (low (1, Y)))
  obtain ⟨c, hc⟩ := wk_ex_1 (IntKind.u64.wrap ((low (1, X)).tdiv (low (1, Y))))
  obtain ⟨d, hd⟩ := wk_ex_1 (low (1, X) % low (1, Y))
  have hq : low (1, Y) * ((low (1, X)).tdiv (low (1, Y))) + low (1, X) % low (1, Y) = low (1, X) := by
    rw [Int.tdiv_eq_ediv_of_nonneg (low_nn _)]; exact Int.mul_ediv_add_emod _ _
  rw [hu] at hc
  refine mkDiv 1 110 112 X Y _ _ _ (divV_110 1 X Y h0) (divV_112 1 X Y h0) rfl
    (div_back_1 X Y _ _ _ _ _ _ a b (4294967296 * u + c) d hX ha hb hq ?_ hd) (may1 _ (wk1_range _)) (may1 _ (wk1_range _)) (may1 _ (wk1_range _))
  rw [hu]
  rw [hc]
  generalize (low (1, X)).tdiv (low (1, Y)) = D
  omega
theorem unsigned_2 (X Y : Int) (hX : -9223372036854775808 ≤ X ∧ X ≤ 9223372036854775807) (h0 : ¬ Y = 0) : DivFacts 2 110 112 X Y := by
  obtain ⟨a, ha⟩ := low2_ex X
  obtain ⟨b, hb⟩ := low2_ex Y
  obtain ⟨u, hu⟩ := u64_ex ((low (2, X)).tdiv (low (2, Y)))
  obtain ⟨c, hc⟩ := wk_ex_2 (IntKind.u64.wrap ((low (2, X)).tdiv (low (2, Y))))
  obtain ⟨d, hd⟩ := wk_ex_2 (low (2, X) % low (2, Y))
  have hq : low (2, Y) * ((low (2, X)).tdiv (low (2, Y))) + low (2, X) % low (2, Y) = low (2, X) := by
    rw [Int.tdiv_eq_ediv_of_nonneg (low_nn _)]; exact Int.mul_ediv_add_emod _ _
  rw [hu] at hc
  refine mkDiv 2 110 112 X Y _ _ _ (divV_110 2 X Y h0) (divV_112 2 X Y h0) rfl
    (div_back_2 X Y _ _ _ _ _ _ a b (u + c) d hX ha hb hq ?_ hd) (may2 _) (may2 _) (may2 _)
  rw [hu]
  rw [hc]
  generalize (low (2, X)).tdiv (low (2, Y)) = D
  omega
end Go.Proofs.YtdcpbjpghgbbiaaDoor
