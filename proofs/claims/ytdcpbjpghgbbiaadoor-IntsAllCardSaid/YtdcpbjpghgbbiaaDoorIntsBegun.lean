/- Boxes: values in blocks of their own, as the laws' walks keep them; the first check 'begun' of the laws of ints; the reference's Wrap; eq. -/
import Derived.Test.YtdcpbjpghgbbiaaDoorIntsOne
namespace Go.Proofs.YtdcpbjpghgbbiaaDoor
open Go.RowKit
set_option linter.unusedVariables false
set_option maxHeartbeats 1000000

/-- These blocks hold these values. -/
def Boxes (w : World) : List (Nat × Int × Int) → Prop
  | [] => True
  | (b, k, n) :: l => (b < w.heap.size ∧ w.cell? ⟨b, 0, none⟩ = some (.int .i64 k) ∧ w.cell? ⟨b, 1, none⟩ = some (.int .i64 n)) ∧ Boxes w l
theorem Boxes.below {w w' : World} (hb : Below w.heap.size w w') : ∀ {l : List (Nat × Int × Int)}, Boxes w l → Boxes w' l
  | [], _ => trivial
  | (b, k, n) :: l, h => ⟨⟨Nat.lt_of_lt_of_le h.1.1 hb.size, cell_up hb _ _ h.1.1 h.1.2.1, cell_up hb _ _ h.1.1 h.1.2.2⟩, Boxes.below hb h.2⟩
theorem Boxes.new {w : World} {l : List (Nat × Int × Int)} (h : Boxes w l) (k n : Int) (T : TypeId) : Boxes (w.alloc (.cells #[.int .i64 k, .int .i64 n] T)) ((w.heap.size, k, n) :: l) :=
  ⟨⟨by simp, by rw [World.cell?_alloc_at _ _ _ _ rfl]; rfl, by rw [World.cell?_alloc_at _ _ _ _ rfl]; rfl⟩, h.below ((Below.refl _ _).alloc (Nat.le_refl _) _)⟩

theorem and_low (n : Int) : bits .and .i64 n 4294967295 = n % 4294967296 := by
  have e1 : (BitVec.ofInt 64 n &&& BitVec.ofInt 64 4294967295).toNat = (n % 4294967296).toNat := by
    rw [BitVec.toNat_and, BitVec.toNat_ofInt, BitVec.toNat_ofInt]
    have e3 : ((4294967295 : Int) % ((2 ^ 64 : Nat) : Int)).toNat = 2 ^ 32 - 1 := by decide
    rw [e3, Nat.and_two_pow_sub_one_eq_mod]
    have : ((2 ^ 64 : Nat) : Int) = 18446744073709551616 := by decide
    rw [this]
    have : (2 : Nat) ^ 32 = 4294967296 := by decide
    rw [this]
    omega
  show IntKind.i64.wrap ((BitVec.ofInt 64 n &&& BitVec.ofInt 64 4294967295).toNat : Int) = n % 4294967296
  rw [e1]
  simp [IntKind.wrap, IntKind.bits, IntKind.signed]
  omega
theorem s32_and (n : Int) : (if bits .and .i64 n 4294967295 < 2147483648 then bits .and .i64 n 4294967295 else bits .and .i64 n 4294967295 - 4294967296) = s32 n ∧ 0 ≤ bits .and .i64 n 4294967295 ∧ bits .and .i64 n 4294967295 < 4294967296 := by
  have e := and_low n
  rw [e]
  refine ⟨?_, by omega, by omega⟩
  unfold s32
  simp [IntKind.wrap, IntKind.bits, IntKind.signed]
  split <;> omega

theorem refwrap_1 (n : Int) (w : World) : Calls Tryd.prog 24 #[.int .i64 1, .int .i64 n] w fun e w' => e = .returned (.agg #[.int .i64 1, .int .i64 (wk 1 n)]) ∧ Below w.heap.size w w' := by
  obtain ⟨h1, h2, h3⟩ := s32_and n
  have hw : wk 1 n = s32 n := rfl
  rw [hw, ← h1]
  obtain ⟨x, hx⟩ : ∃ x, x = bits .and .i64 n 4294967295 := ⟨_, rfl⟩
  rw [← hx] at h2 h3 ⊢
  have hand := hx.symm
  clear hx h1 hw
  by_cases hc : x < 2147483648
  · rw [if_pos hc]
    have hd : decide (2147483648 ≤ x) = false := decide_eq_false (by omega)
    go_enter Tryd.func24, Tryd.ntmps24
    go_wp2
    exact bodyPost_ret (v := .agg #[.int .i64 1, .int .i64 x]) (by simp [results, Tryd.results24, go_sem]) rfl ⟨rfl, one_block _ _⟩
  · rw [if_neg hc]
    have hd : decide (2147483648 ≤ x) = true := decide_eq_true (by omega)
    go_enter Tryd.func24, Tryd.ntmps24
    go_wp2
    exact bodyPost_ret (v := .agg #[.int .i64 1, .int .i64 (x - 4294967296)]) (by simp [results, Tryd.results24, go_sem]) rfl ⟨rfl, one_block _ _⟩
theorem refwrap_2 (n : Int) (w : World) : Calls Tryd.prog 24 #[.int .i64 2, .int .i64 n] w fun e w' => e = .returned (.agg #[.int .i64 2, .int .i64 (wk 2 n)]) ∧ Below w.heap.size w w' := by
  have hw : wk 2 n = n := rfl
  rw [hw]
  clear hw
  go_enter Tryd.func24, Tryd.ntmps24
  go_wp2
  exact bodyPost_ret (v := .agg #[.int .i64 2, .int .i64 n]) (by simp [results, Tryd.results24, go_sem]) rfl ⟨rfl, one_block _ _⟩
theorem refwrap_0 (k n : Int) (h1 : ¬ k = 1) (h2 : ¬ k = 2) (w : World) : Calls Tryd.prog 24 #[.int .i64 k, .int .i64 n] w fun e w' => e = .returned (.agg #[.int .i64 0, .int .i64 0]) ∧ Below w.heap.size w w' := by
  have d1 : (k == 1) = false := beq_eq_false_iff_ne.2 h1
  have d2 : (k == 2) = false := beq_eq_false_iff_ne.2 h2
  go_enter Tryd.func24, Tryd.ntmps24
  go_wp2
  exact bodyPost_ret (v := .agg #[.int .i64 0, .int .i64 0]) (by simp [results, Tryd.results24, go_sem]) rfl ⟨rfl, one_block _ _⟩
theorem refwrap_k (k n : Int) (w : World) (hk : k = 1 ∨ k = 2) : Calls Tryd.prog 24 #[.int .i64 k, .int .i64 n] w fun e w' => e = .returned (.agg #[.int .i64 k, .int .i64 (wk k n)]) ∧ Below w.heap.size w w' := by
  rcases hk with rfl | rfl
  · exact refwrap_1 n w
  · exact refwrap_2 n w
theorem i32_a (n : Int) (w : World) : Calls Tryd.prog 27 #[.int .i64 n] w fun e w' => e = .returned (.agg #[.int .i64 1, .int .i64 n]) ∧ Below w.heap.size w w' := i32_any n w
theorem i64_a (n : Int) (w : World) : Calls Tryd.prog 26 #[.int .i64 n] w fun e w' => e = .returned (.agg #[.int .i64 2, .int .i64 n]) ∧ Below w.heap.size w w' := i64_any n w

theorem eq_any (k n k' n' : Int) (w : World) :
    Calls Tryd.prog 23 #[.agg #[.int .i64 k, .int .i64 n], .agg #[.int .i64 k', .int .i64 n']] w fun e w' => e = .returned (.bool (k == k' && n == n')) ∧ Below w.heap.size w w' := by
  cases d : (k == k')
  · go_enter Tryd.func23, Tryd.ntmps23
    go_wp2
    go_ret
    exact ⟨ret_bool (by simp), (one_block _ _).alloc (by simp) _⟩
  · go_enter Tryd.func23, Tryd.ntmps23
    go_wp2
    go_ret
    exact ⟨ret_bool (by simp), (one_block _ _).alloc (by simp) _⟩

theorem field_1 (a b : Int) (w : World) : (Instr.field 23 (.agg #[.int .i64 a, .int .i64 b]) 1).run Tryd.prog w = .ok (.int .i64 b) w := by kernel_rfl

theorem kinds_167 (w : World) : Calls Tryd.prog 19 #[.int .i64 167] w fun e w' => KindsRet ([2], 1, true) w e w' := kinds_any 167 w

theorem begun_any (w : World) :
    Calls Tryd.prog 14 #[] w fun e w' => e = .returned (.bool true) ∧ Below w.heap.size w w' := by
  go_enter Tryd.func14, Tryd.ntmps14
  go_wp2_with fail
  refine (i32_a 2147483647 w).mono ?_
  rintro e w1 ⟨rfl, hb1⟩
  go_wp2_with fail
  refine (i32_a 1 w1).mono ?_
  rintro e w2 ⟨rfl, hb2⟩
  have hbw := hb1.trans (hb2.mono hb1.size)
  go_wp2_with fail
  refine (two_reck 106 1 106 2147483647 1 w2 (.inl rfl) (show ofV 106 = (1, 106) by decide) (show kindsV 106 = ([1, 1], 1, true) by decide) (.inl rfl) (show mayB (1, 2147483647) = true by decide) (show mayB (1, 1) = true by decide)).mono ?_
  rintro e w3 ⟨rfl, hb3⟩
  have hbw3 := hbw.trans (hb3.mono hbw.size)
  have e1 : wk 1 (reckV 1 106 2147483647 1) = -2147483648 := by decide +kernel
  rw [e1]
  clear e1 hb1 hb2 hb3 hbw
  have hB := Boxes.new (w := w3) (l := []) trivial 1 (-2147483648) 23
  unfold T2
  go_wp2_with fail
  refine (i64_a (-9223372036854775808) _).mono ?_
  rintro e w4 ⟨rfl, hb4⟩
  have hbw := (hbw3.alloc hbw3.size _).trans (hb4.mono (hbw3.alloc hbw3.size _).size)
  replace hB := hB.below hb4
  clear hb4 hbw3
  go_wp2_with fail
  refine (i64_a (-1) _).mono ?_
  rintro e w5 ⟨rfl, hb5⟩
  replace hbw := hbw.trans (hb5.mono hbw.size)
  replace hB := hB.below hb5
  clear hb5
  go_wp2_with fail
  refine (two_div 127 2 109 (-9223372036854775808) (-1) w5 (.inr rfl) (show ofV 127 = (2, 109) by decide) (show kindsV 127 = ([2, 2], 2, true) by decide) (.inl rfl) (fun _ => by decide) (show mayB (2, -9223372036854775808) = true by decide) (show mayB (2, -1) = true by decide)).mono ?_
  rintro e w6 ⟨rfl, hb6⟩
  replace hbw := hbw.trans (hb6.mono hbw.size)
  replace hB := hB.below hb6
  clear hb6
  have e2 : divV 2 109 (-9223372036854775808) (-1) = (0, 0, 3) := by decide
  rw [e2]
  clear e2
  replace hB := hB.new 0 0 23
  replace hbw := hbw.alloc hbw.size (.cells #[.int .i64 0, .int .i64 0] 23)
  unfold T2
  go_wp2_with fail
  refine (i32_a 1 _).mono ?_
  rintro e w7 ⟨rfl, hb7⟩
  replace hbw := hbw.trans (hb7.mono hbw.size)
  replace hB := hB.below hb7
  clear hb7
  go_wp2_with fail
  refine (one_clz 103 1 1 w7 (.inl rfl) rfl rfl rfl (show ofV 103 = (1, 103) by decide) (show kindsV 103 = ([1], 1, true) by decide) (show mayB (1, 1) = true by decide)).mono ?_
  rintro e w8 ⟨rfl, hb8⟩
  replace hbw := hbw.trans (hb8.mono hbw.size)
  replace hB := hB.below hb8
  clear hb8
  have e3 : wk 1 (wrap64 (wrap64 (64 - (Lib.bitLen (low (1, 1)).toNat : Int) - 64) + 32 * 1)) = 31 := by decide +kernel
  rw [e3]
  clear e3
  replace hB := hB.new 1 31 23
  replace hbw := hbw.alloc hbw.size (.cells #[.int .i64 1, .int .i64 31] 23)
  unfold T1
  go_wp2_with fail
  refine (kinds_167 _).mono ?_
  rintro e w9 ⟨kA, kc, rfl, hkr, hb9⟩
  obtain ⟨kb, ko, rfl, hkb, hk0⟩ := hkr.at (i := 0) (by simp)
  simp at hk0
  replace hbw := hbw.trans (hb9.mono hbw.size)
  replace hB := hB.below hb9
  clear hb9 hkr
  obtain ⟨⟨z1, a1, a2⟩, ⟨z2, b1, b2⟩, ⟨z3, c1, c2⟩, _⟩ := hB
  go_wp2_with fail
  refine (i32_a (-2147483648) _).mono ?_
  rintro e w10 ⟨rfl, hb10⟩
  replace hbw := hbw.trans (hb10.mono hbw.size)
  clear hb10 a1 a2 b1 b2 c1 c2 hk0
  go_wp2_with fail
  refine (may_any 1 (-2147483648) _).mono ?_
  rintro e w11 ⟨rfl, hb11⟩
  replace hbw := hbw.trans (hb11.mono hbw.size)
  clear hb11
  have m1 : mayB (1, -2147483648) = true := by decide
  rw [m1]
  go_wp2_with fail
  refine (i32_a 2147483648 _).mono ?_
  rintro e w12 ⟨rfl, hb12⟩
  replace hbw := hbw.trans (hb12.mono hbw.size)
  clear hb12
  go_wp2_with fail
  refine (may_any 1 2147483648 _).mono ?_
  rintro e w13 ⟨rfl, hb13⟩
  replace hbw := hbw.trans (hb13.mono hbw.size)
  clear hb13
  have m2 : mayB (1, 2147483648) = false := by decide
  rw [m2]
  go_wp2_with fail
  refine (wrap_1 4294967295 _).mono ?_
  rintro e w14 ⟨rfl, hb14⟩
  replace hbw := hbw.trans (hb14.mono hbw.size)
  clear hb14
  have m3 : wk 1 4294967295 = -1 := by decide +kernel
  rw [m3]
  have hf := field_1 1 (-1)
  go_wp2_with fail
  go_ret
  exact ⟨rfl, hbw⟩

end Go.Proofs.YtdcpbjpghgbbiaaDoor
