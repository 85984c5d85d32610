/- The walk of IntsUnsigned: it returns true and writes nothing that was there. No condition but the kinds' own ranges. Printed by gen_laws.py. -/
import Derived.Test.YtdcpbjpghgbbiaaDoorIntsBegun
import Derived.BigQuiet
namespace Go.Proofs.YtdcpbjpghgbbiaaDoor
open Go.RowKit
set_option linter.unusedVariables false
set_option maxHeartbeats 2000000

theorem eq_yes (k n : Int) (w : World) : Calls Tryd.prog 23 #[.agg #[.int .i64 k, .int .i64 n], .agg #[.int .i64 k, .int .i64 n]] w fun e w' => e = .returned (.bool true) ∧ Below w.heap.size w w' :=
  (eq_any k n k n w).mono fun _ _ h => ⟨h.1.trans (by simp), h.2⟩
theorem may_2 (n : Int) : Hid (mayB (2, n) = true) := rfl
theorem s32_range (n : Int) : -2147483648 ≤ s32 n ∧ s32 n ≤ 2147483647 := by
  unfold s32
  simp [IntKind.wrap, IntKind.bits, IntKind.signed]
  constructor <;> (split <;> omega)
theorem may_1 (n : Int) (h1 : -2147483648 ≤ n) (h2 : n ≤ 2147483647) : Hid (mayB (1, n) = true) := by
  show mayB (1, n) = true
  simp [mayB, h1, h2]
theorem s32_id (n : Int) (h1 : -2147483648 ≤ n) (h2 : n ≤ 2147483647) : s32 n = n := by
  unfold s32
  simp [IntKind.wrap, IntKind.bits, IntKind.signed]
  split <;> omega
theorem u64_pos (n : Int) : IntKind.u64.wrap n = n % 18446744073709551616 := by simp [IntKind.wrap, IntKind.bits, IntKind.signed]
theorem unsigned_facts (a b q : Int) (ha : -9223372036854775808 ≤ a ∧ a ≤ 9223372036854775807) (hb : -9223372036854775808 ≤ b ∧ b ≤ 9223372036854775807) (h0 : ¬ b = 0) (hq : q = wrap64 (IntKind.u64.wrap ((low (2, a)).tdiv (low (2, b))))) :
    decide (IntKind.u64.wrap q ≤ IntKind.u64.wrap a) = true ∧ (¬ IntKind.u64.wrap b = 0) ∧ (IntKind.u64.wrap q == IntKind.u64.wrap ((IntKind.u64.wrap a).tdiv (IntKind.u64.wrap b))) = true ∧
    ((b = 1 → (q == a) = true) ∧ (a = 0 → (q == a) = true) ∧ (¬ b = 1 → ¬ a = 0 → (q == a) = false)) := by
  have e1 : low (2, a) = a % 18446744073709551616 := rfl
  have e2 : low (2, b) = b % 18446744073709551616 := rfl
  rw [e1, e2] at hq
  rw [u64_pos, u64_pos, u64_pos, u64_pos]
  rw [u64_pos] at hq
  have pa : 0 ≤ a % 18446744073709551616 := Int.emod_nonneg _ (by decide)
  have pa2 : a % 18446744073709551616 < 18446744073709551616 := Int.emod_lt_of_pos _ (by decide)
  have pb : 1 ≤ b % 18446744073709551616 := by omega
  rw [Int.tdiv_eq_ediv_of_nonneg pa] at hq ⊢
  have d1 : a % 18446744073709551616 / (b % 18446744073709551616) ≤ a % 18446744073709551616 := Int.ediv_le_self _ pa
  have d2 : 0 ≤ a % 18446744073709551616 / (b % 18446744073709551616) := Int.ediv_nonneg pa (by omega)
  have d3 : ¬ b = 1 → ¬ a = 0 → a % 18446744073709551616 / (b % 18446744073709551616) < a % 18446744073709551616 := fun h1 h2 => Int.ediv_lt_self_of_pos_of_ne_one (by omega) (by omega)
  have d4 : b = 1 → a % 18446744073709551616 / (b % 18446744073709551616) = a % 18446744073709551616 := fun h => by rw [h]; simp
  have d5 : a = 0 → a % 18446744073709551616 / (b % 18446744073709551616) = 0 := fun h => by rw [h]; simp
  generalize a % 18446744073709551616 / (b % 18446744073709551616) = D at *
  have hqd : q % 18446744073709551616 = D := by rw [hq]; unfold wrap64; omega
  refine ⟨decide_eq_true (by omega), by omega, beq_iff_eq.2 (by omega), fun h => beq_iff_eq.2 ?_, fun h => beq_iff_eq.2 ?_, fun h1 h2 => beq_eq_false_iff_ne.2 ?_⟩
  · have := d4 h; rw [hq]; unfold wrap64; omega
  · have := d5 h; rw [hq, this]; unfold wrap64; omega
  · have := d3 h1 h2; rw [hq]; unfold wrap64; omega

theorem intsUnsigned_walk (a b : Int) (w0 : (Lit.int .i64 a).wf = true) (w1 : (Lit.int .i64 b).wf = true) (w : World) :
    Calls Tryd.prog 11 #[.int .i64 a, .int .i64 b] w fun e w' => e = .returned (.bool true) ∧ Below w.heap.size w w' := by
  have ha := bounds_i64 w0
  have hb := bounds_i64 w1
  clear w0 w1
  have hlow : ¬ b = 0 → 1 ≤ low (2, b) := fun h => by
    have e : low (2, b) = b % 18446744073709551616 := rfl
    rw [e]; omega
  by_cases h0 : b = 0
  · have hz : divV 2 110 a b = (0, 0, 2) := by simp [divV, h0]
    have HZ := Lib.hid hz; clear hz
    have d0 : (b == 0) = true := by rw [h0]; rfl
    clear h0 ha hb
    go_enter Tryd.func11, Tryd.ntmps11
    go_wp2_with fail
    refine (begun_any w).mono ?_
    rintro e w1 ⟨rfl, hbw⟩
    have hB : Boxes w1 [] := trivial
    go_wp2_with fail
    refine (i64_a a _).mono ?_
    rintro e w2 ⟨rfl, hb2⟩
    replace hbw := hbw.trans (hb2.mono hbw.size)
    replace hB := hB.below hb2
    clear hb2
    go_wp2_with fail
    refine (i64_a b _).mono ?_
    rintro e w3 ⟨rfl, hb3⟩
    replace hbw := hbw.trans (hb3.mono hbw.size)
    replace hB := hB.below hb3
    clear hb3
    replace hB := hB.new (2) (a) 23
    replace hbw := hbw.alloc hbw.size (.cells #[.int .i64 (2), .int .i64 (a)] 23)
    replace hB := hB.new (2) (b) 23
    replace hbw := hbw.alloc hbw.size (.cells #[.int .i64 (2), .int .i64 (b)] 23)
    have hB' := hB
    obtain ⟨⟨z0, x0, y0⟩, ⟨z1, x1, y1⟩, _⟩ := hB'
    go_wp2_with fail
    clear z0 x0 y0 z1 x1 y1
    refine (two_div 128 2 110 a b _ (.inr rfl) (show ofV 128 = (2, 110) by decide) (show kindsV 128 = ([2, 2], 2, true) by decide) (.inr (.inl rfl)) hlow (may_2 a) (may_2 b)).mono ?_
    rintro e w4 ⟨rfl, hb4⟩
    replace hbw := hbw.trans (hb4.mono hbw.size)
    replace hB := hB.below hb4
    clear hb4
    rw [show divV 2 110 a b = (0, 0, 2) from HZ.out]
    unfold T2
    replace hB := hB.new (0) (0) 23
    replace hbw := hbw.alloc hbw.size (.cells #[.int .i64 (0), .int .i64 (0)] 23)
    have hB' := hB
    obtain ⟨⟨z0, x0, y0⟩, ⟨z1, x1, y1⟩, ⟨z2, x2, y2⟩, _⟩ := hB'
    go_wp2_with fail
    go_ret
    exact ⟨rfl, hbw⟩
  · have hlow' := hlow h0
    obtain ⟨q, hq⟩ : ∃ q, q = wrap64 (IntKind.u64.wrap ((low (2, a)).tdiv (low (2, b)))) := ⟨_, rfl⟩
    have hd : divV 2 110 a b = (2, q, 0) := by rw [hq]; simp [divV, h0, wk]
    obtain ⟨g1, g2, g3, g4⟩ := unsigned_facts a b q ha hb h0 hq
    have HD := Lib.hid hd; clear hd
    have d0 : (b == 0) = false := beq_eq_false_iff_ne.2 h0
    clear hq h0 ha hb hlow'
    by_cases h1 : b = 1
    · have d1 : (b == 1) = true := beq_iff_eq.2 h1
      have d2 : (q == a) = true := g4.1 h1
      clear h1 g4
      go_enter Tryd.func11, Tryd.ntmps11
      go_wp2_with fail
      refine (begun_any w).mono ?_
      rintro e w1 ⟨rfl, hbw⟩
      have hB : Boxes w1 [] := trivial
      go_wp2_with fail
      refine (i64_a a _).mono ?_
      rintro e w2 ⟨rfl, hb2⟩
      replace hbw := hbw.trans (hb2.mono hbw.size)
      replace hB := hB.below hb2
      clear hb2
      go_wp2_with fail
      refine (i64_a b _).mono ?_
      rintro e w3 ⟨rfl, hb3⟩
      replace hbw := hbw.trans (hb3.mono hbw.size)
      replace hB := hB.below hb3
      clear hb3
      replace hB := hB.new (2) (a) 23
      replace hbw := hbw.alloc hbw.size (.cells #[.int .i64 (2), .int .i64 (a)] 23)
      replace hB := hB.new (2) (b) 23
      replace hbw := hbw.alloc hbw.size (.cells #[.int .i64 (2), .int .i64 (b)] 23)
      have hB' := hB
      obtain ⟨⟨z0, x0, y0⟩, ⟨z1, x1, y1⟩, _⟩ := hB'
      go_wp2_with fail
      clear z0 x0 y0 z1 x1 y1
      refine (two_div 128 2 110 a b _ (.inr rfl) (show ofV 128 = (2, 110) by decide) (show kindsV 128 = ([2, 2], 2, true) by decide) (.inr (.inl rfl)) hlow (may_2 a) (may_2 b)).mono ?_
      rintro e w4 ⟨rfl, hb4⟩
      replace hbw := hbw.trans (hb4.mono hbw.size)
      replace hB := hB.below hb4
      clear hb4
      rw [show divV 2 110 a b = (2, q, 0) from HD.out]
      unfold T2
      replace hB := hB.new (2) (q) 23
      replace hbw := hbw.alloc hbw.size (.cells #[.int .i64 (2), .int .i64 (q)] 23)
      have hB' := hB
      obtain ⟨⟨z0, x0, y0⟩, ⟨z1, x1, y1⟩, ⟨z2, x2, y2⟩, _⟩ := hB'
      go_wp2_with fail
      go_quiet (fail)
      go_wp2_with fail
      go_ret
      exact ⟨rfl, below_drewN hbw _⟩
    · have d1 : (b == 1) = false := beq_eq_false_iff_ne.2 h1
      by_cases h2 : a = 0
      · have d3 : (a == 0) = true := beq_iff_eq.2 h2
        have d2 : (q == a) = true := g4.2.1 h2
        clear h1 h2 g4
        go_enter Tryd.func11, Tryd.ntmps11
        go_wp2_with fail
        refine (begun_any w).mono ?_
        rintro e w1 ⟨rfl, hbw⟩
        have hB : Boxes w1 [] := trivial
        go_wp2_with fail
        refine (i64_a a _).mono ?_
        rintro e w2 ⟨rfl, hb2⟩
        replace hbw := hbw.trans (hb2.mono hbw.size)
        replace hB := hB.below hb2
        clear hb2
        go_wp2_with fail
        refine (i64_a b _).mono ?_
        rintro e w3 ⟨rfl, hb3⟩
        replace hbw := hbw.trans (hb3.mono hbw.size)
        replace hB := hB.below hb3
        clear hb3
        replace hB := hB.new (2) (a) 23
        replace hbw := hbw.alloc hbw.size (.cells #[.int .i64 (2), .int .i64 (a)] 23)
        replace hB := hB.new (2) (b) 23
        replace hbw := hbw.alloc hbw.size (.cells #[.int .i64 (2), .int .i64 (b)] 23)
        have hB' := hB
        obtain ⟨⟨z0, x0, y0⟩, ⟨z1, x1, y1⟩, _⟩ := hB'
        go_wp2_with fail
        clear z0 x0 y0 z1 x1 y1
        refine (two_div 128 2 110 a b _ (.inr rfl) (show ofV 128 = (2, 110) by decide) (show kindsV 128 = ([2, 2], 2, true) by decide) (.inr (.inl rfl)) hlow (may_2 a) (may_2 b)).mono ?_
        rintro e w4 ⟨rfl, hb4⟩
        replace hbw := hbw.trans (hb4.mono hbw.size)
        replace hB := hB.below hb4
        clear hb4
        rw [show divV 2 110 a b = (2, q, 0) from HD.out]
        unfold T2
        replace hB := hB.new (2) (q) 23
        replace hbw := hbw.alloc hbw.size (.cells #[.int .i64 (2), .int .i64 (q)] 23)
        have hB' := hB
        obtain ⟨⟨z0, x0, y0⟩, ⟨z1, x1, y1⟩, ⟨z2, x2, y2⟩, _⟩ := hB'
        go_wp2_with fail
        go_quiet (fail)
        go_wp2_with fail
        go_ret
        exact ⟨rfl, below_drewN hbw _⟩
      · have d3 : (a == 0) = false := beq_eq_false_iff_ne.2 h2
        have d2 : (q == a) = false := g4.2.2 h1 h2
        clear h1 h2 g4
        go_enter Tryd.func11, Tryd.ntmps11
        go_wp2_with fail
        refine (begun_any w).mono ?_
        rintro e w1 ⟨rfl, hbw⟩
        have hB : Boxes w1 [] := trivial
        go_wp2_with fail
        refine (i64_a a _).mono ?_
        rintro e w2 ⟨rfl, hb2⟩
        replace hbw := hbw.trans (hb2.mono hbw.size)
        replace hB := hB.below hb2
        clear hb2
        go_wp2_with fail
        refine (i64_a b _).mono ?_
        rintro e w3 ⟨rfl, hb3⟩
        replace hbw := hbw.trans (hb3.mono hbw.size)
        replace hB := hB.below hb3
        clear hb3
        replace hB := hB.new (2) (a) 23
        replace hbw := hbw.alloc hbw.size (.cells #[.int .i64 (2), .int .i64 (a)] 23)
        replace hB := hB.new (2) (b) 23
        replace hbw := hbw.alloc hbw.size (.cells #[.int .i64 (2), .int .i64 (b)] 23)
        have hB' := hB
        obtain ⟨⟨z0, x0, y0⟩, ⟨z1, x1, y1⟩, _⟩ := hB'
        go_wp2_with fail
        clear z0 x0 y0 z1 x1 y1
        refine (two_div 128 2 110 a b _ (.inr rfl) (show ofV 128 = (2, 110) by decide) (show kindsV 128 = ([2, 2], 2, true) by decide) (.inr (.inl rfl)) hlow (may_2 a) (may_2 b)).mono ?_
        rintro e w4 ⟨rfl, hb4⟩
        replace hbw := hbw.trans (hb4.mono hbw.size)
        replace hB := hB.below hb4
        clear hb4
        rw [show divV 2 110 a b = (2, q, 0) from HD.out]
        unfold T2
        replace hB := hB.new (2) (q) 23
        replace hbw := hbw.alloc hbw.size (.cells #[.int .i64 (2), .int .i64 (q)] 23)
        have hB' := hB
        obtain ⟨⟨z0, x0, y0⟩, ⟨z1, x1, y1⟩, ⟨z2, x2, y2⟩, _⟩ := hB'
        go_wp2_with fail
        go_quiet (fail)
        go_wp2_with fail
        go_ret
        exact ⟨rfl, below_drewN hbw _⟩

end Go.Proofs.YtdcpbjpghgbbiaaDoor
