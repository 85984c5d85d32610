/- The walk of IntsWide: it returns true and writes nothing that was there. No condition but the kinds' own ranges. Printed by gen_laws.py. -/
import Derived.Test.YtdcpbjpghgbbiaaDoorIntsBegun
namespace Go.Proofs.YtdcpbjpghgbbiaaDoor
open Go.RowKit
set_option linter.unusedVariables false
set_option maxHeartbeats 2000000

theorem eq_yes (k n : Int) (w : World) : Calls Tryd.prog 23 #[.agg #[.int .i64 k, .int .i64 n], .agg #[.int .i64 k, .int .i64 n]] w fun e w' => e = .returned (.bool true) ∧ Below w.heap.size w w' :=
  (eq_any k n k n w).mono fun _ _ h => ⟨h.1.trans (by simp), h.2⟩
theorem may_2 (n : Int) : Hid (mayB (2, n) = true) := rfl
theorem s32_range (n : Int) : -2147483648 ≤ s32 n ∧ s32 n ≤ 2147483647 := by
  unfold s32
  simp [IntKind.wrap, IntKind.bits, IntKind.signed]
  constructor <;> (split <;> omega)
theorem may_1 (n : Int) (h1 : -2147483648 ≤ n) (h2 : n ≤ 2147483647) : Hid (mayB (1, n) = true) := by
  show mayB (1, n) = true
  simp [mayB, h1, h2]
theorem s32_id (n : Int) (h1 : -2147483648 ≤ n) (h2 : n ≤ 2147483647) : s32 n = n := by
  unfold s32
  simp [IntKind.wrap, IntKind.bits, IntKind.signed]
  split <;> omega
theorem wide_facts (X : Int) (h1 : -2147483648 ≤ X) (h2 : X ≤ 2147483647) : wk 1 X = X ∧ wk 1 (wrap64 (low (1, X))) = X ∧ wk 2 (wrap64 (low (1, X))) = wrap64 (low (1, X)) ∧ bits .and .i64 X 4294967295 = wrap64 (low (1, X)) := by
  have e1 : low (1, X) = X % 4294967296 := rfl
  have e2 : wrap64 (X % 4294967296) = X % 4294967296 := by unfold wrap64; omega
  have e3 : bits .and .i64 X 4294967295 = X % 4294967296 := and_low X
  rw [e1, e2, e3]
  refine ⟨s32_id X h1 h2, ?_, rfl, rfl⟩
  show s32 (X % 4294967296) = X
  unfold s32
  simp [IntKind.wrap, IntKind.bits, IntKind.signed]
  split <;> omega

theorem intsWide_walk (n : Int) (w0 : (Lit.int .i64 n).wf = true) (w : World) :
    Calls Tryd.prog 13 #[.int .i64 n] w fun e w' => e = .returned (.bool true) ∧ Below w.heap.size w w' := by
  clear w0
  obtain ⟨X, hX⟩ : ∃ X, X = wk 1 n := ⟨_, rfl⟩
  obtain ⟨r1, r2⟩ := s32_range n
  have r1' : -2147483648 ≤ X := by rw [hX]; exact r1
  have r2' : X ≤ 2147483647 := by rw [hX]; exact r2
  obtain ⟨f1, f2, f3, f4⟩ := wide_facts X r1' r2'
  obtain ⟨U, hU⟩ : ∃ U, U = wrap64 (low (1, X)) := ⟨_, rfl⟩
  rw [← hU] at f2 f3 f4
  have hand := f4
  have F1 := Lib.hid f1
  have F2 := Lib.hid f2
  have F3 := Lib.hid f3
  have HX := Lib.hid hX.symm
  have HU := Lib.hid hU.symm
  have HM := may_1 X r1' r2'
  clear f1 f2 f3 f4 hX hU r1 r2 r1' r2'
  go_enter Tryd.func13, Tryd.ntmps13
  go_wp2_with fail
  refine (begun_any w).mono ?_
  rintro e w1 ⟨rfl, hbw⟩
  have hB : Boxes w1 [] := trivial
  go_wp2_with fail
  refine (refwrap_1 n w1).mono ?_
  rintro e w2 ⟨rfl, hb2⟩
  replace hbw := hbw.trans (hb2.mono hbw.size)
  replace hB := hB.below hb2
  clear hb2
  rw [HX.out]
  replace hB := hB.new (1) (X) 23
  replace hbw := hbw.alloc hbw.size (.cells #[.int .i64 (1), .int .i64 (X)] 23)
  have hB' := hB
  obtain ⟨⟨z0, x0, y0⟩, _⟩ := hB'
  go_wp2_with fail
  clear z0 x0 y0
  refine (one_172 X _ (show kindsV 172 = ([1], 2, true) by decide) HM).mono ?_
  rintro e w3 ⟨rfl, hb3⟩
  replace hbw := hbw.trans (hb3.mono hbw.size)
  replace hB := hB.below hb3
  clear hb3
  unfold T1
  rw [show wk 2 X = X from rfl]
  replace hB := hB.new (2) (X) 23
  replace hbw := hbw.alloc hbw.size (.cells #[.int .i64 (2), .int .i64 (X)] 23)
  have hB' := hB
  obtain ⟨⟨z0, x0, y0⟩, ⟨z1, x1, y1⟩, _⟩ := hB'
  go_wp2_with fail
  clear z0 x0 y0 z1 x1 y1
  refine (one_173 X _ (show kindsV 173 = ([1], 2, true) by decide) HM).mono ?_
  rintro e w4 ⟨rfl, hb4⟩
  replace hbw := hbw.trans (hb4.mono hbw.size)
  replace hB := hB.below hb4
  clear hb4
  unfold T1
  rw [HU.out, show wk 2 U = U from rfl]
  replace hB := hB.new (2) (U) 23
  replace hbw := hbw.alloc hbw.size (.cells #[.int .i64 (2), .int .i64 (U)] 23)
  have hB' := hB
  obtain ⟨⟨z0, x0, y0⟩, ⟨z1, x1, y1⟩, ⟨z2, x2, y2⟩, _⟩ := hB'
  go_wp2_with fail
  clear z0 x0 y0 z1 x1 y1 z2 x2 y2
  refine (one_167 X _ (show kindsV 167 = ([2], 1, true) by decide) (may_2 X)).mono ?_
  rintro e w5 ⟨rfl, hb5⟩
  replace hbw := hbw.trans (hb5.mono hbw.size)
  replace hB := hB.below hb5
  clear hb5
  unfold T1
  rw [F1.out]
  replace hB := hB.new (1) (X) 23
  replace hbw := hbw.alloc hbw.size (.cells #[.int .i64 (1), .int .i64 (X)] 23)
  have hB' := hB
  obtain ⟨⟨z0, x0, y0⟩, ⟨z1, x1, y1⟩, ⟨z2, x2, y2⟩, ⟨z3, x3, y3⟩, _⟩ := hB'
  go_wp2_with fail
  clear z0 x0 y0 z1 x1 y1 z2 x2 y2 z3 x3 y3
  refine (one_167 U _ (show kindsV 167 = ([2], 1, true) by decide) (may_2 U)).mono ?_
  rintro e w6 ⟨rfl, hb6⟩
  replace hbw := hbw.trans (hb6.mono hbw.size)
  replace hB := hB.below hb6
  clear hb6
  unfold T1
  rw [F2.out]
  replace hB := hB.new (1) (X) 23
  replace hbw := hbw.alloc hbw.size (.cells #[.int .i64 (1), .int .i64 (X)] 23)
  have hB' := hB
  obtain ⟨⟨z0, x0, y0⟩, ⟨z1, x1, y1⟩, ⟨z2, x2, y2⟩, ⟨z3, x3, y3⟩, ⟨z4, x4, y4⟩, _⟩ := hB'
  go_wp2_with fail
  clear z0 x0 y0 z1 x1 y1 z2 x2 y2 z3 x3 y3 z4 x4 y4
  refine (i64_a n _).mono ?_
  rintro e w7 ⟨rfl, hb7⟩
  replace hbw := hbw.trans (hb7.mono hbw.size)
  replace hB := hB.below hb7
  clear hb7
  have hB' := hB
  obtain ⟨⟨z0, x0, y0⟩, ⟨z1, x1, y1⟩, ⟨z2, x2, y2⟩, ⟨z3, x3, y3⟩, ⟨z4, x4, y4⟩, _⟩ := hB'
  go_wp2_with fail
  clear z0 x0 y0 z1 x1 y1 z2 x2 y2 z3 x3 y3 z4 x4 y4
  refine (one_167 n _ (show kindsV 167 = ([2], 1, true) by decide) (may_2 n)).mono ?_
  rintro e w8 ⟨rfl, hb8⟩
  replace hbw := hbw.trans (hb8.mono hbw.size)
  replace hB := hB.below hb8
  clear hb8
  unfold T1
  rw [HX.out]
  replace hB := hB.new (1) (X) 23
  replace hbw := hbw.alloc hbw.size (.cells #[.int .i64 (1), .int .i64 (X)] 23)
  have hB' := hB
  obtain ⟨⟨z0, x0, y0⟩, ⟨z1, x1, y1⟩, ⟨z2, x2, y2⟩, ⟨z3, x3, y3⟩, ⟨z4, x4, y4⟩, ⟨z5, x5, y5⟩, _⟩ := hB'
  go_wp2_with fail
  clear z0 x0 y0 z1 x1 y1 z2 x2 y2 z3 x3 y3 z4 x4 y4 z5 x5 y5
  refine (eq_yes 1 X _).mono ?_
  rintro e w9 ⟨rfl, hb9⟩
  replace hbw := hbw.trans (hb9.mono hbw.size)
  replace hB := hB.below hb9
  clear hb9
  have hB' := hB
  obtain ⟨⟨z0, x0, y0⟩, ⟨z1, x1, y1⟩, ⟨z2, x2, y2⟩, ⟨z3, x3, y3⟩, ⟨z4, x4, y4⟩, ⟨z5, x5, y5⟩, _⟩ := hB'
  go_wp2_with fail
  clear z0 x0 y0 z1 x1 y1 z2 x2 y2 z3 x3 y3 z4 x4 y4 z5 x5 y5
  refine (eq_yes 1 X _).mono ?_
  rintro e w10 ⟨rfl, hb10⟩
  replace hbw := hbw.trans (hb10.mono hbw.size)
  replace hB := hB.below hb10
  clear hb10
  have hB' := hB
  obtain ⟨⟨z0, x0, y0⟩, ⟨z1, x1, y1⟩, ⟨z2, x2, y2⟩, ⟨z3, x3, y3⟩, ⟨z4, x4, y4⟩, ⟨z5, x5, y5⟩, _⟩ := hB'
  go_wp2_with fail
  clear z0 x0 y0 z1 x1 y1 z2 x2 y2 z3 x3 y3 z4 x4 y4 z5 x5 y5
  refine (eq_yes 1 X _).mono ?_
  rintro e w11 ⟨rfl, hb11⟩
  replace hbw := hbw.trans (hb11.mono hbw.size)
  replace hB := hB.below hb11
  clear hb11
  have hB' := hB
  obtain ⟨⟨z0, x0, y0⟩, ⟨z1, x1, y1⟩, ⟨z2, x2, y2⟩, ⟨z3, x3, y3⟩, ⟨z4, x4, y4⟩, ⟨z5, x5, y5⟩, _⟩ := hB'
  go_wp2_with fail
  go_ret
  exact ⟨rfl, hbw⟩

end Go.Proofs.YtdcpbjpghgbbiaaDoor
