/- The walk of IntsAll: it returns true and writes nothing that was there. No condition but the numbers' own ranges and the laid table. Printed by gen_all.py. -/
import Derived.Test.YtdcpbjpghgbbiaaDoorIntsSame1
import Derived.BigQuiet
import Derived.LoopN
namespace Go.Proofs.YtdcpbjpghgbbiaaDoor
open Go.RowKit
set_option linter.unusedVariables false
set_option maxHeartbeats 8000000
set_option maxRecDepth 100000

theorem rmay_t (k n : Int) (w : World) (b : Bool) (h : mayB (k, n) = b) : Calls Tryd.prog 22 #[.agg #[.int .i64 k, .int .i64 n]] w fun e w' => e = .returned (.bool b) ∧ Below w.heap.size w w' :=
  (rmay_any k n w).mono fun _ _ h' => ⟨by rw [h'.1, h], h'.2⟩
theorem may_t (k n : Int) (w : World) (b : Bool) (h : mayB (k, n) = b) : Calls Tryd.prog 21 #[.agg #[.int .i64 k, .int .i64 n]] w fun e w' => e = .returned (.bool b) ∧ Below w.heap.size w w' :=
  (may_any k n w).mono fun _ _ h' => ⟨by rw [h'.1, h], h'.2⟩
theorem all_N (op k t k1 n k2 m : Int) (hn : -9223372036854775808 ≤ n ∧ n ≤ 9223372036854775807) (hm : -9223372036854775808 ≤ m ∧ m ≤ 9223372036854775807) (HK : Hid (kindsV op = ([], 0, false))) (HR : Hid (rkV (clsV op).1 (clsV op).2 = (0, 0, 0, false))) (w : World) (htab : TabAt 0 Lib.deBruijn64tab w) :
    Calls Tryd.prog 3 #[.int .i64 op, .agg #[.int .i64 k1, .int .i64 n], .agg #[.int .i64 k2, .int .i64 m]] w fun e w' => e = .returned (.bool true) ∧ Below w.heap.size w w' := by
  obtain ⟨p1, p2, p3, hp1, hp2, hp3⟩ := two_same op k1 n k2 m hn hm
  obtain ⟨q1, q2, q3, hq1, hq2⟩ := one_same op k1 n hn
  have P1 := Lib.hid hp1
  have P2 := Lib.hid hp2
  have Q1 := Lib.hid hq1
  have Q2 := Lib.hid hq2
  obtain ⟨mb, hmb⟩ : ∃ mb, mayB (k1, n) = mb := ⟨_, rfl⟩
  have HM := Lib.hid hmb
  clear hp1 hp2 hp3 hq1 hq2 hmb hn hm
  go_enter Tryd.func3, Tryd.ntmps3
  have hB := Boxes.new (Boxes.new (w := w) (l := []) trivial k1 n 23) k2 m 23
  have hb := (one_block w (.cells #[.int .i64 k1, .int .i64 n] 23)).alloc (by simp) (.cells #[.int .i64 k2, .int .i64 m] 23)
  simp only [asize] at hB
  have hB' := hB
  obtain ⟨⟨z0, x0, y0⟩, ⟨z1, x1, y1⟩, _⟩ := hB'
  go_wp2_with fail
  clear z0 x0 y0 z1 x1 y1
  refine (begun_any _).mono ?_
  rintro e w1 ⟨rfl, hb1⟩
  replace hb := hb.trans (hb1.mono hb.size)
  replace hB := hB.below hb1
  clear hb1
  have hB' := hB
  obtain ⟨⟨z0, x0, y0⟩, ⟨z1, x1, y1⟩, _⟩ := hB'
  go_wp2_with fail
  clear z0 x0 y0 z1 x1 y1
  refine (Q1.out _ (tab_up htab hb (tab_size htab))).mono ?_
  rintro e w2 ⟨rfl, hb2⟩
  replace hb := hb.trans (hb2.mono hb.size)
  replace hB := hB.below hb2
  clear hb2
  unfold T1
  replace hB := hB.new (q1) (q2) 23
  replace hb := hb.alloc hb.size (.cells #[.int .i64 (q1), .int .i64 (q2)] 23)
  try simp only [asize] at hB
  have hB' := hB
  obtain ⟨⟨z0, x0, y0⟩, ⟨z1, x1, y1⟩, ⟨z2, x2, y2⟩, _⟩ := hB'
  go_wp2_with fail
  clear z0 x0 y0 z1 x1 y1 z2 x2 y2
  refine (Q2.out _).mono ?_
  rintro e w3 ⟨rfl, hb3⟩
  replace hb := hb.trans (hb3.mono hb.size)
  replace hB := hB.below hb3
  clear hb3
  unfold T1
  replace hB := hB.new (q1) (q2) 23
  replace hb := hb.alloc hb.size (.cells #[.int .i64 (q1), .int .i64 (q2)] 23)
  try simp only [asize] at hB
  have hB' := hB
  obtain ⟨⟨z0, x0, y0⟩, ⟨z1, x1, y1⟩, ⟨z2, x2, y2⟩, ⟨z3, x3, y3⟩, _⟩ := hB'
  go_wp2_with fail
  clear z0 x0 y0 z1 x1 y1 z2 x2 y2 z3 x3 y3
  refine (P1.out _).mono ?_
  rintro e w4 ⟨rfl, hb4⟩
  replace hb := hb.trans (hb4.mono hb.size)
  replace hB := hB.below hb4
  clear hb4
  unfold T2
  replace hB := hB.new (p1) (p2) 23
  replace hb := hb.alloc hb.size (.cells #[.int .i64 (p1), .int .i64 (p2)] 23)
  try simp only [asize] at hB
  have hB' := hB
  obtain ⟨⟨z0, x0, y0⟩, ⟨z1, x1, y1⟩, ⟨z2, x2, y2⟩, ⟨z3, x3, y3⟩, ⟨z4, x4, y4⟩, _⟩ := hB'
  go_wp2_with fail
  clear z0 x0 y0 z1 x1 y1 z2 x2 y2 z3 x3 y3 z4 x4 y4
  refine (P2.out _).mono ?_
  rintro e w5 ⟨rfl, hb5⟩
  replace hb := hb.trans (hb5.mono hb.size)
  replace hB := hB.below hb5
  clear hb5
  unfold T2
  replace hB := hB.new (p1) (p2) 23
  replace hb := hb.alloc hb.size (.cells #[.int .i64 (p1), .int .i64 (p2)] 23)
  try simp only [asize] at hB
  have hB' := hB
  obtain ⟨⟨z0, x0, y0⟩, ⟨z1, x1, y1⟩, ⟨z2, x2, y2⟩, ⟨z3, x3, y3⟩, ⟨z4, x4, y4⟩, ⟨z5, x5, y5⟩, _⟩ := hB'
  go_wp2_with fail
  clear z0 x0 y0 z1 x1 y1 z2 x2 y2 z3 x3 y3 z4 x4 y4 z5 x5 y5
  refine (kinds_any op _).mono ?_
  rintro e w6 ⟨kA, kc, rfl, hkr, hb6⟩
  rw [HK.out] at hkr ⊢
  replace hb := hb.trans (hb6.mono hb.size)
  replace hB := hB.below hb6
  clear hb6 hkr
  go_wp2_with fail
  refine (rkinds_any op _).mono ?_
  rintro e w0 ⟨rfl, rfl⟩
  rw [show rkV _ _ = _ from HR.out]
  unfold K4
  go_wp2_with fail
  have hB' := hB
  obtain ⟨⟨z0, x0, y0⟩, ⟨z1, x1, y1⟩, ⟨z2, x2, y2⟩, ⟨z3, x3, y3⟩, ⟨z4, x4, y4⟩, ⟨z5, x5, y5⟩, _⟩ := hB'
  have e1 := fun mm : Above w6 => above_at x5 z5 mm
  have e2 := fun mm : Above w6 => above_at y5 z5 mm
  refine wp_region_T (by kernel_rfl) (by kernel_rfl) ?_
  repeat (go_big_quiet_step (first | (go_at_call 21; exact quiet_T (may_t _ _ _ mb HM.out)) | (go_at_call 22; exact quiet_T (rmay_t _ _ _ mb HM.out))))
  refine wpQuiet_nil ?_
  intro w7 h7
  obtain ⟨⟨x7, hb7⟩, hx7⟩ := h7
  dsimp only at hx7
  subst hx7
  clear e1 e2 z0 x0 y0 z1 x1 y1 z2 x2 y2 z3 x3 y3 z4 x4 y4 z5 x5 y5
  replace hb := hb.trans (hb7.mono hb.size)
  replace hB := hB.below hb7
  clear hb7
  go_wp2_with fail
  refine wp_loop_rounds 4 ?_
  rw [rounds_succ]
  have hB' := hB
  obtain ⟨⟨z0, x0, y0⟩, ⟨z1, x1, y1⟩, ⟨z2, x2, y2⟩, ⟨z3, x3, y3⟩, ⟨z4, x4, y4⟩, ⟨z5, x5, y5⟩, _⟩ := hB'
  go_wp2_with fail
  refine (eq_yes q1 q2 _).mono ?_
  rintro e w8 ⟨rfl, hb8⟩
  replace hb := hb.trans (hb8.mono hb.size)
  replace hB := hB.below hb8
  clear hb8 z0 x0 y0 z1 x1 y1 z2 x2 y2 z3 x3 y3 z4 x4 y4 z5 x5 y5
  have hB' := hB
  obtain ⟨⟨z0, x0, y0⟩, ⟨z1, x1, y1⟩, ⟨z2, x2, y2⟩, ⟨z3, x3, y3⟩, ⟨z4, x4, y4⟩, ⟨z5, x5, y5⟩, _⟩ := hB'
  go_wp2_with fail
  clear z0 x0 y0 z1 x1 y1 z2 x2 y2 z3 x3 y3 z4 x4 y4 z5 x5 y5
  refine (eq_yes p1 p2 _).mono ?_
  rintro e w9 ⟨rfl, hb9⟩
  replace hb := hb.trans (hb9.mono hb.size)
  replace hB := hB.below hb9
  clear hb9
  go_wp2_with fail
  go_ret
  exact ⟨rfl, hb⟩
theorem all_O (op k t k1 n k2 m : Int) (hn : -9223372036854775808 ≤ n ∧ n ≤ 9223372036854775807) (hm : -9223372036854775808 ≤ m ∧ m ≤ 9223372036854775807) (HK : Hid (kindsV op = ([k], t, true))) (HR : Hid (rkV (clsV op).1 (clsV op).2 = (1, k, t, true))) (w : World) (htab : TabAt 0 Lib.deBruijn64tab w) :
    Calls Tryd.prog 3 #[.int .i64 op, .agg #[.int .i64 k1, .int .i64 n], .agg #[.int .i64 k2, .int .i64 m]] w fun e w' => e = .returned (.bool true) ∧ Below w.heap.size w w' := by
  obtain ⟨p1, p2, p3, hp1, hp2, hp3⟩ := two_same op k1 n k2 m hn hm
  obtain ⟨q1, q2, q3, hq1, hq2⟩ := one_same op k1 n hn
  have P1 := Lib.hid hp1
  have P2 := Lib.hid hp2
  have Q1 := Lib.hid hq1
  have Q2 := Lib.hid hq2
  obtain ⟨mb, hmb⟩ : ∃ mb, mayB (k1, n) = mb := ⟨_, rfl⟩
  have HM := Lib.hid hmb
  clear hp1 hp2 hp3 hq1 hq2 hmb hn hm
  go_enter Tryd.func3, Tryd.ntmps3
  have hB := Boxes.new (Boxes.new (w := w) (l := []) trivial k1 n 23) k2 m 23
  have hb := (one_block w (.cells #[.int .i64 k1, .int .i64 n] 23)).alloc (by simp) (.cells #[.int .i64 k2, .int .i64 m] 23)
  simp only [asize] at hB
  have hB' := hB
  obtain ⟨⟨z0, x0, y0⟩, ⟨z1, x1, y1⟩, _⟩ := hB'
  go_wp2_with fail
  clear z0 x0 y0 z1 x1 y1
  refine (begun_any _).mono ?_
  rintro e w1 ⟨rfl, hb1⟩
  replace hb := hb.trans (hb1.mono hb.size)
  replace hB := hB.below hb1
  clear hb1
  have hB' := hB
  obtain ⟨⟨z0, x0, y0⟩, ⟨z1, x1, y1⟩, _⟩ := hB'
  go_wp2_with fail
  clear z0 x0 y0 z1 x1 y1
  refine (Q1.out _ (tab_up htab hb (tab_size htab))).mono ?_
  rintro e w2 ⟨rfl, hb2⟩
  replace hb := hb.trans (hb2.mono hb.size)
  replace hB := hB.below hb2
  clear hb2
  unfold T1
  replace hB := hB.new (q1) (q2) 23
  replace hb := hb.alloc hb.size (.cells #[.int .i64 (q1), .int .i64 (q2)] 23)
  try simp only [asize] at hB
  have hB' := hB
  obtain ⟨⟨z0, x0, y0⟩, ⟨z1, x1, y1⟩, ⟨z2, x2, y2⟩, _⟩ := hB'
  go_wp2_with fail
  clear z0 x0 y0 z1 x1 y1 z2 x2 y2
  refine (Q2.out _).mono ?_
  rintro e w3 ⟨rfl, hb3⟩
  replace hb := hb.trans (hb3.mono hb.size)
  replace hB := hB.below hb3
  clear hb3
  unfold T1
  replace hB := hB.new (q1) (q2) 23
  replace hb := hb.alloc hb.size (.cells #[.int .i64 (q1), .int .i64 (q2)] 23)
  try simp only [asize] at hB
  have hB' := hB
  obtain ⟨⟨z0, x0, y0⟩, ⟨z1, x1, y1⟩, ⟨z2, x2, y2⟩, ⟨z3, x3, y3⟩, _⟩ := hB'
  go_wp2_with fail
  clear z0 x0 y0 z1 x1 y1 z2 x2 y2 z3 x3 y3
  refine (P1.out _).mono ?_
  rintro e w4 ⟨rfl, hb4⟩
  replace hb := hb.trans (hb4.mono hb.size)
  replace hB := hB.below hb4
  clear hb4
  unfold T2
  replace hB := hB.new (p1) (p2) 23
  replace hb := hb.alloc hb.size (.cells #[.int .i64 (p1), .int .i64 (p2)] 23)
  try simp only [asize] at hB
  have hB' := hB
  obtain ⟨⟨z0, x0, y0⟩, ⟨z1, x1, y1⟩, ⟨z2, x2, y2⟩, ⟨z3, x3, y3⟩, ⟨z4, x4, y4⟩, _⟩ := hB'
  go_wp2_with fail
  clear z0 x0 y0 z1 x1 y1 z2 x2 y2 z3 x3 y3 z4 x4 y4
  refine (P2.out _).mono ?_
  rintro e w5 ⟨rfl, hb5⟩
  replace hb := hb.trans (hb5.mono hb.size)
  replace hB := hB.below hb5
  clear hb5
  unfold T2
  replace hB := hB.new (p1) (p2) 23
  replace hb := hb.alloc hb.size (.cells #[.int .i64 (p1), .int .i64 (p2)] 23)
  try simp only [asize] at hB
  have hB' := hB
  obtain ⟨⟨z0, x0, y0⟩, ⟨z1, x1, y1⟩, ⟨z2, x2, y2⟩, ⟨z3, x3, y3⟩, ⟨z4, x4, y4⟩, ⟨z5, x5, y5⟩, _⟩ := hB'
  go_wp2_with fail
  clear z0 x0 y0 z1 x1 y1 z2 x2 y2 z3 x3 y3 z4 x4 y4 z5 x5 y5
  refine (kinds_any op _).mono ?_
  rintro e w6 ⟨kA, kc, rfl, hkr, hb6⟩
  rw [HK.out] at hkr ⊢
  obtain ⟨kb, ko, rfl, hkb, hk0⟩ := hkr.at (i := 0) (by simp)
  simp at hk0
  replace hb := hb.trans (hb6.mono hb.size)
  replace hB := hB.below hb6
  clear hb6 hkr
  go_wp2_with fail
  refine (rkinds_any op _).mono ?_
  rintro e w0 ⟨rfl, rfl⟩
  rw [show rkV _ _ = _ from HR.out]
  unfold K4
  go_wp2_with fail
  have hB' := hB
  obtain ⟨⟨z0, x0, y0⟩, ⟨z1, x1, y1⟩, ⟨z2, x2, y2⟩, ⟨z3, x3, y3⟩, ⟨z4, x4, y4⟩, ⟨z5, x5, y5⟩, _⟩ := hB'
  have e1 := fun mm : Above w6 => above_at x5 z5 mm
  have e2 := fun mm : Above w6 => above_at y5 z5 mm
  refine wp_region_T (by kernel_rfl) (by kernel_rfl) ?_
  repeat (go_big_quiet_step (first | (go_at_call 21; exact quiet_T (may_t _ _ _ mb HM.out)) | (go_at_call 22; exact quiet_T (rmay_t _ _ _ mb HM.out))))
  refine wpQuiet_nil ?_
  intro w7 h7
  obtain ⟨⟨x7, hb7⟩, hx7⟩ := h7
  dsimp only at hx7
  subst hx7
  clear e1 e2 z0 x0 y0 z1 x1 y1 z2 x2 y2 z3 x3 y3 z4 x4 y4 z5 x5 y5
  have hk0' := cell_up hb7 kb _ hkb hk0
  replace hb := hb.trans (hb7.mono hb.size)
  replace hB := hB.below hb7
  clear hb7 hk0
  go_wp2_with fail
  refine wp_loop_rounds 4 ?_
  rw [rounds_succ]
  go_wp2_with fail
  rw [rounds_succ]
  have hB' := hB
  obtain ⟨⟨z0, x0, y0⟩, ⟨z1, x1, y1⟩, ⟨z2, x2, y2⟩, ⟨z3, x3, y3⟩, ⟨z4, x4, y4⟩, ⟨z5, x5, y5⟩, _⟩ := hB'
  go_wp2_with fail
  refine (eq_yes q1 q2 _).mono ?_
  rintro e w8 ⟨rfl, hb8⟩
  replace hb := hb.trans (hb8.mono hb.size)
  replace hB := hB.below hb8
  clear hb8 z0 x0 y0 z1 x1 y1 z2 x2 y2 z3 x3 y3 z4 x4 y4 z5 x5 y5
  have hB' := hB
  obtain ⟨⟨z0, x0, y0⟩, ⟨z1, x1, y1⟩, ⟨z2, x2, y2⟩, ⟨z3, x3, y3⟩, ⟨z4, x4, y4⟩, ⟨z5, x5, y5⟩, _⟩ := hB'
  go_wp2_with fail
  clear z0 x0 y0 z1 x1 y1 z2 x2 y2 z3 x3 y3 z4 x4 y4 z5 x5 y5
  refine (eq_yes p1 p2 _).mono ?_
  rintro e w9 ⟨rfl, hb9⟩
  replace hb := hb.trans (hb9.mono hb.size)
  replace hB := hB.below hb9
  clear hb9
  go_wp2_with fail
  go_ret
  exact ⟨rfl, hb⟩
theorem all_D (op k t k1 n k2 m : Int) (hn : -9223372036854775808 ≤ n ∧ n ≤ 9223372036854775807) (hm : -9223372036854775808 ≤ m ∧ m ≤ 9223372036854775807) (HK : Hid (kindsV op = ([k, k], t, true))) (HR : Hid (rkV (clsV op).1 (clsV op).2 = (2, k, t, true))) (w : World) (htab : TabAt 0 Lib.deBruijn64tab w) :
    Calls Tryd.prog 3 #[.int .i64 op, .agg #[.int .i64 k1, .int .i64 n], .agg #[.int .i64 k2, .int .i64 m]] w fun e w' => e = .returned (.bool true) ∧ Below w.heap.size w w' := by
  obtain ⟨p1, p2, p3, hp1, hp2, hp3⟩ := two_same op k1 n k2 m hn hm
  obtain ⟨q1, q2, q3, hq1, hq2⟩ := one_same op k1 n hn
  have P1 := Lib.hid hp1
  have P2 := Lib.hid hp2
  have Q1 := Lib.hid hq1
  have Q2 := Lib.hid hq2
  obtain ⟨mb, hmb⟩ : ∃ mb, mayB (k1, n) = mb := ⟨_, rfl⟩
  have HM := Lib.hid hmb
  clear hp1 hp2 hp3 hq1 hq2 hmb hn hm
  go_enter Tryd.func3, Tryd.ntmps3
  have hB := Boxes.new (Boxes.new (w := w) (l := []) trivial k1 n 23) k2 m 23
  have hb := (one_block w (.cells #[.int .i64 k1, .int .i64 n] 23)).alloc (by simp) (.cells #[.int .i64 k2, .int .i64 m] 23)
  simp only [asize] at hB
  have hB' := hB
  obtain ⟨⟨z0, x0, y0⟩, ⟨z1, x1, y1⟩, _⟩ := hB'
  go_wp2_with fail
  clear z0 x0 y0 z1 x1 y1
  refine (begun_any _).mono ?_
  rintro e w1 ⟨rfl, hb1⟩
  replace hb := hb.trans (hb1.mono hb.size)
  replace hB := hB.below hb1
  clear hb1
  have hB' := hB
  obtain ⟨⟨z0, x0, y0⟩, ⟨z1, x1, y1⟩, _⟩ := hB'
  go_wp2_with fail
  clear z0 x0 y0 z1 x1 y1
  refine (Q1.out _ (tab_up htab hb (tab_size htab))).mono ?_
  rintro e w2 ⟨rfl, hb2⟩
  replace hb := hb.trans (hb2.mono hb.size)
  replace hB := hB.below hb2
  clear hb2
  unfold T1
  replace hB := hB.new (q1) (q2) 23
  replace hb := hb.alloc hb.size (.cells #[.int .i64 (q1), .int .i64 (q2)] 23)
  try simp only [asize] at hB
  have hB' := hB
  obtain ⟨⟨z0, x0, y0⟩, ⟨z1, x1, y1⟩, ⟨z2, x2, y2⟩, _⟩ := hB'
  go_wp2_with fail
  clear z0 x0 y0 z1 x1 y1 z2 x2 y2
  refine (Q2.out _).mono ?_
  rintro e w3 ⟨rfl, hb3⟩
  replace hb := hb.trans (hb3.mono hb.size)
  replace hB := hB.below hb3
  clear hb3
  unfold T1
  replace hB := hB.new (q1) (q2) 23
  replace hb := hb.alloc hb.size (.cells #[.int .i64 (q1), .int .i64 (q2)] 23)
  try simp only [asize] at hB
  have hB' := hB
  obtain ⟨⟨z0, x0, y0⟩, ⟨z1, x1, y1⟩, ⟨z2, x2, y2⟩, ⟨z3, x3, y3⟩, _⟩ := hB'
  go_wp2_with fail
  clear z0 x0 y0 z1 x1 y1 z2 x2 y2 z3 x3 y3
  refine (P1.out _).mono ?_
  rintro e w4 ⟨rfl, hb4⟩
  replace hb := hb.trans (hb4.mono hb.size)
  replace hB := hB.below hb4
  clear hb4
  unfold T2
  replace hB := hB.new (p1) (p2) 23
  replace hb := hb.alloc hb.size (.cells #[.int .i64 (p1), .int .i64 (p2)] 23)
  try simp only [asize] at hB
  have hB' := hB
  obtain ⟨⟨z0, x0, y0⟩, ⟨z1, x1, y1⟩, ⟨z2, x2, y2⟩, ⟨z3, x3, y3⟩, ⟨z4, x4, y4⟩, _⟩ := hB'
  go_wp2_with fail
  clear z0 x0 y0 z1 x1 y1 z2 x2 y2 z3 x3 y3 z4 x4 y4
  refine (P2.out _).mono ?_
  rintro e w5 ⟨rfl, hb5⟩
  replace hb := hb.trans (hb5.mono hb.size)
  replace hB := hB.below hb5
  clear hb5
  unfold T2
  replace hB := hB.new (p1) (p2) 23
  replace hb := hb.alloc hb.size (.cells #[.int .i64 (p1), .int .i64 (p2)] 23)
  try simp only [asize] at hB
  have hB' := hB
  obtain ⟨⟨z0, x0, y0⟩, ⟨z1, x1, y1⟩, ⟨z2, x2, y2⟩, ⟨z3, x3, y3⟩, ⟨z4, x4, y4⟩, ⟨z5, x5, y5⟩, _⟩ := hB'
  go_wp2_with fail
  clear z0 x0 y0 z1 x1 y1 z2 x2 y2 z3 x3 y3 z4 x4 y4 z5 x5 y5
  refine (kinds_any op _).mono ?_
  rintro e w6 ⟨kA, kc, rfl, hkr, hb6⟩
  rw [HK.out] at hkr ⊢
  obtain ⟨kb, ko, rfl, hkb, hk0⟩ := hkr.at (i := 0) (by simp)
  have hk1 := hkr.get (i := 1) (by simp)
  simp at hk0 hk1
  replace hb := hb.trans (hb6.mono hb.size)
  replace hB := hB.below hb6
  clear hb6 hkr
  go_wp2_with fail
  refine (rkinds_any op _).mono ?_
  rintro e w0 ⟨rfl, rfl⟩
  rw [show rkV _ _ = _ from HR.out]
  unfold K4
  go_wp2_with fail
  have hB' := hB
  obtain ⟨⟨z0, x0, y0⟩, ⟨z1, x1, y1⟩, ⟨z2, x2, y2⟩, ⟨z3, x3, y3⟩, ⟨z4, x4, y4⟩, ⟨z5, x5, y5⟩, _⟩ := hB'
  have e1 := fun mm : Above w6 => above_at x5 z5 mm
  have e2 := fun mm : Above w6 => above_at y5 z5 mm
  refine wp_region_T (by kernel_rfl) (by kernel_rfl) ?_
  repeat (go_big_quiet_step (first | (go_at_call 21; exact quiet_T (may_t _ _ _ mb HM.out)) | (go_at_call 22; exact quiet_T (rmay_t _ _ _ mb HM.out))))
  refine wpQuiet_nil ?_
  intro w7 h7
  obtain ⟨⟨x7, hb7⟩, hx7⟩ := h7
  dsimp only at hx7
  subst hx7
  clear e1 e2 z0 x0 y0 z1 x1 y1 z2 x2 y2 z3 x3 y3 z4 x4 y4 z5 x5 y5
  have hk0' := cell_up hb7 kb _ hkb hk0
  have hk1' := cell_up hb7 kb _ hkb hk1
  replace hb := hb.trans (hb7.mono hb.size)
  replace hB := hB.below hb7
  clear hb7 hk0 hk1
  go_wp2_with fail
  refine wp_loop_rounds 4 ?_
  rw [rounds_succ]
  go_wp2_with fail
  rw [rounds_succ]
  go_wp2_with fail
  rw [rounds_succ]
  have hB' := hB
  obtain ⟨⟨z0, x0, y0⟩, ⟨z1, x1, y1⟩, ⟨z2, x2, y2⟩, ⟨z3, x3, y3⟩, ⟨z4, x4, y4⟩, ⟨z5, x5, y5⟩, _⟩ := hB'
  go_wp2_with fail
  refine (eq_yes q1 q2 _).mono ?_
  rintro e w8 ⟨rfl, hb8⟩
  replace hb := hb.trans (hb8.mono hb.size)
  replace hB := hB.below hb8
  clear hb8 z0 x0 y0 z1 x1 y1 z2 x2 y2 z3 x3 y3 z4 x4 y4 z5 x5 y5
  have hB' := hB
  obtain ⟨⟨z0, x0, y0⟩, ⟨z1, x1, y1⟩, ⟨z2, x2, y2⟩, ⟨z3, x3, y3⟩, ⟨z4, x4, y4⟩, ⟨z5, x5, y5⟩, _⟩ := hB'
  go_wp2_with fail
  clear z0 x0 y0 z1 x1 y1 z2 x2 y2 z3 x3 y3 z4 x4 y4 z5 x5 y5
  refine (eq_yes p1 p2 _).mono ?_
  rintro e w9 ⟨rfl, hb9⟩
  replace hb := hb.trans (hb9.mono hb.size)
  replace hB := hB.below hb9
  clear hb9
  go_wp2_with fail
  go_ret
  exact ⟨rfl, hb⟩
theorem intsAll_walk (op k1 n k2 m : Int) (hn : (Lit.int .i64 n).wf = true) (hm : (Lit.int .i64 m).wf = true) (w : World) (htab : TabAt 0 Lib.deBruijn64tab w) :
    Calls Tryd.prog 3 #[.int .i64 op, .agg #[.int .i64 k1, .int .i64 n], .agg #[.int .i64 k2, .int .i64 m]] w fun e w' => e = .returned (.bool true) ∧ Below w.heap.size w w' := by
  have hn' := bounds_i64 hn
  have hm' := bounds_i64 hm
  rcases opP_any op with ⟨hr, hk⟩ | ⟨hr, hk⟩ | ⟨hr, hk, _⟩
  · exact all_N op 0 0 k1 n k2 m hn' hm' hk hr w htab
  · exact all_O op _ _ k1 n k2 m hn' hm' hk hr w htab
  · exact all_D op _ _ k1 n k2 m hn' hm' hk hr w htab
end Go.Proofs.YtdcpbjpghgbbiaaDoor
