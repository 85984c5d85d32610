/- The walk of IntsEach: it returns true and writes nothing that was there. No condition but the kinds' own ranges and the laid table. Printed by gen_each.py. -/
import Derived.Test.YtdcpbjpghgbbiaaDoorIntsSame1
import Derived.BigQuiet
namespace Go.Proofs.YtdcpbjpghgbbiaaDoor
open Go.RowKit
set_option linter.unusedVariables false
set_option maxHeartbeats 8000000
set_option maxRecDepth 100000

theorem and_one (n : Int) : bits .and .i64 n 1 = n % 2 := by
  have e1 : (BitVec.ofInt 64 n &&& BitVec.ofInt 64 1).toNat = (n % 2).toNat := by
    rw [BitVec.toNat_and, BitVec.toNat_ofInt, BitVec.toNat_ofInt]
    have e3 : ((1 : Int) % ((2 ^ 64 : Nat) : Int)).toNat = 2 ^ 1 - 1 := by decide
    rw [e3, Nat.and_two_pow_sub_one_eq_mod]
    have : ((2 ^ 64 : Nat) : Int) = 18446744073709551616 := by decide
    rw [this]
    have : (2 : Nat) ^ 1 = 2 := by decide
    rw [this]
    omega
  show IntKind.i64.wrap ((BitVec.ofInt 64 n &&& BitVec.ofInt 64 1).toNat : Int) = n % 2
  rw [e1]
  simp [IntKind.wrap, IntKind.bits, IntKind.signed]
  omega
theorem rk_big (x : Int) (h : RK 1 x) : -9223372036854775808 ≤ x ∧ x ≤ 9223372036854775807 := by
  have : -2147483648 ≤ x ∧ x ≤ 2147483647 := h
  omega
theorem rmay_t (k n : Int) (w : World) (b : Bool) (h : mayB (k, n) = b) : Calls Tryd.prog 22 #[.agg #[.int .i64 k, .int .i64 n]] w fun e w' => e = .returned (.bool b) ∧ Below w.heap.size w w' :=
  (rmay_any k n w).mono fun _ _ h' => ⟨by rw [h'.1, h], h'.2⟩
theorem each_1 (a b g : Int) (w0 : (Lit.int .i64 a).wf = true) (w1 : (Lit.int .i64 b).wf = true) (hg : bits .and .i64 g 1 = 0) (w : World) (htab : TabAt 0 Lib.deBruijn64tab w) :
    Calls Tryd.prog 4 #[.int .i64 a, .int .i64 b, .int .i64 g] w fun e w' => e = .returned (.bool true) ∧ Below w.heap.size w w' := by
  obtain ⟨X, hX⟩ : ∃ X, X = wk 1 a := ⟨_, rfl⟩
  obtain ⟨Y, hY⟩ : ∃ Y, Y = wk 1 b := ⟨_, rfl⟩
  have rX : RK 1 X := by rw [hX]; exact rk_1 a (bounds_i64 w0)
  have rY : RK 1 Y := by rw [hY]; exact rk_1 b (bounds_i64 w1)
  have bX : -9223372036854775808 ≤ X ∧ X ≤ 9223372036854775807 := rk_big X rX
  have bY : -9223372036854775808 ≤ Y ∧ Y ≤ 9223372036854775807 := rk_big Y rY
  have hts : ∀ op : Int, TwoSame op 1 X 1 Y := fun op => two_same op 1 X 1 Y bX bY
  have hos : ∀ op : Int, OneSame op 1 Y := fun op => one_same op 1 Y bY
  have HTS := Lib.hid hts
  have HOS := Lib.hid hos
  have HX := Lib.hid hX.symm
  have HY := Lib.hid hY.symm
  clear hX hY rX rY bX bY w0 w1 hts hos
  go_enter Tryd.func4, Tryd.ntmps4
  go_wp2_with fail
  refine (begun_any w).mono ?_
  rintro e w1 ⟨rfl, hbw⟩
  go_wp2_with fail
  refine (refwrap_1 a _).mono ?_
  rintro e w2 ⟨rfl, hb2⟩
  replace hbw := hbw.trans (hb2.mono hbw.size)
  clear hb2
  rw [HX.out]
  go_wp2_with fail
  refine (refwrap_1 b _).mono ?_
  rintro e w3 ⟨rfl, hb3⟩
  replace hbw := hbw.trans (hb3.mono hbw.size)
  clear hb3
  rw [HY.out]
  have hB := Boxes.new (Boxes.new (w := w3) (l := []) trivial 1 X 23) 1 Y 23
  replace hbw := hbw.alloc hbw.size (.cells #[.int .i64 1, .int .i64 X] 23)
  replace hbw := hbw.alloc hbw.size (.cells #[.int .i64 1, .int .i64 Y] 23)
  simp only [asize] at hB
  go_wp2_with fail
  go_loopw [10] (fun i wr => ∃ m : Nat, m ≤ 105 ∧ i = .int .i64 (69 + (m : Int)) ∧ Boxes wr [(w3.heap.size + 1, 1, Y), (w3.heap.size, 1, X)] ∧ Below w.heap.size w wr) (fun i _ => 174 - (intOf i).toNat)
  case atStart => exact ⟨0, by omega, rfl, hB, hbw⟩
  case round =>
    clear hB hbw
    obtain ⟨m, hm, rfl, hB, hb⟩ := hrel
    by_cases hlt : m < 105
    · obtain ⟨p1, p2, p3, hp1, hp2, hp3⟩ := HTS.out (69 + (m : Int))
      obtain ⟨q1, q2, q3, hq1, hq2⟩ := HOS.out (69 + (m : Int))
      have P1 := Lib.hid hp1
      have P2 := Lib.hid hp2
      have P3 := Lib.hid hp3
      have Q1 := Lib.hid hq1
      have Q2 := Lib.hid hq2
      clear hp1 hp2 hp3 hq1 hq2
      have hB' := hB
      obtain ⟨⟨z0, x0, y0⟩, ⟨z1, x1, y1⟩, _⟩ := hB'
      go_wp2_with fail
      clear z0 x0 y0 z1 x1 y1
      refine (P1.out _).mono ?_
      rintro e w4 ⟨rfl, hb4⟩
      replace hb := hb.trans (hb4.mono hb.size)
      replace hB := hB.below hb4
      clear hb4
      unfold T2
      replace hB := hB.new (p1) (p2) 23
      replace hb := hb.alloc hb.size (.cells #[.int .i64 (p1), .int .i64 (p2)] 23)
      try simp only [asize] at hB
      have hB' := hB
      obtain ⟨⟨z0, x0, y0⟩, ⟨z1, x1, y1⟩, ⟨z2, x2, y2⟩, _⟩ := hB'
      go_wp2_with fail
      clear z0 x0 y0 z1 x1 y1 z2 x2 y2
      refine (P2.out _).mono ?_
      rintro e w5 ⟨rfl, hb5⟩
      replace hb := hb.trans (hb5.mono hb.size)
      replace hB := hB.below hb5
      clear hb5
      unfold T2
      replace hB := hB.new (p1) (p2) 23
      replace hb := hb.alloc hb.size (.cells #[.int .i64 (p1), .int .i64 (p2)] 23)
      try simp only [asize] at hB
      have hB' := hB
      obtain ⟨⟨z0, x0, y0⟩, ⟨z1, x1, y1⟩, ⟨z2, x2, y2⟩, ⟨z3, x3, y3⟩, _⟩ := hB'
      go_wp2_with fail
      clear z0 x0 y0 z1 x1 y1 z2 x2 y2 z3 x3 y3
      refine (Q1.out _ (tab_up htab hb (tab_size htab))).mono ?_
      rintro e w6 ⟨rfl, hb6⟩
      replace hb := hb.trans (hb6.mono hb.size)
      replace hB := hB.below hb6
      clear hb6
      unfold T1
      replace hB := hB.new (q1) (q2) 23
      replace hb := hb.alloc hb.size (.cells #[.int .i64 (q1), .int .i64 (q2)] 23)
      try simp only [asize] at hB
      have hB' := hB
      obtain ⟨⟨z0, x0, y0⟩, ⟨z1, x1, y1⟩, ⟨z2, x2, y2⟩, ⟨z3, x3, y3⟩, ⟨z4, x4, y4⟩, _⟩ := hB'
      go_wp2_with fail
      clear z0 x0 y0 z1 x1 y1 z2 x2 y2 z3 x3 y3 z4 x4 y4
      refine (Q2.out _).mono ?_
      rintro e w7 ⟨rfl, hb7⟩
      replace hb := hb.trans (hb7.mono hb.size)
      replace hB := hB.below hb7
      clear hb7
      unfold T1
      replace hB := hB.new (q1) (q2) 23
      replace hb := hb.alloc hb.size (.cells #[.int .i64 (q1), .int .i64 (q2)] 23)
      try simp only [asize] at hB
      have hB' := hB
      obtain ⟨⟨z0, x0, y0⟩, ⟨z1, x1, y1⟩, ⟨z2, x2, y2⟩, ⟨z3, x3, y3⟩, ⟨z4, x4, y4⟩, ⟨z5, x5, y5⟩, _⟩ := hB'
      go_wp2_with fail
      clear z0 x0 y0 z1 x1 y1 z2 x2 y2 z3 x3 y3 z4 x4 y4 z5 x5 y5
      refine (eq_yes p1 p2 _).mono ?_
      rintro e w8 ⟨rfl, hb8⟩
      replace hb := hb.trans (hb8.mono hb.size)
      replace hB := hB.below hb8
      clear hb8
      have hB' := hB
      obtain ⟨⟨z0, x0, y0⟩, ⟨z1, x1, y1⟩, ⟨z2, x2, y2⟩, ⟨z3, x3, y3⟩, ⟨z4, x4, y4⟩, ⟨z5, x5, y5⟩, _⟩ := hB'
      go_wp2_with fail
      clear z0 x0 y0 z1 x1 y1 z2 x2 y2 z3 x3 y3 z4 x4 y4 z5 x5 y5
      refine (eq_yes q1 q2 _).mono ?_
      rintro e w9 ⟨rfl, hb9⟩
      replace hb := hb.trans (hb9.mono hb.size)
      replace hB := hB.below hb9
      clear hb9
      have hB' := hB
      by_cases ht : p3 = 0
      · subst ht
        have hmy := P3.out rfl
        have HM := Lib.hid hmy
        clear hmy
        obtain ⟨⟨z0, x0, y0⟩, ⟨z1, x1, y1⟩, ⟨z2, x2, y2⟩, ⟨z3, x3, y3⟩, ⟨z4, x4, y4⟩, ⟨z5, x5, y5⟩, _⟩ := hB'
        go_wp2_with fail
        clear z0 x0 y0 z1 x1 y1 z2 x2 y2 z3 x3 y3 z4 x4 y4 z5 x5 y5
        refine (rmay_t _ _ _ true HM.out).mono ?_
        rintro e w10 ⟨rfl, hb10⟩
        replace hb := hb.trans (hb10.mono hb.size)
        replace hB := hB.below hb10
        clear hb10
        have hBk : Boxes w10 [(w3.heap.size + 1, 1, Y), (w3.heap.size, 1, X)] := hB.2.2.2.2
        go_wp2_with fail
        go_roundw
        case rel => exact ⟨m + 1, by omega, by go_num, hBk, hb⟩
        case measure => simp [intOf]; omega
      · have ht1 : (p3 == 0) = false := beq_eq_false_iff_ne.2 ht
        cases hmy : mayB (p1, p2)
        · have HM := Lib.hid hmy
          clear hmy
          obtain ⟨⟨z0, x0, y0⟩, ⟨z1, x1, y1⟩, ⟨z2, x2, y2⟩, ⟨z3, x3, y3⟩, ⟨z4, x4, y4⟩, ⟨z5, x5, y5⟩, _⟩ := hB'
          go_wp2_with fail
          clear z0 x0 y0 z1 x1 y1 z2 x2 y2 z3 x3 y3 z4 x4 y4 z5 x5 y5
          refine (rmay_t _ _ _ false HM.out).mono ?_
          rintro e w10 ⟨rfl, hb10⟩
          replace hb := hb.trans (hb10.mono hb.size)
          replace hB := hB.below hb10
          clear hb10
          have hBk : Boxes w10 [(w3.heap.size + 1, 1, Y), (w3.heap.size, 1, X)] := hB.2.2.2.2
          go_wp2_with fail
          go_roundw
          case rel => exact ⟨m + 1, by omega, by go_num, hBk, hb⟩
          case measure => simp [intOf]; omega
        · have HM := Lib.hid hmy
          clear hmy
          obtain ⟨⟨z0, x0, y0⟩, ⟨z1, x1, y1⟩, ⟨z2, x2, y2⟩, ⟨z3, x3, y3⟩, ⟨z4, x4, y4⟩, ⟨z5, x5, y5⟩, _⟩ := hB'
          go_wp2_with fail
          clear z0 x0 y0 z1 x1 y1 z2 x2 y2 z3 x3 y3 z4 x4 y4 z5 x5 y5
          refine (rmay_t _ _ _ true HM.out).mono ?_
          rintro e w10 ⟨rfl, hb10⟩
          replace hb := hb.trans (hb10.mono hb.size)
          replace hB := hB.below hb10
          clear hb10
          have hBk : Boxes w10 [(w3.heap.size + 1, 1, Y), (w3.heap.size, 1, X)] := hB.2.2.2.2
          go_wp2_with fail
          go_roundw
          case rel => exact ⟨m + 1, by omega, by go_num, hBk, hb⟩
          case measure => simp [intOf]; omega
    · have : m = 105 := by omega
      subst this
      clear hB
      go_wp2_with fail
      go_ret
      exact ⟨rfl, hb⟩
theorem each_2 (a b g : Int) (w0 : (Lit.int .i64 a).wf = true) (w1 : (Lit.int .i64 b).wf = true) (hg : bits .and .i64 g 1 = 1) (w : World) (htab : TabAt 0 Lib.deBruijn64tab w) :
    Calls Tryd.prog 4 #[.int .i64 a, .int .i64 b, .int .i64 g] w fun e w' => e = .returned (.bool true) ∧ Below w.heap.size w w' := by
  obtain ⟨X, hX⟩ : ∃ X, X = wk 2 a := ⟨_, rfl⟩
  obtain ⟨Y, hY⟩ : ∃ Y, Y = wk 2 b := ⟨_, rfl⟩
  have rX : RK 2 X := by rw [hX]; exact rk_2 a (bounds_i64 w0)
  have rY : RK 2 Y := by rw [hY]; exact rk_2 b (bounds_i64 w1)
  have bX : -9223372036854775808 ≤ X ∧ X ≤ 9223372036854775807 := rX
  have bY : -9223372036854775808 ≤ Y ∧ Y ≤ 9223372036854775807 := rY
  have hts : ∀ op : Int, TwoSame op 2 X 2 Y := fun op => two_same op 2 X 2 Y bX bY
  have hos : ∀ op : Int, OneSame op 2 Y := fun op => one_same op 2 Y bY
  have HTS := Lib.hid hts
  have HOS := Lib.hid hos
  have HX := Lib.hid hX.symm
  have HY := Lib.hid hY.symm
  clear hX hY rX rY bX bY w0 w1 hts hos
  go_enter Tryd.func4, Tryd.ntmps4
  go_wp2_with fail
  refine (begun_any w).mono ?_
  rintro e w1 ⟨rfl, hbw⟩
  go_wp2_with fail
  refine (refwrap_2 a _).mono ?_
  rintro e w2 ⟨rfl, hb2⟩
  replace hbw := hbw.trans (hb2.mono hbw.size)
  clear hb2
  rw [HX.out]
  go_wp2_with fail
  refine (refwrap_2 b _).mono ?_
  rintro e w3 ⟨rfl, hb3⟩
  replace hbw := hbw.trans (hb3.mono hbw.size)
  clear hb3
  rw [HY.out]
  have hB := Boxes.new (Boxes.new (w := w3) (l := []) trivial 2 X 23) 2 Y 23
  replace hbw := hbw.alloc hbw.size (.cells #[.int .i64 2, .int .i64 X] 23)
  replace hbw := hbw.alloc hbw.size (.cells #[.int .i64 2, .int .i64 Y] 23)
  simp only [asize] at hB
  go_wp2_with fail
  go_loopw [10] (fun i wr => ∃ m : Nat, m ≤ 105 ∧ i = .int .i64 (69 + (m : Int)) ∧ Boxes wr [(w3.heap.size + 1, 2, Y), (w3.heap.size, 2, X)] ∧ Below w.heap.size w wr) (fun i _ => 174 - (intOf i).toNat)
  case atStart => exact ⟨0, by omega, rfl, hB, hbw⟩
  case round =>
    clear hB hbw
    obtain ⟨m, hm, rfl, hB, hb⟩ := hrel
    by_cases hlt : m < 105
    · obtain ⟨p1, p2, p3, hp1, hp2, hp3⟩ := HTS.out (69 + (m : Int))
      obtain ⟨q1, q2, q3, hq1, hq2⟩ := HOS.out (69 + (m : Int))
      have P1 := Lib.hid hp1
      have P2 := Lib.hid hp2
      have P3 := Lib.hid hp3
      have Q1 := Lib.hid hq1
      have Q2 := Lib.hid hq2
      clear hp1 hp2 hp3 hq1 hq2
      have hB' := hB
      obtain ⟨⟨z0, x0, y0⟩, ⟨z1, x1, y1⟩, _⟩ := hB'
      go_wp2_with fail
      clear z0 x0 y0 z1 x1 y1
      refine (P1.out _).mono ?_
      rintro e w4 ⟨rfl, hb4⟩
      replace hb := hb.trans (hb4.mono hb.size)
      replace hB := hB.below hb4
      clear hb4
      unfold T2
      replace hB := hB.new (p1) (p2) 23
      replace hb := hb.alloc hb.size (.cells #[.int .i64 (p1), .int .i64 (p2)] 23)
      try simp only [asize] at hB
      have hB' := hB
      obtain ⟨⟨z0, x0, y0⟩, ⟨z1, x1, y1⟩, ⟨z2, x2, y2⟩, _⟩ := hB'
      go_wp2_with fail
      clear z0 x0 y0 z1 x1 y1 z2 x2 y2
      refine (P2.out _).mono ?_
      rintro e w5 ⟨rfl, hb5⟩
      replace hb := hb.trans (hb5.mono hb.size)
      replace hB := hB.below hb5
      clear hb5
      unfold T2
      replace hB := hB.new (p1) (p2) 23
      replace hb := hb.alloc hb.size (.cells #[.int .i64 (p1), .int .i64 (p2)] 23)
      try simp only [asize] at hB
      have hB' := hB
      obtain ⟨⟨z0, x0, y0⟩, ⟨z1, x1, y1⟩, ⟨z2, x2, y2⟩, ⟨z3, x3, y3⟩, _⟩ := hB'
      go_wp2_with fail
      clear z0 x0 y0 z1 x1 y1 z2 x2 y2 z3 x3 y3
      refine (Q1.out _ (tab_up htab hb (tab_size htab))).mono ?_
      rintro e w6 ⟨rfl, hb6⟩
      replace hb := hb.trans (hb6.mono hb.size)
      replace hB := hB.below hb6
      clear hb6
      unfold T1
      replace hB := hB.new (q1) (q2) 23
      replace hb := hb.alloc hb.size (.cells #[.int .i64 (q1), .int .i64 (q2)] 23)
      try simp only [asize] at hB
      have hB' := hB
      obtain ⟨⟨z0, x0, y0⟩, ⟨z1, x1, y1⟩, ⟨z2, x2, y2⟩, ⟨z3, x3, y3⟩, ⟨z4, x4, y4⟩, _⟩ := hB'
      go_wp2_with fail
      clear z0 x0 y0 z1 x1 y1 z2 x2 y2 z3 x3 y3 z4 x4 y4
      refine (Q2.out _).mono ?_
      rintro e w7 ⟨rfl, hb7⟩
      replace hb := hb.trans (hb7.mono hb.size)
      replace hB := hB.below hb7
      clear hb7
      unfold T1
      replace hB := hB.new (q1) (q2) 23
      replace hb := hb.alloc hb.size (.cells #[.int .i64 (q1), .int .i64 (q2)] 23)
      try simp only [asize] at hB
      have hB' := hB
      obtain ⟨⟨z0, x0, y0⟩, ⟨z1, x1, y1⟩, ⟨z2, x2, y2⟩, ⟨z3, x3, y3⟩, ⟨z4, x4, y4⟩, ⟨z5, x5, y5⟩, _⟩ := hB'
      go_wp2_with fail
      clear z0 x0 y0 z1 x1 y1 z2 x2 y2 z3 x3 y3 z4 x4 y4 z5 x5 y5
      refine (eq_yes p1 p2 _).mono ?_
      rintro e w8 ⟨rfl, hb8⟩
      replace hb := hb.trans (hb8.mono hb.size)
      replace hB := hB.below hb8
      clear hb8
      have hB' := hB
      obtain ⟨⟨z0, x0, y0⟩, ⟨z1, x1, y1⟩, ⟨z2, x2, y2⟩, ⟨z3, x3, y3⟩, ⟨z4, x4, y4⟩, ⟨z5, x5, y5⟩, _⟩ := hB'
      go_wp2_with fail
      clear z0 x0 y0 z1 x1 y1 z2 x2 y2 z3 x3 y3 z4 x4 y4 z5 x5 y5
      refine (eq_yes q1 q2 _).mono ?_
      rintro e w9 ⟨rfl, hb9⟩
      replace hb := hb.trans (hb9.mono hb.size)
      replace hB := hB.below hb9
      clear hb9
      have hB' := hB
      by_cases ht : p3 = 0
      · subst ht
        have hmy := P3.out rfl
        have HM := Lib.hid hmy
        clear hmy
        obtain ⟨⟨z0, x0, y0⟩, ⟨z1, x1, y1⟩, ⟨z2, x2, y2⟩, ⟨z3, x3, y3⟩, ⟨z4, x4, y4⟩, ⟨z5, x5, y5⟩, _⟩ := hB'
        go_wp2_with fail
        clear z0 x0 y0 z1 x1 y1 z2 x2 y2 z3 x3 y3 z4 x4 y4 z5 x5 y5
        refine (rmay_t _ _ _ true HM.out).mono ?_
        rintro e w10 ⟨rfl, hb10⟩
        replace hb := hb.trans (hb10.mono hb.size)
        replace hB := hB.below hb10
        clear hb10
        have hBk : Boxes w10 [(w3.heap.size + 1, 2, Y), (w3.heap.size, 2, X)] := hB.2.2.2.2
        go_wp2_with fail
        go_roundw
        case rel => exact ⟨m + 1, by omega, by go_num, hBk, hb⟩
        case measure => simp [intOf]; omega
      · have ht1 : (p3 == 0) = false := beq_eq_false_iff_ne.2 ht
        cases hmy : mayB (p1, p2)
        · have HM := Lib.hid hmy
          clear hmy
          obtain ⟨⟨z0, x0, y0⟩, ⟨z1, x1, y1⟩, ⟨z2, x2, y2⟩, ⟨z3, x3, y3⟩, ⟨z4, x4, y4⟩, ⟨z5, x5, y5⟩, _⟩ := hB'
          go_wp2_with fail
          clear z0 x0 y0 z1 x1 y1 z2 x2 y2 z3 x3 y3 z4 x4 y4 z5 x5 y5
          refine (rmay_t _ _ _ false HM.out).mono ?_
          rintro e w10 ⟨rfl, hb10⟩
          replace hb := hb.trans (hb10.mono hb.size)
          replace hB := hB.below hb10
          clear hb10
          have hBk : Boxes w10 [(w3.heap.size + 1, 2, Y), (w3.heap.size, 2, X)] := hB.2.2.2.2
          go_wp2_with fail
          go_roundw
          case rel => exact ⟨m + 1, by omega, by go_num, hBk, hb⟩
          case measure => simp [intOf]; omega
        · have HM := Lib.hid hmy
          clear hmy
          obtain ⟨⟨z0, x0, y0⟩, ⟨z1, x1, y1⟩, ⟨z2, x2, y2⟩, ⟨z3, x3, y3⟩, ⟨z4, x4, y4⟩, ⟨z5, x5, y5⟩, _⟩ := hB'
          go_wp2_with fail
          clear z0 x0 y0 z1 x1 y1 z2 x2 y2 z3 x3 y3 z4 x4 y4 z5 x5 y5
          refine (rmay_t _ _ _ true HM.out).mono ?_
          rintro e w10 ⟨rfl, hb10⟩
          replace hb := hb.trans (hb10.mono hb.size)
          replace hB := hB.below hb10
          clear hb10
          have hBk : Boxes w10 [(w3.heap.size + 1, 2, Y), (w3.heap.size, 2, X)] := hB.2.2.2.2
          go_wp2_with fail
          go_roundw
          case rel => exact ⟨m + 1, by omega, by go_num, hBk, hb⟩
          case measure => simp [intOf]; omega
    · have : m = 105 := by omega
      subst this
      clear hB
      go_wp2_with fail
      go_ret
      exact ⟨rfl, hb⟩
theorem intsEach_walk (a b g : Int) (w0 : (Lit.int .i64 a).wf = true) (w1 : (Lit.int .i64 b).wf = true) (w2 : (Lit.int .i64 g).wf = true) (w : World) (htab : TabAt 0 Lib.deBruijn64tab w) :
    Calls Tryd.prog 4 #[.int .i64 a, .int .i64 b, .int .i64 g] w fun e w' => e = .returned (.bool true) ∧ Below w.heap.size w w' := by
  have h := and_one g
  rcases (show g % 2 = 0 ∨ g % 2 = 1 by omega) with h1 | h1
  · exact each_1 a b g w0 w1 (by rw [h, h1]) w htab
  · exact each_2 a b g w0 w1 (by rw [h, h1]) w htab
end Go.Proofs.YtdcpbjpghgbbiaaDoor
