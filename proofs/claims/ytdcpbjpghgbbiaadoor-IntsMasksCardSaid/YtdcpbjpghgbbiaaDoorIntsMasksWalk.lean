/- The walk of IntsMasks: it returns true and writes nothing that was there. No condition but the kinds' own ranges. Printed by gen_laws.py. -/
import Derived.Test.YtdcpbjpghgbbiaaDoorIntsBegun
namespace Go.Proofs.YtdcpbjpghgbbiaaDoor
open Go.RowKit
set_option linter.unusedVariables false
set_option maxHeartbeats 4000000
set_option maxRecDepth 100000

theorem eq_yes (k n : Int) (w : World) : Calls Tryd.prog 23 #[.agg #[.int .i64 k, .int .i64 n], .agg #[.int .i64 k, .int .i64 n]] w fun e w' => e = .returned (.bool true) ∧ Below w.heap.size w w' :=
  (eq_any k n k n w).mono fun _ _ h => ⟨h.1.trans (by simp), h.2⟩
theorem may_2 (n : Int) : Hid (mayB (2, n) = true) := rfl
theorem s32_range (n : Int) : -2147483648 ≤ s32 n ∧ s32 n ≤ 2147483647 := by
  unfold s32
  simp [IntKind.wrap, IntKind.bits, IntKind.signed]
  constructor <;> (split <;> omega)
theorem may_1 (n : Int) (h1 : -2147483648 ≤ n) (h2 : n ≤ 2147483647) : Hid (mayB (1, n) = true) := by
  show mayB (1, n) = true
  simp [mayB, h1, h2]
theorem s32_id (n : Int) (h1 : -2147483648 ≤ n) (h2 : n ≤ 2147483647) : s32 n = n := by
  unfold s32
  simp [IntKind.wrap, IntKind.bits, IntKind.signed]
  split <;> omega
theorem asize (w : World) (o : Obj) : (w.alloc o).heap.size = w.heap.size + 1 := by simp
def RK (k x : Int) : Prop := if k = 1 then -2147483648 ≤ x ∧ x ≤ 2147483647 else -9223372036854775808 ≤ x ∧ x ≤ 9223372036854775807
theorem rk_1 (n : Int) (_h : -9223372036854775808 ≤ n ∧ n ≤ 9223372036854775807) : RK 1 (wk 1 n) := s32_range n
theorem rk_2 (n : Int) (h : -9223372036854775808 ≤ n ∧ n ≤ 9223372036854775807) : RK 2 (wk 2 n) := h
theorem wrap_toNat (v : BitVec 64) : IntKind.i64.wrap (v.toNat : Int) = v.toInt := by
  have := v.isLt
  rw [BitVec.toInt_eq_toNat_cond]
  simp [IntKind.wrap, IntKind.bits, IntKind.signed]
  split <;> split <;> omega
theorem b_and (x y : Int) : bits .and .i64 x y = (BitVec.ofInt 64 x &&& BitVec.ofInt 64 y).toInt := wrap_toNat _
theorem b_or (x y : Int) : bits .or .i64 x y = (BitVec.ofInt 64 x ||| BitVec.ofInt 64 y).toInt := wrap_toNat _
theorem b_xor (x y : Int) : bits .xor .i64 x y = (BitVec.ofInt 64 x ^^^ BitVec.ofInt 64 y).toInt := wrap_toNat _
theorem toInt64 (x : Int) (h : -9223372036854775808 ≤ x ∧ x ≤ 9223372036854775807) : (BitVec.ofInt 64 x).toInt = x := by
  rw [BitVec.toInt_ofInt]
  simp [Int.bmod]
  split <;> omega
theorem toInt32 (x : Int) (h : -2147483648 ≤ x ∧ x ≤ 2147483647) : (BitVec.ofInt 32 x).toInt = x := by
  rw [BitVec.toInt_ofInt]
  simp [Int.bmod]
  split <;> omega
theorem ext32 (x : Int) (h : -2147483648 ≤ x ∧ x ≤ 2147483647) : BitVec.ofInt 64 x = (BitVec.ofInt 32 x).signExtend 64 := by
  apply BitVec.eq_of_toInt_eq
  rw [BitVec.toInt_signExtend_of_le (by decide), toInt32 x h, toInt64 x (by omega)]
theorem range64 (v : BitVec 64) : RK 2 v.toInt := by
  have h1 := @BitVec.toInt_lt 64 v
  have h2 := @BitVec.le_toInt 64 v
  show -9223372036854775808 ≤ v.toInt ∧ v.toInt ≤ 9223372036854775807
  simp at h1 h2
  omega
theorem range32 (v : BitVec 32) : RK 1 (v.signExtend 64).toInt := by
  have h1 := @BitVec.toInt_lt 32 v
  have h2 := @BitVec.le_toInt 32 v
  rw [BitVec.toInt_signExtend_of_le (by decide)]
  show -2147483648 ≤ v.toInt ∧ v.toInt ≤ 2147483647
  simp at h1 h2
  omega
theorem add_and_or (a b : BitVec 64) : (a &&& b) + (a ||| b) = a + b := by
  have h1 : a + (b &&& ~~~a) = a ||| b := by
    rw [BitVec.add_eq_or_of_and_eq_zero]
    · ext i; simp; cases a[i] <;> simp
    · ext i; simp; cases a[i] <;> simp
  have h2 : (a &&& b) + (b &&& ~~~a) = b := by
    rw [BitVec.add_eq_or_of_and_eq_zero]
    · ext i; simp; cases a[i] <;> simp
    · ext i; simp; cases a[i] <;> simp
  rw [← h1]
  have : (a &&& b) + (a + (b &&& ~~~a)) = a + ((a &&& b) + (b &&& ~~~a)) := by rw [← BitVec.add_assoc, BitVec.add_comm (a &&& b) a, BitVec.add_assoc]
  rw [this, h2]
theorem wrap64_add (u v : BitVec 64) : wrap64 (u.toInt + v.toInt) = (u + v).toInt := by
  rw [BitVec.toInt_add]
  unfold wrap64
  simp [Int.bmod]
  split <;> omega
theorem rk_bits (k X Y : Int) (hk : k = 1 ∨ k = 2) (rX : RK k X) (rY : RK k Y) : RK k (bits .and .i64 X Y) ∧ RK k (bits .or .i64 X Y) ∧ RK k (bits .xor .i64 X Y) := by
  rw [b_and, b_or, b_xor]
  rcases hk with rfl | rfl
  · rw [ext32 X rX, ext32 Y rY, ← BitVec.signExtend_and, ← BitVec.signExtend_or, ← BitVec.signExtend_xor]
    exact ⟨range32 _, range32 _, range32 _⟩
  · exact ⟨range64 _, range64 _, range64 _⟩
theorem wk_id (k x : Int) (hk : k = 1 ∨ k = 2) (h : RK k x) : wk k x = x := by
  rcases hk with rfl | rfl
  · exact s32_id x h.1 h.2
  · rfl
theorem may_k (k x : Int) (hk : k = 1 ∨ k = 2) (h : RK k x) : Hid (mayB (k, x) = true) := by
  rcases hk with rfl | rfl
  · exact may_1 x h.1 h.2
  · exact may_2 x
theorem mask_facts (k X Y : Int) (hk : k = 1 ∨ k = 2) (rX : RK k X) (rY : RK k Y) :
    Hid (wk k (reckV k 113 X Y) = bits .and .i64 X Y) ∧ Hid (wk k (reckV k 114 X Y) = bits .or .i64 X Y) ∧ Hid (wk k (reckV k 115 X Y) = bits .xor .i64 X Y) ∧
    Hid (wk k (reckV k 106 (bits .and .i64 X Y) (bits .or .i64 X Y)) = wk k (reckV k 106 X Y)) ∧ Hid (wk k (reckV k 114 (bits .and .i64 X Y) (bits .xor .i64 X Y)) = bits .or .i64 X Y) ∧
    Hid (wk k (reckV k 115 (bits .xor .i64 X Y) Y) = X) ∧ Hid (mayB (k, X) = true) ∧ Hid (mayB (k, Y) = true) ∧ Hid (mayB (k, bits .and .i64 X Y) = true) ∧ Hid (mayB (k, bits .or .i64 X Y) = true) ∧ Hid (mayB (k, bits .xor .i64 X Y) = true) := by
  obtain ⟨r1, r2, r3⟩ := rk_bits k X Y hk rX rY
  have big : ∀ x, RK k x → -9223372036854775808 ≤ x ∧ x ≤ 9223372036854775807 := by
    intro x h
    rcases hk with rfl | rfl
    · have : -2147483648 ≤ x ∧ x ≤ 2147483647 := h
      omega
    · exact h
  have eU : bits .or .i64 (bits .and .i64 X Y) (bits .xor .i64 X Y) = bits .or .i64 X Y := by
    rw [b_or (bits .and .i64 X Y), b_and, b_xor, b_or, BitVec.ofInt_toInt, BitVec.ofInt_toInt]
    congr 1
    ext i; simp; cases (BitVec.ofInt 64 X)[i] <;> simp
  have eV : bits .xor .i64 (bits .xor .i64 X Y) Y = X := by
    rw [b_xor (bits .xor .i64 X Y), b_xor, BitVec.ofInt_toInt]
    have : BitVec.ofInt 64 X ^^^ BitVec.ofInt 64 Y ^^^ BitVec.ofInt 64 Y = BitVec.ofInt 64 X := by
      rw [BitVec.xor_assoc, BitVec.xor_self, BitVec.xor_zero]
    rw [this, toInt64 X (big X rX)]
  have eS : wrap64 (bits .and .i64 X Y + bits .or .i64 X Y) = wrap64 (X + Y) := by
    rw [b_and, b_or, wrap64_add, add_and_or, ← wrap64_add, toInt64 X (big X rX), toInt64 Y (big Y rY)]
  refine ⟨wk_id k _ hk r1, wk_id k _ hk r2, wk_id k _ hk r3, ?_, ?_, ?_, may_k k X hk rX, may_k k Y hk rY, may_k k _ hk r1, may_k k _ hk r2, may_k k _ hk r3⟩
  · exact congrArg (wk k) eS
  · exact (congrArg (wk k) eU).trans (wk_id k _ hk r2)
  · exact (congrArg (wk k) eV).trans (wk_id k _ hk rX)

theorem intsMasks_walk (a b : Int) (wide : Bool) (w0 : (Lit.int .i64 a).wf = true) (w1 : (Lit.int .i64 b).wf = true) (w : World) :
    Calls Tryd.prog 9 #[.int .i64 a, .int .i64 b, .bool wide] w fun e w' => e = .returned (.bool true) ∧ Below w.heap.size w w' := by
  cases wide
  · obtain ⟨X, hX⟩ : ∃ X, X = wk 1 a := ⟨_, rfl⟩
    obtain ⟨Y, hY⟩ : ∃ Y, Y = wk 1 b := ⟨_, rfl⟩
    have rX : RK 1 X := by rw [hX]; exact rk_1 a (bounds_i64 w0)
    have rY : RK 1 Y := by rw [hY]; exact rk_1 b (bounds_i64 w1)
    clear w0 w1
    obtain ⟨RA, RO, RZ, RS, RU, RV, MX, MY, MA, MO, MZ⟩ := mask_facts 1 X Y (.inl rfl) rX rY
    obtain ⟨A, hA⟩ : ∃ A, A = bits .and .i64 X Y := ⟨_, rfl⟩
    obtain ⟨O, hO⟩ : ∃ O, O = bits .or .i64 X Y := ⟨_, rfl⟩
    obtain ⟨Z, hZ⟩ : ∃ Z, Z = bits .xor .i64 X Y := ⟨_, rfl⟩
    obtain ⟨S, hS⟩ : ∃ S, S = wk 1 (reckV 1 106 X Y) := ⟨_, rfl⟩
    rw [← hA] at RA RS RU MA
    rw [← hO] at RO RS RU MO
    rw [← hZ] at RZ RU RV MZ
    rw [← hS] at RS
    have RT : Hid (wk 1 (reckV 1 106 X Y) = S) := Lib.hid hS.symm
    have HX := Lib.hid hX.symm
    have HY := Lib.hid hY.symm
    have fA := hA.symm
    have fO := hO.symm
    have fZ := hZ.symm
    clear hA hO hZ hS hX hY rX rY
    go_enter Tryd.func9, Tryd.ntmps9
    go_wp2_with fail
    refine (begun_any w).mono ?_
    rintro e w1 ⟨rfl, hbw⟩
    have hB : Boxes w1 [] := trivial
    go_wp2_with fail
    refine (refwrap_1 a _).mono ?_
    rintro e w2 ⟨rfl, hb2⟩
    replace hbw := hbw.trans (hb2.mono hbw.size)
    replace hB := hB.below hb2
    clear hb2
    rw [HX.out]
    go_wp2_with fail
    refine (refwrap_1 b _).mono ?_
    rintro e w3 ⟨rfl, hb3⟩
    replace hbw := hbw.trans (hb3.mono hbw.size)
    replace hB := hB.below hb3
    clear hb3
    rw [HY.out]
    replace hB := hB.new (1) (X) 23
    replace hbw := hbw.alloc hbw.size (.cells #[.int .i64 (1), .int .i64 (X)] 23)
    replace hB := hB.new (1) (Y) 23
    replace hbw := hbw.alloc hbw.size (.cells #[.int .i64 (1), .int .i64 (Y)] 23)
    have hB' := hB
    obtain ⟨⟨z0, x0, y0⟩, ⟨z1, x1, y1⟩, _⟩ := hB'
    go_wp2_with fail
    clear z0 x0 y0 z1 x1 y1
    refine (two_reck 113 1 113 X Y _ (.inl rfl) (show ofV 113 = (1, 113) by decide) (show kindsV 113 = ([1, 1], 1, true) by decide) (by unfold Reck; omega) MX MY).mono ?_
    rintro e w4 ⟨rfl, hb4⟩
    replace hbw := hbw.trans (hb4.mono hbw.size)
    replace hB := hB.below hb4
    clear hb4
    try simp only [asize] at hB
    unfold T2
    rw [RA.out]
    replace hB := hB.new (1) (A) 23
    replace hbw := hbw.alloc hbw.size (.cells #[.int .i64 (1), .int .i64 (A)] 23)
    have hB' := hB
    obtain ⟨⟨z0, x0, y0⟩, ⟨z1, x1, y1⟩, ⟨z2, x2, y2⟩, _⟩ := hB'
    go_wp2_with fail
    clear z0 x0 y0 z1 x1 y1 z2 x2 y2
    refine (two_reck 114 1 114 X Y _ (.inl rfl) (show ofV 114 = (1, 114) by decide) (show kindsV 114 = ([1, 1], 1, true) by decide) (by unfold Reck; omega) MX MY).mono ?_
    rintro e w5 ⟨rfl, hb5⟩
    replace hbw := hbw.trans (hb5.mono hbw.size)
    replace hB := hB.below hb5
    clear hb5
    try simp only [asize] at hB
    unfold T2
    rw [RO.out]
    replace hB := hB.new (1) (O) 23
    replace hbw := hbw.alloc hbw.size (.cells #[.int .i64 (1), .int .i64 (O)] 23)
    have hB' := hB
    obtain ⟨⟨z0, x0, y0⟩, ⟨z1, x1, y1⟩, ⟨z2, x2, y2⟩, ⟨z3, x3, y3⟩, _⟩ := hB'
    go_wp2_with fail
    clear z0 x0 y0 z1 x1 y1 z2 x2 y2 z3 x3 y3
    refine (two_reck 115 1 115 X Y _ (.inl rfl) (show ofV 115 = (1, 115) by decide) (show kindsV 115 = ([1, 1], 1, true) by decide) (by unfold Reck; omega) MX MY).mono ?_
    rintro e w6 ⟨rfl, hb6⟩
    replace hbw := hbw.trans (hb6.mono hbw.size)
    replace hB := hB.below hb6
    clear hb6
    try simp only [asize] at hB
    unfold T2
    rw [RZ.out]
    replace hB := hB.new (1) (Z) 23
    replace hbw := hbw.alloc hbw.size (.cells #[.int .i64 (1), .int .i64 (Z)] 23)
    have hB' := hB
    obtain ⟨⟨z0, x0, y0⟩, ⟨z1, x1, y1⟩, ⟨z2, x2, y2⟩, ⟨z3, x3, y3⟩, ⟨z4, x4, y4⟩, _⟩ := hB'
    go_wp2_with fail
    clear z0 x0 y0 z1 x1 y1 z2 x2 y2 z3 x3 y3 z4 x4 y4
    refine (two_reck 106 1 106 A O _ (.inl rfl) (show ofV 106 = (1, 106) by decide) (show kindsV 106 = ([1, 1], 1, true) by decide) (by unfold Reck; omega) MA MO).mono ?_
    rintro e w7 ⟨rfl, hb7⟩
    replace hbw := hbw.trans (hb7.mono hbw.size)
    replace hB := hB.below hb7
    clear hb7
    try simp only [asize] at hB
    unfold T2
    rw [RS.out]
    replace hB := hB.new (1) (S) 23
    replace hbw := hbw.alloc hbw.size (.cells #[.int .i64 (1), .int .i64 (S)] 23)
    have hB' := hB
    obtain ⟨⟨z0, x0, y0⟩, ⟨z1, x1, y1⟩, ⟨z2, x2, y2⟩, ⟨z3, x3, y3⟩, ⟨z4, x4, y4⟩, ⟨z5, x5, y5⟩, _⟩ := hB'
    go_wp2_with fail
    clear z0 x0 y0 z1 x1 y1 z2 x2 y2 z3 x3 y3 z4 x4 y4 z5 x5 y5
    refine (two_reck 106 1 106 X Y _ (.inl rfl) (show ofV 106 = (1, 106) by decide) (show kindsV 106 = ([1, 1], 1, true) by decide) (by unfold Reck; omega) MX MY).mono ?_
    rintro e w8 ⟨rfl, hb8⟩
    replace hbw := hbw.trans (hb8.mono hbw.size)
    replace hB := hB.below hb8
    clear hb8
    try simp only [asize] at hB
    unfold T2
    rw [RT.out]
    replace hB := hB.new (1) (S) 23
    replace hbw := hbw.alloc hbw.size (.cells #[.int .i64 (1), .int .i64 (S)] 23)
    have hB' := hB
    obtain ⟨⟨z0, x0, y0⟩, ⟨z1, x1, y1⟩, ⟨z2, x2, y2⟩, ⟨z3, x3, y3⟩, ⟨z4, x4, y4⟩, ⟨z5, x5, y5⟩, ⟨z6, x6, y6⟩, _⟩ := hB'
    go_wp2_with fail
    clear z0 x0 y0 z1 x1 y1 z2 x2 y2 z3 x3 y3 z4 x4 y4 z5 x5 y5 z6 x6 y6
    refine (two_reck 114 1 114 A Z _ (.inl rfl) (show ofV 114 = (1, 114) by decide) (show kindsV 114 = ([1, 1], 1, true) by decide) (by unfold Reck; omega) MA MZ).mono ?_
    rintro e w9 ⟨rfl, hb9⟩
    replace hbw := hbw.trans (hb9.mono hbw.size)
    replace hB := hB.below hb9
    clear hb9
    try simp only [asize] at hB
    unfold T2
    rw [RU.out]
    replace hB := hB.new (1) (O) 23
    replace hbw := hbw.alloc hbw.size (.cells #[.int .i64 (1), .int .i64 (O)] 23)
    have hB' := hB
    obtain ⟨⟨z0, x0, y0⟩, ⟨z1, x1, y1⟩, ⟨z2, x2, y2⟩, ⟨z3, x3, y3⟩, ⟨z4, x4, y4⟩, ⟨z5, x5, y5⟩, ⟨z6, x6, y6⟩, ⟨z7, x7, y7⟩, _⟩ := hB'
    go_wp2_with fail
    clear z0 x0 y0 z1 x1 y1 z2 x2 y2 z3 x3 y3 z4 x4 y4 z5 x5 y5 z6 x6 y6 z7 x7 y7
    refine (two_reck 115 1 115 Z Y _ (.inl rfl) (show ofV 115 = (1, 115) by decide) (show kindsV 115 = ([1, 1], 1, true) by decide) (by unfold Reck; omega) MZ MY).mono ?_
    rintro e w10 ⟨rfl, hb10⟩
    replace hbw := hbw.trans (hb10.mono hbw.size)
    replace hB := hB.below hb10
    clear hb10
    try simp only [asize] at hB
    unfold T2
    rw [RV.out]
    replace hB := hB.new (1) (X) 23
    replace hbw := hbw.alloc hbw.size (.cells #[.int .i64 (1), .int .i64 (X)] 23)
    have hB' := hB
    obtain ⟨⟨z0, x0, y0⟩, ⟨z1, x1, y1⟩, ⟨z2, x2, y2⟩, ⟨z3, x3, y3⟩, ⟨z4, x4, y4⟩, ⟨z5, x5, y5⟩, ⟨z6, x6, y6⟩, ⟨z7, x7, y7⟩, ⟨z8, x8, y8⟩, _⟩ := hB'
    go_wp2_with fail
    clear z0 x0 y0 z1 x1 y1 z2 x2 y2 z3 x3 y3 z4 x4 y4 z5 x5 y5 z6 x6 y6 z7 x7 y7 z8 x8 y8
    refine (eq_yes 1 S _).mono ?_
    rintro e w11 ⟨rfl, hb11⟩
    replace hbw := hbw.trans (hb11.mono hbw.size)
    replace hB := hB.below hb11
    clear hb11
    try simp only [asize] at hB
    have hB' := hB
    obtain ⟨⟨z0, x0, y0⟩, ⟨z1, x1, y1⟩, ⟨z2, x2, y2⟩, ⟨z3, x3, y3⟩, ⟨z4, x4, y4⟩, ⟨z5, x5, y5⟩, ⟨z6, x6, y6⟩, ⟨z7, x7, y7⟩, ⟨z8, x8, y8⟩, _⟩ := hB'
    go_wp2_with fail
    clear z0 x0 y0 z1 x1 y1 z2 x2 y2 z3 x3 y3 z4 x4 y4 z5 x5 y5 z6 x6 y6 z7 x7 y7 z8 x8 y8
    refine (eq_yes 1 O _).mono ?_
    rintro e w12 ⟨rfl, hb12⟩
    replace hbw := hbw.trans (hb12.mono hbw.size)
    replace hB := hB.below hb12
    clear hb12
    try simp only [asize] at hB
    have hB' := hB
    obtain ⟨⟨z0, x0, y0⟩, ⟨z1, x1, y1⟩, ⟨z2, x2, y2⟩, ⟨z3, x3, y3⟩, ⟨z4, x4, y4⟩, ⟨z5, x5, y5⟩, ⟨z6, x6, y6⟩, ⟨z7, x7, y7⟩, ⟨z8, x8, y8⟩, _⟩ := hB'
    go_wp2_with fail
    clear z0 x0 y0 z1 x1 y1 z2 x2 y2 z3 x3 y3 z4 x4 y4 z5 x5 y5 z6 x6 y6 z7 x7 y7 z8 x8 y8
    refine (eq_yes 1 X _).mono ?_
    rintro e w13 ⟨rfl, hb13⟩
    replace hbw := hbw.trans (hb13.mono hbw.size)
    replace hB := hB.below hb13
    clear hb13
    try simp only [asize] at hB
    have hB' := hB
    obtain ⟨⟨z0, x0, y0⟩, ⟨z1, x1, y1⟩, ⟨z2, x2, y2⟩, ⟨z3, x3, y3⟩, ⟨z4, x4, y4⟩, ⟨z5, x5, y5⟩, ⟨z6, x6, y6⟩, ⟨z7, x7, y7⟩, ⟨z8, x8, y8⟩, _⟩ := hB'
    go_wp2_with fail
    go_ret
    exact ⟨rfl, hbw⟩
  · obtain ⟨X, hX⟩ : ∃ X, X = wk 2 a := ⟨_, rfl⟩
    obtain ⟨Y, hY⟩ : ∃ Y, Y = wk 2 b := ⟨_, rfl⟩
    have rX : RK 2 X := by rw [hX]; exact rk_2 a (bounds_i64 w0)
    have rY : RK 2 Y := by rw [hY]; exact rk_2 b (bounds_i64 w1)
    clear w0 w1
    obtain ⟨RA, RO, RZ, RS, RU, RV, MX, MY, MA, MO, MZ⟩ := mask_facts 2 X Y (.inr rfl) rX rY
    obtain ⟨A, hA⟩ : ∃ A, A = bits .and .i64 X Y := ⟨_, rfl⟩
    obtain ⟨O, hO⟩ : ∃ O, O = bits .or .i64 X Y := ⟨_, rfl⟩
    obtain ⟨Z, hZ⟩ : ∃ Z, Z = bits .xor .i64 X Y := ⟨_, rfl⟩
    obtain ⟨S, hS⟩ : ∃ S, S = wk 2 (reckV 2 106 X Y) := ⟨_, rfl⟩
    rw [← hA] at RA RS RU MA
    rw [← hO] at RO RS RU MO
    rw [← hZ] at RZ RU RV MZ
    rw [← hS] at RS
    have RT : Hid (wk 2 (reckV 2 106 X Y) = S) := Lib.hid hS.symm
    have HX := Lib.hid hX.symm
    have HY := Lib.hid hY.symm
    have fA := hA.symm
    have fO := hO.symm
    have fZ := hZ.symm
    clear hA hO hZ hS hX hY rX rY
    go_enter Tryd.func9, Tryd.ntmps9
    go_wp2_with fail
    refine (begun_any w).mono ?_
    rintro e w1 ⟨rfl, hbw⟩
    have hB : Boxes w1 [] := trivial
    go_wp2_with fail
    refine (refwrap_2 a _).mono ?_
    rintro e w2 ⟨rfl, hb2⟩
    replace hbw := hbw.trans (hb2.mono hbw.size)
    replace hB := hB.below hb2
    clear hb2
    rw [HX.out]
    go_wp2_with fail
    refine (refwrap_2 b _).mono ?_
    rintro e w3 ⟨rfl, hb3⟩
    replace hbw := hbw.trans (hb3.mono hbw.size)
    replace hB := hB.below hb3
    clear hb3
    rw [HY.out]
    replace hB := hB.new (2) (X) 23
    replace hbw := hbw.alloc hbw.size (.cells #[.int .i64 (2), .int .i64 (X)] 23)
    replace hB := hB.new (2) (Y) 23
    replace hbw := hbw.alloc hbw.size (.cells #[.int .i64 (2), .int .i64 (Y)] 23)
    have hB' := hB
    obtain ⟨⟨z0, x0, y0⟩, ⟨z1, x1, y1⟩, _⟩ := hB'
    go_wp2_with fail
    clear z0 x0 y0 z1 x1 y1
    refine (two_reck 131 2 113 X Y _ (.inr rfl) (show ofV 131 = (2, 113) by decide) (show kindsV 131 = ([2, 2], 2, true) by decide) (by unfold Reck; omega) MX MY).mono ?_
    rintro e w4 ⟨rfl, hb4⟩
    replace hbw := hbw.trans (hb4.mono hbw.size)
    replace hB := hB.below hb4
    clear hb4
    try simp only [asize] at hB
    unfold T2
    rw [RA.out]
    replace hB := hB.new (2) (A) 23
    replace hbw := hbw.alloc hbw.size (.cells #[.int .i64 (2), .int .i64 (A)] 23)
    have hB' := hB
    obtain ⟨⟨z0, x0, y0⟩, ⟨z1, x1, y1⟩, ⟨z2, x2, y2⟩, _⟩ := hB'
    go_wp2_with fail
    clear z0 x0 y0 z1 x1 y1 z2 x2 y2
    refine (two_reck 132 2 114 X Y _ (.inr rfl) (show ofV 132 = (2, 114) by decide) (show kindsV 132 = ([2, 2], 2, true) by decide) (by unfold Reck; omega) MX MY).mono ?_
    rintro e w5 ⟨rfl, hb5⟩
    replace hbw := hbw.trans (hb5.mono hbw.size)
    replace hB := hB.below hb5
    clear hb5
    try simp only [asize] at hB
    unfold T2
    rw [RO.out]
    replace hB := hB.new (2) (O) 23
    replace hbw := hbw.alloc hbw.size (.cells #[.int .i64 (2), .int .i64 (O)] 23)
    have hB' := hB
    obtain ⟨⟨z0, x0, y0⟩, ⟨z1, x1, y1⟩, ⟨z2, x2, y2⟩, ⟨z3, x3, y3⟩, _⟩ := hB'
    go_wp2_with fail
    clear z0 x0 y0 z1 x1 y1 z2 x2 y2 z3 x3 y3
    refine (two_reck 133 2 115 X Y _ (.inr rfl) (show ofV 133 = (2, 115) by decide) (show kindsV 133 = ([2, 2], 2, true) by decide) (by unfold Reck; omega) MX MY).mono ?_
    rintro e w6 ⟨rfl, hb6⟩
    replace hbw := hbw.trans (hb6.mono hbw.size)
    replace hB := hB.below hb6
    clear hb6
    try simp only [asize] at hB
    unfold T2
    rw [RZ.out]
    replace hB := hB.new (2) (Z) 23
    replace hbw := hbw.alloc hbw.size (.cells #[.int .i64 (2), .int .i64 (Z)] 23)
    have hB' := hB
    obtain ⟨⟨z0, x0, y0⟩, ⟨z1, x1, y1⟩, ⟨z2, x2, y2⟩, ⟨z3, x3, y3⟩, ⟨z4, x4, y4⟩, _⟩ := hB'
    go_wp2_with fail
    clear z0 x0 y0 z1 x1 y1 z2 x2 y2 z3 x3 y3 z4 x4 y4
    refine (two_reck 124 2 106 A O _ (.inr rfl) (show ofV 124 = (2, 106) by decide) (show kindsV 124 = ([2, 2], 2, true) by decide) (by unfold Reck; omega) MA MO).mono ?_
    rintro e w7 ⟨rfl, hb7⟩
    replace hbw := hbw.trans (hb7.mono hbw.size)
    replace hB := hB.below hb7
    clear hb7
    try simp only [asize] at hB
    unfold T2
    rw [RS.out]
    replace hB := hB.new (2) (S) 23
    replace hbw := hbw.alloc hbw.size (.cells #[.int .i64 (2), .int .i64 (S)] 23)
    have hB' := hB
    obtain ⟨⟨z0, x0, y0⟩, ⟨z1, x1, y1⟩, ⟨z2, x2, y2⟩, ⟨z3, x3, y3⟩, ⟨z4, x4, y4⟩, ⟨z5, x5, y5⟩, _⟩ := hB'
    go_wp2_with fail
    clear z0 x0 y0 z1 x1 y1 z2 x2 y2 z3 x3 y3 z4 x4 y4 z5 x5 y5
    refine (two_reck 124 2 106 X Y _ (.inr rfl) (show ofV 124 = (2, 106) by decide) (show kindsV 124 = ([2, 2], 2, true) by decide) (by unfold Reck; omega) MX MY).mono ?_
    rintro e w8 ⟨rfl, hb8⟩
    replace hbw := hbw.trans (hb8.mono hbw.size)
    replace hB := hB.below hb8
    clear hb8
    try simp only [asize] at hB
    unfold T2
    rw [RT.out]
    replace hB := hB.new (2) (S) 23
    replace hbw := hbw.alloc hbw.size (.cells #[.int .i64 (2), .int .i64 (S)] 23)
    have hB' := hB
    obtain ⟨⟨z0, x0, y0⟩, ⟨z1, x1, y1⟩, ⟨z2, x2, y2⟩, ⟨z3, x3, y3⟩, ⟨z4, x4, y4⟩, ⟨z5, x5, y5⟩, ⟨z6, x6, y6⟩, _⟩ := hB'
    go_wp2_with fail
    clear z0 x0 y0 z1 x1 y1 z2 x2 y2 z3 x3 y3 z4 x4 y4 z5 x5 y5 z6 x6 y6
    refine (two_reck 132 2 114 A Z _ (.inr rfl) (show ofV 132 = (2, 114) by decide) (show kindsV 132 = ([2, 2], 2, true) by decide) (by unfold Reck; omega) MA MZ).mono ?_
    rintro e w9 ⟨rfl, hb9⟩
    replace hbw := hbw.trans (hb9.mono hbw.size)
    replace hB := hB.below hb9
    clear hb9
    try simp only [asize] at hB
    unfold T2
    rw [RU.out]
    replace hB := hB.new (2) (O) 23
    replace hbw := hbw.alloc hbw.size (.cells #[.int .i64 (2), .int .i64 (O)] 23)
    have hB' := hB
    obtain ⟨⟨z0, x0, y0⟩, ⟨z1, x1, y1⟩, ⟨z2, x2, y2⟩, ⟨z3, x3, y3⟩, ⟨z4, x4, y4⟩, ⟨z5, x5, y5⟩, ⟨z6, x6, y6⟩, ⟨z7, x7, y7⟩, _⟩ := hB'
    go_wp2_with fail
    clear z0 x0 y0 z1 x1 y1 z2 x2 y2 z3 x3 y3 z4 x4 y4 z5 x5 y5 z6 x6 y6 z7 x7 y7
    refine (two_reck 133 2 115 Z Y _ (.inr rfl) (show ofV 133 = (2, 115) by decide) (show kindsV 133 = ([2, 2], 2, true) by decide) (by unfold Reck; omega) MZ MY).mono ?_
    rintro e w10 ⟨rfl, hb10⟩
    replace hbw := hbw.trans (hb10.mono hbw.size)
    replace hB := hB.below hb10
    clear hb10
    try simp only [asize] at hB
    unfold T2
    rw [RV.out]
    replace hB := hB.new (2) (X) 23
    replace hbw := hbw.alloc hbw.size (.cells #[.int .i64 (2), .int .i64 (X)] 23)
    have hB' := hB
    obtain ⟨⟨z0, x0, y0⟩, ⟨z1, x1, y1⟩, ⟨z2, x2, y2⟩, ⟨z3, x3, y3⟩, ⟨z4, x4, y4⟩, ⟨z5, x5, y5⟩, ⟨z6, x6, y6⟩, ⟨z7, x7, y7⟩, ⟨z8, x8, y8⟩, _⟩ := hB'
    go_wp2_with fail
    clear z0 x0 y0 z1 x1 y1 z2 x2 y2 z3 x3 y3 z4 x4 y4 z5 x5 y5 z6 x6 y6 z7 x7 y7 z8 x8 y8
    refine (eq_yes 2 S _).mono ?_
    rintro e w11 ⟨rfl, hb11⟩
    replace hbw := hbw.trans (hb11.mono hbw.size)
    replace hB := hB.below hb11
    clear hb11
    try simp only [asize] at hB
    have hB' := hB
    obtain ⟨⟨z0, x0, y0⟩, ⟨z1, x1, y1⟩, ⟨z2, x2, y2⟩, ⟨z3, x3, y3⟩, ⟨z4, x4, y4⟩, ⟨z5, x5, y5⟩, ⟨z6, x6, y6⟩, ⟨z7, x7, y7⟩, ⟨z8, x8, y8⟩, _⟩ := hB'
    go_wp2_with fail
    clear z0 x0 y0 z1 x1 y1 z2 x2 y2 z3 x3 y3 z4 x4 y4 z5 x5 y5 z6 x6 y6 z7 x7 y7 z8 x8 y8
    refine (eq_yes 2 O _).mono ?_
    rintro e w12 ⟨rfl, hb12⟩
    replace hbw := hbw.trans (hb12.mono hbw.size)
    replace hB := hB.below hb12
    clear hb12
    try simp only [asize] at hB
    have hB' := hB
    obtain ⟨⟨z0, x0, y0⟩, ⟨z1, x1, y1⟩, ⟨z2, x2, y2⟩, ⟨z3, x3, y3⟩, ⟨z4, x4, y4⟩, ⟨z5, x5, y5⟩, ⟨z6, x6, y6⟩, ⟨z7, x7, y7⟩, ⟨z8, x8, y8⟩, _⟩ := hB'
    go_wp2_with fail
    clear z0 x0 y0 z1 x1 y1 z2 x2 y2 z3 x3 y3 z4 x4 y4 z5 x5 y5 z6 x6 y6 z7 x7 y7 z8 x8 y8
    refine (eq_yes 2 X _).mono ?_
    rintro e w13 ⟨rfl, hb13⟩
    replace hbw := hbw.trans (hb13.mono hbw.size)
    replace hB := hB.below hb13
    clear hb13
    try simp only [asize] at hB
    have hB' := hB
    obtain ⟨⟨z0, x0, y0⟩, ⟨z1, x1, y1⟩, ⟨z2, x2, y2⟩, ⟨z3, x3, y3⟩, ⟨z4, x4, y4⟩, ⟨z5, x5, y5⟩, ⟨z6, x6, y6⟩, ⟨z7, x7, y7⟩, ⟨z8, x8, y8⟩, _⟩ := hB'
    go_wp2_with fail
    go_ret
    exact ⟨rfl, hbw⟩

end Go.Proofs.YtdcpbjpghgbbiaaDoor
