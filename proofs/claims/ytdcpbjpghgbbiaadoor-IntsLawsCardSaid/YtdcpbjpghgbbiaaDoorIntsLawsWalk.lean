/- The walk of IntsLaws: it returns true and writes nothing that was there. No condition but the kinds' own ranges. Printed by gen_laws.py. -/
import Derived.Test.YtdcpbjpghgbbiaaDoorIntsLawMath
import Derived.BigQuiet
import Derived.LoopN
namespace Go.Proofs.YtdcpbjpghgbbiaaDoor
open Go.RowKit
set_option linter.unusedVariables false
set_option maxHeartbeats 4000000
set_option maxRecDepth 100000

theorem eq_yes (k n : Int) (w : World) : Calls Tryd.prog 23 #[.agg #[.int .i64 k, .int .i64 n], .agg #[.int .i64 k, .int .i64 n]] w fun e w' => e = .returned (.bool true) ∧ Below w.heap.size w w' :=
  (eq_any k n k n w).mono fun _ _ h => ⟨h.1.trans (by simp), h.2⟩
theorem may_2 (n : Int) : Hid (mayB (2, n) = true) := rfl
theorem s32_range (n : Int) : -2147483648 ≤ s32 n ∧ s32 n ≤ 2147483647 := by
  unfold s32
  simp [IntKind.wrap, IntKind.bits, IntKind.signed]
  constructor <;> (split <;> omega)
theorem may_1 (n : Int) (h1 : -2147483648 ≤ n) (h2 : n ≤ 2147483647) : Hid (mayB (1, n) = true) := by
  show mayB (1, n) = true
  simp [mayB, h1, h2]
theorem s32_id (n : Int) (h1 : -2147483648 ≤ n) (h2 : n ≤ 2147483647) : s32 n = n := by
  unfold s32
  simp [IntKind.wrap, IntKind.bits, IntKind.signed]
  split <;> omega
theorem asize (w : World) (o : Obj) : (w.alloc o).heap.size = w.heap.size + 1 := by simp
def RK (k x : Int) : Prop := if k = 1 then -2147483648 ≤ x ∧ x ≤ 2147483647 else -9223372036854775808 ≤ x ∧ x ≤ 9223372036854775807
theorem rk_1 (n : Int) (_h : -9223372036854775808 ≤ n ∧ n ≤ 9223372036854775807) : RK 1 (wk 1 n) := s32_range n
theorem rk_2 (n : Int) (h : -9223372036854775808 ≤ n ∧ n ≤ 9223372036854775807) : RK 2 (wk 2 n) := h
theorem wrap_toNat (v : BitVec 64) : IntKind.i64.wrap (v.toNat : Int) = v.toInt := by
  have := v.isLt
  rw [BitVec.toInt_eq_toNat_cond]
  simp [IntKind.wrap, IntKind.bits, IntKind.signed]
  split <;> split <;> omega
theorem b_and (x y : Int) : bits .and .i64 x y = (BitVec.ofInt 64 x &&& BitVec.ofInt 64 y).toInt := wrap_toNat _
theorem b_or (x y : Int) : bits .or .i64 x y = (BitVec.ofInt 64 x ||| BitVec.ofInt 64 y).toInt := wrap_toNat _
theorem b_xor (x y : Int) : bits .xor .i64 x y = (BitVec.ofInt 64 x ^^^ BitVec.ofInt 64 y).toInt := wrap_toNat _
theorem toInt64 (x : Int) (h : -9223372036854775808 ≤ x ∧ x ≤ 9223372036854775807) : (BitVec.ofInt 64 x).toInt = x := by
  rw [BitVec.toInt_ofInt]
  simp [Int.bmod]
  split <;> omega
theorem toInt32 (x : Int) (h : -2147483648 ≤ x ∧ x ≤ 2147483647) : (BitVec.ofInt 32 x).toInt = x := by
  rw [BitVec.toInt_ofInt]
  simp [Int.bmod]
  split <;> omega
theorem ext32 (x : Int) (h : -2147483648 ≤ x ∧ x ≤ 2147483647) : BitVec.ofInt 64 x = (BitVec.ofInt 32 x).signExtend 64 := by
  apply BitVec.eq_of_toInt_eq
  rw [BitVec.toInt_signExtend_of_le (by decide), toInt32 x h, toInt64 x (by omega)]
theorem range64 (v : BitVec 64) : RK 2 v.toInt := by
  have h1 := @BitVec.toInt_lt 64 v
  have h2 := @BitVec.le_toInt 64 v
  show -9223372036854775808 ≤ v.toInt ∧ v.toInt ≤ 9223372036854775807
  simp at h1 h2
  omega
theorem range32 (v : BitVec 32) : RK 1 (v.signExtend 64).toInt := by
  have h1 := @BitVec.toInt_lt 32 v
  have h2 := @BitVec.le_toInt 32 v
  rw [BitVec.toInt_signExtend_of_le (by decide)]
  show -2147483648 ≤ v.toInt ∧ v.toInt ≤ 2147483647
  simp at h1 h2
  omega
theorem add_and_or (a b : BitVec 64) : (a &&& b) + (a ||| b) = a + b := by
  have h1 : a + (b &&& ~~~a) = a ||| b := by
    rw [BitVec.add_eq_or_of_and_eq_zero]
    · ext i; simp; cases a[i] <;> simp
    · ext i; simp; cases a[i] <;> simp
  have h2 : (a &&& b) + (b &&& ~~~a) = b := by
    rw [BitVec.add_eq_or_of_and_eq_zero]
    · ext i; simp; cases a[i] <;> simp
    · ext i; simp; cases a[i] <;> simp
  rw [← h1]
  have : (a &&& b) + (a + (b &&& ~~~a)) = a + ((a &&& b) + (b &&& ~~~a)) := by rw [← BitVec.add_assoc, BitVec.add_comm (a &&& b) a, BitVec.add_assoc]
  rw [this, h2]
theorem wrap64_add (u v : BitVec 64) : wrap64 (u.toInt + v.toInt) = (u + v).toInt := by
  rw [BitVec.toInt_add]
  unfold wrap64
  simp [Int.bmod]
  split <;> omega
theorem rk_bits (k X Y : Int) (hk : k = 1 ∨ k = 2) (rX : RK k X) (rY : RK k Y) : RK k (bits .and .i64 X Y) ∧ RK k (bits .or .i64 X Y) ∧ RK k (bits .xor .i64 X Y) := by
  rw [b_and, b_or, b_xor]
  rcases hk with rfl | rfl
  · rw [ext32 X rX, ext32 Y rY, ← BitVec.signExtend_and, ← BitVec.signExtend_or, ← BitVec.signExtend_xor]
    exact ⟨range32 _, range32 _, range32 _⟩
  · exact ⟨range64 _, range64 _, range64 _⟩
theorem wk_id (k x : Int) (hk : k = 1 ∨ k = 2) (h : RK k x) : wk k x = x := by
  rcases hk with rfl | rfl
  · exact s32_id x h.1 h.2
  · rfl
theorem may_k (k x : Int) (hk : k = 1 ∨ k = 2) (h : RK k x) : Hid (mayB (k, x) = true) := by
  rcases hk with rfl | rfl
  · exact may_1 x h.1 h.2
  · exact may_2 x
theorem mask_facts (k X Y : Int) (hk : k = 1 ∨ k = 2) (rX : RK k X) (rY : RK k Y) :
    Hid (wk k (reckV k 113 X Y) = bits .and .i64 X Y) ∧ Hid (wk k (reckV k 114 X Y) = bits .or .i64 X Y) ∧ Hid (wk k (reckV k 115 X Y) = bits .xor .i64 X Y) ∧
    Hid (wk k (reckV k 106 (bits .and .i64 X Y) (bits .or .i64 X Y)) = wk k (reckV k 106 X Y)) ∧ Hid (wk k (reckV k 114 (bits .and .i64 X Y) (bits .xor .i64 X Y)) = bits .or .i64 X Y) ∧
    Hid (wk k (reckV k 115 (bits .xor .i64 X Y) Y) = X) ∧ Hid (mayB (k, X) = true) ∧ Hid (mayB (k, Y) = true) ∧ Hid (mayB (k, bits .and .i64 X Y) = true) ∧ Hid (mayB (k, bits .or .i64 X Y) = true) ∧ Hid (mayB (k, bits .xor .i64 X Y) = true) := by
  obtain ⟨r1, r2, r3⟩ := rk_bits k X Y hk rX rY
  have big : ∀ x, RK k x → -9223372036854775808 ≤ x ∧ x ≤ 9223372036854775807 := by
    intro x h
    rcases hk with rfl | rfl
    · have : -2147483648 ≤ x ∧ x ≤ 2147483647 := h
      omega
    · exact h
  have eU : bits .or .i64 (bits .and .i64 X Y) (bits .xor .i64 X Y) = bits .or .i64 X Y := by
    rw [b_or (bits .and .i64 X Y), b_and, b_xor, b_or, BitVec.ofInt_toInt, BitVec.ofInt_toInt]
    congr 1
    ext i; simp; cases (BitVec.ofInt 64 X)[i] <;> simp
  have eV : bits .xor .i64 (bits .xor .i64 X Y) Y = X := by
    rw [b_xor (bits .xor .i64 X Y), b_xor, BitVec.ofInt_toInt]
    have : BitVec.ofInt 64 X ^^^ BitVec.ofInt 64 Y ^^^ BitVec.ofInt 64 Y = BitVec.ofInt 64 X := by
      rw [BitVec.xor_assoc, BitVec.xor_self, BitVec.xor_zero]
    rw [this, toInt64 X (big X rX)]
  have eS : wrap64 (bits .and .i64 X Y + bits .or .i64 X Y) = wrap64 (X + Y) := by
    rw [b_and, b_or, wrap64_add, add_and_or, ← wrap64_add, toInt64 X (big X rX), toInt64 Y (big Y rY)]
  refine ⟨wk_id k _ hk r1, wk_id k _ hk r2, wk_id k _ hk r3, ?_, ?_, ?_, may_k k X hk rX, may_k k Y hk rY, may_k k _ hk r1, may_k k _ hk r2, may_k k _ hk r3⟩
  · exact congrArg (wk k) eS
  · exact (congrArg (wk k) eU).trans (wk_id k _ hk r2)
  · exact (congrArg (wk k) eV).trans (wk_id k _ hk rX)

theorem tmod_facts (X Y : Int) (h : ¬ Y = 0) : (X.tmod Y < 0 → X < 0) ∧ (0 < X.tmod Y → 0 < X) ∧ (0 < Y → X.tmod Y < Y ∧ -Y < X.tmod Y) ∧ (Y < 0 → X.tmod Y < -Y ∧ Y < X.tmod Y) := by
  have a1 : 0 ≤ X → 0 ≤ X.tmod Y := fun h => Int.tmod_nonneg _ h
  have a2 : X ≤ 0 → X.tmod Y ≤ 0 := fun h => by
    have := Int.tmod_nonneg Y (show 0 ≤ -X by omega)
    rw [Int.neg_tmod] at this
    omega
  have a3 : 0 < Y → X.tmod Y < Y := fun h => Int.tmod_lt_of_pos X h
  have a4 : 0 < Y → -Y < X.tmod Y := fun h => by
    have := Int.tmod_lt_of_pos (-X) h
    rw [Int.neg_tmod] at this
    omega
  have a5 : Y < 0 → X.tmod Y < -Y := fun h => by
    have := Int.tmod_lt_of_pos X (show 0 < -Y by omega)
    rw [Int.tmod_neg] at this
    exact this
  have a6 : Y < 0 → Y < X.tmod Y := fun h => by
    have := Int.tmod_lt_of_pos (-X) (show 0 < -Y by omega)
    rw [Int.tmod_neg, Int.neg_tmod] at this
    omega
  exact ⟨fun h => by omega, fun h => by omega, fun h => ⟨a3 h, a4 h⟩, fun h => ⟨a5 h, a6 h⟩⟩
theorem rest_facts (k X Y : Int) (hk : k = 1 ∨ k = 2) (rX : RK k X) (rY : RK k Y) (h : ¬ Y = 0) : divV k 111 X Y = (k, X.tmod Y, 0) := by
  obtain ⟨t1, t2, t3, t4⟩ := tmod_facts X Y h
  have e : (if X = least k ∧ Y = -1 then (0 : Int) else X.tmod Y) = X.tmod Y := by
    split
    · rename_i hh
      rw [hh.2, Int.tmod_neg, Int.tmod_one]
    · rfl
  have r : RK k (X.tmod Y) := by
    rcases hk with rfl | rfl
    · have b : -2147483648 ≤ Y ∧ Y ≤ 2147483647 := rY
      show -2147483648 ≤ X.tmod Y ∧ X.tmod Y ≤ 2147483647
      omega
    · have b : -9223372036854775808 ≤ Y ∧ Y ≤ 9223372036854775807 := rY
      show -9223372036854775808 ≤ X.tmod Y ∧ X.tmod Y ≤ 9223372036854775807
      omega
  simp [divV, h, e, wk_id k _ hk r]
theorem low_pos (k Y : Int) (hk : k = 1 ∨ k = 2) (rY : RK k Y) (h : ¬ Y = 0) : 1 ≤ low (k, Y) := by
  rcases hk with rfl | rfl
  · have b : -2147483648 ≤ Y ∧ Y ≤ 2147483647 := rY
    have e : low (1, Y) = Y % 4294967296 := rfl
    rw [e]; omega
  · have b : -9223372036854775808 ≤ Y ∧ Y ≤ 9223372036854775807 := rY
    have e : low (2, Y) = Y % 18446744073709551616 := rfl
    rw [e]; omega

theorem laws_facts_1 (X Y : Int) (hX : RK 1 X) : ∃ S L, Hid (wk 1 (reckV 1 106 X Y) = S) ∧ Hid (wk 1 (reckV 1 107 S Y) = X) ∧ Hid (wk 1 (reckV 1 119 X Y) = L) ∧ Hid (wk 1 (reckV 1 120 L Y) = X) ∧ Hid (mayB (1, S) = true) ∧ Hid (mayB (1, L) = true) :=
  ⟨_, _, Lib.hid rfl, Lib.hid (back_1 X Y hX), Lib.hid rfl, Lib.hid (rot_1 X Y hX), may1 _ (wk1_range _), may1 _ (wk1_range _)⟩
theorem laws_facts_2 (X Y : Int) (hX : RK 2 X) : ∃ S L, Hid (wk 2 (reckV 2 106 X Y) = S) ∧ Hid (wk 2 (reckV 2 107 S Y) = X) ∧ Hid (wk 2 (reckV 2 119 X Y) = L) ∧ Hid (wk 2 (reckV 2 120 L Y) = X) ∧ Hid (mayB (2, S) = true) ∧ Hid (mayB (2, L) = true) :=
  ⟨_, _, Lib.hid rfl, Lib.hid (back_2 X Y hX), Lib.hid rfl, Lib.hid (rot_2 X Y hX), may2 _, may2 _⟩
theorem over_facts (k X Y : Int) (h : ¬ Fits k X Y) : Hid (divV k 109 X Y = (0, 0, 3)) ∧ Hid (divV k 111 X Y = (k, 0, 0)) := by
  have hf : X = least k ∧ Y = -1 := Classical.not_not.1 h
  refine ⟨?_, ?_⟩
  · show divV k 109 X Y = (0, 0, 3)
    unfold divV; rw [if_neg (by omega), if_pos rfl, if_pos hf]
  · show divV k 111 X Y = (k, 0, 0)
    unfold divV; rw [if_neg (by omega), if_neg (by decide), if_neg (by decide), if_pos rfl, if_pos hf, wk_0]

theorem intsLaws_walk (a b : Int) (wide : Bool) (w0 : (Lit.int .i64 a).wf = true) (w1 : (Lit.int .i64 b).wf = true) (w : World) :
    Calls Tryd.prog 6 #[.int .i64 a, .int .i64 b, .bool wide] w fun e w' => e = .returned (.bool true) ∧ Below w.heap.size w w' := by
  cases wide
  · obtain ⟨X, hX⟩ : ∃ X, X = wk 1 a := ⟨_, rfl⟩
    obtain ⟨Y, hY⟩ : ∃ Y, Y = wk 1 b := ⟨_, rfl⟩
    have rX : RK 1 X := by rw [hX]; exact rk_1 a (bounds_i64 w0)
    have rY : RK 1 Y := by rw [hY]; exact rk_1 b (bounds_i64 w1)
    clear w0 w1
    have hlow : ¬ Y = 0 → 1 ≤ low (1, Y) := low_pos 1 Y (.inl rfl) rY
    have MX := may_k 1 X (.inl rfl) rX
    have MY := may_k 1 Y (.inl rfl) rY
    have HX := Lib.hid hX.symm
    have HY := Lib.hid hY.symm
    clear hX hY
    obtain ⟨S, L, HS, HSB, HL, HLB, MS, ML⟩ := laws_facts_1 X Y rX
    by_cases h0 : Y = 0
    · have HZ0 : Hid (divV 1 109 X Y = (0, 0, 2)) := by show divV 1 109 X Y = (0, 0, 2); simp [divV, h0]
      have HZ1 : Hid (divV 1 110 X Y = (0, 0, 2)) := by show divV 1 110 X Y = (0, 0, 2); simp [divV, h0]
      have HY0 : Hid (divV 1 111 X Y = (0, 0, 2)) := by show divV 1 111 X Y = (0, 0, 2); simp [divV, h0]
      have HY1 : Hid (divV 1 112 X Y = (0, 0, 2)) := by show divV 1 112 X Y = (0, 0, 2); simp [divV, h0]
      have d0 : (Y == 0) = true := beq_iff_eq.2 h0
      clear h0 rX rY
      go_enter Tryd.func6, Tryd.ntmps6
      go_wp2_with fail
      refine (begun_any w).mono ?_
      rintro e w1 ⟨rfl, hbw⟩
      have hB : Boxes w1 [] := trivial
      go_wp2_with fail
      refine (refwrap_1 a _).mono ?_
      rintro e w2 ⟨rfl, hb2⟩
      replace hbw := hbw.trans (hb2.mono hbw.size)
      replace hB := hB.below hb2
      clear hb2
      rw [HX.out]
      go_wp2_with fail
      refine (refwrap_1 b _).mono ?_
      rintro e w3 ⟨rfl, hb3⟩
      replace hbw := hbw.trans (hb3.mono hbw.size)
      replace hB := hB.below hb3
      clear hb3
      rw [HY.out]
      replace hB := hB.new (1) (X) 23
      replace hbw := hbw.alloc hbw.size (.cells #[.int .i64 (1), .int .i64 (X)] 23)
      replace hB := hB.new (1) (Y) 23
      replace hbw := hbw.alloc hbw.size (.cells #[.int .i64 (1), .int .i64 (Y)] 23)
      have hB' := hB
      obtain ⟨⟨z0, x0, y0⟩, ⟨z1, x1, y1⟩, _⟩ := hB'
      go_wp2_with fail
      clear z0 x0 y0 z1 x1 y1
      refine (two_reck 106 1 106 X Y _ (.inl rfl) (show ofV 106 = (1, 106) by decide) (show kindsV 106 = ([1, 1], 1, true) by decide) (by unfold Reck; omega) MX MY).mono ?_
      rintro e w4 ⟨rfl, hb4⟩
      replace hbw := hbw.trans (hb4.mono hbw.size)
      replace hB := hB.below hb4
      clear hb4
      try simp only [asize] at hB
      unfold T2
      rw [HS.out]
      replace hB := hB.new (1) (S) 23
      replace hbw := hbw.alloc hbw.size (.cells #[.int .i64 (1), .int .i64 (S)] 23)
      have hB' := hB
      obtain ⟨⟨z0, x0, y0⟩, ⟨z1, x1, y1⟩, ⟨z2, x2, y2⟩, _⟩ := hB'
      go_wp2_with fail
      clear z0 x0 y0 z1 x1 y1 z2 x2 y2
      refine (two_reck 107 1 107 S Y _ (.inl rfl) (show ofV 107 = (1, 107) by decide) (show kindsV 107 = ([1, 1], 1, true) by decide) (by unfold Reck; omega) MS MY).mono ?_
      rintro e w5 ⟨rfl, hb5⟩
      replace hbw := hbw.trans (hb5.mono hbw.size)
      replace hB := hB.below hb5
      clear hb5
      try simp only [asize] at hB
      unfold T2
      rw [HSB.out]
      replace hB := hB.new (1) (X) 23
      replace hbw := hbw.alloc hbw.size (.cells #[.int .i64 (1), .int .i64 (X)] 23)
      have hB' := hB
      obtain ⟨⟨z0, x0, y0⟩, ⟨z1, x1, y1⟩, ⟨z2, x2, y2⟩, ⟨z3, x3, y3⟩, _⟩ := hB'
      go_wp2_with fail
      clear z0 x0 y0 z1 x1 y1 z2 x2 y2 z3 x3 y3
      refine (two_reck 119 1 119 X Y _ (.inl rfl) (show ofV 119 = (1, 119) by decide) (show kindsV 119 = ([1, 1], 1, true) by decide) (by unfold Reck; omega) MX MY).mono ?_
      rintro e w6 ⟨rfl, hb6⟩
      replace hbw := hbw.trans (hb6.mono hbw.size)
      replace hB := hB.below hb6
      clear hb6
      try simp only [asize] at hB
      unfold T2
      rw [HL.out]
      replace hB := hB.new (1) (L) 23
      replace hbw := hbw.alloc hbw.size (.cells #[.int .i64 (1), .int .i64 (L)] 23)
      have hB' := hB
      obtain ⟨⟨z0, x0, y0⟩, ⟨z1, x1, y1⟩, ⟨z2, x2, y2⟩, ⟨z3, x3, y3⟩, ⟨z4, x4, y4⟩, _⟩ := hB'
      go_wp2_with fail
      clear z0 x0 y0 z1 x1 y1 z2 x2 y2 z3 x3 y3 z4 x4 y4
      refine (two_reck 120 1 120 L Y _ (.inl rfl) (show ofV 120 = (1, 120) by decide) (show kindsV 120 = ([1, 1], 1, true) by decide) (by unfold Reck; omega) ML MY).mono ?_
      rintro e w7 ⟨rfl, hb7⟩
      replace hbw := hbw.trans (hb7.mono hbw.size)
      replace hB := hB.below hb7
      clear hb7
      try simp only [asize] at hB
      unfold T2
      rw [HLB.out]
      replace hB := hB.new (1) (X) 23
      replace hbw := hbw.alloc hbw.size (.cells #[.int .i64 (1), .int .i64 (X)] 23)
      have hB' := hB
      obtain ⟨⟨z0, x0, y0⟩, ⟨z1, x1, y1⟩, ⟨z2, x2, y2⟩, ⟨z3, x3, y3⟩, ⟨z4, x4, y4⟩, ⟨z5, x5, y5⟩, _⟩ := hB'
      go_wp2_with fail
      clear z0 x0 y0 z1 x1 y1 z2 x2 y2 z3 x3 y3 z4 x4 y4 z5 x5 y5
      refine (eq_yes 1 X _).mono ?_
      rintro e w8 ⟨rfl, hb8⟩
      replace hbw := hbw.trans (hb8.mono hbw.size)
      replace hB := hB.below hb8
      clear hb8
      try simp only [asize] at hB
      have hB' := hB
      obtain ⟨⟨z0, x0, y0⟩, ⟨z1, x1, y1⟩, ⟨z2, x2, y2⟩, ⟨z3, x3, y3⟩, ⟨z4, x4, y4⟩, ⟨z5, x5, y5⟩, _⟩ := hB'
      go_wp2_with fail
      clear z0 x0 y0 z1 x1 y1 z2 x2 y2 z3 x3 y3 z4 x4 y4 z5 x5 y5
      refine (eq_yes 1 X _).mono ?_
      rintro e w9 ⟨rfl, hb9⟩
      replace hbw := hbw.trans (hb9.mono hbw.size)
      replace hB := hB.below hb9
      clear hb9
      try simp only [asize] at hB
      have hB' := hB
      obtain ⟨⟨z0, x0, y0⟩, ⟨z1, x1, y1⟩, ⟨z2, x2, y2⟩, ⟨z3, x3, y3⟩, ⟨z4, x4, y4⟩, ⟨z5, x5, y5⟩, _⟩ := hB'
      go_wp2_with fail
      refine wp_loop_rounds 3 ?_
      rw [rounds_succ]
      have hB' := hB
      obtain ⟨⟨z0, x0, y0⟩, ⟨z1, x1, y1⟩, ⟨z2, x2, y2⟩, ⟨z3, x3, y3⟩, ⟨z4, x4, y4⟩, ⟨z5, x5, y5⟩, _⟩ := hB'
      go_wp2_with fail
      clear z0 x0 y0 z1 x1 y1 z2 x2 y2 z3 x3 y3 z4 x4 y4 z5 x5 y5
      refine (two_div 109 1 109 X Y _ (.inl rfl) (show ofV 109 = (1, 109) by decide) (show kindsV 109 = ([1, 1], 1, true) by decide) (by omega) hlow MX MY).mono ?_
      rintro e w10 ⟨rfl, hb10⟩
      replace hbw := hbw.trans (hb10.mono hbw.size)
      replace hB := hB.below hb10
      clear hb10
      try simp only [asize] at hB
      rw [HZ0.out]
      unfold T2
      replace hB := hB.new (0) (0) 23
      replace hbw := hbw.alloc hbw.size (.cells #[.int .i64 (0), .int .i64 (0)] 23)
      have hB' := hB
      obtain ⟨⟨z0, x0, y0⟩, ⟨z1, x1, y1⟩, ⟨z2, x2, y2⟩, ⟨z3, x3, y3⟩, ⟨z4, x4, y4⟩, ⟨z5, x5, y5⟩, ⟨z6, x6, y6⟩, _⟩ := hB'
      go_wp2_with fail
      clear z0 x0 y0 z1 x1 y1 z2 x2 y2 z3 x3 y3 z4 x4 y4 z5 x5 y5 z6 x6 y6
      refine (two_div 111 1 111 X Y _ (.inl rfl) (show ofV 111 = (1, 111) by decide) (show kindsV 111 = ([1, 1], 1, true) by decide) (by omega) hlow MX MY).mono ?_
      rintro e w11 ⟨rfl, hb11⟩
      replace hbw := hbw.trans (hb11.mono hbw.size)
      replace hB := hB.below hb11
      clear hb11
      try simp only [asize] at hB
      rw [HY0.out]
      unfold T2
      replace hB := hB.new (0) (0) 23
      replace hbw := hbw.alloc hbw.size (.cells #[.int .i64 (0), .int .i64 (0)] 23)
      have hB' := hB
      obtain ⟨⟨z0, x0, y0⟩, ⟨z1, x1, y1⟩, ⟨z2, x2, y2⟩, ⟨z3, x3, y3⟩, ⟨z4, x4, y4⟩, ⟨z5, x5, y5⟩, ⟨z6, x6, y6⟩, ⟨z7, x7, y7⟩, _⟩ := hB'
      go_wp2_with fail
      rw [rounds_succ]
      have hB' := hB
      obtain ⟨⟨z0, x0, y0⟩, ⟨z1, x1, y1⟩, ⟨z2, x2, y2⟩, ⟨z3, x3, y3⟩, ⟨z4, x4, y4⟩, ⟨z5, x5, y5⟩, ⟨z6, x6, y6⟩, ⟨z7, x7, y7⟩, _⟩ := hB'
      go_wp2_with fail
      clear z0 x0 y0 z1 x1 y1 z2 x2 y2 z3 x3 y3 z4 x4 y4 z5 x5 y5 z6 x6 y6 z7 x7 y7
      refine (two_div 110 1 110 X Y _ (.inl rfl) (show ofV 110 = (1, 110) by decide) (show kindsV 110 = ([1, 1], 1, true) by decide) (by omega) hlow MX MY).mono ?_
      rintro e w12 ⟨rfl, hb12⟩
      replace hbw := hbw.trans (hb12.mono hbw.size)
      replace hB := hB.below hb12
      clear hb12
      try simp only [asize] at hB
      rw [HZ1.out]
      unfold T2
      replace hB := hB.new (0) (0) 23
      replace hbw := hbw.alloc hbw.size (.cells #[.int .i64 (0), .int .i64 (0)] 23)
      have hB' := hB
      obtain ⟨⟨z0, x0, y0⟩, ⟨z1, x1, y1⟩, ⟨z2, x2, y2⟩, ⟨z3, x3, y3⟩, ⟨z4, x4, y4⟩, ⟨z5, x5, y5⟩, ⟨z6, x6, y6⟩, ⟨z7, x7, y7⟩, ⟨z8, x8, y8⟩, _⟩ := hB'
      go_wp2_with fail
      clear z0 x0 y0 z1 x1 y1 z2 x2 y2 z3 x3 y3 z4 x4 y4 z5 x5 y5 z6 x6 y6 z7 x7 y7 z8 x8 y8
      refine (two_div 112 1 112 X Y _ (.inl rfl) (show ofV 112 = (1, 112) by decide) (show kindsV 112 = ([1, 1], 1, true) by decide) (by omega) hlow MX MY).mono ?_
      rintro e w13 ⟨rfl, hb13⟩
      replace hbw := hbw.trans (hb13.mono hbw.size)
      replace hB := hB.below hb13
      clear hb13
      try simp only [asize] at hB
      rw [HY1.out]
      unfold T2
      replace hB := hB.new (0) (0) 23
      replace hbw := hbw.alloc hbw.size (.cells #[.int .i64 (0), .int .i64 (0)] 23)
      have hB' := hB
      obtain ⟨⟨z0, x0, y0⟩, ⟨z1, x1, y1⟩, ⟨z2, x2, y2⟩, ⟨z3, x3, y3⟩, ⟨z4, x4, y4⟩, ⟨z5, x5, y5⟩, ⟨z6, x6, y6⟩, ⟨z7, x7, y7⟩, ⟨z8, x8, y8⟩, ⟨z9, x9, y9⟩, _⟩ := hB'
      go_wp2_with fail
      rw [rounds_succ]
      have hB' := hB
      obtain ⟨⟨z0, x0, y0⟩, ⟨z1, x1, y1⟩, ⟨z2, x2, y2⟩, ⟨z3, x3, y3⟩, ⟨z4, x4, y4⟩, ⟨z5, x5, y5⟩, ⟨z6, x6, y6⟩, ⟨z7, x7, y7⟩, ⟨z8, x8, y8⟩, ⟨z9, x9, y9⟩, _⟩ := hB'
      go_wp2_with fail
      go_ret
      exact ⟨rfl, hbw⟩
    · obtain ⟨Qu, Mu, Pu, DuQ, DuM, DuP, DuN, MQu, MMu, MPu⟩ := unsigned_1 X Y rX h0
      have d0 : (Y == 0) = false := beq_eq_false_iff_ne.2 h0
      by_cases hf : Fits 1 X Y
      · obtain ⟨Qs, Ms, Ps, DsQ, DsM, DsP, DsN, MQs, MMs, MPs⟩ := signed_1 X Y rX h0 hf
        clear hf rX rY
        go_enter Tryd.func6, Tryd.ntmps6
        go_wp2_with fail
        refine (begun_any w).mono ?_
        rintro e w1 ⟨rfl, hbw⟩
        have hB : Boxes w1 [] := trivial
        go_wp2_with fail
        refine (refwrap_1 a _).mono ?_
        rintro e w2 ⟨rfl, hb2⟩
        replace hbw := hbw.trans (hb2.mono hbw.size)
        replace hB := hB.below hb2
        clear hb2
        rw [HX.out]
        go_wp2_with fail
        refine (refwrap_1 b _).mono ?_
        rintro e w3 ⟨rfl, hb3⟩
        replace hbw := hbw.trans (hb3.mono hbw.size)
        replace hB := hB.below hb3
        clear hb3
        rw [HY.out]
        replace hB := hB.new (1) (X) 23
        replace hbw := hbw.alloc hbw.size (.cells #[.int .i64 (1), .int .i64 (X)] 23)
        replace hB := hB.new (1) (Y) 23
        replace hbw := hbw.alloc hbw.size (.cells #[.int .i64 (1), .int .i64 (Y)] 23)
        have hB' := hB
        obtain ⟨⟨z0, x0, y0⟩, ⟨z1, x1, y1⟩, _⟩ := hB'
        go_wp2_with fail
        clear z0 x0 y0 z1 x1 y1
        refine (two_reck 106 1 106 X Y _ (.inl rfl) (show ofV 106 = (1, 106) by decide) (show kindsV 106 = ([1, 1], 1, true) by decide) (by unfold Reck; omega) MX MY).mono ?_
        rintro e w4 ⟨rfl, hb4⟩
        replace hbw := hbw.trans (hb4.mono hbw.size)
        replace hB := hB.below hb4
        clear hb4
        try simp only [asize] at hB
        unfold T2
        rw [HS.out]
        replace hB := hB.new (1) (S) 23
        replace hbw := hbw.alloc hbw.size (.cells #[.int .i64 (1), .int .i64 (S)] 23)
        have hB' := hB
        obtain ⟨⟨z0, x0, y0⟩, ⟨z1, x1, y1⟩, ⟨z2, x2, y2⟩, _⟩ := hB'
        go_wp2_with fail
        clear z0 x0 y0 z1 x1 y1 z2 x2 y2
        refine (two_reck 107 1 107 S Y _ (.inl rfl) (show ofV 107 = (1, 107) by decide) (show kindsV 107 = ([1, 1], 1, true) by decide) (by unfold Reck; omega) MS MY).mono ?_
        rintro e w5 ⟨rfl, hb5⟩
        replace hbw := hbw.trans (hb5.mono hbw.size)
        replace hB := hB.below hb5
        clear hb5
        try simp only [asize] at hB
        unfold T2
        rw [HSB.out]
        replace hB := hB.new (1) (X) 23
        replace hbw := hbw.alloc hbw.size (.cells #[.int .i64 (1), .int .i64 (X)] 23)
        have hB' := hB
        obtain ⟨⟨z0, x0, y0⟩, ⟨z1, x1, y1⟩, ⟨z2, x2, y2⟩, ⟨z3, x3, y3⟩, _⟩ := hB'
        go_wp2_with fail
        clear z0 x0 y0 z1 x1 y1 z2 x2 y2 z3 x3 y3
        refine (two_reck 119 1 119 X Y _ (.inl rfl) (show ofV 119 = (1, 119) by decide) (show kindsV 119 = ([1, 1], 1, true) by decide) (by unfold Reck; omega) MX MY).mono ?_
        rintro e w6 ⟨rfl, hb6⟩
        replace hbw := hbw.trans (hb6.mono hbw.size)
        replace hB := hB.below hb6
        clear hb6
        try simp only [asize] at hB
        unfold T2
        rw [HL.out]
        replace hB := hB.new (1) (L) 23
        replace hbw := hbw.alloc hbw.size (.cells #[.int .i64 (1), .int .i64 (L)] 23)
        have hB' := hB
        obtain ⟨⟨z0, x0, y0⟩, ⟨z1, x1, y1⟩, ⟨z2, x2, y2⟩, ⟨z3, x3, y3⟩, ⟨z4, x4, y4⟩, _⟩ := hB'
        go_wp2_with fail
        clear z0 x0 y0 z1 x1 y1 z2 x2 y2 z3 x3 y3 z4 x4 y4
        refine (two_reck 120 1 120 L Y _ (.inl rfl) (show ofV 120 = (1, 120) by decide) (show kindsV 120 = ([1, 1], 1, true) by decide) (by unfold Reck; omega) ML MY).mono ?_
        rintro e w7 ⟨rfl, hb7⟩
        replace hbw := hbw.trans (hb7.mono hbw.size)
        replace hB := hB.below hb7
        clear hb7
        try simp only [asize] at hB
        unfold T2
        rw [HLB.out]
        replace hB := hB.new (1) (X) 23
        replace hbw := hbw.alloc hbw.size (.cells #[.int .i64 (1), .int .i64 (X)] 23)
        have hB' := hB
        obtain ⟨⟨z0, x0, y0⟩, ⟨z1, x1, y1⟩, ⟨z2, x2, y2⟩, ⟨z3, x3, y3⟩, ⟨z4, x4, y4⟩, ⟨z5, x5, y5⟩, _⟩ := hB'
        go_wp2_with fail
        clear z0 x0 y0 z1 x1 y1 z2 x2 y2 z3 x3 y3 z4 x4 y4 z5 x5 y5
        refine (eq_yes 1 X _).mono ?_
        rintro e w8 ⟨rfl, hb8⟩
        replace hbw := hbw.trans (hb8.mono hbw.size)
        replace hB := hB.below hb8
        clear hb8
        try simp only [asize] at hB
        have hB' := hB
        obtain ⟨⟨z0, x0, y0⟩, ⟨z1, x1, y1⟩, ⟨z2, x2, y2⟩, ⟨z3, x3, y3⟩, ⟨z4, x4, y4⟩, ⟨z5, x5, y5⟩, _⟩ := hB'
        go_wp2_with fail
        clear z0 x0 y0 z1 x1 y1 z2 x2 y2 z3 x3 y3 z4 x4 y4 z5 x5 y5
        refine (eq_yes 1 X _).mono ?_
        rintro e w9 ⟨rfl, hb9⟩
        replace hbw := hbw.trans (hb9.mono hbw.size)
        replace hB := hB.below hb9
        clear hb9
        try simp only [asize] at hB
        have hB' := hB
        obtain ⟨⟨z0, x0, y0⟩, ⟨z1, x1, y1⟩, ⟨z2, x2, y2⟩, ⟨z3, x3, y3⟩, ⟨z4, x4, y4⟩, ⟨z5, x5, y5⟩, _⟩ := hB'
        go_wp2_with fail
        refine wp_loop_rounds 3 ?_
        rw [rounds_succ]
        have hB' := hB
        obtain ⟨⟨z0, x0, y0⟩, ⟨z1, x1, y1⟩, ⟨z2, x2, y2⟩, ⟨z3, x3, y3⟩, ⟨z4, x4, y4⟩, ⟨z5, x5, y5⟩, _⟩ := hB'
        go_wp2_with fail
        clear z0 x0 y0 z1 x1 y1 z2 x2 y2 z3 x3 y3 z4 x4 y4 z5 x5 y5
        refine (two_div 109 1 109 X Y _ (.inl rfl) (show ofV 109 = (1, 109) by decide) (show kindsV 109 = ([1, 1], 1, true) by decide) (by omega) hlow MX MY).mono ?_
        rintro e w10 ⟨rfl, hb10⟩
        replace hbw := hbw.trans (hb10.mono hbw.size)
        replace hB := hB.below hb10
        clear hb10
        try simp only [asize] at hB
        rw [DsQ.out]
        unfold T2
        replace hB := hB.new (1) (Qs) 23
        replace hbw := hbw.alloc hbw.size (.cells #[.int .i64 (1), .int .i64 (Qs)] 23)
        have hB' := hB
        obtain ⟨⟨z0, x0, y0⟩, ⟨z1, x1, y1⟩, ⟨z2, x2, y2⟩, ⟨z3, x3, y3⟩, ⟨z4, x4, y4⟩, ⟨z5, x5, y5⟩, ⟨z6, x6, y6⟩, _⟩ := hB'
        go_wp2_with fail
        clear z0 x0 y0 z1 x1 y1 z2 x2 y2 z3 x3 y3 z4 x4 y4 z5 x5 y5 z6 x6 y6
        refine (two_div 111 1 111 X Y _ (.inl rfl) (show ofV 111 = (1, 111) by decide) (show kindsV 111 = ([1, 1], 1, true) by decide) (by omega) hlow MX MY).mono ?_
        rintro e w11 ⟨rfl, hb11⟩
        replace hbw := hbw.trans (hb11.mono hbw.size)
        replace hB := hB.below hb11
        clear hb11
        try simp only [asize] at hB
        rw [DsM.out]
        unfold T2
        replace hB := hB.new (1) (Ms) 23
        replace hbw := hbw.alloc hbw.size (.cells #[.int .i64 (1), .int .i64 (Ms)] 23)
        have hB' := hB
        obtain ⟨⟨z0, x0, y0⟩, ⟨z1, x1, y1⟩, ⟨z2, x2, y2⟩, ⟨z3, x3, y3⟩, ⟨z4, x4, y4⟩, ⟨z5, x5, y5⟩, ⟨z6, x6, y6⟩, ⟨z7, x7, y7⟩, _⟩ := hB'
        go_wp2_with fail
        clear z0 x0 y0 z1 x1 y1 z2 x2 y2 z3 x3 y3 z4 x4 y4 z5 x5 y5 z6 x6 y6 z7 x7 y7
        refine (two_reck 108 1 108 Qs Y _ (.inl rfl) (show ofV 108 = (1, 108) by decide) (show kindsV 108 = ([1, 1], 1, true) by decide) (by unfold Reck; omega) MQs MY).mono ?_
        rintro e w12 ⟨rfl, hb12⟩
        replace hbw := hbw.trans (hb12.mono hbw.size)
        replace hB := hB.below hb12
        clear hb12
        try simp only [asize] at hB
        unfold T2
        rw [DsP.out]
        replace hB := hB.new (1) (Ps) 23
        replace hbw := hbw.alloc hbw.size (.cells #[.int .i64 (1), .int .i64 (Ps)] 23)
        have hB' := hB
        obtain ⟨⟨z0, x0, y0⟩, ⟨z1, x1, y1⟩, ⟨z2, x2, y2⟩, ⟨z3, x3, y3⟩, ⟨z4, x4, y4⟩, ⟨z5, x5, y5⟩, ⟨z6, x6, y6⟩, ⟨z7, x7, y7⟩, ⟨z8, x8, y8⟩, _⟩ := hB'
        go_wp2_with fail
        clear z0 x0 y0 z1 x1 y1 z2 x2 y2 z3 x3 y3 z4 x4 y4 z5 x5 y5 z6 x6 y6 z7 x7 y7 z8 x8 y8
        refine (two_reck 106 1 106 Ps Ms _ (.inl rfl) (show ofV 106 = (1, 106) by decide) (show kindsV 106 = ([1, 1], 1, true) by decide) (by unfold Reck; omega) MPs MMs).mono ?_
        rintro e w13 ⟨rfl, hb13⟩
        replace hbw := hbw.trans (hb13.mono hbw.size)
        replace hB := hB.below hb13
        clear hb13
        try simp only [asize] at hB
        unfold T2
        rw [DsN.out]
        replace hB := hB.new (1) (X) 23
        replace hbw := hbw.alloc hbw.size (.cells #[.int .i64 (1), .int .i64 (X)] 23)
        have hB' := hB
        obtain ⟨⟨z0, x0, y0⟩, ⟨z1, x1, y1⟩, ⟨z2, x2, y2⟩, ⟨z3, x3, y3⟩, ⟨z4, x4, y4⟩, ⟨z5, x5, y5⟩, ⟨z6, x6, y6⟩, ⟨z7, x7, y7⟩, ⟨z8, x8, y8⟩, ⟨z9, x9, y9⟩, _⟩ := hB'
        go_wp2_with fail
        clear z0 x0 y0 z1 x1 y1 z2 x2 y2 z3 x3 y3 z4 x4 y4 z5 x5 y5 z6 x6 y6 z7 x7 y7 z8 x8 y8 z9 x9 y9
        refine (eq_yes 1 X _).mono ?_
        rintro e w14 ⟨rfl, hb14⟩
        replace hbw := hbw.trans (hb14.mono hbw.size)
        replace hB := hB.below hb14
        clear hb14
        try simp only [asize] at hB
        have hB' := hB
        obtain ⟨⟨z0, x0, y0⟩, ⟨z1, x1, y1⟩, ⟨z2, x2, y2⟩, ⟨z3, x3, y3⟩, ⟨z4, x4, y4⟩, ⟨z5, x5, y5⟩, ⟨z6, x6, y6⟩, ⟨z7, x7, y7⟩, ⟨z8, x8, y8⟩, ⟨z9, x9, y9⟩, _⟩ := hB'
        go_wp2_with fail
        rw [rounds_succ]
        have hB' := hB
        obtain ⟨⟨z0, x0, y0⟩, ⟨z1, x1, y1⟩, ⟨z2, x2, y2⟩, ⟨z3, x3, y3⟩, ⟨z4, x4, y4⟩, ⟨z5, x5, y5⟩, ⟨z6, x6, y6⟩, ⟨z7, x7, y7⟩, ⟨z8, x8, y8⟩, ⟨z9, x9, y9⟩, _⟩ := hB'
        go_wp2_with fail
        clear z0 x0 y0 z1 x1 y1 z2 x2 y2 z3 x3 y3 z4 x4 y4 z5 x5 y5 z6 x6 y6 z7 x7 y7 z8 x8 y8 z9 x9 y9
        refine (two_div 110 1 110 X Y _ (.inl rfl) (show ofV 110 = (1, 110) by decide) (show kindsV 110 = ([1, 1], 1, true) by decide) (by omega) hlow MX MY).mono ?_
        rintro e w15 ⟨rfl, hb15⟩
        replace hbw := hbw.trans (hb15.mono hbw.size)
        replace hB := hB.below hb15
        clear hb15
        try simp only [asize] at hB
        rw [DuQ.out]
        unfold T2
        replace hB := hB.new (1) (Qu) 23
        replace hbw := hbw.alloc hbw.size (.cells #[.int .i64 (1), .int .i64 (Qu)] 23)
        have hB' := hB
        obtain ⟨⟨z0, x0, y0⟩, ⟨z1, x1, y1⟩, ⟨z2, x2, y2⟩, ⟨z3, x3, y3⟩, ⟨z4, x4, y4⟩, ⟨z5, x5, y5⟩, ⟨z6, x6, y6⟩, ⟨z7, x7, y7⟩, ⟨z8, x8, y8⟩, ⟨z9, x9, y9⟩, ⟨z10, x10, y10⟩, _⟩ := hB'
        go_wp2_with fail
        clear z0 x0 y0 z1 x1 y1 z2 x2 y2 z3 x3 y3 z4 x4 y4 z5 x5 y5 z6 x6 y6 z7 x7 y7 z8 x8 y8 z9 x9 y9 z10 x10 y10
        refine (two_div 112 1 112 X Y _ (.inl rfl) (show ofV 112 = (1, 112) by decide) (show kindsV 112 = ([1, 1], 1, true) by decide) (by omega) hlow MX MY).mono ?_
        rintro e w16 ⟨rfl, hb16⟩
        replace hbw := hbw.trans (hb16.mono hbw.size)
        replace hB := hB.below hb16
        clear hb16
        try simp only [asize] at hB
        rw [DuM.out]
        unfold T2
        replace hB := hB.new (1) (Mu) 23
        replace hbw := hbw.alloc hbw.size (.cells #[.int .i64 (1), .int .i64 (Mu)] 23)
        have hB' := hB
        obtain ⟨⟨z0, x0, y0⟩, ⟨z1, x1, y1⟩, ⟨z2, x2, y2⟩, ⟨z3, x3, y3⟩, ⟨z4, x4, y4⟩, ⟨z5, x5, y5⟩, ⟨z6, x6, y6⟩, ⟨z7, x7, y7⟩, ⟨z8, x8, y8⟩, ⟨z9, x9, y9⟩, ⟨z10, x10, y10⟩, ⟨z11, x11, y11⟩, _⟩ := hB'
        go_wp2_with fail
        clear z0 x0 y0 z1 x1 y1 z2 x2 y2 z3 x3 y3 z4 x4 y4 z5 x5 y5 z6 x6 y6 z7 x7 y7 z8 x8 y8 z9 x9 y9 z10 x10 y10 z11 x11 y11
        refine (two_reck 108 1 108 Qu Y _ (.inl rfl) (show ofV 108 = (1, 108) by decide) (show kindsV 108 = ([1, 1], 1, true) by decide) (by unfold Reck; omega) MQu MY).mono ?_
        rintro e w17 ⟨rfl, hb17⟩
        replace hbw := hbw.trans (hb17.mono hbw.size)
        replace hB := hB.below hb17
        clear hb17
        try simp only [asize] at hB
        unfold T2
        rw [DuP.out]
        replace hB := hB.new (1) (Pu) 23
        replace hbw := hbw.alloc hbw.size (.cells #[.int .i64 (1), .int .i64 (Pu)] 23)
        have hB' := hB
        obtain ⟨⟨z0, x0, y0⟩, ⟨z1, x1, y1⟩, ⟨z2, x2, y2⟩, ⟨z3, x3, y3⟩, ⟨z4, x4, y4⟩, ⟨z5, x5, y5⟩, ⟨z6, x6, y6⟩, ⟨z7, x7, y7⟩, ⟨z8, x8, y8⟩, ⟨z9, x9, y9⟩, ⟨z10, x10, y10⟩, ⟨z11, x11, y11⟩, ⟨z12, x12, y12⟩, _⟩ := hB'
        go_wp2_with fail
        clear z0 x0 y0 z1 x1 y1 z2 x2 y2 z3 x3 y3 z4 x4 y4 z5 x5 y5 z6 x6 y6 z7 x7 y7 z8 x8 y8 z9 x9 y9 z10 x10 y10 z11 x11 y11 z12 x12 y12
        refine (two_reck 106 1 106 Pu Mu _ (.inl rfl) (show ofV 106 = (1, 106) by decide) (show kindsV 106 = ([1, 1], 1, true) by decide) (by unfold Reck; omega) MPu MMu).mono ?_
        rintro e w18 ⟨rfl, hb18⟩
        replace hbw := hbw.trans (hb18.mono hbw.size)
        replace hB := hB.below hb18
        clear hb18
        try simp only [asize] at hB
        unfold T2
        rw [DuN.out]
        replace hB := hB.new (1) (X) 23
        replace hbw := hbw.alloc hbw.size (.cells #[.int .i64 (1), .int .i64 (X)] 23)
        have hB' := hB
        obtain ⟨⟨z0, x0, y0⟩, ⟨z1, x1, y1⟩, ⟨z2, x2, y2⟩, ⟨z3, x3, y3⟩, ⟨z4, x4, y4⟩, ⟨z5, x5, y5⟩, ⟨z6, x6, y6⟩, ⟨z7, x7, y7⟩, ⟨z8, x8, y8⟩, ⟨z9, x9, y9⟩, ⟨z10, x10, y10⟩, ⟨z11, x11, y11⟩, ⟨z12, x12, y12⟩, ⟨z13, x13, y13⟩, _⟩ := hB'
        go_wp2_with fail
        clear z0 x0 y0 z1 x1 y1 z2 x2 y2 z3 x3 y3 z4 x4 y4 z5 x5 y5 z6 x6 y6 z7 x7 y7 z8 x8 y8 z9 x9 y9 z10 x10 y10 z11 x11 y11 z12 x12 y12 z13 x13 y13
        refine (eq_yes 1 X _).mono ?_
        rintro e w19 ⟨rfl, hb19⟩
        replace hbw := hbw.trans (hb19.mono hbw.size)
        replace hB := hB.below hb19
        clear hb19
        try simp only [asize] at hB
        have hB' := hB
        obtain ⟨⟨z0, x0, y0⟩, ⟨z1, x1, y1⟩, ⟨z2, x2, y2⟩, ⟨z3, x3, y3⟩, ⟨z4, x4, y4⟩, ⟨z5, x5, y5⟩, ⟨z6, x6, y6⟩, ⟨z7, x7, y7⟩, ⟨z8, x8, y8⟩, ⟨z9, x9, y9⟩, ⟨z10, x10, y10⟩, ⟨z11, x11, y11⟩, ⟨z12, x12, y12⟩, ⟨z13, x13, y13⟩, _⟩ := hB'
        go_wp2_with fail
        rw [rounds_succ]
        have hB' := hB
        obtain ⟨⟨z0, x0, y0⟩, ⟨z1, x1, y1⟩, ⟨z2, x2, y2⟩, ⟨z3, x3, y3⟩, ⟨z4, x4, y4⟩, ⟨z5, x5, y5⟩, ⟨z6, x6, y6⟩, ⟨z7, x7, y7⟩, ⟨z8, x8, y8⟩, ⟨z9, x9, y9⟩, ⟨z10, x10, y10⟩, ⟨z11, x11, y11⟩, ⟨z12, x12, y12⟩, ⟨z13, x13, y13⟩, _⟩ := hB'
        go_wp2_with fail
        go_ret
        exact ⟨rfl, hbw⟩
      · obtain ⟨HO, HP⟩ := over_facts 1 X Y hf
        clear hf rX rY
        go_enter Tryd.func6, Tryd.ntmps6
        go_wp2_with fail
        refine (begun_any w).mono ?_
        rintro e w1 ⟨rfl, hbw⟩
        have hB : Boxes w1 [] := trivial
        go_wp2_with fail
        refine (refwrap_1 a _).mono ?_
        rintro e w2 ⟨rfl, hb2⟩
        replace hbw := hbw.trans (hb2.mono hbw.size)
        replace hB := hB.below hb2
        clear hb2
        rw [HX.out]
        go_wp2_with fail
        refine (refwrap_1 b _).mono ?_
        rintro e w3 ⟨rfl, hb3⟩
        replace hbw := hbw.trans (hb3.mono hbw.size)
        replace hB := hB.below hb3
        clear hb3
        rw [HY.out]
        replace hB := hB.new (1) (X) 23
        replace hbw := hbw.alloc hbw.size (.cells #[.int .i64 (1), .int .i64 (X)] 23)
        replace hB := hB.new (1) (Y) 23
        replace hbw := hbw.alloc hbw.size (.cells #[.int .i64 (1), .int .i64 (Y)] 23)
        have hB' := hB
        obtain ⟨⟨z0, x0, y0⟩, ⟨z1, x1, y1⟩, _⟩ := hB'
        go_wp2_with fail
        clear z0 x0 y0 z1 x1 y1
        refine (two_reck 106 1 106 X Y _ (.inl rfl) (show ofV 106 = (1, 106) by decide) (show kindsV 106 = ([1, 1], 1, true) by decide) (by unfold Reck; omega) MX MY).mono ?_
        rintro e w4 ⟨rfl, hb4⟩
        replace hbw := hbw.trans (hb4.mono hbw.size)
        replace hB := hB.below hb4
        clear hb4
        try simp only [asize] at hB
        unfold T2
        rw [HS.out]
        replace hB := hB.new (1) (S) 23
        replace hbw := hbw.alloc hbw.size (.cells #[.int .i64 (1), .int .i64 (S)] 23)
        have hB' := hB
        obtain ⟨⟨z0, x0, y0⟩, ⟨z1, x1, y1⟩, ⟨z2, x2, y2⟩, _⟩ := hB'
        go_wp2_with fail
        clear z0 x0 y0 z1 x1 y1 z2 x2 y2
        refine (two_reck 107 1 107 S Y _ (.inl rfl) (show ofV 107 = (1, 107) by decide) (show kindsV 107 = ([1, 1], 1, true) by decide) (by unfold Reck; omega) MS MY).mono ?_
        rintro e w5 ⟨rfl, hb5⟩
        replace hbw := hbw.trans (hb5.mono hbw.size)
        replace hB := hB.below hb5
        clear hb5
        try simp only [asize] at hB
        unfold T2
        rw [HSB.out]
        replace hB := hB.new (1) (X) 23
        replace hbw := hbw.alloc hbw.size (.cells #[.int .i64 (1), .int .i64 (X)] 23)
        have hB' := hB
        obtain ⟨⟨z0, x0, y0⟩, ⟨z1, x1, y1⟩, ⟨z2, x2, y2⟩, ⟨z3, x3, y3⟩, _⟩ := hB'
        go_wp2_with fail
        clear z0 x0 y0 z1 x1 y1 z2 x2 y2 z3 x3 y3
        refine (two_reck 119 1 119 X Y _ (.inl rfl) (show ofV 119 = (1, 119) by decide) (show kindsV 119 = ([1, 1], 1, true) by decide) (by unfold Reck; omega) MX MY).mono ?_
        rintro e w6 ⟨rfl, hb6⟩
        replace hbw := hbw.trans (hb6.mono hbw.size)
        replace hB := hB.below hb6
        clear hb6
        try simp only [asize] at hB
        unfold T2
        rw [HL.out]
        replace hB := hB.new (1) (L) 23
        replace hbw := hbw.alloc hbw.size (.cells #[.int .i64 (1), .int .i64 (L)] 23)
        have hB' := hB
        obtain ⟨⟨z0, x0, y0⟩, ⟨z1, x1, y1⟩, ⟨z2, x2, y2⟩, ⟨z3, x3, y3⟩, ⟨z4, x4, y4⟩, _⟩ := hB'
        go_wp2_with fail
        clear z0 x0 y0 z1 x1 y1 z2 x2 y2 z3 x3 y3 z4 x4 y4
        refine (two_reck 120 1 120 L Y _ (.inl rfl) (show ofV 120 = (1, 120) by decide) (show kindsV 120 = ([1, 1], 1, true) by decide) (by unfold Reck; omega) ML MY).mono ?_
        rintro e w7 ⟨rfl, hb7⟩
        replace hbw := hbw.trans (hb7.mono hbw.size)
        replace hB := hB.below hb7
        clear hb7
        try simp only [asize] at hB
        unfold T2
        rw [HLB.out]
        replace hB := hB.new (1) (X) 23
        replace hbw := hbw.alloc hbw.size (.cells #[.int .i64 (1), .int .i64 (X)] 23)
        have hB' := hB
        obtain ⟨⟨z0, x0, y0⟩, ⟨z1, x1, y1⟩, ⟨z2, x2, y2⟩, ⟨z3, x3, y3⟩, ⟨z4, x4, y4⟩, ⟨z5, x5, y5⟩, _⟩ := hB'
        go_wp2_with fail
        clear z0 x0 y0 z1 x1 y1 z2 x2 y2 z3 x3 y3 z4 x4 y4 z5 x5 y5
        refine (eq_yes 1 X _).mono ?_
        rintro e w8 ⟨rfl, hb8⟩
        replace hbw := hbw.trans (hb8.mono hbw.size)
        replace hB := hB.below hb8
        clear hb8
        try simp only [asize] at hB
        have hB' := hB
        obtain ⟨⟨z0, x0, y0⟩, ⟨z1, x1, y1⟩, ⟨z2, x2, y2⟩, ⟨z3, x3, y3⟩, ⟨z4, x4, y4⟩, ⟨z5, x5, y5⟩, _⟩ := hB'
        go_wp2_with fail
        clear z0 x0 y0 z1 x1 y1 z2 x2 y2 z3 x3 y3 z4 x4 y4 z5 x5 y5
        refine (eq_yes 1 X _).mono ?_
        rintro e w9 ⟨rfl, hb9⟩
        replace hbw := hbw.trans (hb9.mono hbw.size)
        replace hB := hB.below hb9
        clear hb9
        try simp only [asize] at hB
        have hB' := hB
        obtain ⟨⟨z0, x0, y0⟩, ⟨z1, x1, y1⟩, ⟨z2, x2, y2⟩, ⟨z3, x3, y3⟩, ⟨z4, x4, y4⟩, ⟨z5, x5, y5⟩, _⟩ := hB'
        go_wp2_with fail
        refine wp_loop_rounds 3 ?_
        rw [rounds_succ]
        have hB' := hB
        obtain ⟨⟨z0, x0, y0⟩, ⟨z1, x1, y1⟩, ⟨z2, x2, y2⟩, ⟨z3, x3, y3⟩, ⟨z4, x4, y4⟩, ⟨z5, x5, y5⟩, _⟩ := hB'
        go_wp2_with fail
        clear z0 x0 y0 z1 x1 y1 z2 x2 y2 z3 x3 y3 z4 x4 y4 z5 x5 y5
        refine (two_div 109 1 109 X Y _ (.inl rfl) (show ofV 109 = (1, 109) by decide) (show kindsV 109 = ([1, 1], 1, true) by decide) (by omega) hlow MX MY).mono ?_
        rintro e w10 ⟨rfl, hb10⟩
        replace hbw := hbw.trans (hb10.mono hbw.size)
        replace hB := hB.below hb10
        clear hb10
        try simp only [asize] at hB
        rw [HO.out]
        unfold T2
        replace hB := hB.new (0) (0) 23
        replace hbw := hbw.alloc hbw.size (.cells #[.int .i64 (0), .int .i64 (0)] 23)
        have hB' := hB
        obtain ⟨⟨z0, x0, y0⟩, ⟨z1, x1, y1⟩, ⟨z2, x2, y2⟩, ⟨z3, x3, y3⟩, ⟨z4, x4, y4⟩, ⟨z5, x5, y5⟩, ⟨z6, x6, y6⟩, _⟩ := hB'
        go_wp2_with fail
        clear z0 x0 y0 z1 x1 y1 z2 x2 y2 z3 x3 y3 z4 x4 y4 z5 x5 y5 z6 x6 y6
        refine (two_div 111 1 111 X Y _ (.inl rfl) (show ofV 111 = (1, 111) by decide) (show kindsV 111 = ([1, 1], 1, true) by decide) (by omega) hlow MX MY).mono ?_
        rintro e w11 ⟨rfl, hb11⟩
        replace hbw := hbw.trans (hb11.mono hbw.size)
        replace hB := hB.below hb11
        clear hb11
        try simp only [asize] at hB
        rw [HP.out]
        unfold T2
        replace hB := hB.new (1) (0) 23
        replace hbw := hbw.alloc hbw.size (.cells #[.int .i64 (1), .int .i64 (0)] 23)
        have hB' := hB
        obtain ⟨⟨z0, x0, y0⟩, ⟨z1, x1, y1⟩, ⟨z2, x2, y2⟩, ⟨z3, x3, y3⟩, ⟨z4, x4, y4⟩, ⟨z5, x5, y5⟩, ⟨z6, x6, y6⟩, ⟨z7, x7, y7⟩, _⟩ := hB'
        go_wp2_with fail
        rw [rounds_succ]
        have hB' := hB
        obtain ⟨⟨z0, x0, y0⟩, ⟨z1, x1, y1⟩, ⟨z2, x2, y2⟩, ⟨z3, x3, y3⟩, ⟨z4, x4, y4⟩, ⟨z5, x5, y5⟩, ⟨z6, x6, y6⟩, ⟨z7, x7, y7⟩, _⟩ := hB'
        go_wp2_with fail
        clear z0 x0 y0 z1 x1 y1 z2 x2 y2 z3 x3 y3 z4 x4 y4 z5 x5 y5 z6 x6 y6 z7 x7 y7
        refine (two_div 110 1 110 X Y _ (.inl rfl) (show ofV 110 = (1, 110) by decide) (show kindsV 110 = ([1, 1], 1, true) by decide) (by omega) hlow MX MY).mono ?_
        rintro e w12 ⟨rfl, hb12⟩
        replace hbw := hbw.trans (hb12.mono hbw.size)
        replace hB := hB.below hb12
        clear hb12
        try simp only [asize] at hB
        rw [DuQ.out]
        unfold T2
        replace hB := hB.new (1) (Qu) 23
        replace hbw := hbw.alloc hbw.size (.cells #[.int .i64 (1), .int .i64 (Qu)] 23)
        have hB' := hB
        obtain ⟨⟨z0, x0, y0⟩, ⟨z1, x1, y1⟩, ⟨z2, x2, y2⟩, ⟨z3, x3, y3⟩, ⟨z4, x4, y4⟩, ⟨z5, x5, y5⟩, ⟨z6, x6, y6⟩, ⟨z7, x7, y7⟩, ⟨z8, x8, y8⟩, _⟩ := hB'
        go_wp2_with fail
        clear z0 x0 y0 z1 x1 y1 z2 x2 y2 z3 x3 y3 z4 x4 y4 z5 x5 y5 z6 x6 y6 z7 x7 y7 z8 x8 y8
        refine (two_div 112 1 112 X Y _ (.inl rfl) (show ofV 112 = (1, 112) by decide) (show kindsV 112 = ([1, 1], 1, true) by decide) (by omega) hlow MX MY).mono ?_
        rintro e w13 ⟨rfl, hb13⟩
        replace hbw := hbw.trans (hb13.mono hbw.size)
        replace hB := hB.below hb13
        clear hb13
        try simp only [asize] at hB
        rw [DuM.out]
        unfold T2
        replace hB := hB.new (1) (Mu) 23
        replace hbw := hbw.alloc hbw.size (.cells #[.int .i64 (1), .int .i64 (Mu)] 23)
        have hB' := hB
        obtain ⟨⟨z0, x0, y0⟩, ⟨z1, x1, y1⟩, ⟨z2, x2, y2⟩, ⟨z3, x3, y3⟩, ⟨z4, x4, y4⟩, ⟨z5, x5, y5⟩, ⟨z6, x6, y6⟩, ⟨z7, x7, y7⟩, ⟨z8, x8, y8⟩, ⟨z9, x9, y9⟩, _⟩ := hB'
        go_wp2_with fail
        clear z0 x0 y0 z1 x1 y1 z2 x2 y2 z3 x3 y3 z4 x4 y4 z5 x5 y5 z6 x6 y6 z7 x7 y7 z8 x8 y8 z9 x9 y9
        refine (two_reck 108 1 108 Qu Y _ (.inl rfl) (show ofV 108 = (1, 108) by decide) (show kindsV 108 = ([1, 1], 1, true) by decide) (by unfold Reck; omega) MQu MY).mono ?_
        rintro e w14 ⟨rfl, hb14⟩
        replace hbw := hbw.trans (hb14.mono hbw.size)
        replace hB := hB.below hb14
        clear hb14
        try simp only [asize] at hB
        unfold T2
        rw [DuP.out]
        replace hB := hB.new (1) (Pu) 23
        replace hbw := hbw.alloc hbw.size (.cells #[.int .i64 (1), .int .i64 (Pu)] 23)
        have hB' := hB
        obtain ⟨⟨z0, x0, y0⟩, ⟨z1, x1, y1⟩, ⟨z2, x2, y2⟩, ⟨z3, x3, y3⟩, ⟨z4, x4, y4⟩, ⟨z5, x5, y5⟩, ⟨z6, x6, y6⟩, ⟨z7, x7, y7⟩, ⟨z8, x8, y8⟩, ⟨z9, x9, y9⟩, ⟨z10, x10, y10⟩, _⟩ := hB'
        go_wp2_with fail
        clear z0 x0 y0 z1 x1 y1 z2 x2 y2 z3 x3 y3 z4 x4 y4 z5 x5 y5 z6 x6 y6 z7 x7 y7 z8 x8 y8 z9 x9 y9 z10 x10 y10
        refine (two_reck 106 1 106 Pu Mu _ (.inl rfl) (show ofV 106 = (1, 106) by decide) (show kindsV 106 = ([1, 1], 1, true) by decide) (by unfold Reck; omega) MPu MMu).mono ?_
        rintro e w15 ⟨rfl, hb15⟩
        replace hbw := hbw.trans (hb15.mono hbw.size)
        replace hB := hB.below hb15
        clear hb15
        try simp only [asize] at hB
        unfold T2
        rw [DuN.out]
        replace hB := hB.new (1) (X) 23
        replace hbw := hbw.alloc hbw.size (.cells #[.int .i64 (1), .int .i64 (X)] 23)
        have hB' := hB
        obtain ⟨⟨z0, x0, y0⟩, ⟨z1, x1, y1⟩, ⟨z2, x2, y2⟩, ⟨z3, x3, y3⟩, ⟨z4, x4, y4⟩, ⟨z5, x5, y5⟩, ⟨z6, x6, y6⟩, ⟨z7, x7, y7⟩, ⟨z8, x8, y8⟩, ⟨z9, x9, y9⟩, ⟨z10, x10, y10⟩, ⟨z11, x11, y11⟩, _⟩ := hB'
        go_wp2_with fail
        clear z0 x0 y0 z1 x1 y1 z2 x2 y2 z3 x3 y3 z4 x4 y4 z5 x5 y5 z6 x6 y6 z7 x7 y7 z8 x8 y8 z9 x9 y9 z10 x10 y10 z11 x11 y11
        refine (eq_yes 1 X _).mono ?_
        rintro e w16 ⟨rfl, hb16⟩
        replace hbw := hbw.trans (hb16.mono hbw.size)
        replace hB := hB.below hb16
        clear hb16
        try simp only [asize] at hB
        have hB' := hB
        obtain ⟨⟨z0, x0, y0⟩, ⟨z1, x1, y1⟩, ⟨z2, x2, y2⟩, ⟨z3, x3, y3⟩, ⟨z4, x4, y4⟩, ⟨z5, x5, y5⟩, ⟨z6, x6, y6⟩, ⟨z7, x7, y7⟩, ⟨z8, x8, y8⟩, ⟨z9, x9, y9⟩, ⟨z10, x10, y10⟩, ⟨z11, x11, y11⟩, _⟩ := hB'
        go_wp2_with fail
        rw [rounds_succ]
        have hB' := hB
        obtain ⟨⟨z0, x0, y0⟩, ⟨z1, x1, y1⟩, ⟨z2, x2, y2⟩, ⟨z3, x3, y3⟩, ⟨z4, x4, y4⟩, ⟨z5, x5, y5⟩, ⟨z6, x6, y6⟩, ⟨z7, x7, y7⟩, ⟨z8, x8, y8⟩, ⟨z9, x9, y9⟩, ⟨z10, x10, y10⟩, ⟨z11, x11, y11⟩, _⟩ := hB'
        go_wp2_with fail
        go_ret
        exact ⟨rfl, hbw⟩
  · obtain ⟨X, hX⟩ : ∃ X, X = wk 2 a := ⟨_, rfl⟩
    obtain ⟨Y, hY⟩ : ∃ Y, Y = wk 2 b := ⟨_, rfl⟩
    have rX : RK 2 X := by rw [hX]; exact rk_2 a (bounds_i64 w0)
    have rY : RK 2 Y := by rw [hY]; exact rk_2 b (bounds_i64 w1)
    clear w0 w1
    have hlow : ¬ Y = 0 → 1 ≤ low (2, Y) := low_pos 2 Y (.inr rfl) rY
    have MX := may_k 2 X (.inr rfl) rX
    have MY := may_k 2 Y (.inr rfl) rY
    have HX := Lib.hid hX.symm
    have HY := Lib.hid hY.symm
    clear hX hY
    obtain ⟨S, L, HS, HSB, HL, HLB, MS, ML⟩ := laws_facts_2 X Y rX
    by_cases h0 : Y = 0
    · have HZ0 : Hid (divV 2 109 X Y = (0, 0, 2)) := by show divV 2 109 X Y = (0, 0, 2); simp [divV, h0]
      have HZ1 : Hid (divV 2 110 X Y = (0, 0, 2)) := by show divV 2 110 X Y = (0, 0, 2); simp [divV, h0]
      have HY0 : Hid (divV 2 111 X Y = (0, 0, 2)) := by show divV 2 111 X Y = (0, 0, 2); simp [divV, h0]
      have HY1 : Hid (divV 2 112 X Y = (0, 0, 2)) := by show divV 2 112 X Y = (0, 0, 2); simp [divV, h0]
      have d0 : (Y == 0) = true := beq_iff_eq.2 h0
      clear h0 rX rY
      go_enter Tryd.func6, Tryd.ntmps6
      go_wp2_with fail
      refine (begun_any w).mono ?_
      rintro e w1 ⟨rfl, hbw⟩
      have hB : Boxes w1 [] := trivial
      go_wp2_with fail
      refine (refwrap_2 a _).mono ?_
      rintro e w2 ⟨rfl, hb2⟩
      replace hbw := hbw.trans (hb2.mono hbw.size)
      replace hB := hB.below hb2
      clear hb2
      rw [HX.out]
      go_wp2_with fail
      refine (refwrap_2 b _).mono ?_
      rintro e w3 ⟨rfl, hb3⟩
      replace hbw := hbw.trans (hb3.mono hbw.size)
      replace hB := hB.below hb3
      clear hb3
      rw [HY.out]
      replace hB := hB.new (2) (X) 23
      replace hbw := hbw.alloc hbw.size (.cells #[.int .i64 (2), .int .i64 (X)] 23)
      replace hB := hB.new (2) (Y) 23
      replace hbw := hbw.alloc hbw.size (.cells #[.int .i64 (2), .int .i64 (Y)] 23)
      have hB' := hB
      obtain ⟨⟨z0, x0, y0⟩, ⟨z1, x1, y1⟩, _⟩ := hB'
      go_wp2_with fail
      clear z0 x0 y0 z1 x1 y1
      refine (two_reck 124 2 106 X Y _ (.inr rfl) (show ofV 124 = (2, 106) by decide) (show kindsV 124 = ([2, 2], 2, true) by decide) (by unfold Reck; omega) MX MY).mono ?_
      rintro e w4 ⟨rfl, hb4⟩
      replace hbw := hbw.trans (hb4.mono hbw.size)
      replace hB := hB.below hb4
      clear hb4
      try simp only [asize] at hB
      unfold T2
      rw [HS.out]
      replace hB := hB.new (2) (S) 23
      replace hbw := hbw.alloc hbw.size (.cells #[.int .i64 (2), .int .i64 (S)] 23)
      have hB' := hB
      obtain ⟨⟨z0, x0, y0⟩, ⟨z1, x1, y1⟩, ⟨z2, x2, y2⟩, _⟩ := hB'
      go_wp2_with fail
      clear z0 x0 y0 z1 x1 y1 z2 x2 y2
      refine (two_reck 125 2 107 S Y _ (.inr rfl) (show ofV 125 = (2, 107) by decide) (show kindsV 125 = ([2, 2], 2, true) by decide) (by unfold Reck; omega) MS MY).mono ?_
      rintro e w5 ⟨rfl, hb5⟩
      replace hbw := hbw.trans (hb5.mono hbw.size)
      replace hB := hB.below hb5
      clear hb5
      try simp only [asize] at hB
      unfold T2
      rw [HSB.out]
      replace hB := hB.new (2) (X) 23
      replace hbw := hbw.alloc hbw.size (.cells #[.int .i64 (2), .int .i64 (X)] 23)
      have hB' := hB
      obtain ⟨⟨z0, x0, y0⟩, ⟨z1, x1, y1⟩, ⟨z2, x2, y2⟩, ⟨z3, x3, y3⟩, _⟩ := hB'
      go_wp2_with fail
      clear z0 x0 y0 z1 x1 y1 z2 x2 y2 z3 x3 y3
      refine (two_reck 137 2 119 X Y _ (.inr rfl) (show ofV 137 = (2, 119) by decide) (show kindsV 137 = ([2, 2], 2, true) by decide) (by unfold Reck; omega) MX MY).mono ?_
      rintro e w6 ⟨rfl, hb6⟩
      replace hbw := hbw.trans (hb6.mono hbw.size)
      replace hB := hB.below hb6
      clear hb6
      try simp only [asize] at hB
      unfold T2
      rw [HL.out]
      replace hB := hB.new (2) (L) 23
      replace hbw := hbw.alloc hbw.size (.cells #[.int .i64 (2), .int .i64 (L)] 23)
      have hB' := hB
      obtain ⟨⟨z0, x0, y0⟩, ⟨z1, x1, y1⟩, ⟨z2, x2, y2⟩, ⟨z3, x3, y3⟩, ⟨z4, x4, y4⟩, _⟩ := hB'
      go_wp2_with fail
      clear z0 x0 y0 z1 x1 y1 z2 x2 y2 z3 x3 y3 z4 x4 y4
      refine (two_reck 138 2 120 L Y _ (.inr rfl) (show ofV 138 = (2, 120) by decide) (show kindsV 138 = ([2, 2], 2, true) by decide) (by unfold Reck; omega) ML MY).mono ?_
      rintro e w7 ⟨rfl, hb7⟩
      replace hbw := hbw.trans (hb7.mono hbw.size)
      replace hB := hB.below hb7
      clear hb7
      try simp only [asize] at hB
      unfold T2
      rw [HLB.out]
      replace hB := hB.new (2) (X) 23
      replace hbw := hbw.alloc hbw.size (.cells #[.int .i64 (2), .int .i64 (X)] 23)
      have hB' := hB
      obtain ⟨⟨z0, x0, y0⟩, ⟨z1, x1, y1⟩, ⟨z2, x2, y2⟩, ⟨z3, x3, y3⟩, ⟨z4, x4, y4⟩, ⟨z5, x5, y5⟩, _⟩ := hB'
      go_wp2_with fail
      clear z0 x0 y0 z1 x1 y1 z2 x2 y2 z3 x3 y3 z4 x4 y4 z5 x5 y5
      refine (eq_yes 2 X _).mono ?_
      rintro e w8 ⟨rfl, hb8⟩
      replace hbw := hbw.trans (hb8.mono hbw.size)
      replace hB := hB.below hb8
      clear hb8
      try simp only [asize] at hB
      have hB' := hB
      obtain ⟨⟨z0, x0, y0⟩, ⟨z1, x1, y1⟩, ⟨z2, x2, y2⟩, ⟨z3, x3, y3⟩, ⟨z4, x4, y4⟩, ⟨z5, x5, y5⟩, _⟩ := hB'
      go_wp2_with fail
      clear z0 x0 y0 z1 x1 y1 z2 x2 y2 z3 x3 y3 z4 x4 y4 z5 x5 y5
      refine (eq_yes 2 X _).mono ?_
      rintro e w9 ⟨rfl, hb9⟩
      replace hbw := hbw.trans (hb9.mono hbw.size)
      replace hB := hB.below hb9
      clear hb9
      try simp only [asize] at hB
      have hB' := hB
      obtain ⟨⟨z0, x0, y0⟩, ⟨z1, x1, y1⟩, ⟨z2, x2, y2⟩, ⟨z3, x3, y3⟩, ⟨z4, x4, y4⟩, ⟨z5, x5, y5⟩, _⟩ := hB'
      go_wp2_with fail
      refine wp_loop_rounds 3 ?_
      rw [rounds_succ]
      have hB' := hB
      obtain ⟨⟨z0, x0, y0⟩, ⟨z1, x1, y1⟩, ⟨z2, x2, y2⟩, ⟨z3, x3, y3⟩, ⟨z4, x4, y4⟩, ⟨z5, x5, y5⟩, _⟩ := hB'
      go_wp2_with fail
      clear z0 x0 y0 z1 x1 y1 z2 x2 y2 z3 x3 y3 z4 x4 y4 z5 x5 y5
      refine (two_div 127 2 109 X Y _ (.inr rfl) (show ofV 127 = (2, 109) by decide) (show kindsV 127 = ([2, 2], 2, true) by decide) (by omega) hlow MX MY).mono ?_
      rintro e w10 ⟨rfl, hb10⟩
      replace hbw := hbw.trans (hb10.mono hbw.size)
      replace hB := hB.below hb10
      clear hb10
      try simp only [asize] at hB
      rw [HZ0.out]
      unfold T2
      replace hB := hB.new (0) (0) 23
      replace hbw := hbw.alloc hbw.size (.cells #[.int .i64 (0), .int .i64 (0)] 23)
      have hB' := hB
      obtain ⟨⟨z0, x0, y0⟩, ⟨z1, x1, y1⟩, ⟨z2, x2, y2⟩, ⟨z3, x3, y3⟩, ⟨z4, x4, y4⟩, ⟨z5, x5, y5⟩, ⟨z6, x6, y6⟩, _⟩ := hB'
      go_wp2_with fail
      clear z0 x0 y0 z1 x1 y1 z2 x2 y2 z3 x3 y3 z4 x4 y4 z5 x5 y5 z6 x6 y6
      refine (two_div 129 2 111 X Y _ (.inr rfl) (show ofV 129 = (2, 111) by decide) (show kindsV 129 = ([2, 2], 2, true) by decide) (by omega) hlow MX MY).mono ?_
      rintro e w11 ⟨rfl, hb11⟩
      replace hbw := hbw.trans (hb11.mono hbw.size)
      replace hB := hB.below hb11
      clear hb11
      try simp only [asize] at hB
      rw [HY0.out]
      unfold T2
      replace hB := hB.new (0) (0) 23
      replace hbw := hbw.alloc hbw.size (.cells #[.int .i64 (0), .int .i64 (0)] 23)
      have hB' := hB
      obtain ⟨⟨z0, x0, y0⟩, ⟨z1, x1, y1⟩, ⟨z2, x2, y2⟩, ⟨z3, x3, y3⟩, ⟨z4, x4, y4⟩, ⟨z5, x5, y5⟩, ⟨z6, x6, y6⟩, ⟨z7, x7, y7⟩, _⟩ := hB'
      go_wp2_with fail
      rw [rounds_succ]
      have hB' := hB
      obtain ⟨⟨z0, x0, y0⟩, ⟨z1, x1, y1⟩, ⟨z2, x2, y2⟩, ⟨z3, x3, y3⟩, ⟨z4, x4, y4⟩, ⟨z5, x5, y5⟩, ⟨z6, x6, y6⟩, ⟨z7, x7, y7⟩, _⟩ := hB'
      go_wp2_with fail
      clear z0 x0 y0 z1 x1 y1 z2 x2 y2 z3 x3 y3 z4 x4 y4 z5 x5 y5 z6 x6 y6 z7 x7 y7
      refine (two_div 128 2 110 X Y _ (.inr rfl) (show ofV 128 = (2, 110) by decide) (show kindsV 128 = ([2, 2], 2, true) by decide) (by omega) hlow MX MY).mono ?_
      rintro e w12 ⟨rfl, hb12⟩
      replace hbw := hbw.trans (hb12.mono hbw.size)
      replace hB := hB.below hb12
      clear hb12
      try simp only [asize] at hB
      rw [HZ1.out]
      unfold T2
      replace hB := hB.new (0) (0) 23
      replace hbw := hbw.alloc hbw.size (.cells #[.int .i64 (0), .int .i64 (0)] 23)
      have hB' := hB
      obtain ⟨⟨z0, x0, y0⟩, ⟨z1, x1, y1⟩, ⟨z2, x2, y2⟩, ⟨z3, x3, y3⟩, ⟨z4, x4, y4⟩, ⟨z5, x5, y5⟩, ⟨z6, x6, y6⟩, ⟨z7, x7, y7⟩, ⟨z8, x8, y8⟩, _⟩ := hB'
      go_wp2_with fail
      clear z0 x0 y0 z1 x1 y1 z2 x2 y2 z3 x3 y3 z4 x4 y4 z5 x5 y5 z6 x6 y6 z7 x7 y7 z8 x8 y8
      refine (two_div 130 2 112 X Y _ (.inr rfl) (show ofV 130 = (2, 112) by decide) (show kindsV 130 = ([2, 2], 2, true) by decide) (by omega) hlow MX MY).mono ?_
      rintro e w13 ⟨rfl, hb13⟩
      replace hbw := hbw.trans (hb13.mono hbw.size)
      replace hB := hB.below hb13
      clear hb13
      try simp only [asize] at hB
      rw [HY1.out]
      unfold T2
      replace hB := hB.new (0) (0) 23
      replace hbw := hbw.alloc hbw.size (.cells #[.int .i64 (0), .int .i64 (0)] 23)
      have hB' := hB
      obtain ⟨⟨z0, x0, y0⟩, ⟨z1, x1, y1⟩, ⟨z2, x2, y2⟩, ⟨z3, x3, y3⟩, ⟨z4, x4, y4⟩, ⟨z5, x5, y5⟩, ⟨z6, x6, y6⟩, ⟨z7, x7, y7⟩, ⟨z8, x8, y8⟩, ⟨z9, x9, y9⟩, _⟩ := hB'
      go_wp2_with fail
      rw [rounds_succ]
      have hB' := hB
      obtain ⟨⟨z0, x0, y0⟩, ⟨z1, x1, y1⟩, ⟨z2, x2, y2⟩, ⟨z3, x3, y3⟩, ⟨z4, x4, y4⟩, ⟨z5, x5, y5⟩, ⟨z6, x6, y6⟩, ⟨z7, x7, y7⟩, ⟨z8, x8, y8⟩, ⟨z9, x9, y9⟩, _⟩ := hB'
      go_wp2_with fail
      go_ret
      exact ⟨rfl, hbw⟩
    · obtain ⟨Qu, Mu, Pu, DuQ, DuM, DuP, DuN, MQu, MMu, MPu⟩ := unsigned_2 X Y rX h0
      have d0 : (Y == 0) = false := beq_eq_false_iff_ne.2 h0
      by_cases hf : Fits 2 X Y
      · obtain ⟨Qs, Ms, Ps, DsQ, DsM, DsP, DsN, MQs, MMs, MPs⟩ := signed_2 X Y rX h0 hf
        clear hf rX rY
        go_enter Tryd.func6, Tryd.ntmps6
        go_wp2_with fail
        refine (begun_any w).mono ?_
        rintro e w1 ⟨rfl, hbw⟩
        have hB : Boxes w1 [] := trivial
        go_wp2_with fail
        refine (refwrap_2 a _).mono ?_
        rintro e w2 ⟨rfl, hb2⟩
        replace hbw := hbw.trans (hb2.mono hbw.size)
        replace hB := hB.below hb2
        clear hb2
        rw [HX.out]
        go_wp2_with fail
        refine (refwrap_2 b _).mono ?_
        rintro e w3 ⟨rfl, hb3⟩
        replace hbw := hbw.trans (hb3.mono hbw.size)
        replace hB := hB.below hb3
        clear hb3
        rw [HY.out]
        replace hB := hB.new (2) (X) 23
        replace hbw := hbw.alloc hbw.size (.cells #[.int .i64 (2), .int .i64 (X)] 23)
        replace hB := hB.new (2) (Y) 23
        replace hbw := hbw.alloc hbw.size (.cells #[.int .i64 (2), .int .i64 (Y)] 23)
        have hB' := hB
        obtain ⟨⟨z0, x0, y0⟩, ⟨z1, x1, y1⟩, _⟩ := hB'
        go_wp2_with fail
        clear z0 x0 y0 z1 x1 y1
        refine (two_reck 124 2 106 X Y _ (.inr rfl) (show ofV 124 = (2, 106) by decide) (show kindsV 124 = ([2, 2], 2, true) by decide) (by unfold Reck; omega) MX MY).mono ?_
        rintro e w4 ⟨rfl, hb4⟩
        replace hbw := hbw.trans (hb4.mono hbw.size)
        replace hB := hB.below hb4
        clear hb4
        try simp only [asize] at hB
        unfold T2
        rw [HS.out]
        replace hB := hB.new (2) (S) 23
        replace hbw := hbw.alloc hbw.size (.cells #[.int .i64 (2), .int .i64 (S)] 23)
        have hB' := hB
        obtain ⟨⟨z0, x0, y0⟩, ⟨z1, x1, y1⟩, ⟨z2, x2, y2⟩, _⟩ := hB'
        go_wp2_with fail
        clear z0 x0 y0 z1 x1 y1 z2 x2 y2
        refine (two_reck 125 2 107 S Y _ (.inr rfl) (show ofV 125 = (2, 107) by decide) (show kindsV 125 = ([2, 2], 2, true) by decide) (by unfold Reck; omega) MS MY).mono ?_
        rintro e w5 ⟨rfl, hb5⟩
        replace hbw := hbw.trans (hb5.mono hbw.size)
        replace hB := hB.below hb5
        clear hb5
        try simp only [asize] at hB
        unfold T2
        rw [HSB.out]
        replace hB := hB.new (2) (X) 23
        replace hbw := hbw.alloc hbw.size (.cells #[.int .i64 (2), .int .i64 (X)] 23)
        have hB' := hB
        obtain ⟨⟨z0, x0, y0⟩, ⟨z1, x1, y1⟩, ⟨z2, x2, y2⟩, ⟨z3, x3, y3⟩, _⟩ := hB'
        go_wp2_with fail
        clear z0 x0 y0 z1 x1 y1 z2 x2 y2 z3 x3 y3
        refine (two_reck 137 2 119 X Y _ (.inr rfl) (show ofV 137 = (2, 119) by decide) (show kindsV 137 = ([2, 2], 2, true) by decide) (by unfold Reck; omega) MX MY).mono ?_
        rintro e w6 ⟨rfl, hb6⟩
        replace hbw := hbw.trans (hb6.mono hbw.size)
        replace hB := hB.below hb6
        clear hb6
        try simp only [asize] at hB
        unfold T2
        rw [HL.out]
        replace hB := hB.new (2) (L) 23
        replace hbw := hbw.alloc hbw.size (.cells #[.int .i64 (2), .int .i64 (L)] 23)
        have hB' := hB
        obtain ⟨⟨z0, x0, y0⟩, ⟨z1, x1, y1⟩, ⟨z2, x2, y2⟩, ⟨z3, x3, y3⟩, ⟨z4, x4, y4⟩, _⟩ := hB'
        go_wp2_with fail
        clear z0 x0 y0 z1 x1 y1 z2 x2 y2 z3 x3 y3 z4 x4 y4
        refine (two_reck 138 2 120 L Y _ (.inr rfl) (show ofV 138 = (2, 120) by decide) (show kindsV 138 = ([2, 2], 2, true) by decide) (by unfold Reck; omega) ML MY).mono ?_
        rintro e w7 ⟨rfl, hb7⟩
        replace hbw := hbw.trans (hb7.mono hbw.size)
        replace hB := hB.below hb7
        clear hb7
        try simp only [asize] at hB
        unfold T2
        rw [HLB.out]
        replace hB := hB.new (2) (X) 23
        replace hbw := hbw.alloc hbw.size (.cells #[.int .i64 (2), .int .i64 (X)] 23)
        have hB' := hB
        obtain ⟨⟨z0, x0, y0⟩, ⟨z1, x1, y1⟩, ⟨z2, x2, y2⟩, ⟨z3, x3, y3⟩, ⟨z4, x4, y4⟩, ⟨z5, x5, y5⟩, _⟩ := hB'
        go_wp2_with fail
        clear z0 x0 y0 z1 x1 y1 z2 x2 y2 z3 x3 y3 z4 x4 y4 z5 x5 y5
        refine (eq_yes 2 X _).mono ?_
        rintro e w8 ⟨rfl, hb8⟩
        replace hbw := hbw.trans (hb8.mono hbw.size)
        replace hB := hB.below hb8
        clear hb8
        try simp only [asize] at hB
        have hB' := hB
        obtain ⟨⟨z0, x0, y0⟩, ⟨z1, x1, y1⟩, ⟨z2, x2, y2⟩, ⟨z3, x3, y3⟩, ⟨z4, x4, y4⟩, ⟨z5, x5, y5⟩, _⟩ := hB'
        go_wp2_with fail
        clear z0 x0 y0 z1 x1 y1 z2 x2 y2 z3 x3 y3 z4 x4 y4 z5 x5 y5
        refine (eq_yes 2 X _).mono ?_
        rintro e w9 ⟨rfl, hb9⟩
        replace hbw := hbw.trans (hb9.mono hbw.size)
        replace hB := hB.below hb9
        clear hb9
        try simp only [asize] at hB
        have hB' := hB
        obtain ⟨⟨z0, x0, y0⟩, ⟨z1, x1, y1⟩, ⟨z2, x2, y2⟩, ⟨z3, x3, y3⟩, ⟨z4, x4, y4⟩, ⟨z5, x5, y5⟩, _⟩ := hB'
        go_wp2_with fail
        refine wp_loop_rounds 3 ?_
        rw [rounds_succ]
        have hB' := hB
        obtain ⟨⟨z0, x0, y0⟩, ⟨z1, x1, y1⟩, ⟨z2, x2, y2⟩, ⟨z3, x3, y3⟩, ⟨z4, x4, y4⟩, ⟨z5, x5, y5⟩, _⟩ := hB'
        go_wp2_with fail
        clear z0 x0 y0 z1 x1 y1 z2 x2 y2 z3 x3 y3 z4 x4 y4 z5 x5 y5
        refine (two_div 127 2 109 X Y _ (.inr rfl) (show ofV 127 = (2, 109) by decide) (show kindsV 127 = ([2, 2], 2, true) by decide) (by omega) hlow MX MY).mono ?_
        rintro e w10 ⟨rfl, hb10⟩
        replace hbw := hbw.trans (hb10.mono hbw.size)
        replace hB := hB.below hb10
        clear hb10
        try simp only [asize] at hB
        rw [DsQ.out]
        unfold T2
        replace hB := hB.new (2) (Qs) 23
        replace hbw := hbw.alloc hbw.size (.cells #[.int .i64 (2), .int .i64 (Qs)] 23)
        have hB' := hB
        obtain ⟨⟨z0, x0, y0⟩, ⟨z1, x1, y1⟩, ⟨z2, x2, y2⟩, ⟨z3, x3, y3⟩, ⟨z4, x4, y4⟩, ⟨z5, x5, y5⟩, ⟨z6, x6, y6⟩, _⟩ := hB'
        go_wp2_with fail
        clear z0 x0 y0 z1 x1 y1 z2 x2 y2 z3 x3 y3 z4 x4 y4 z5 x5 y5 z6 x6 y6
        refine (two_div 129 2 111 X Y _ (.inr rfl) (show ofV 129 = (2, 111) by decide) (show kindsV 129 = ([2, 2], 2, true) by decide) (by omega) hlow MX MY).mono ?_
        rintro e w11 ⟨rfl, hb11⟩
        replace hbw := hbw.trans (hb11.mono hbw.size)
        replace hB := hB.below hb11
        clear hb11
        try simp only [asize] at hB
        rw [DsM.out]
        unfold T2
        replace hB := hB.new (2) (Ms) 23
        replace hbw := hbw.alloc hbw.size (.cells #[.int .i64 (2), .int .i64 (Ms)] 23)
        have hB' := hB
        obtain ⟨⟨z0, x0, y0⟩, ⟨z1, x1, y1⟩, ⟨z2, x2, y2⟩, ⟨z3, x3, y3⟩, ⟨z4, x4, y4⟩, ⟨z5, x5, y5⟩, ⟨z6, x6, y6⟩, ⟨z7, x7, y7⟩, _⟩ := hB'
        go_wp2_with fail
        clear z0 x0 y0 z1 x1 y1 z2 x2 y2 z3 x3 y3 z4 x4 y4 z5 x5 y5 z6 x6 y6 z7 x7 y7
        refine (two_reck 126 2 108 Qs Y _ (.inr rfl) (show ofV 126 = (2, 108) by decide) (show kindsV 126 = ([2, 2], 2, true) by decide) (by unfold Reck; omega) MQs MY).mono ?_
        rintro e w12 ⟨rfl, hb12⟩
        replace hbw := hbw.trans (hb12.mono hbw.size)
        replace hB := hB.below hb12
        clear hb12
        try simp only [asize] at hB
        unfold T2
        rw [DsP.out]
        replace hB := hB.new (2) (Ps) 23
        replace hbw := hbw.alloc hbw.size (.cells #[.int .i64 (2), .int .i64 (Ps)] 23)
        have hB' := hB
        obtain ⟨⟨z0, x0, y0⟩, ⟨z1, x1, y1⟩, ⟨z2, x2, y2⟩, ⟨z3, x3, y3⟩, ⟨z4, x4, y4⟩, ⟨z5, x5, y5⟩, ⟨z6, x6, y6⟩, ⟨z7, x7, y7⟩, ⟨z8, x8, y8⟩, _⟩ := hB'
        go_wp2_with fail
        clear z0 x0 y0 z1 x1 y1 z2 x2 y2 z3 x3 y3 z4 x4 y4 z5 x5 y5 z6 x6 y6 z7 x7 y7 z8 x8 y8
        refine (two_reck 124 2 106 Ps Ms _ (.inr rfl) (show ofV 124 = (2, 106) by decide) (show kindsV 124 = ([2, 2], 2, true) by decide) (by unfold Reck; omega) MPs MMs).mono ?_
        rintro e w13 ⟨rfl, hb13⟩
        replace hbw := hbw.trans (hb13.mono hbw.size)
        replace hB := hB.below hb13
        clear hb13
        try simp only [asize] at hB
        unfold T2
        rw [DsN.out]
        replace hB := hB.new (2) (X) 23
        replace hbw := hbw.alloc hbw.size (.cells #[.int .i64 (2), .int .i64 (X)] 23)
        have hB' := hB
        obtain ⟨⟨z0, x0, y0⟩, ⟨z1, x1, y1⟩, ⟨z2, x2, y2⟩, ⟨z3, x3, y3⟩, ⟨z4, x4, y4⟩, ⟨z5, x5, y5⟩, ⟨z6, x6, y6⟩, ⟨z7, x7, y7⟩, ⟨z8, x8, y8⟩, ⟨z9, x9, y9⟩, _⟩ := hB'
        go_wp2_with fail
        clear z0 x0 y0 z1 x1 y1 z2 x2 y2 z3 x3 y3 z4 x4 y4 z5 x5 y5 z6 x6 y6 z7 x7 y7 z8 x8 y8 z9 x9 y9
        refine (eq_yes 2 X _).mono ?_
        rintro e w14 ⟨rfl, hb14⟩
        replace hbw := hbw.trans (hb14.mono hbw.size)
        replace hB := hB.below hb14
        clear hb14
        try simp only [asize] at hB
        have hB' := hB
        obtain ⟨⟨z0, x0, y0⟩, ⟨z1, x1, y1⟩, ⟨z2, x2, y2⟩, ⟨z3, x3, y3⟩, ⟨z4, x4, y4⟩, ⟨z5, x5, y5⟩, ⟨z6, x6, y6⟩, ⟨z7, x7, y7⟩, ⟨z8, x8, y8⟩, ⟨z9, x9, y9⟩, _⟩ := hB'
        go_wp2_with fail
        rw [rounds_succ]
        have hB' := hB
        obtain ⟨⟨z0, x0, y0⟩, ⟨z1, x1, y1⟩, ⟨z2, x2, y2⟩, ⟨z3, x3, y3⟩, ⟨z4, x4, y4⟩, ⟨z5, x5, y5⟩, ⟨z6, x6, y6⟩, ⟨z7, x7, y7⟩, ⟨z8, x8, y8⟩, ⟨z9, x9, y9⟩, _⟩ := hB'
        go_wp2_with fail
        clear z0 x0 y0 z1 x1 y1 z2 x2 y2 z3 x3 y3 z4 x4 y4 z5 x5 y5 z6 x6 y6 z7 x7 y7 z8 x8 y8 z9 x9 y9
        refine (two_div 128 2 110 X Y _ (.inr rfl) (show ofV 128 = (2, 110) by decide) (show kindsV 128 = ([2, 2], 2, true) by decide) (by omega) hlow MX MY).mono ?_
        rintro e w15 ⟨rfl, hb15⟩
        replace hbw := hbw.trans (hb15.mono hbw.size)
        replace hB := hB.below hb15
        clear hb15
        try simp only [asize] at hB
        rw [DuQ.out]
        unfold T2
        replace hB := hB.new (2) (Qu) 23
        replace hbw := hbw.alloc hbw.size (.cells #[.int .i64 (2), .int .i64 (Qu)] 23)
        have hB' := hB
        obtain ⟨⟨z0, x0, y0⟩, ⟨z1, x1, y1⟩, ⟨z2, x2, y2⟩, ⟨z3, x3, y3⟩, ⟨z4, x4, y4⟩, ⟨z5, x5, y5⟩, ⟨z6, x6, y6⟩, ⟨z7, x7, y7⟩, ⟨z8, x8, y8⟩, ⟨z9, x9, y9⟩, ⟨z10, x10, y10⟩, _⟩ := hB'
        go_wp2_with fail
        clear z0 x0 y0 z1 x1 y1 z2 x2 y2 z3 x3 y3 z4 x4 y4 z5 x5 y5 z6 x6 y6 z7 x7 y7 z8 x8 y8 z9 x9 y9 z10 x10 y10
        refine (two_div 130 2 112 X Y _ (.inr rfl) (show ofV 130 = (2, 112) by decide) (show kindsV 130 = ([2, 2], 2, true) by decide) (by omega) hlow MX MY).mono ?_
        rintro e w16 ⟨rfl, hb16⟩
        replace hbw := hbw.trans (hb16.mono hbw.size)
        replace hB := hB.below hb16
        clear hb16
        try simp only [asize] at hB
        rw [DuM.out]
        unfold T2
        replace hB := hB.new (2) (Mu) 23
        replace hbw := hbw.alloc hbw.size (.cells #[.int .i64 (2), .int .i64 (Mu)] 23)
        have hB' := hB
        obtain ⟨⟨z0, x0, y0⟩, ⟨z1, x1, y1⟩, ⟨z2, x2, y2⟩, ⟨z3, x3, y3⟩, ⟨z4, x4, y4⟩, ⟨z5, x5, y5⟩, ⟨z6, x6, y6⟩, ⟨z7, x7, y7⟩, ⟨z8, x8, y8⟩, ⟨z9, x9, y9⟩, ⟨z10, x10, y10⟩, ⟨z11, x11, y11⟩, _⟩ := hB'
        go_wp2_with fail
        clear z0 x0 y0 z1 x1 y1 z2 x2 y2 z3 x3 y3 z4 x4 y4 z5 x5 y5 z6 x6 y6 z7 x7 y7 z8 x8 y8 z9 x9 y9 z10 x10 y10 z11 x11 y11
        refine (two_reck 126 2 108 Qu Y _ (.inr rfl) (show ofV 126 = (2, 108) by decide) (show kindsV 126 = ([2, 2], 2, true) by decide) (by unfold Reck; omega) MQu MY).mono ?_
        rintro e w17 ⟨rfl, hb17⟩
        replace hbw := hbw.trans (hb17.mono hbw.size)
        replace hB := hB.below hb17
        clear hb17
        try simp only [asize] at hB
        unfold T2
        rw [DuP.out]
        replace hB := hB.new (2) (Pu) 23
        replace hbw := hbw.alloc hbw.size (.cells #[.int .i64 (2), .int .i64 (Pu)] 23)
        have hB' := hB
        obtain ⟨⟨z0, x0, y0⟩, ⟨z1, x1, y1⟩, ⟨z2, x2, y2⟩, ⟨z3, x3, y3⟩, ⟨z4, x4, y4⟩, ⟨z5, x5, y5⟩, ⟨z6, x6, y6⟩, ⟨z7, x7, y7⟩, ⟨z8, x8, y8⟩, ⟨z9, x9, y9⟩, ⟨z10, x10, y10⟩, ⟨z11, x11, y11⟩, ⟨z12, x12, y12⟩, _⟩ := hB'
        go_wp2_with fail
        clear z0 x0 y0 z1 x1 y1 z2 x2 y2 z3 x3 y3 z4 x4 y4 z5 x5 y5 z6 x6 y6 z7 x7 y7 z8 x8 y8 z9 x9 y9 z10 x10 y10 z11 x11 y11 z12 x12 y12
        refine (two_reck 124 2 106 Pu Mu _ (.inr rfl) (show ofV 124 = (2, 106) by decide) (show kindsV 124 = ([2, 2], 2, true) by decide) (by unfold Reck; omega) MPu MMu).mono ?_
        rintro e w18 ⟨rfl, hb18⟩
        replace hbw := hbw.trans (hb18.mono hbw.size)
        replace hB := hB.below hb18
        clear hb18
        try simp only [asize] at hB
        unfold T2
        rw [DuN.out]
        replace hB := hB.new (2) (X) 23
        replace hbw := hbw.alloc hbw.size (.cells #[.int .i64 (2), .int .i64 (X)] 23)
        have hB' := hB
        obtain ⟨⟨z0, x0, y0⟩, ⟨z1, x1, y1⟩, ⟨z2, x2, y2⟩, ⟨z3, x3, y3⟩, ⟨z4, x4, y4⟩, ⟨z5, x5, y5⟩, ⟨z6, x6, y6⟩, ⟨z7, x7, y7⟩, ⟨z8, x8, y8⟩, ⟨z9, x9, y9⟩, ⟨z10, x10, y10⟩, ⟨z11, x11, y11⟩, ⟨z12, x12, y12⟩, ⟨z13, x13, y13⟩, _⟩ := hB'
        go_wp2_with fail
        clear z0 x0 y0 z1 x1 y1 z2 x2 y2 z3 x3 y3 z4 x4 y4 z5 x5 y5 z6 x6 y6 z7 x7 y7 z8 x8 y8 z9 x9 y9 z10 x10 y10 z11 x11 y11 z12 x12 y12 z13 x13 y13
        refine (eq_yes 2 X _).mono ?_
        rintro e w19 ⟨rfl, hb19⟩
        replace hbw := hbw.trans (hb19.mono hbw.size)
        replace hB := hB.below hb19
        clear hb19
        try simp only [asize] at hB
        have hB' := hB
        obtain ⟨⟨z0, x0, y0⟩, ⟨z1, x1, y1⟩, ⟨z2, x2, y2⟩, ⟨z3, x3, y3⟩, ⟨z4, x4, y4⟩, ⟨z5, x5, y5⟩, ⟨z6, x6, y6⟩, ⟨z7, x7, y7⟩, ⟨z8, x8, y8⟩, ⟨z9, x9, y9⟩, ⟨z10, x10, y10⟩, ⟨z11, x11, y11⟩, ⟨z12, x12, y12⟩, ⟨z13, x13, y13⟩, _⟩ := hB'
        go_wp2_with fail
        rw [rounds_succ]
        have hB' := hB
        obtain ⟨⟨z0, x0, y0⟩, ⟨z1, x1, y1⟩, ⟨z2, x2, y2⟩, ⟨z3, x3, y3⟩, ⟨z4, x4, y4⟩, ⟨z5, x5, y5⟩, ⟨z6, x6, y6⟩, ⟨z7, x7, y7⟩, ⟨z8, x8, y8⟩, ⟨z9, x9, y9⟩, ⟨z10, x10, y10⟩, ⟨z11, x11, y11⟩, ⟨z12, x12, y12⟩, ⟨z13, x13, y13⟩, _⟩ := hB'
        go_wp2_with fail
        go_ret
        exact ⟨rfl, hbw⟩
      · obtain ⟨HO, HP⟩ := over_facts 2 X Y hf
        clear hf rX rY
        go_enter Tryd.func6, Tryd.ntmps6
        go_wp2_with fail
        refine (begun_any w).mono ?_
        rintro e w1 ⟨rfl, hbw⟩
        have hB : Boxes w1 [] := trivial
        go_wp2_with fail
        refine (refwrap_2 a _).mono ?_
        rintro e w2 ⟨rfl, hb2⟩
        replace hbw := hbw.trans (hb2.mono hbw.size)
        replace hB := hB.below hb2
        clear hb2
        rw [HX.out]
        go_wp2_with fail
        refine (refwrap_2 b _).mono ?_
        rintro e w3 ⟨rfl, hb3⟩
        replace hbw := hbw.trans (hb3.mono hbw.size)
        replace hB := hB.below hb3
        clear hb3
        rw [HY.out]
        replace hB := hB.new (2) (X) 23
        replace hbw := hbw.alloc hbw.size (.cells #[.int .i64 (2), .int .i64 (X)] 23)
        replace hB := hB.new (2) (Y) 23
        replace hbw := hbw.alloc hbw.size (.cells #[.int .i64 (2), .int .i64 (Y)] 23)
        have hB' := hB
        obtain ⟨⟨z0, x0, y0⟩, ⟨z1, x1, y1⟩, _⟩ := hB'
        go_wp2_with fail
        clear z0 x0 y0 z1 x1 y1
        refine (two_reck 124 2 106 X Y _ (.inr rfl) (show ofV 124 = (2, 106) by decide) (show kindsV 124 = ([2, 2], 2, true) by decide) (by unfold Reck; omega) MX MY).mono ?_
        rintro e w4 ⟨rfl, hb4⟩
        replace hbw := hbw.trans (hb4.mono hbw.size)
        replace hB := hB.below hb4
        clear hb4
        try simp only [asize] at hB
        unfold T2
        rw [HS.out]
        replace hB := hB.new (2) (S) 23
        replace hbw := hbw.alloc hbw.size (.cells #[.int .i64 (2), .int .i64 (S)] 23)
        have hB' := hB
        obtain ⟨⟨z0, x0, y0⟩, ⟨z1, x1, y1⟩, ⟨z2, x2, y2⟩, _⟩ := hB'
        go_wp2_with fail
        clear z0 x0 y0 z1 x1 y1 z2 x2 y2
        refine (two_reck 125 2 107 S Y _ (.inr rfl) (show ofV 125 = (2, 107) by decide) (show kindsV 125 = ([2, 2], 2, true) by decide) (by unfold Reck; omega) MS MY).mono ?_
        rintro e w5 ⟨rfl, hb5⟩
        replace hbw := hbw.trans (hb5.mono hbw.size)
        replace hB := hB.below hb5
        clear hb5
        try simp only [asize] at hB
        unfold T2
        rw [HSB.out]
        replace hB := hB.new (2) (X) 23
        replace hbw := hbw.alloc hbw.size (.cells #[.int .i64 (2), .int .i64 (X)] 23)
        have hB' := hB
        obtain ⟨⟨z0, x0, y0⟩, ⟨z1, x1, y1⟩, ⟨z2, x2, y2⟩, ⟨z3, x3, y3⟩, _⟩ := hB'
        go_wp2_with fail
        clear z0 x0 y0 z1 x1 y1 z2 x2 y2 z3 x3 y3
        refine (two_reck 137 2 119 X Y _ (.inr rfl) (show ofV 137 = (2, 119) by decide) (show kindsV 137 = ([2, 2], 2, true) by decide) (by unfold Reck; omega) MX MY).mono ?_
        rintro e w6 ⟨rfl, hb6⟩
        replace hbw := hbw.trans (hb6.mono hbw.size)
        replace hB := hB.below hb6
        clear hb6
        try simp only [asize] at hB
        unfold T2
        rw [HL.out]
        replace hB := hB.new (2) (L) 23
        replace hbw := hbw.alloc hbw.size (.cells #[.int .i64 (2), .int .i64 (L)] 23)
        have hB' := hB
        obtain ⟨⟨z0, x0, y0⟩, ⟨z1, x1, y1⟩, ⟨z2, x2, y2⟩, ⟨z3, x3, y3⟩, ⟨z4, x4, y4⟩, _⟩ := hB'
        go_wp2_with fail
        clear z0 x0 y0 z1 x1 y1 z2 x2 y2 z3 x3 y3 z4 x4 y4
        refine (two_reck 138 2 120 L Y _ (.inr rfl) (show ofV 138 = (2, 120) by decide) (show kindsV 138 = ([2, 2], 2, true) by decide) (by unfold Reck; omega) ML MY).mono ?_
        rintro e w7 ⟨rfl, hb7⟩
        replace hbw := hbw.trans (hb7.mono hbw.size)
        replace hB := hB.below hb7
        clear hb7
        try simp only [asize] at hB
        unfold T2
        rw [HLB.out]
        replace hB := hB.new (2) (X) 23
        replace hbw := hbw.alloc hbw.size (.cells #[.int .i64 (2), .int .i64 (X)] 23)
        have hB' := hB
        obtain ⟨⟨z0, x0, y0⟩, ⟨z1, x1, y1⟩, ⟨z2, x2, y2⟩, ⟨z3, x3, y3⟩, ⟨z4, x4, y4⟩, ⟨z5, x5, y5⟩, _⟩ := hB'
        go_wp2_with fail
        clear z0 x0 y0 z1 x1 y1 z2 x2 y2 z3 x3 y3 z4 x4 y4 z5 x5 y5
        refine (eq_yes 2 X _).mono ?_
        rintro e w8 ⟨rfl, hb8⟩
        replace hbw := hbw.trans (hb8.mono hbw.size)
        replace hB := hB.below hb8
        clear hb8
        try simp only [asize] at hB
        have hB' := hB
        obtain ⟨⟨z0, x0, y0⟩, ⟨z1, x1, y1⟩, ⟨z2, x2, y2⟩, ⟨z3, x3, y3⟩, ⟨z4, x4, y4⟩, ⟨z5, x5, y5⟩, _⟩ := hB'
        go_wp2_with fail
        clear z0 x0 y0 z1 x1 y1 z2 x2 y2 z3 x3 y3 z4 x4 y4 z5 x5 y5
        refine (eq_yes 2 X _).mono ?_
        rintro e w9 ⟨rfl, hb9⟩
        replace hbw := hbw.trans (hb9.mono hbw.size)
        replace hB := hB.below hb9
        clear hb9
        try simp only [asize] at hB
        have hB' := hB
        obtain ⟨⟨z0, x0, y0⟩, ⟨z1, x1, y1⟩, ⟨z2, x2, y2⟩, ⟨z3, x3, y3⟩, ⟨z4, x4, y4⟩, ⟨z5, x5, y5⟩, _⟩ := hB'
        go_wp2_with fail
        refine wp_loop_rounds 3 ?_
        rw [rounds_succ]
        have hB' := hB
        obtain ⟨⟨z0, x0, y0⟩, ⟨z1, x1, y1⟩, ⟨z2, x2, y2⟩, ⟨z3, x3, y3⟩, ⟨z4, x4, y4⟩, ⟨z5, x5, y5⟩, _⟩ := hB'
        go_wp2_with fail
        clear z0 x0 y0 z1 x1 y1 z2 x2 y2 z3 x3 y3 z4 x4 y4 z5 x5 y5
        refine (two_div 127 2 109 X Y _ (.inr rfl) (show ofV 127 = (2, 109) by decide) (show kindsV 127 = ([2, 2], 2, true) by decide) (by omega) hlow MX MY).mono ?_
        rintro e w10 ⟨rfl, hb10⟩
        replace hbw := hbw.trans (hb10.mono hbw.size)
        replace hB := hB.below hb10
        clear hb10
        try simp only [asize] at hB
        rw [HO.out]
        unfold T2
        replace hB := hB.new (0) (0) 23
        replace hbw := hbw.alloc hbw.size (.cells #[.int .i64 (0), .int .i64 (0)] 23)
        have hB' := hB
        obtain ⟨⟨z0, x0, y0⟩, ⟨z1, x1, y1⟩, ⟨z2, x2, y2⟩, ⟨z3, x3, y3⟩, ⟨z4, x4, y4⟩, ⟨z5, x5, y5⟩, ⟨z6, x6, y6⟩, _⟩ := hB'
        go_wp2_with fail
        clear z0 x0 y0 z1 x1 y1 z2 x2 y2 z3 x3 y3 z4 x4 y4 z5 x5 y5 z6 x6 y6
        refine (two_div 129 2 111 X Y _ (.inr rfl) (show ofV 129 = (2, 111) by decide) (show kindsV 129 = ([2, 2], 2, true) by decide) (by omega) hlow MX MY).mono ?_
        rintro e w11 ⟨rfl, hb11⟩
        replace hbw := hbw.trans (hb11.mono hbw.size)
        replace hB := hB.below hb11
        clear hb11
        try simp only [asize] at hB
        rw [HP.out]
        unfold T2
        replace hB := hB.new (2) (0) 23
        replace hbw := hbw.alloc hbw.size (.cells #[.int .i64 (2), .int .i64 (0)] 23)
        have hB' := hB
        obtain ⟨⟨z0, x0, y0⟩, ⟨z1, x1, y1⟩, ⟨z2, x2, y2⟩, ⟨z3, x3, y3⟩, ⟨z4, x4, y4⟩, ⟨z5, x5, y5⟩, ⟨z6, x6, y6⟩, ⟨z7, x7, y7⟩, _⟩ := hB'
        go_wp2_with fail
        rw [rounds_succ]
        have hB' := hB
        obtain ⟨⟨z0, x0, y0⟩, ⟨z1, x1, y1⟩, ⟨z2, x2, y2⟩, ⟨z3, x3, y3⟩, ⟨z4, x4, y4⟩, ⟨z5, x5, y5⟩, ⟨z6, x6, y6⟩, ⟨z7, x7, y7⟩, _⟩ := hB'
        go_wp2_with fail
        clear z0 x0 y0 z1 x1 y1 z2 x2 y2 z3 x3 y3 z4 x4 y4 z5 x5 y5 z6 x6 y6 z7 x7 y7
        refine (two_div 128 2 110 X Y _ (.inr rfl) (show ofV 128 = (2, 110) by decide) (show kindsV 128 = ([2, 2], 2, true) by decide) (by omega) hlow MX MY).mono ?_
        rintro e w12 ⟨rfl, hb12⟩
        replace hbw := hbw.trans (hb12.mono hbw.size)
        replace hB := hB.below hb12
        clear hb12
        try simp only [asize] at hB
        rw [DuQ.out]
        unfold T2
        replace hB := hB.new (2) (Qu) 23
        replace hbw := hbw.alloc hbw.size (.cells #[.int .i64 (2), .int .i64 (Qu)] 23)
        have hB' := hB
        obtain ⟨⟨z0, x0, y0⟩, ⟨z1, x1, y1⟩, ⟨z2, x2, y2⟩, ⟨z3, x3, y3⟩, ⟨z4, x4, y4⟩, ⟨z5, x5, y5⟩, ⟨z6, x6, y6⟩, ⟨z7, x7, y7⟩, ⟨z8, x8, y8⟩, _⟩ := hB'
        go_wp2_with fail
        clear z0 x0 y0 z1 x1 y1 z2 x2 y2 z3 x3 y3 z4 x4 y4 z5 x5 y5 z6 x6 y6 z7 x7 y7 z8 x8 y8
        refine (two_div 130 2 112 X Y _ (.inr rfl) (show ofV 130 = (2, 112) by decide) (show kindsV 130 = ([2, 2], 2, true) by decide) (by omega) hlow MX MY).mono ?_
        rintro e w13 ⟨rfl, hb13⟩
        replace hbw := hbw.trans (hb13.mono hbw.size)
        replace hB := hB.below hb13
        clear hb13
        try simp only [asize] at hB
        rw [DuM.out]
        unfold T2
        replace hB := hB.new (2) (Mu) 23
        replace hbw := hbw.alloc hbw.size (.cells #[.int .i64 (2), .int .i64 (Mu)] 23)
        have hB' := hB
        obtain ⟨⟨z0, x0, y0⟩, ⟨z1, x1, y1⟩, ⟨z2, x2, y2⟩, ⟨z3, x3, y3⟩, ⟨z4, x4, y4⟩, ⟨z5, x5, y5⟩, ⟨z6, x6, y6⟩, ⟨z7, x7, y7⟩, ⟨z8, x8, y8⟩, ⟨z9, x9, y9⟩, _⟩ := hB'
        go_wp2_with fail
        clear z0 x0 y0 z1 x1 y1 z2 x2 y2 z3 x3 y3 z4 x4 y4 z5 x5 y5 z6 x6 y6 z7 x7 y7 z8 x8 y8 z9 x9 y9
        refine (two_reck 126 2 108 Qu Y _ (.inr rfl) (show ofV 126 = (2, 108) by decide) (show kindsV 126 = ([2, 2], 2, true) by decide) (by unfold Reck; omega) MQu MY).mono ?_
        rintro e w14 ⟨rfl, hb14⟩
        replace hbw := hbw.trans (hb14.mono hbw.size)
        replace hB := hB.below hb14
        clear hb14
        try simp only [asize] at hB
        unfold T2
        rw [DuP.out]
        replace hB := hB.new (2) (Pu) 23
        replace hbw := hbw.alloc hbw.size (.cells #[.int .i64 (2), .int .i64 (Pu)] 23)
        have hB' := hB
        obtain ⟨⟨z0, x0, y0⟩, ⟨z1, x1, y1⟩, ⟨z2, x2, y2⟩, ⟨z3, x3, y3⟩, ⟨z4, x4, y4⟩, ⟨z5, x5, y5⟩, ⟨z6, x6, y6⟩, ⟨z7, x7, y7⟩, ⟨z8, x8, y8⟩, ⟨z9, x9, y9⟩, ⟨z10, x10, y10⟩, _⟩ := hB'
        go_wp2_with fail
        clear z0 x0 y0 z1 x1 y1 z2 x2 y2 z3 x3 y3 z4 x4 y4 z5 x5 y5 z6 x6 y6 z7 x7 y7 z8 x8 y8 z9 x9 y9 z10 x10 y10
        refine (two_reck 124 2 106 Pu Mu _ (.inr rfl) (show ofV 124 = (2, 106) by decide) (show kindsV 124 = ([2, 2], 2, true) by decide) (by unfold Reck; omega) MPu MMu).mono ?_
        rintro e w15 ⟨rfl, hb15⟩
        replace hbw := hbw.trans (hb15.mono hbw.size)
        replace hB := hB.below hb15
        clear hb15
        try simp only [asize] at hB
        unfold T2
        rw [DuN.out]
        replace hB := hB.new (2) (X) 23
        replace hbw := hbw.alloc hbw.size (.cells #[.int .i64 (2), .int .i64 (X)] 23)
        have hB' := hB
        obtain ⟨⟨z0, x0, y0⟩, ⟨z1, x1, y1⟩, ⟨z2, x2, y2⟩, ⟨z3, x3, y3⟩, ⟨z4, x4, y4⟩, ⟨z5, x5, y5⟩, ⟨z6, x6, y6⟩, ⟨z7, x7, y7⟩, ⟨z8, x8, y8⟩, ⟨z9, x9, y9⟩, ⟨z10, x10, y10⟩, ⟨z11, x11, y11⟩, _⟩ := hB'
        go_wp2_with fail
        clear z0 x0 y0 z1 x1 y1 z2 x2 y2 z3 x3 y3 z4 x4 y4 z5 x5 y5 z6 x6 y6 z7 x7 y7 z8 x8 y8 z9 x9 y9 z10 x10 y10 z11 x11 y11
        refine (eq_yes 2 X _).mono ?_
        rintro e w16 ⟨rfl, hb16⟩
        replace hbw := hbw.trans (hb16.mono hbw.size)
        replace hB := hB.below hb16
        clear hb16
        try simp only [asize] at hB
        have hB' := hB
        obtain ⟨⟨z0, x0, y0⟩, ⟨z1, x1, y1⟩, ⟨z2, x2, y2⟩, ⟨z3, x3, y3⟩, ⟨z4, x4, y4⟩, ⟨z5, x5, y5⟩, ⟨z6, x6, y6⟩, ⟨z7, x7, y7⟩, ⟨z8, x8, y8⟩, ⟨z9, x9, y9⟩, ⟨z10, x10, y10⟩, ⟨z11, x11, y11⟩, _⟩ := hB'
        go_wp2_with fail
        rw [rounds_succ]
        have hB' := hB
        obtain ⟨⟨z0, x0, y0⟩, ⟨z1, x1, y1⟩, ⟨z2, x2, y2⟩, ⟨z3, x3, y3⟩, ⟨z4, x4, y4⟩, ⟨z5, x5, y5⟩, ⟨z6, x6, y6⟩, ⟨z7, x7, y7⟩, ⟨z8, x8, y8⟩, ⟨z9, x9, y9⟩, ⟨z10, x10, y10⟩, ⟨z11, x11, y11⟩, _⟩ := hB'
        go_wp2_with fail
        go_ret
        exact ⟨rfl, hbw⟩

end Go.Proofs.YtdcpbjpghgbbiaaDoor
