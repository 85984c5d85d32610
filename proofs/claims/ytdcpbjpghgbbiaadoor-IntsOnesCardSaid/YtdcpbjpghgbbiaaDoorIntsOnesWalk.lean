/- The walk of IntsOnes: it returns true and writes nothing that was there. No condition but the kinds' own ranges and the laid table. Printed by gen_laws2.py. -/
import Derived.Test.YtdcpbjpghgbbiaaDoorIntsBegun
import Derived.Test.YtdcpbjpghgbbiaaDoorIntsBitMath
import Derived.BigQuiet
namespace Go.Proofs.YtdcpbjpghgbbiaaDoor
open Go.RowKit
set_option linter.unusedVariables false
set_option maxHeartbeats 4000000
set_option maxRecDepth 100000

theorem eq_yes (k n : Int) (w : World) : Calls Tryd.prog 23 #[.agg #[.int .i64 k, .int .i64 n], .agg #[.int .i64 k, .int .i64 n]] w fun e w' => e = .returned (.bool true) ∧ Below w.heap.size w w' :=
  (eq_any k n k n w).mono fun _ _ h => ⟨h.1.trans (by simp), h.2⟩
theorem may_2 (n : Int) : Hid (mayB (2, n) = true) := rfl
theorem s32_range (n : Int) : -2147483648 ≤ s32 n ∧ s32 n ≤ 2147483647 := by
  unfold s32
  simp [IntKind.wrap, IntKind.bits, IntKind.signed]
  constructor <;> (split <;> omega)
theorem may_1 (n : Int) (h1 : -2147483648 ≤ n) (h2 : n ≤ 2147483647) : Hid (mayB (1, n) = true) := by
  show mayB (1, n) = true
  simp [mayB, h1, h2]
theorem s32_id (n : Int) (h1 : -2147483648 ≤ n) (h2 : n ≤ 2147483647) : s32 n = n := by
  unfold s32
  simp [IntKind.wrap, IntKind.bits, IntKind.signed]
  split <;> omega
theorem asize (w : World) (o : Obj) : (w.alloc o).heap.size = w.heap.size + 1 := by simp
theorem wk_small (k m : Int) (hk : k = 1 ∨ k = 2) (h : 0 ≤ m ∧ m ≤ 64) : wk k m = m := by
  rcases hk with rfl | rfl
  · exact s32_id m (by omega) (by omega)
  · rfl
theorem low_n (k X : Int) (hk : k = 1 ∨ k = 2) : low (k, X) < 2 ^ (32 * k.toNat) ∧ 0 ≤ low (k, X) := by
  rcases hk with rfl | rfl
  · have e : low (1, X) = X % 4294967296 := rfl
    rw [e]; constructor
    · exact Int.emod_lt_of_pos _ (by decide)
    · exact Int.emod_nonneg _ (by decide)
  · have e : low (2, X) = X % 18446744073709551616 := rfl
    rw [e]; constructor
    · exact Int.emod_lt_of_pos _ (by decide)
    · exact Int.emod_nonneg _ (by decide)
theorem compl_1 (a : Int) : low (1, wk 1 (-a - 1)) = 4294967295 - low (1, wk 1 a) := by
  have e : ∀ X, low (1, X) = X % 4294967296 := fun _ => rfl
  rw [e, e]
  show s32 _ % 4294967296 = 4294967295 - s32 _ % 4294967296
  unfold s32
  simp [IntKind.wrap, IntKind.bits, IntKind.signed]
  omega
theorem compl_2 (a : Int) : low (2, wk 2 (-a - 1)) = 18446744073709551615 - low (2, wk 2 a) := by
  have e : ∀ X, low (2, X) = X % 18446744073709551616 := fun _ => rfl
  rw [e, e]
  show (-a - 1) % 18446744073709551616 = 18446744073709551615 - a % 18446744073709551616
  omega
/-- What the counts are, of a number below 2^n. -/
theorem counts (u n : Nat) (hn : n = 32 ∨ n = 64) (h : u < 2 ^ n) :
    0 ≤ (Lib.onesCount u : Int) ∧ (Lib.onesCount u : Int) ≤ 64 ∧ wrap64 (wrap64 (64 - (Lib.bitLen u : Int) - 64) + n) = (n : Int) - Lib.bitLen u ∧ 0 ≤ (n : Int) - Lib.bitLen u ∧ (n : Int) - Lib.bitLen u ≤ 64 ∧ 0 ≤ min (Lib.ctz 64 u : Int) n ∧ min (Lib.ctz 64 u : Int) n ≤ 64 := by
  have a1 := ones_le u n (by omega) h
  have a2 := len_le u n (by omega) h
  refine ⟨by omega, by omega, by unfold wrap64; omega, by omega, by omega, by omega, by omega⟩
theorem ones_facts (k X Y : Int) (n : Nat) (hk : k = 1 ∨ k = 2) (hn : (n : Int) = 32 * k) (hc : low (k, Y) = 2 ^ n - 1 - low (k, X)) (h0 : X = 0 ↔ low (k, X) = 0) :
    ∃ P Q L T : Int, Hid (wk k (Lib.onesCount (low (k, X)).toNat : Int) = P) ∧ Hid (wk k (Lib.onesCount (low (k, Y)).toNat : Int) = Q) ∧ Hid (wk k (wrap64 (wrap64 (64 - (Lib.bitLen (low (k, X)).toNat : Int) - 64) + 32 * k)) = L) ∧ Hid (wk k (min (Lib.ctz 64 (low (k, X)).toNat : Int) (32 * k)) = T) ∧
      P + Q = n ∧ (0 ≤ P ∧ P ≤ 64) ∧ (0 ≤ Q ∧ Q ≤ 64) ∧ 0 ≤ L ∧ L ≤ n ∧ 0 ≤ T ∧ T ≤ n ∧ (X = 0 → L = n ∧ T = n) ∧ (¬ X = 0 → ¬ L = n ∧ ¬ T = n ∧ L + T + P ≤ n) := by
  have hn' : n = 32 ∨ n = 64 := by omega
  have hkn : 32 * k.toNat = n := by omega
  obtain ⟨b1, b2⟩ := low_n k X hk
  obtain ⟨b3, b4⟩ := low_n k Y hk
  rw [hkn] at b1 b3
  have hpow : ((2 ^ n : Nat) : Int) = 2 ^ n := by simp
  generalize low (k, X) = U at *
  generalize low (k, Y) = V at *
  obtain ⟨u, rfl⟩ := Int.eq_ofNat_of_zero_le b2
  obtain ⟨v, rfl⟩ := Int.eq_ofNat_of_zero_le b4
  rw [← hpow] at b1 b3 hc
  have hu : u < 2 ^ n := by omega
  have hv : v = 2 ^ n - 1 - u := by omega
  obtain ⟨c1, c2, c3, c4, c5, c6, c7⟩ := counts u n hn' hu
  obtain ⟨g1, g2, _⟩ := counts v n hn' (by omega)
  have hs := ones_compl n u (by omega) hu
  rw [← hv] at hs
  have hl := len_le u n (by omega) hu
  simp only [Int.toNat_natCast]
  rw [← hn]
  refine ⟨Lib.onesCount u, Lib.onesCount v, n - Lib.bitLen u, min (Lib.ctz 64 u) n, wk_small k _ hk ⟨c1, c2⟩, wk_small k _ hk ⟨g1, g2⟩, ?_, wk_small k _ hk ⟨c6, c7⟩, by omega, ⟨c1, c2⟩, ⟨g1, g2⟩, c4, by omega, c6, by omega, fun hX => ?_, fun hX => ?_⟩
  · show wk k _ = _
    rw [c3]
    exact wk_small k _ hk ⟨c4, c5⟩
  · have : u = 0 := by have := h0.1 hX; omega
    subst this
    rw [len_zero, ctz_zero]
    omega
  · have hu0 : ¬ u = 0 := fun e => hX (h0.2 (by omega))
    have p1 := len_pos u (Nat.lt_of_lt_of_le hu (Nat.pow_le_pow_right (by decide) (by omega))) hu0
    have p2 := ctz_lt u n (by omega) hu0 hu
    have p3 := all_three u n (by omega) hu0 hu
    omega
theorem ones_facts_1 (a X Y : Int) (ha : -9223372036854775808 ≤ a ∧ a ≤ 9223372036854775807) (hX : X = wk 1 a) (hY : Y = wk 1 (-a - 1)) :
    ∃ P Q L T : Int, Hid (wk 1 (Lib.onesCount (low (1, X)).toNat : Int) = P) ∧ Hid (wk 1 (Lib.onesCount (low (1, Y)).toNat : Int) = Q) ∧ Hid (wk 1 (wrap64 (wrap64 (64 - (Lib.bitLen (low (1, X)).toNat : Int) - 64) + 32 * 1)) = L) ∧ Hid (wk 1 (min (Lib.ctz 64 (low (1, X)).toNat : Int) (32 * 1)) = T) ∧
      P + Q = 32 ∧ (0 ≤ P ∧ P ≤ 64) ∧ (0 ≤ Q ∧ Q ≤ 64) ∧ 0 ≤ L ∧ L ≤ 32 ∧ 0 ≤ T ∧ T ≤ 32 ∧ Hid (mayB (1, X) = true) ∧ Hid (mayB (1, Y) = true) ∧ (X = 0 → L = 32 ∧ T = 32) ∧ (¬ X = 0 → ¬ L = 32 ∧ ¬ T = 32 ∧ L + T + P ≤ 32) := by
  have rX : -2147483648 ≤ X ∧ X ≤ 2147483647 := by rw [hX]; exact s32_range a
  have rY : -2147483648 ≤ Y ∧ Y ≤ 2147483647 := by rw [hY]; exact s32_range _
  have hc : low (1, Y) = 2 ^ 32 - 1 - low (1, X) := by rw [hX, hY, compl_1]; rfl
  have h0 : X = 0 ↔ low (1, X) = 0 := by
    have e : low (1, X) = X % 4294967296 := rfl
    rw [e]; omega
  obtain ⟨P, Q, L, T, h1, h2, h3, h4, h5, h6, h7, h8, h9, h10, h11, h12, h13⟩ := ones_facts 1 X Y 32 (.inl rfl) (by decide) hc h0
  exact ⟨P, Q, L, T, h1, h2, h3, h4, h5, h6, h7, h8, h9, h10, h11, may_1 X rX.1 rX.2, may_1 Y rY.1 rY.2, h12, h13⟩
theorem ones_facts_2 (a X Y : Int) (ha : -9223372036854775808 ≤ a ∧ a ≤ 9223372036854775807) (hX : X = wk 2 a) (hY : Y = wk 2 (-a - 1)) :
    ∃ P Q L T : Int, Hid (wk 2 (Lib.onesCount (low (2, X)).toNat : Int) = P) ∧ Hid (wk 2 (Lib.onesCount (low (2, Y)).toNat : Int) = Q) ∧ Hid (wk 2 (wrap64 (wrap64 (64 - (Lib.bitLen (low (2, X)).toNat : Int) - 64) + 32 * 2)) = L) ∧ Hid (wk 2 (min (Lib.ctz 64 (low (2, X)).toNat : Int) (32 * 2)) = T) ∧
      P + Q = 64 ∧ (0 ≤ P ∧ P ≤ 64) ∧ (0 ≤ Q ∧ Q ≤ 64) ∧ 0 ≤ L ∧ L ≤ 64 ∧ 0 ≤ T ∧ T ≤ 64 ∧ Hid (mayB (2, X) = true) ∧ Hid (mayB (2, Y) = true) ∧ (X = 0 → L = 64 ∧ T = 64) ∧ (¬ X = 0 → ¬ L = 64 ∧ ¬ T = 64 ∧ L + T + P ≤ 64) := by
  have rX : -9223372036854775808 ≤ X ∧ X ≤ 9223372036854775807 := by rw [hX]; exact ha
  have rY : -9223372036854775808 ≤ Y ∧ Y ≤ 9223372036854775807 := by rw [hY, show wk 2 (-a - 1) = -a - 1 from rfl]; omega
  have hc : low (2, Y) = 2 ^ 64 - 1 - low (2, X) := by rw [hX, hY, compl_2]; rfl
  have h0 : X = 0 ↔ low (2, X) = 0 := by
    have e : low (2, X) = X % 18446744073709551616 := rfl
    rw [e]; omega
  obtain ⟨P, Q, L, T, h1, h2, h3, h4, h5, h6, h7, h8, h9, h10, h11, h12, h13⟩ := ones_facts 2 X Y 64 (.inr rfl) (by decide) hc h0
  exact ⟨P, Q, L, T, h1, h2, h3, h4, h5, h6, h7, h8, h9, h10, h11, may_2 X, may_2 Y, h12, h13⟩
theorem not_i64 (a : Int) (h : -9223372036854775808 ≤ a ∧ a ≤ 9223372036854775807) : bits .xor .i64 (-1) a = -a - 1 := by
  have e : (BitVec.ofInt 64 (-1) ^^^ BitVec.ofInt 64 a).toNat = (18446744073709551615 - a % 18446744073709551616).toNat := by
    have e1 : BitVec.ofInt 64 (-1) = BitVec.allOnes 64 := by decide
    rw [e1, BitVec.allOnes_xor, BitVec.toNat_not, BitVec.toNat_ofInt]
    have : ((2 ^ 64 : Nat) : Int) = 18446744073709551616 := by decide
    rw [this]
    omega
  show IntKind.i64.wrap ((BitVec.ofInt 64 (-1) ^^^ BitVec.ofInt 64 a).toNat : Int) = _
  rw [e]
  simp [IntKind.wrap, IntKind.bits, IntKind.signed]
  omega
theorem intsOnes_walk (a : Int) (wide : Bool) (w0 : (Lit.int .i64 a).wf = true) (w : World) (htab : TabAt 0 Lib.deBruijn64tab w) :
    Calls Tryd.prog 10 #[.int .i64 a, .bool wide] w fun e w' => e = .returned (.bool true) ∧ Below w.heap.size w w' := by
  cases wide
  · obtain ⟨X, hX⟩ : ∃ X, X = wk 1 a := ⟨_, rfl⟩
    obtain ⟨Y, hY⟩ : ∃ Y, Y = wk 1 (-a - 1) := ⟨_, rfl⟩
    obtain ⟨P, Q, L, T, HP, HQ, HL, HT, hs, ⟨p0, p1⟩, ⟨q0, q1⟩, l0, l1, t0, t1, MX, MY, fz, fn⟩ := ones_facts_1 a X Y (bounds_i64 w0) hX hY
    have HX := Lib.hid hX.symm
    have HY := Lib.hid hY.symm
    clear hX hY
    have hw : wrap64 (P + Q) = 32 := by rw [hs]; unfold wrap64; omega
    have g1 : decide (0 ≤ L) = true := decide_eq_true l0
    have g2 : decide (L ≤ 32) = true := decide_eq_true l1
    have g3 : decide (0 ≤ T) = true := decide_eq_true t0
    have g4 : decide (T ≤ 32) = true := decide_eq_true t1
    by_cases h0 : X = 0
    · obtain ⟨z1, z2⟩ := fz h0
      have HZ : Hid (b2i ((0 : Int) == 0) = 1) := by show b2i ((0 : Int) == 0) = 1; rfl
      clear fz fn g1 g2 g3 g4 hs l0 l1 t0 t1 p0 p1 q0 q1
      subst z1 z2 h0
      go_enter Tryd.func10, Tryd.ntmps10
      go_wp2_with fail
      refine (begun_any w).mono ?_
      rintro e w1 ⟨rfl, hbw⟩
      have hB : Boxes w1 [] := trivial
      have hsig : IntKind.i64.signed = true := rfl
      have hnot := not_i64 a (bounds_i64 w0)
      go_wp2_with fail
      refine (refwrap_1 a _).mono ?_
      rintro e w2 ⟨rfl, hb2⟩
      replace hbw := hbw.trans (hb2.mono hbw.size)
      replace hB := hB.below hb2
      clear hb2
      rw [HX.out]
      go_wp2_with fail
      refine (refwrap_1 (-a - 1) _).mono ?_
      rintro e w3 ⟨rfl, hb3⟩
      replace hbw := hbw.trans (hb3.mono hbw.size)
      replace hB := hB.below hb3
      clear hb3
      rw [HY.out]
      clear hnot w0
      replace hB := hB.new (1) (0) 23
      replace hbw := hbw.alloc hbw.size (.cells #[.int .i64 (1), .int .i64 (0)] 23)
      replace hB := hB.new (1) (Y) 23
      replace hbw := hbw.alloc hbw.size (.cells #[.int .i64 (1), .int .i64 (Y)] 23)
      have hB' := hB
      obtain ⟨⟨z0, x0, y0⟩, ⟨z1, x1, y1⟩, _⟩ := hB'
      go_wp2_with fail
      clear z0 x0 y0 z1 x1 y1
      refine (one_pop 105 1 0 _ (.inl rfl) rfl rfl rfl (show ofV 105 = (1, 105) by decide) (show kindsV 105 = ([1], 1, true) by decide) MX).mono ?_
      rintro e w4 ⟨rfl, hb4⟩
      replace hbw := hbw.trans (hb4.mono hbw.size)
      replace hB := hB.below hb4
      clear hb4
      try simp only [asize] at hB
      unfold T1
      rw [HP.out]
      replace hB := hB.new (1) (P) 23
      replace hbw := hbw.alloc hbw.size (.cells #[.int .i64 (1), .int .i64 (P)] 23)
      have hB' := hB
      obtain ⟨⟨z0, x0, y0⟩, ⟨z1, x1, y1⟩, ⟨z2, x2, y2⟩, _⟩ := hB'
      go_wp2_with fail
      clear z0 x0 y0 z1 x1 y1 z2 x2 y2
      refine (one_pop 105 1 Y _ (.inl rfl) rfl rfl rfl (show ofV 105 = (1, 105) by decide) (show kindsV 105 = ([1], 1, true) by decide) MY).mono ?_
      rintro e w5 ⟨rfl, hb5⟩
      replace hbw := hbw.trans (hb5.mono hbw.size)
      replace hB := hB.below hb5
      clear hb5
      try simp only [asize] at hB
      unfold T1
      rw [HQ.out]
      replace hB := hB.new (1) (Q) 23
      replace hbw := hbw.alloc hbw.size (.cells #[.int .i64 (1), .int .i64 (Q)] 23)
      have hB' := hB
      obtain ⟨⟨z0, x0, y0⟩, ⟨z1, x1, y1⟩, ⟨z2, x2, y2⟩, ⟨z3, x3, y3⟩, _⟩ := hB'
      go_wp2_with fail
      clear z0 x0 y0 z1 x1 y1 z2 x2 y2 z3 x3 y3
      refine (one_clz 103 1 0 _ (.inl rfl) rfl rfl rfl (show ofV 103 = (1, 103) by decide) (show kindsV 103 = ([1], 1, true) by decide) MX).mono ?_
      rintro e w6 ⟨rfl, hb6⟩
      replace hbw := hbw.trans (hb6.mono hbw.size)
      replace hB := hB.below hb6
      clear hb6
      try simp only [asize] at hB
      unfold T1
      rw [HL.out]
      replace hB := hB.new (1) (32) 23
      replace hbw := hbw.alloc hbw.size (.cells #[.int .i64 (1), .int .i64 (32)] 23)
      have hB' := hB
      obtain ⟨⟨z0, x0, y0⟩, ⟨z1, x1, y1⟩, ⟨z2, x2, y2⟩, ⟨z3, x3, y3⟩, ⟨z4, x4, y4⟩, _⟩ := hB'
      go_wp2_with fail
      clear z0 x0 y0 z1 x1 y1 z2 x2 y2 z3 x3 y3 z4 x4 y4
      refine (one_ctz 104 1 0 _ (.inl rfl) rfl rfl rfl (show ofV 104 = (1, 104) by decide) (show kindsV 104 = ([1], 1, true) by decide) MX (tab_up htab hbw (tab_size htab))).mono ?_
      rintro e w7 ⟨rfl, hb7⟩
      replace hbw := hbw.trans (hb7.mono hbw.size)
      replace hB := hB.below hb7
      clear hb7
      try simp only [asize] at hB
      unfold T1
      rw [HT.out]
      replace hB := hB.new (1) (32) 23
      replace hbw := hbw.alloc hbw.size (.cells #[.int .i64 (1), .int .i64 (32)] 23)
      have hB' := hB
      obtain ⟨⟨z0, x0, y0⟩, ⟨z1, x1, y1⟩, ⟨z2, x2, y2⟩, ⟨z3, x3, y3⟩, ⟨z4, x4, y4⟩, ⟨z5, x5, y5⟩, _⟩ := hB'
      go_wp2_with fail
      clear z0 x0 y0 z1 x1 y1 z2 x2 y2 z3 x3 y3 z4 x4 y4 z5 x5 y5
      refine (one_eqz 69 1 0 _ (.inl rfl) rfl rfl rfl (show ofV 69 = (1, 69) by decide) (show kindsV 69 = ([1], 1, true) by decide) MX).mono ?_
      rintro e w8 ⟨rfl, hb8⟩
      replace hbw := hbw.trans (hb8.mono hbw.size)
      replace hB := hB.below hb8
      clear hb8
      try simp only [asize] at hB
      unfold T1
      rw [HZ.out]
      replace hB := hB.new (1) (1) 23
      replace hbw := hbw.alloc hbw.size (.cells #[.int .i64 (1), .int .i64 (1)] 23)
      have hB' := hB
      obtain ⟨⟨z0, x0, y0⟩, ⟨z1, x1, y1⟩, ⟨z2, x2, y2⟩, ⟨z3, x3, y3⟩, ⟨z4, x4, y4⟩, ⟨z5, x5, y5⟩, ⟨z6, x6, y6⟩, _⟩ := hB'
      go_wp2_with fail
      trace_state
      go_ret
      exact ⟨rfl, hbw⟩
    · obtain ⟨z1, z2, z3⟩ := fn h0
      have d0 : (X == 0) = false := beq_eq_false_iff_ne.2 h0
      have HZ : Hid (b2i (X == 0) = 0) := by show b2i (X == 0) = 0; rw [d0]; rfl
      have y1 : (L == 32) = false := beq_eq_false_iff_ne.2 z1
      have y2 : (T == 32) = false := beq_eq_false_iff_ne.2 z2
      have u1 : wrap64 (L + T) = L + T := by unfold wrap64; omega
      have u2 : wrap64 (L + T + P) = L + T + P := by unfold wrap64; omega
      have u3 : decide (L + T + P ≤ 32) = true := decide_eq_true z3
      have u4 : decide (X = 0) = false := decide_eq_false h0
      have u5 : decide (L = 32) = false := decide_eq_false z1
      have u6 : decide (T = 32) = false := decide_eq_false z2
      clear fz fn hs l0 l1 t0 t1 p0 p1 q0 q1 z3
      go_enter Tryd.func10, Tryd.ntmps10
      go_wp2_with fail
      refine (begun_any w).mono ?_
      rintro e w1 ⟨rfl, hbw⟩
      have hB : Boxes w1 [] := trivial
      have hsig : IntKind.i64.signed = true := rfl
      have hnot := not_i64 a (bounds_i64 w0)
      go_wp2_with fail
      refine (refwrap_1 a _).mono ?_
      rintro e w2 ⟨rfl, hb2⟩
      replace hbw := hbw.trans (hb2.mono hbw.size)
      replace hB := hB.below hb2
      clear hb2
      rw [HX.out]
      go_wp2_with fail
      refine (refwrap_1 (-a - 1) _).mono ?_
      rintro e w3 ⟨rfl, hb3⟩
      replace hbw := hbw.trans (hb3.mono hbw.size)
      replace hB := hB.below hb3
      clear hb3
      rw [HY.out]
      clear hnot w0
      replace hB := hB.new (1) (X) 23
      replace hbw := hbw.alloc hbw.size (.cells #[.int .i64 (1), .int .i64 (X)] 23)
      replace hB := hB.new (1) (Y) 23
      replace hbw := hbw.alloc hbw.size (.cells #[.int .i64 (1), .int .i64 (Y)] 23)
      have hB' := hB
      obtain ⟨⟨z0, x0, y0⟩, ⟨z1, x1, y1⟩, _⟩ := hB'
      go_wp2_with fail
      clear z0 x0 y0 z1 x1 y1
      refine (one_pop 105 1 X _ (.inl rfl) rfl rfl rfl (show ofV 105 = (1, 105) by decide) (show kindsV 105 = ([1], 1, true) by decide) MX).mono ?_
      rintro e w4 ⟨rfl, hb4⟩
      replace hbw := hbw.trans (hb4.mono hbw.size)
      replace hB := hB.below hb4
      clear hb4
      try simp only [asize] at hB
      unfold T1
      rw [HP.out]
      replace hB := hB.new (1) (P) 23
      replace hbw := hbw.alloc hbw.size (.cells #[.int .i64 (1), .int .i64 (P)] 23)
      have hB' := hB
      obtain ⟨⟨z0, x0, y0⟩, ⟨z1, x1, y1⟩, ⟨z2, x2, y2⟩, _⟩ := hB'
      go_wp2_with fail
      clear z0 x0 y0 z1 x1 y1 z2 x2 y2
      refine (one_pop 105 1 Y _ (.inl rfl) rfl rfl rfl (show ofV 105 = (1, 105) by decide) (show kindsV 105 = ([1], 1, true) by decide) MY).mono ?_
      rintro e w5 ⟨rfl, hb5⟩
      replace hbw := hbw.trans (hb5.mono hbw.size)
      replace hB := hB.below hb5
      clear hb5
      try simp only [asize] at hB
      unfold T1
      rw [HQ.out]
      replace hB := hB.new (1) (Q) 23
      replace hbw := hbw.alloc hbw.size (.cells #[.int .i64 (1), .int .i64 (Q)] 23)
      have hB' := hB
      obtain ⟨⟨z0, x0, y0⟩, ⟨z1, x1, y1⟩, ⟨z2, x2, y2⟩, ⟨z3, x3, y3⟩, _⟩ := hB'
      go_wp2_with fail
      clear z0 x0 y0 z1 x1 y1 z2 x2 y2 z3 x3 y3
      refine (one_clz 103 1 X _ (.inl rfl) rfl rfl rfl (show ofV 103 = (1, 103) by decide) (show kindsV 103 = ([1], 1, true) by decide) MX).mono ?_
      rintro e w6 ⟨rfl, hb6⟩
      replace hbw := hbw.trans (hb6.mono hbw.size)
      replace hB := hB.below hb6
      clear hb6
      try simp only [asize] at hB
      unfold T1
      rw [HL.out]
      replace hB := hB.new (1) (L) 23
      replace hbw := hbw.alloc hbw.size (.cells #[.int .i64 (1), .int .i64 (L)] 23)
      have hB' := hB
      obtain ⟨⟨z0, x0, y0⟩, ⟨z1, x1, y1⟩, ⟨z2, x2, y2⟩, ⟨z3, x3, y3⟩, ⟨z4, x4, y4⟩, _⟩ := hB'
      go_wp2_with fail
      clear z0 x0 y0 z1 x1 y1 z2 x2 y2 z3 x3 y3 z4 x4 y4
      refine (one_ctz 104 1 X _ (.inl rfl) rfl rfl rfl (show ofV 104 = (1, 104) by decide) (show kindsV 104 = ([1], 1, true) by decide) MX (tab_up htab hbw (tab_size htab))).mono ?_
      rintro e w7 ⟨rfl, hb7⟩
      replace hbw := hbw.trans (hb7.mono hbw.size)
      replace hB := hB.below hb7
      clear hb7
      try simp only [asize] at hB
      unfold T1
      rw [HT.out]
      replace hB := hB.new (1) (T) 23
      replace hbw := hbw.alloc hbw.size (.cells #[.int .i64 (1), .int .i64 (T)] 23)
      have hB' := hB
      obtain ⟨⟨z0, x0, y0⟩, ⟨z1, x1, y1⟩, ⟨z2, x2, y2⟩, ⟨z3, x3, y3⟩, ⟨z4, x4, y4⟩, ⟨z5, x5, y5⟩, _⟩ := hB'
      go_wp2_with fail
      clear z0 x0 y0 z1 x1 y1 z2 x2 y2 z3 x3 y3 z4 x4 y4 z5 x5 y5
      refine (one_eqz 69 1 X _ (.inl rfl) rfl rfl rfl (show ofV 69 = (1, 69) by decide) (show kindsV 69 = ([1], 1, true) by decide) MX).mono ?_
      rintro e w8 ⟨rfl, hb8⟩
      replace hbw := hbw.trans (hb8.mono hbw.size)
      replace hB := hB.below hb8
      clear hb8
      try simp only [asize] at hB
      unfold T1
      rw [HZ.out]
      replace hB := hB.new (1) (0) 23
      replace hbw := hbw.alloc hbw.size (.cells #[.int .i64 (1), .int .i64 (0)] 23)
      have hB' := hB
      obtain ⟨⟨z0, x0, y0⟩, ⟨z1, x1, y1⟩, ⟨z2, x2, y2⟩, ⟨z3, x3, y3⟩, ⟨z4, x4, y4⟩, ⟨z5, x5, y5⟩, ⟨z6, x6, y6⟩, _⟩ := hB'
      go_wp2_with fail
      trace_state
      go_ret
      exact ⟨rfl, hbw⟩
  · obtain ⟨X, hX⟩ : ∃ X, X = wk 2 a := ⟨_, rfl⟩
    obtain ⟨Y, hY⟩ : ∃ Y, Y = wk 2 (-a - 1) := ⟨_, rfl⟩
    obtain ⟨P, Q, L, T, HP, HQ, HL, HT, hs, ⟨p0, p1⟩, ⟨q0, q1⟩, l0, l1, t0, t1, MX, MY, fz, fn⟩ := ones_facts_2 a X Y (bounds_i64 w0) hX hY
    have HX := Lib.hid hX.symm
    have HY := Lib.hid hY.symm
    clear hX hY
    have hw : wrap64 (P + Q) = 64 := by rw [hs]; unfold wrap64; omega
    have g1 : decide (0 ≤ L) = true := decide_eq_true l0
    have g2 : decide (L ≤ 64) = true := decide_eq_true l1
    have g3 : decide (0 ≤ T) = true := decide_eq_true t0
    have g4 : decide (T ≤ 64) = true := decide_eq_true t1
    by_cases h0 : X = 0
    · obtain ⟨z1, z2⟩ := fz h0
      have HZ : Hid (b2i ((0 : Int) == 0) = 1) := by show b2i ((0 : Int) == 0) = 1; rfl
      clear fz fn g1 g2 g3 g4 hs l0 l1 t0 t1 p0 p1 q0 q1
      subst z1 z2 h0
      go_enter Tryd.func10, Tryd.ntmps10
      go_wp2_with fail
      refine (begun_any w).mono ?_
      rintro e w1 ⟨rfl, hbw⟩
      have hB : Boxes w1 [] := trivial
      have hsig : IntKind.i64.signed = true := rfl
      have hnot := not_i64 a (bounds_i64 w0)
      go_wp2_with fail
      refine (refwrap_2 a _).mono ?_
      rintro e w2 ⟨rfl, hb2⟩
      replace hbw := hbw.trans (hb2.mono hbw.size)
      replace hB := hB.below hb2
      clear hb2
      rw [HX.out]
      go_wp2_with fail
      refine (refwrap_2 (-a - 1) _).mono ?_
      rintro e w3 ⟨rfl, hb3⟩
      replace hbw := hbw.trans (hb3.mono hbw.size)
      replace hB := hB.below hb3
      clear hb3
      rw [HY.out]
      clear hnot w0
      replace hB := hB.new (2) (0) 23
      replace hbw := hbw.alloc hbw.size (.cells #[.int .i64 (2), .int .i64 (0)] 23)
      replace hB := hB.new (2) (Y) 23
      replace hbw := hbw.alloc hbw.size (.cells #[.int .i64 (2), .int .i64 (Y)] 23)
      have hB' := hB
      obtain ⟨⟨z0, x0, y0⟩, ⟨z1, x1, y1⟩, _⟩ := hB'
      go_wp2_with fail
      clear z0 x0 y0 z1 x1 y1
      refine (one_pop 123 2 0 _ (.inr rfl) rfl rfl rfl (show ofV 123 = (2, 105) by decide) (show kindsV 123 = ([2], 2, true) by decide) MX).mono ?_
      rintro e w4 ⟨rfl, hb4⟩
      replace hbw := hbw.trans (hb4.mono hbw.size)
      replace hB := hB.below hb4
      clear hb4
      try simp only [asize] at hB
      unfold T1
      rw [HP.out]
      replace hB := hB.new (2) (P) 23
      replace hbw := hbw.alloc hbw.size (.cells #[.int .i64 (2), .int .i64 (P)] 23)
      have hB' := hB
      obtain ⟨⟨z0, x0, y0⟩, ⟨z1, x1, y1⟩, ⟨z2, x2, y2⟩, _⟩ := hB'
      go_wp2_with fail
      clear z0 x0 y0 z1 x1 y1 z2 x2 y2
      refine (one_pop 123 2 Y _ (.inr rfl) rfl rfl rfl (show ofV 123 = (2, 105) by decide) (show kindsV 123 = ([2], 2, true) by decide) MY).mono ?_
      rintro e w5 ⟨rfl, hb5⟩
      replace hbw := hbw.trans (hb5.mono hbw.size)
      replace hB := hB.below hb5
      clear hb5
      try simp only [asize] at hB
      unfold T1
      rw [HQ.out]
      replace hB := hB.new (2) (Q) 23
      replace hbw := hbw.alloc hbw.size (.cells #[.int .i64 (2), .int .i64 (Q)] 23)
      have hB' := hB
      obtain ⟨⟨z0, x0, y0⟩, ⟨z1, x1, y1⟩, ⟨z2, x2, y2⟩, ⟨z3, x3, y3⟩, _⟩ := hB'
      go_wp2_with fail
      clear z0 x0 y0 z1 x1 y1 z2 x2 y2 z3 x3 y3
      refine (one_clz 121 2 0 _ (.inr rfl) rfl rfl rfl (show ofV 121 = (2, 103) by decide) (show kindsV 121 = ([2], 2, true) by decide) MX).mono ?_
      rintro e w6 ⟨rfl, hb6⟩
      replace hbw := hbw.trans (hb6.mono hbw.size)
      replace hB := hB.below hb6
      clear hb6
      try simp only [asize] at hB
      unfold T1
      rw [HL.out]
      replace hB := hB.new (2) (64) 23
      replace hbw := hbw.alloc hbw.size (.cells #[.int .i64 (2), .int .i64 (64)] 23)
      have hB' := hB
      obtain ⟨⟨z0, x0, y0⟩, ⟨z1, x1, y1⟩, ⟨z2, x2, y2⟩, ⟨z3, x3, y3⟩, ⟨z4, x4, y4⟩, _⟩ := hB'
      go_wp2_with fail
      clear z0 x0 y0 z1 x1 y1 z2 x2 y2 z3 x3 y3 z4 x4 y4
      refine (one_ctz 122 2 0 _ (.inr rfl) rfl rfl rfl (show ofV 122 = (2, 104) by decide) (show kindsV 122 = ([2], 2, true) by decide) MX (tab_up htab hbw (tab_size htab))).mono ?_
      rintro e w7 ⟨rfl, hb7⟩
      replace hbw := hbw.trans (hb7.mono hbw.size)
      replace hB := hB.below hb7
      clear hb7
      try simp only [asize] at hB
      unfold T1
      rw [HT.out]
      replace hB := hB.new (2) (64) 23
      replace hbw := hbw.alloc hbw.size (.cells #[.int .i64 (2), .int .i64 (64)] 23)
      have hB' := hB
      obtain ⟨⟨z0, x0, y0⟩, ⟨z1, x1, y1⟩, ⟨z2, x2, y2⟩, ⟨z3, x3, y3⟩, ⟨z4, x4, y4⟩, ⟨z5, x5, y5⟩, _⟩ := hB'
      go_wp2_with fail
      clear z0 x0 y0 z1 x1 y1 z2 x2 y2 z3 x3 y3 z4 x4 y4 z5 x5 y5
      refine (one_eqz 80 2 0 _ (.inr rfl) rfl rfl rfl (show ofV 80 = (2, 69) by decide) (show kindsV 80 = ([2], 1, true) by decide) MX).mono ?_
      rintro e w8 ⟨rfl, hb8⟩
      replace hbw := hbw.trans (hb8.mono hbw.size)
      replace hB := hB.below hb8
      clear hb8
      try simp only [asize] at hB
      unfold T1
      rw [HZ.out]
      replace hB := hB.new (1) (1) 23
      replace hbw := hbw.alloc hbw.size (.cells #[.int .i64 (1), .int .i64 (1)] 23)
      have hB' := hB
      obtain ⟨⟨z0, x0, y0⟩, ⟨z1, x1, y1⟩, ⟨z2, x2, y2⟩, ⟨z3, x3, y3⟩, ⟨z4, x4, y4⟩, ⟨z5, x5, y5⟩, ⟨z6, x6, y6⟩, _⟩ := hB'
      go_wp2_with fail
      trace_state
      go_ret
      exact ⟨rfl, hbw⟩
    · obtain ⟨z1, z2, z3⟩ := fn h0
      have d0 : (X == 0) = false := beq_eq_false_iff_ne.2 h0
      have HZ : Hid (b2i (X == 0) = 0) := by show b2i (X == 0) = 0; rw [d0]; rfl
      have y1 : (L == 64) = false := beq_eq_false_iff_ne.2 z1
      have y2 : (T == 64) = false := beq_eq_false_iff_ne.2 z2
      have u1 : wrap64 (L + T) = L + T := by unfold wrap64; omega
      have u2 : wrap64 (L + T + P) = L + T + P := by unfold wrap64; omega
      have u3 : decide (L + T + P ≤ 64) = true := decide_eq_true z3
      have u4 : decide (X = 0) = false := decide_eq_false h0
      have u5 : decide (L = 64) = false := decide_eq_false z1
      have u6 : decide (T = 64) = false := decide_eq_false z2
      clear fz fn hs l0 l1 t0 t1 p0 p1 q0 q1 z3
      go_enter Tryd.func10, Tryd.ntmps10
      go_wp2_with fail
      refine (begun_any w).mono ?_
      rintro e w1 ⟨rfl, hbw⟩
      have hB : Boxes w1 [] := trivial
      have hsig : IntKind.i64.signed = true := rfl
      have hnot := not_i64 a (bounds_i64 w0)
      go_wp2_with fail
      refine (refwrap_2 a _).mono ?_
      rintro e w2 ⟨rfl, hb2⟩
      replace hbw := hbw.trans (hb2.mono hbw.size)
      replace hB := hB.below hb2
      clear hb2
      rw [HX.out]
      go_wp2_with fail
      refine (refwrap_2 (-a - 1) _).mono ?_
      rintro e w3 ⟨rfl, hb3⟩
      replace hbw := hbw.trans (hb3.mono hbw.size)
      replace hB := hB.below hb3
      clear hb3
      rw [HY.out]
      clear hnot w0
      replace hB := hB.new (2) (X) 23
      replace hbw := hbw.alloc hbw.size (.cells #[.int .i64 (2), .int .i64 (X)] 23)
      replace hB := hB.new (2) (Y) 23
      replace hbw := hbw.alloc hbw.size (.cells #[.int .i64 (2), .int .i64 (Y)] 23)
      have hB' := hB
      obtain ⟨⟨z0, x0, y0⟩, ⟨z1, x1, y1⟩, _⟩ := hB'
      go_wp2_with fail
      clear z0 x0 y0 z1 x1 y1
      refine (one_pop 123 2 X _ (.inr rfl) rfl rfl rfl (show ofV 123 = (2, 105) by decide) (show kindsV 123 = ([2], 2, true) by decide) MX).mono ?_
      rintro e w4 ⟨rfl, hb4⟩
      replace hbw := hbw.trans (hb4.mono hbw.size)
      replace hB := hB.below hb4
      clear hb4
      try simp only [asize] at hB
      unfold T1
      rw [HP.out]
      replace hB := hB.new (2) (P) 23
      replace hbw := hbw.alloc hbw.size (.cells #[.int .i64 (2), .int .i64 (P)] 23)
      have hB' := hB
      obtain ⟨⟨z0, x0, y0⟩, ⟨z1, x1, y1⟩, ⟨z2, x2, y2⟩, _⟩ := hB'
      go_wp2_with fail
      clear z0 x0 y0 z1 x1 y1 z2 x2 y2
      refine (one_pop 123 2 Y _ (.inr rfl) rfl rfl rfl (show ofV 123 = (2, 105) by decide) (show kindsV 123 = ([2], 2, true) by decide) MY).mono ?_
      rintro e w5 ⟨rfl, hb5⟩
      replace hbw := hbw.trans (hb5.mono hbw.size)
      replace hB := hB.below hb5
      clear hb5
      try simp only [asize] at hB
      unfold T1
      rw [HQ.out]
      replace hB := hB.new (2) (Q) 23
      replace hbw := hbw.alloc hbw.size (.cells #[.int .i64 (2), .int .i64 (Q)] 23)
      have hB' := hB
      obtain ⟨⟨z0, x0, y0⟩, ⟨z1, x1, y1⟩, ⟨z2, x2, y2⟩, ⟨z3, x3, y3⟩, _⟩ := hB'
      go_wp2_with fail
      clear z0 x0 y0 z1 x1 y1 z2 x2 y2 z3 x3 y3
      refine (one_clz 121 2 X _ (.inr rfl) rfl rfl rfl (show ofV 121 = (2, 103) by decide) (show kindsV 121 = ([2], 2, true) by decide) MX).mono ?_
      rintro e w6 ⟨rfl, hb6⟩
      replace hbw := hbw.trans (hb6.mono hbw.size)
      replace hB := hB.below hb6
      clear hb6
      try simp only [asize] at hB
      unfold T1
      rw [HL.out]
      replace hB := hB.new (2) (L) 23
      replace hbw := hbw.alloc hbw.size (.cells #[.int .i64 (2), .int .i64 (L)] 23)
      have hB' := hB
      obtain ⟨⟨z0, x0, y0⟩, ⟨z1, x1, y1⟩, ⟨z2, x2, y2⟩, ⟨z3, x3, y3⟩, ⟨z4, x4, y4⟩, _⟩ := hB'
      go_wp2_with fail
      clear z0 x0 y0 z1 x1 y1 z2 x2 y2 z3 x3 y3 z4 x4 y4
      refine (one_ctz 122 2 X _ (.inr rfl) rfl rfl rfl (show ofV 122 = (2, 104) by decide) (show kindsV 122 = ([2], 2, true) by decide) MX (tab_up htab hbw (tab_size htab))).mono ?_
      rintro e w7 ⟨rfl, hb7⟩
      replace hbw := hbw.trans (hb7.mono hbw.size)
      replace hB := hB.below hb7
      clear hb7
      try simp only [asize] at hB
      unfold T1
      rw [HT.out]
      replace hB := hB.new (2) (T) 23
      replace hbw := hbw.alloc hbw.size (.cells #[.int .i64 (2), .int .i64 (T)] 23)
      have hB' := hB
      obtain ⟨⟨z0, x0, y0⟩, ⟨z1, x1, y1⟩, ⟨z2, x2, y2⟩, ⟨z3, x3, y3⟩, ⟨z4, x4, y4⟩, ⟨z5, x5, y5⟩, _⟩ := hB'
      go_wp2_with fail
      clear z0 x0 y0 z1 x1 y1 z2 x2 y2 z3 x3 y3 z4 x4 y4 z5 x5 y5
      refine (one_eqz 80 2 X _ (.inr rfl) rfl rfl rfl (show ofV 80 = (2, 69) by decide) (show kindsV 80 = ([2], 1, true) by decide) MX).mono ?_
      rintro e w8 ⟨rfl, hb8⟩
      replace hbw := hbw.trans (hb8.mono hbw.size)
      replace hB := hB.below hb8
      clear hb8
      try simp only [asize] at hB
      unfold T1
      rw [HZ.out]
      replace hB := hB.new (1) (0) 23
      replace hbw := hbw.alloc hbw.size (.cells #[.int .i64 (1), .int .i64 (0)] 23)
      have hB' := hB
      obtain ⟨⟨z0, x0, y0⟩, ⟨z1, x1, y1⟩, ⟨z2, x2, y2⟩, ⟨z3, x3, y3⟩, ⟨z4, x4, y4⟩, ⟨z5, x5, y5⟩, ⟨z6, x6, y6⟩, _⟩ := hB'
      go_wp2_with fail
      trace_state
      go_ret
      exact ⟨rfl, hbw⟩

end Go.Proofs.YtdcpbjpghgbbiaaDoor
