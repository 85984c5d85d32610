/- The plain equations between what the reference's Two and ints.Two reckon. No program here. Printed by ref_math.py. -/
import Derived.Test.YtdcpbjpghgbbiaaDoorIntsRef
import Derived.Test.YtdcpbjpghgbbiaaDoorIntsBegun
namespace Go.Proofs.YtdcpbjpghgbbiaaDoor
open Go.RowKit
set_option linter.unusedVariables false
set_option maxHeartbeats 1000000

theorem eq_yes (k n : Int) (w : World) : Calls Tryd.prog 23 #[.agg #[.int .i64 k, .int .i64 n], .agg #[.int .i64 k, .int .i64 n]] w fun e w' => e = .returned (.bool true) ∧ Below w.heap.size w w' :=
  (eq_any k n k n w).mono fun _ _ h => ⟨h.1.trans (by simp), h.2⟩
theorem may_2 (n : Int) : Hid (mayB (2, n) = true) := rfl
theorem s32_range (n : Int) : -2147483648 ≤ s32 n ∧ s32 n ≤ 2147483647 := by
  unfold s32
  simp [IntKind.wrap, IntKind.bits, IntKind.signed]
  constructor <;> (split <;> omega)
theorem may_1 (n : Int) (h1 : -2147483648 ≤ n) (h2 : n ≤ 2147483647) : Hid (mayB (1, n) = true) := by
  show mayB (1, n) = true
  simp [mayB, h1, h2]
theorem s32_id (n : Int) (h1 : -2147483648 ≤ n) (h2 : n ≤ 2147483647) : s32 n = n := by
  unfold s32
  simp [IntKind.wrap, IntKind.bits, IntKind.signed]
  split <;> omega
theorem asize (w : World) (o : Obj) : (w.alloc o).heap.size = w.heap.size + 1 := by simp
def RK (k x : Int) : Prop := if k = 1 then -2147483648 ≤ x ∧ x ≤ 2147483647 else -9223372036854775808 ≤ x ∧ x ≤ 9223372036854775807
theorem rk_1 (n : Int) (_h : -9223372036854775808 ≤ n ∧ n ≤ 9223372036854775807) : RK 1 (wk 1 n) := s32_range n
theorem rk_2 (n : Int) (h : -9223372036854775808 ≤ n ∧ n ≤ 9223372036854775807) : RK 2 (wk 2 n) := h
theorem wrap_toNat (v : BitVec 64) : IntKind.i64.wrap (v.toNat : Int) = v.toInt := by
  have := v.isLt
  rw [BitVec.toInt_eq_toNat_cond]
  simp [IntKind.wrap, IntKind.bits, IntKind.signed]
  split <;> split <;> omega
theorem b_and (x y : Int) : bits .and .i64 x y = (BitVec.ofInt 64 x &&& BitVec.ofInt 64 y).toInt := wrap_toNat _
theorem b_or (x y : Int) : bits .or .i64 x y = (BitVec.ofInt 64 x ||| BitVec.ofInt 64 y).toInt := wrap_toNat _
theorem b_xor (x y : Int) : bits .xor .i64 x y = (BitVec.ofInt 64 x ^^^ BitVec.ofInt 64 y).toInt := wrap_toNat _
theorem toInt64 (x : Int) (h : -9223372036854775808 ≤ x ∧ x ≤ 9223372036854775807) : (BitVec.ofInt 64 x).toInt = x := by
  rw [BitVec.toInt_ofInt]
  simp [Int.bmod]
  split <;> omega
theorem toInt32 (x : Int) (h : -2147483648 ≤ x ∧ x ≤ 2147483647) : (BitVec.ofInt 32 x).toInt = x := by
  rw [BitVec.toInt_ofInt]
  simp [Int.bmod]
  split <;> omega
theorem ext32 (x : Int) (h : -2147483648 ≤ x ∧ x ≤ 2147483647) : BitVec.ofInt 64 x = (BitVec.ofInt 32 x).signExtend 64 := by
  apply BitVec.eq_of_toInt_eq
  rw [BitVec.toInt_signExtend_of_le (by decide), toInt32 x h, toInt64 x (by omega)]
theorem range64 (v : BitVec 64) : RK 2 v.toInt := by
  have h1 := @BitVec.toInt_lt 64 v
  have h2 := @BitVec.le_toInt 64 v
  show -9223372036854775808 ≤ v.toInt ∧ v.toInt ≤ 9223372036854775807
  simp at h1 h2
  omega
theorem range32 (v : BitVec 32) : RK 1 (v.signExtend 64).toInt := by
  have h1 := @BitVec.toInt_lt 32 v
  have h2 := @BitVec.le_toInt 32 v
  rw [BitVec.toInt_signExtend_of_le (by decide)]
  show -2147483648 ≤ v.toInt ∧ v.toInt ≤ 2147483647
  simp at h1 h2
  omega
theorem add_and_or (a b : BitVec 64) : (a &&& b) + (a ||| b) = a + b := by
  have h1 : a + (b &&& ~~~a) = a ||| b := by
    rw [BitVec.add_eq_or_of_and_eq_zero]
    · ext i; simp; cases a[i] <;> simp
    · ext i; simp; cases a[i] <;> simp
  have h2 : (a &&& b) + (b &&& ~~~a) = b := by
    rw [BitVec.add_eq_or_of_and_eq_zero]
    · ext i; simp; cases a[i] <;> simp
    · ext i; simp; cases a[i] <;> simp
  rw [← h1]
  have : (a &&& b) + (a + (b &&& ~~~a)) = a + ((a &&& b) + (b &&& ~~~a)) := by rw [← BitVec.add_assoc, BitVec.add_comm (a &&& b) a, BitVec.add_assoc]
  rw [this, h2]
theorem wrap64_add (u v : BitVec 64) : wrap64 (u.toInt + v.toInt) = (u + v).toInt := by
  rw [BitVec.toInt_add]
  unfold wrap64
  simp [Int.bmod]
  split <;> omega
theorem rk_bits (k X Y : Int) (hk : k = 1 ∨ k = 2) (rX : RK k X) (rY : RK k Y) : RK k (bits .and .i64 X Y) ∧ RK k (bits .or .i64 X Y) ∧ RK k (bits .xor .i64 X Y) := by
  rw [b_and, b_or, b_xor]
  rcases hk with rfl | rfl
  · rw [ext32 X rX, ext32 Y rY, ← BitVec.signExtend_and, ← BitVec.signExtend_or, ← BitVec.signExtend_xor]
    exact ⟨range32 _, range32 _, range32 _⟩
  · exact ⟨range64 _, range64 _, range64 _⟩
theorem wk_id (k x : Int) (hk : k = 1 ∨ k = 2) (h : RK k x) : wk k x = x := by
  rcases hk with rfl | rfl
  · exact s32_id x h.1 h.2
  · rfl
theorem may_k (k x : Int) (hk : k = 1 ∨ k = 2) (h : RK k x) : Hid (mayB (k, x) = true) := by
  rcases hk with rfl | rfl
  · exact may_1 x h.1 h.2
  · exact may_2 x
theorem mask_facts (k X Y : Int) (hk : k = 1 ∨ k = 2) (rX : RK k X) (rY : RK k Y) :
    Hid (wk k (reckV k 113 X Y) = bits .and .i64 X Y) ∧ Hid (wk k (reckV k 114 X Y) = bits .or .i64 X Y) ∧ Hid (wk k (reckV k 115 X Y) = bits .xor .i64 X Y) ∧
    Hid (wk k (reckV k 106 (bits .and .i64 X Y) (bits .or .i64 X Y)) = wk k (reckV k 106 X Y)) ∧ Hid (wk k (reckV k 114 (bits .and .i64 X Y) (bits .xor .i64 X Y)) = bits .or .i64 X Y) ∧
    Hid (wk k (reckV k 115 (bits .xor .i64 X Y) Y) = X) ∧ Hid (mayB (k, X) = true) ∧ Hid (mayB (k, Y) = true) ∧ Hid (mayB (k, bits .and .i64 X Y) = true) ∧ Hid (mayB (k, bits .or .i64 X Y) = true) ∧ Hid (mayB (k, bits .xor .i64 X Y) = true) := by
  obtain ⟨r1, r2, r3⟩ := rk_bits k X Y hk rX rY
  have big : ∀ x, RK k x → -9223372036854775808 ≤ x ∧ x ≤ 9223372036854775807 := by
    intro x h
    rcases hk with rfl | rfl
    · have : -2147483648 ≤ x ∧ x ≤ 2147483647 := h
      omega
    · exact h
  have eU : bits .or .i64 (bits .and .i64 X Y) (bits .xor .i64 X Y) = bits .or .i64 X Y := by
    rw [b_or (bits .and .i64 X Y), b_and, b_xor, b_or, BitVec.ofInt_toInt, BitVec.ofInt_toInt]
    congr 1
    ext i; simp; cases (BitVec.ofInt 64 X)[i] <;> simp
  have eV : bits .xor .i64 (bits .xor .i64 X Y) Y = X := by
    rw [b_xor (bits .xor .i64 X Y), b_xor, BitVec.ofInt_toInt]
    have : BitVec.ofInt 64 X ^^^ BitVec.ofInt 64 Y ^^^ BitVec.ofInt 64 Y = BitVec.ofInt 64 X := by
      rw [BitVec.xor_assoc, BitVec.xor_self, BitVec.xor_zero]
    rw [this, toInt64 X (big X rX)]
  have eS : wrap64 (bits .and .i64 X Y + bits .or .i64 X Y) = wrap64 (X + Y) := by
    rw [b_and, b_or, wrap64_add, add_and_or, ← wrap64_add, toInt64 X (big X rX), toInt64 Y (big Y rY)]
  refine ⟨wk_id k _ hk r1, wk_id k _ hk r2, wk_id k _ hk r3, ?_, ?_, ?_, may_k k X hk rX, may_k k Y hk rY, may_k k _ hk r1, may_k k _ hk r2, may_k k _ hk r3⟩
  · exact congrArg (wk k) eS
  · exact (congrArg (wk k) eU).trans (wk_id k _ hk r2)
  · exact (congrArg (wk k) eV).trans (wk_id k _ hk rX)


theorem u64_w (x : Int) : IntKind.u64.wrap x = x % 18446744073709551616 := by simp [IntKind.wrap, IntKind.bits, IntKind.signed]
theorem wk1_c (x y : Int) (h : x % 4294967296 = y % 4294967296) : wk 1 x = wk 1 y := by
  have e : ∀ z, wk 1 z = s32 z := fun _ => rfl
  rw [e, e]
  unfold s32
  simp [IntKind.wrap, IntKind.bits, IntKind.signed]
  omega
theorem low1 (x : Int) : low (1, x) = x % 4294967296 := rfl
theorem low2 (x : Int) : low (2, x) = x % 18446744073709551616 := rfl
theorem wk2 (x : Int) : wk 2 x = x := rfl
theorem wrap64_c (x y : Int) (h : x % 18446744073709551616 = y % 18446744073709551616) : wrap64 x = wrap64 y := by unfold wrap64; omega
theorem wrap64_m (x : Int) : wrap64 x % 18446744073709551616 = x % 18446744073709551616 := by unfold wrap64; omega
theorem wrap64_m1 (x : Int) : wrap64 x % 4294967296 = x % 4294967296 := by unfold wrap64; omega
theorem wrap64_u (x : Int) : wrap64 (IntKind.u64.wrap x) = wrap64 x := wrap64_c _ _ (by rw [u64_w]; omega)
theorem mul_c (m a b c : Int) (h : a % m = b % m) : (a * c) % m = (b * c) % m := by rw [Int.mul_emod, h, ← Int.mul_emod]
theorem toInt_m1 (v : BitVec 64) : v.toInt % 4294967296 = ((v.toNat % 2 ^ 32 : Nat) : Int) := by
  have := v.isLt
  rw [BitVec.toInt_eq_toNat_cond]
  split <;> omega
theorem ofInt_m1 (x : Int) : (BitVec.ofInt 64 x).toNat % 2 ^ 32 = (x % 4294967296).toNat := by
  rw [BitVec.toNat_ofInt]
  have : ((2 ^ 64 : Nat) : Int) = 18446744073709551616 := by decide
  rw [this]
  omega
theorem ofInt_low1 (x : Int) : (BitVec.ofInt 64 (x % 4294967296)).toNat = (x % 4294967296).toNat := by
  rw [BitVec.toNat_ofInt]
  have : ((2 ^ 64 : Nat) : Int) = 18446744073709551616 := by decide
  rw [this]
  omega
theorem ofInt_low2 (x : Int) : BitVec.ofInt 64 (x % 18446744073709551616) = BitVec.ofInt 64 x := by
  apply BitVec.eq_of_toNat_eq
  rw [BitVec.toNat_ofInt, BitVec.toNat_ofInt]
  have : ((2 ^ 64 : Nat) : Int) = 18446744073709551616 := by decide
  rw [this]
  omega
theorem i64_of (v : BitVec 64) : IntKind.i64.wrap (v.toNat : Int) = wrap64 (v.toNat : Int) := by
  have := v.isLt
  unfold wrap64
  simp [IntKind.wrap, IntKind.bits, IntKind.signed]
  omega
theorem or_com (a b : Int) : bits .or .u64 a b = bits .or .u64 b a := by
  show IntKind.u64.wrap ((BitVec.ofInt 64 a ||| BitVec.ofInt 64 b).toNat : Int) = IntKind.u64.wrap ((BitVec.ofInt 64 b ||| BitVec.ofInt 64 a).toNat : Int)
  rw [BitVec.or_comm]
theorem or_zero' (a : Int) : bits .or .u64 a 0 = IntKind.u64.wrap a := by
  show IntKind.u64.wrap ((BitVec.ofInt 64 a ||| BitVec.ofInt 64 0).toNat : Int) = IntKind.u64.wrap a
  have e : BitVec.ofInt 64 a ||| BitVec.ofInt 64 0 = BitVec.ofInt 64 a := by
    rw [show BitVec.ofInt 64 0 = 0#64 from rfl]; simp
  rw [e, BitVec.toNat_ofInt, u64_w, u64_w]
  have : ((2 ^ 64 : Nat) : Int) = 18446744073709551616 := by decide
  rw [this]
  omega
theorem div_pow_range (n M : Int) (s : Nat) (h0 : -M ≤ n) (h1 : n ≤ M) (hM : 0 ≤ M) : -M ≤ n / 2 ^ s ∧ n / 2 ^ s ≤ M := by
  have hp : (1 : Int) ≤ 2 ^ s := by
    have := Nat.one_le_two_pow (n := s)
    have e : ((2 ^ s : Nat) : Int) = (2 : Int) ^ s := by simp
    omega
  constructor
  · refine Int.le_ediv_of_mul_le (by omega) ?_
    have : M * 1 ≤ M * 2 ^ s := Int.mul_le_mul_of_nonneg_left hp hM
    rw [Int.neg_mul]
    omega
  · rcases Int.lt_or_le n 0 with h | h
    · have : n / 2 ^ s < 0 := Int.ediv_neg_of_neg_of_pos h (by omega)
      omega
    · have := Int.ediv_le_self (2 ^ s) h
      omega
theorem rm_1_106 (n n' : Int) (hn : RK 1 n) : wk 1 (wrap64 (IntKind.u64.wrap (low (1, n) + low (1, n')))) = wk 1 (reckV 1 106 n n') := by
  rw [reckV_106]
  rw [low1, low1, u64_w]
  apply wk1_c
  rw [wrap64_m1, wrap64_m1]
  omega
theorem rm_1_107 (n n' : Int) (hn : RK 1 n) : wk 1 (wrap64 (IntKind.u64.wrap (low (1, n) - low (1, n')))) = wk 1 (reckV 1 107 n n') := by
  rw [reckV_107]
  rw [low1, low1, u64_w]
  apply wk1_c
  rw [wrap64_m1, wrap64_m1]
  omega
theorem rm_1_108 (n n' : Int) (hn : RK 1 n) : wk 1 (wrap64 (IntKind.u64.wrap (low (1, n) * low (1, n')))) = wk 1 (reckV 1 108 n n') := by
  rw [reckV_108]
  have h : (low (1, n) * low (1, n')) % 4294967296 = (n * n') % 4294967296 := by
    rw [low1, low1, Int.mul_emod, Int.emod_emod_of_dvd _ (Int.dvd_refl _), Int.emod_emod_of_dvd _ (Int.dvd_refl _), ← Int.mul_emod]
  apply wk1_c
  rw [wrap64_m1, wrap64_m1, u64_w]
  generalize low (1, n) * low (1, n') = P at *
  generalize n * n' = Q at *
  omega
theorem rm_1_113 (n n' : Int) (hn : RK 1 n) : wk 1 (wrap64 (bits .and .u64 (low (1, n)) (low (1, n')))) = wk 1 (reckV 1 113 n n') := by
  rw [reckV_113]
  apply wk1_c
  rw [b_and, toInt_m1, wrap64_m1, BitVec.toNat_and, Nat.and_mod_two_pow, ofInt_m1, ofInt_m1]
  show IntKind.u64.wrap ((BitVec.ofInt 64 (low (1, n)) &&& BitVec.ofInt 64 (low (1, n'))).toNat : Int) % 4294967296 = _
  rw [low1, low1, BitVec.toNat_and, ofInt_low1, ofInt_low1, u64_w]
  have h : (n % 4294967296).toNat &&& (n' % 4294967296).toNat < 2 ^ 32 := Nat.and_lt_two_pow _ (by omega)
  omega
theorem rm_1_114 (n n' : Int) (hn : RK 1 n) : wk 1 (wrap64 (bits .or .u64 (low (1, n)) (low (1, n')))) = wk 1 (reckV 1 114 n n') := by
  rw [reckV_114]
  apply wk1_c
  rw [b_or, toInt_m1, wrap64_m1, BitVec.toNat_or, Nat.or_mod_two_pow, ofInt_m1, ofInt_m1]
  show IntKind.u64.wrap ((BitVec.ofInt 64 (low (1, n)) ||| BitVec.ofInt 64 (low (1, n'))).toNat : Int) % 4294967296 = _
  rw [low1, low1, BitVec.toNat_or, ofInt_low1, ofInt_low1, u64_w]
  have h : (n % 4294967296).toNat ||| (n' % 4294967296).toNat < 2 ^ 32 := Nat.or_lt_two_pow (by omega) (by omega)
  omega
theorem rm_1_115 (n n' : Int) (hn : RK 1 n) : wk 1 (wrap64 (bits .xor .u64 (low (1, n)) (low (1, n')))) = wk 1 (reckV 1 115 n n') := by
  rw [reckV_115]
  apply wk1_c
  rw [b_xor, toInt_m1, wrap64_m1, BitVec.toNat_xor, Nat.xor_mod_two_pow, ofInt_m1, ofInt_m1]
  show IntKind.u64.wrap ((BitVec.ofInt 64 (low (1, n)) ^^^ BitVec.ofInt 64 (low (1, n'))).toNat : Int) % 4294967296 = _
  rw [low1, low1, BitVec.toNat_xor, ofInt_low1, ofInt_low1, u64_w]
  have h : (n % 4294967296).toNat ^^^ (n' % 4294967296).toNat < 2 ^ 32 := Nat.xor_lt_two_pow (by omega) (by omega)
  omega
theorem rm_1_116 (n n' : Int) (hn : RK 1 n) : wk 1 (wrap64 (IntKind.u64.wrap (low (1, n) * 2 ^ (low (1, n') % 32).toNat))) = wk 1 (reckV 1 116 n n') := by
  rw [reckV_116]
  rw [w32, wrap64_u]
  apply wk1_c
  rw [wrap64_m1, wrap64_m1, low1 n]
  exact mul_c _ _ _ _ (Int.emod_emod_of_dvd _ (Int.dvd_refl _))
theorem rm_1_117 (n n' : Int) (hn : RK 1 n) : wk 1 (wrap64 (IntKind.u64.wrap (n / 2 ^ (low (1, n') % 32).toNat))) = wk 1 (reckV 1 117 n n') := by
  rw [reckV_117]
  rw [w32, wrap64_u]
  apply wk1_c
  rw [wrap64_m1]
theorem rm_1_118 (n n' : Int) (hn : RK 1 n) : wk 1 (wrap64 (low (1, n) / 2 ^ (low (1, n') % 32).toNat)) = wk 1 (reckV 1 118 n n') := by
  rw [reckV_118]
  rw [w32]
theorem rm_1_119 (n n' : Int) (hn : RK 1 n) : wk 1 (wrap64 (bits .or .u64 (IntKind.u64.wrap (low (1, n) * 2 ^ (low (1, n') % 32).toNat)) (low (1, n) / 2 ^ (32 - (low (1, n') % 32)).toNat))) = wk 1 (reckV 1 119 n n') := by
  rw [reckV_119]
  rw [w32]
  rfl
theorem rm_1_120 (n n' : Int) (hn : RK 1 n) : wk 1 (wrap64 (bits .or .u64 (low (1, n) / 2 ^ (low (1, n') % 32).toNat) (IntKind.u64.wrap (low (1, n) * 2 ^ (32 - (low (1, n') % 32)).toNat)))) = wk 1 (reckV 1 120 n n') := by
  rw [reckV_120]
  rw [w32]
  unfold rotU
  have hL : 0 ≤ low (1, n) ∧ low (1, n) < 4294967296 := by rw [low1]; omega
  generalize low (1, n) = M at *
  have hs : 0 ≤ low (1, n') % 32 ∧ low (1, n') % 32 < 32 := by omega
  generalize low (1, n') % 32 = s at *
  by_cases h0 : s = 0
  · subst h0
    have e1 : (-(0 : Int) % 32) = 0 := by decide
    rw [e1, show ((0 : Int)).toNat = 0 from rfl, show ((32 : Int) - 0).toNat = 32 from rfl, Int.pow_zero, Int.mul_one, Int.ediv_one]
    have e0 : (2 : Int) ^ 32 = 4294967296 := by decide
    have e2 : M / 2 ^ 32 = 0 := Int.ediv_eq_zero_of_lt hL.1 (by omega)
    rw [e2, or_zero']
    apply wk1_c
    rw [wrap64_m1, wrap64_m1, u64_w, u64_w]
    show IntKind.u64.wrap ((BitVec.ofInt 64 M ||| BitVec.ofInt 64 (M * 2 ^ 32 % 18446744073709551616)).toNat : Int) % 4294967296 = _
    rw [ofInt_low2, u64_w]
    have e3 : (BitVec.ofInt 64 M ||| BitVec.ofInt 64 (M * 2 ^ 32)).toNat % 2 ^ 32 = M.toNat := by
      rw [BitVec.toNat_or, Nat.or_mod_two_pow, ofInt_m1, ofInt_m1]
      have z : (M * 2 ^ 32 % 4294967296).toNat = 0 := by
        have : (2 : Int) ^ 32 = 4294967296 := by decide
        rw [this]; omega
      rw [z, Nat.or_zero]
      omega
    rw [u64_w]
    omega
  · have e1 : -s % 32 = 32 - s := by omega
    rw [e1, or_com, show (32 : Int) - (32 - s) = s by omega]
theorem rm_2_106 (n n' : Int) (hn : RK 2 n) : wk 2 (wrap64 (IntKind.u64.wrap (low (2, n) + low (2, n')))) = wk 2 (reckV 2 106 n n') := by
  rw [reckV_106, wk2, wk2]
  rw [low2, low2, wrap64_u]
  apply wrap64_c
  omega
theorem rm_2_107 (n n' : Int) (hn : RK 2 n) : wk 2 (wrap64 (IntKind.u64.wrap (low (2, n) - low (2, n')))) = wk 2 (reckV 2 107 n n') := by
  rw [reckV_107, wk2, wk2]
  rw [low2, low2, wrap64_u]
  apply wrap64_c
  omega
theorem rm_2_108 (n n' : Int) (hn : RK 2 n) : wk 2 (wrap64 (IntKind.u64.wrap (low (2, n) * low (2, n')))) = wk 2 (reckV 2 108 n n') := by
  rw [reckV_108, wk2, wk2]
  rw [wrap64_u]
  apply wrap64_c
  rw [low2, low2, Int.mul_emod, Int.emod_emod_of_dvd _ (Int.dvd_refl _), Int.emod_emod_of_dvd _ (Int.dvd_refl _), ← Int.mul_emod]
theorem rm_2_113 (n n' : Int) (hn : RK 2 n) : wk 2 (wrap64 (bits .and .u64 (low (2, n)) (low (2, n')))) = wk 2 (reckV 2 113 n n') := by
  rw [reckV_113, wk2, wk2]
  show wrap64 (IntKind.u64.wrap ((BitVec.ofInt 64 (low (2, n)) &&& BitVec.ofInt 64 (low (2, n'))).toNat : Int)) = IntKind.i64.wrap ((BitVec.ofInt 64 n &&& BitVec.ofInt 64 n').toNat : Int)
  rw [wrap64_u, low2, low2, ofInt_low2, ofInt_low2, i64_of]
theorem rm_2_114 (n n' : Int) (hn : RK 2 n) : wk 2 (wrap64 (bits .or .u64 (low (2, n)) (low (2, n')))) = wk 2 (reckV 2 114 n n') := by
  rw [reckV_114, wk2, wk2]
  show wrap64 (IntKind.u64.wrap ((BitVec.ofInt 64 (low (2, n)) ||| BitVec.ofInt 64 (low (2, n'))).toNat : Int)) = IntKind.i64.wrap ((BitVec.ofInt 64 n ||| BitVec.ofInt 64 n').toNat : Int)
  rw [wrap64_u, low2, low2, ofInt_low2, ofInt_low2, i64_of]
theorem rm_2_115 (n n' : Int) (hn : RK 2 n) : wk 2 (wrap64 (bits .xor .u64 (low (2, n)) (low (2, n')))) = wk 2 (reckV 2 115 n n') := by
  rw [reckV_115, wk2, wk2]
  show wrap64 (IntKind.u64.wrap ((BitVec.ofInt 64 (low (2, n)) ^^^ BitVec.ofInt 64 (low (2, n'))).toNat : Int)) = IntKind.i64.wrap ((BitVec.ofInt 64 n ^^^ BitVec.ofInt 64 n').toNat : Int)
  rw [wrap64_u, low2, low2, ofInt_low2, ofInt_low2, i64_of]
theorem rm_2_116 (n n' : Int) (hn : RK 2 n) : wk 2 (wrap64 (IntKind.u64.wrap (low (2, n) * 2 ^ (low (2, n') % 64).toNat))) = wk 2 (reckV 2 116 n n') := by
  rw [reckV_116, wk2, wk2]
  rw [w64, wrap64_u]
  apply wrap64_c
  rw [low2 n]
  exact mul_c _ _ _ _ (Int.emod_emod_of_dvd _ (Int.dvd_refl _))
theorem rm_2_117 (n n' : Int) (hn : RK 2 n) : wk 2 (wrap64 (IntKind.u64.wrap (n / 2 ^ (low (2, n') % 64).toNat))) = wk 2 (reckV 2 117 n n') := by
  rw [reckV_117, wk2, wk2]
  rw [w64, wrap64_u]
  have h : -9223372036854775808 ≤ n ∧ n ≤ 9223372036854775807 := hn
  have h1 := div_pow_range n 9223372036854775808 (low (2, n') % 64).toNat (by omega) (by omega) (by omega)
  have h2 : n / 2 ^ (low (2, n') % 64).toNat ≤ 9223372036854775807 := by
    rcases Int.lt_or_le n 0 with h3 | h3
    · have hp : (1 : Int) ≤ 2 ^ (low (2, n') % 64).toNat := by
        have := Nat.one_le_two_pow (n := (low (2, n') % 64).toNat)
        have e : ((2 ^ (low (2, n') % 64).toNat : Nat) : Int) = (2 : Int) ^ (low (2, n') % 64).toNat := by simp
        omega
      have : n / 2 ^ (low (2, n') % 64).toNat < 0 := Int.ediv_neg_of_neg_of_pos h3 (by omega)
      omega
    · have := Int.ediv_le_self (2 ^ (low (2, n') % 64).toNat) h3
      omega
  generalize n / 2 ^ (low (2, n') % 64).toNat = q at *
  unfold wrap64
  omega
theorem rm_2_118 (n n' : Int) (hn : RK 2 n) : wk 2 (wrap64 (low (2, n) / 2 ^ (low (2, n') % 64).toNat)) = wk 2 (reckV 2 118 n n') := by
  rw [reckV_118, wk2, wk2]
  rw [w64]
theorem rm_2_119 (n n' : Int) (hn : RK 2 n) : wk 2 (wrap64 (bits .or .u64 (IntKind.u64.wrap (low (2, n) * 2 ^ (low (2, n') % 64).toNat)) (low (2, n) / 2 ^ (64 - (low (2, n') % 64)).toNat))) = wk 2 (reckV 2 119 n n') := by
  rw [reckV_119, wk2, wk2]
  rw [w64]
  rfl
theorem rm_2_120 (n n' : Int) (hn : RK 2 n) : wk 2 (wrap64 (bits .or .u64 (low (2, n) / 2 ^ (low (2, n') % 64).toNat) (IntKind.u64.wrap (low (2, n) * 2 ^ (64 - (low (2, n') % 64)).toNat)))) = wk 2 (reckV 2 120 n n') := by
  rw [reckV_120, wk2, wk2]
  rw [w64]
  unfold rotU
  have hL : 0 ≤ low (2, n) ∧ low (2, n) < 18446744073709551616 := by rw [low2]; omega
  generalize low (2, n) = M at *
  have hs : 0 ≤ low (2, n') % 64 ∧ low (2, n') % 64 < 64 := by omega
  generalize low (2, n') % 64 = s at *
  by_cases h0 : s = 0
  · subst h0
    have e1 : (-(0 : Int) % 64) = 0 := by decide
    rw [e1, show ((0 : Int)).toNat = 0 from rfl, show ((64 : Int) - 0).toNat = 64 from rfl, Int.pow_zero, Int.mul_one, Int.ediv_one]
    have e0 : (2 : Int) ^ 64 = 18446744073709551616 := by decide
    have e2 : M / 2 ^ 64 = 0 := Int.ediv_eq_zero_of_lt hL.1 (by omega)
    have e3 : IntKind.u64.wrap (M * 2 ^ 64) = 0 := by rw [u64_w, e0]; omega
    rw [e2, e3, or_zero', or_zero', wrap64_u, wrap64_u, wrap64_u]
  · have e1 : -s % 64 = 64 - s := by omega
    rw [e1, or_com, show (64 : Int) - (64 - s) = s by omega]
end Go.Proofs.YtdcpbjpghgbbiaaDoor
