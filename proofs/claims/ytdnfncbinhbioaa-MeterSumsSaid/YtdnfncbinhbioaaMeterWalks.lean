/- The contracts of meter's functions: part, Of, Steps, Bytes, mod, Turn, Mark, Add, and of the reference's Mark. Conditions: the words stand for whole numbers that are small enough. -/
import Derived.Test.YtdnfncbinhbioaaFloats
import Derived.Test.YtdnfncbinhbioaaCells
import Derived.Test.YtdnfncbinhbioaaProg
import Derived.Laws.ComplexArith
import Derived.Laws.BitsAllLaws
import Derived.WalkLawsBesides
import Derived.WalkSpells
import Derived.Outline
import Derived.Deep.LoopGhost
namespace Go.Proofs.Ytdnfncbinhbioaa
open Go.RowKit
set_option linter.unusedVariables false

theorem part_any (n : Int) (w : World) :
    Calls Try.prog 9 #[.int .i64 n] w fun e w' => e = .returned (.int .i64 (n.tmod 1073741824)) ∧ w = w' := by
  go_enter Try.func9, Try.ntmps9
  go_wp2
  go_ret
  exact ⟨rfl, rfl⟩

theorem of_any (a b : Int) (w : World) :
    Calls Try.prog 10 #[.int .i64 a, .int .i64 b] w fun e w' => e = .returned (.complex .f64 (floatOfInt .f64 a) (floatOfInt .f64 b)) ∧ w = w' := by
  go_enter Try.func10, Try.ntmps10
  go_wp2
  go_ret
  exact ⟨rfl, rfl⟩

theorem to_int {x : Nat} {a : Int} (hx : Fl x a) (h1 : -9223372036854775808 ≤ a) (h2 : a ≤ 9223372036854775807) (w : World) (dst : TypeId) (hd : Try.prog.underlying dst = some (.int .i64)) : (convert 29 dst (.float .f64 x)).run Try.prog w = .ok (.int .i64 a) w :=
  run_convert_float_int w 29 dst .f64 .i64 x a (by rw [Try.underlying29]; rfl) hd (fl_int hx h1 h2)

theorem steps_any (x y : Nat) (a : Int) (w : World) (hx : Fl x a) (h1 : -9223372036854775808 ≤ a) (h2 : a ≤ 9223372036854775807) :
    Calls Try.prog 11 #[.complex .f64 x y] w fun e w' => e = .returned (.int .i64 a) ∧ w = w' := by
  have hc := fun w => to_int hx h1 h2 w 3 Try.underlying3
  clear hx h1 h2
  go_enter Try.func11, Try.ntmps11
  go_wp2
  go_ret
  exact ⟨rfl, rfl⟩

theorem bytes_any (x y : Nat) (a : Int) (w : World) (hx : Fl y a) (h1 : -9223372036854775808 ≤ a) (h2 : a ≤ 9223372036854775807) :
    Calls Try.prog 12 #[.complex .f64 x y] w fun e w' => e = .returned (.int .i64 a) ∧ w = w' := by
  have hc := fun w => to_int hx h1 h2 w 3 Try.underlying3
  clear hx h1 h2
  go_enter Try.func12, Try.ntmps12
  go_wp2
  go_ret
  exact ⟨rfl, rfl⟩

theorem mod_of (n m : Int) (h : 0 < m) : ((n.tmod m) + m).tmod m = n % m := by
  have h1 : 0 ≤ n.tmod m + m := by have := Int.lt_tmod_of_pos n h; omega
  rw [Int.tmod_eq_emod_of_nonneg h1, Int.add_emod_right]
  rcases Int.lt_or_le n 0 with h0 | h0
  · have e : n.tmod m = n - m * n.tdiv m := by have := Int.tmod_add_mul_tdiv n m; omega
    rw [e, Int.sub_mul_emod_self_left]
  · rw [Int.tmod_eq_emod_of_nonneg h0, Int.emod_emod_of_dvd _ (Int.dvd_refl _)]

theorem mod_any (n : Int) (w : World) :
    Calls Try.prog 18 #[.int .i64 n] w fun e w' => e = .returned (.int .i64 (n % 1000003)) ∧ w = w' := by
  have h1 := Int.lt_tmod_of_pos n (show (0:Int) < 1000003 by decide)
  have h2 := Int.tmod_lt_of_pos n (show (0:Int) < 1000003 by decide)
  go_enter Try.func18, Try.ntmps18
  go_wp2
  go_ret
  have e := mod_of n 1000003 (by decide)
  rw [Int.tmod_eq_emod_of_nonneg (by omega)] at e
  exact ⟨congrArg (fun b => Ending.returned (.int .i64 b)) e, rfl⟩

/-- A quarter turn, so many times. -/
def rot : Nat → Int × Int → Int × Int
  | 0, p => p
  | n + 1, p => (-(rot n p).2, (rot n p).1)

theorem and3 (k : Int) : bits .and .i64 k 3 = k % 4 := by
  have e : (BitVec.ofInt 64 k &&& BitVec.ofInt 64 3).toNat = (k % 4).toNat := by
    rw [BitVec.toNat_and, BitVec.toNat_ofInt, BitVec.toNat_ofInt]
    have e3 : ((3 : Int) % ((2 ^ 64 : Nat) : Int)).toNat = 3 := by decide
    rw [e3, nat_mask2]
    have : ((2 ^ 64 : Nat) : Int) = 18446744073709551616 := by decide
    rw [this]
    omega
  show IntKind.i64.wrap ((BitVec.ofInt 64 k &&& BitVec.ofInt 64 3).toNat : Int) = k % 4
  rw [e, IntKind.wrap_i64]
  omega

theorem unary_neg_float (k : FloatKind) (b : Nat) : Op.unary .neg (.float k b) = pure (.float k (Op.negFloat k b)) := rfl

set_option maxHeartbeats 400000 in
theorem turn_any (x y : Nat) (a b k : Int) (w : World) (hx : Fl x a) (hy : Fl y b) :
    Calls Try.prog 14 #[.complex .f64 x y, .int .i64 k] w fun e w' => ∃ x' y', e = .returned (.complex .f64 x' y') ∧ Fl x' (rot (k % 4).toNat (a, b)).1 ∧ Fl y' (rot (k % 4).toNat (a, b)).2 ∧ w = w' := by
  obtain ⟨K, hK⟩ : ∃ K : Nat, K = (k % 4).toNat := ⟨_, rfl⟩
  have hand : bits .and .i64 k 3 = (K : Int) := by rw [and3]; omega
  have hK4 : K ≤ 3 := by omega
  have hneg := fun (z : Nat) => unary_neg_float .f64 z
  rw [← hK]
  clear hK
  go_enter Try.func14, Try.ntmps14
  go_wp2
  clear hand
  go_loop [0, 7] (fun c i => ∃ (j : Nat) (x' y' : Nat), j ≤ K ∧ i = .int .i64 j ∧ c = .complex .f64 x' y' ∧ Fl x' (rot j (a, b)).1 ∧ Fl y' (rot j (a, b)).2) (fun _ i => K - (intOf i).toNat)
  case atStart => exact ⟨0, x, y, Nat.zero_le _, rfl, rfl, hx, hy⟩
  case round =>
    obtain ⟨j, x', y', hj, rfl, rfl, hx', hy'⟩ := hrel
    clear hx hy
    by_cases hlt : j < K
    · go_wp2
      go_round
      case rel => exact ⟨j + 1, _, _, by omega, by go_num, rfl, fl_neg hy', hx'⟩
      case measure => simp [intOf]; omega
    · go_wp2
      go_ret
      have : j = K := by omega
      subst this
      exact ⟨_, _, rfl, hx', hy', rfl⟩

/-- The values stand for pairs of whole numbers. -/
def Cxs (vs : List Value) (zs : List (Int × Int)) : Prop :=
  vs.length = zs.length ∧ ∀ i, i < zs.length → ∃ x y, vs[i]? = some (.complex .f64 x y) ∧ Fl x (zs.getD i (0, 0)).1 ∧ Fl y (zs.getD i (0, 0)).2
def s1 (zs : List (Int × Int)) : Int := (zs.map Prod.fst).sum
def s2 (zs : List (Int × Int)) : Int := (zs.map Prod.snd).sum
def Small (zs : List (Int × Int)) : Prop := ∀ j, (s1 (zs.take j)).natAbs < 2 ^ 53 ∧ (s2 (zs.take j)).natAbs < 2 ^ 53

theorem take_snoc' {α : Type} (d : α) (l : List α) (j : Nat) (h : j < l.length) : l.take (j + 1) = l.take j ++ [l.getD j d] := by
  rw [List.take_succ_eq_append_getElem h, List.getD_eq_getElem?_getD, List.getElem?_eq_getElem h]; rfl
theorem s1_snoc (l m : List (Int × Int)) : s1 (l ++ m) = s1 l + s1 m := by simp [s1]
theorem s2_snoc (l m : List (Int × Int)) : s2 (l ++ m) = s2 l + s2 m := by simp [s2]
theorem s1_one (p : Int × Int) : s1 [p] = p.1 := by simp [s1]
theorem s2_one (p : Int × Int) : s2 [p] = p.2 := by simp [s2]

theorem fl_zero : Fl 0 0 := by
  have h := fl_of_int (n := 0) (by decide)
  have e : floatOfInt .f64 0 = 0 := by decide +kernel
  rwa [e] at h

theorem cx_add {x y u v : Nat} {a b c d : Int} (hx : Fl x a) (hy : Fl y b) (hu : Fl u c) (hv : Fl v d) (h1 : (a + c).natAbs < 2 ^ 53) (h2 : (b + d).natAbs < 2 ^ 53) :
    ∃ re im, Fl re (a + c) ∧ Fl im (b + d) ∧ ∀ (t : TypeId) (w : World), (binOp .add t (.complex .f64 x y) (.complex .f64 u v)).run Try.prog w = .ok (.complex .f64 re im) w := by
  obtain ⟨re, e1, f1⟩ := fl_add hx hu h1
  obtain ⟨im, e2, f2⟩ := fl_add hy hv h2
  refine ⟨re, im, f1, f2, fun t w => run_complex_sum w .add (.inl rfl) t .f64 x y u v re im ?_⟩
  unfold cSumBits
  rw [e1, e2]; rfl

set_option maxHeartbeats 400000 in
theorem add_any (A : Option Addr) (vs : List Value) (zs : List (Int × Int)) (n c : Nat) (w : World) (B : Nat) (hn : Hid (n = vs.length)) (hl : n ≤ 9223372036854775807) (hr : RdV w B A vs) (hz : Cxs vs zs) (hs : Small zs) :
    Calls Try.prog 13 #[.slice A n c] w fun e w' => ∃ x' y', e = .returned (.complex .f64 x' y') ∧ Fl x' (s1 zs) ∧ Fl y' (s2 zs) ∧ w = w' := by
  have hnz : n = zs.length := by rw [hn.out]; exact hz.1
  have Hnz := Lib.hid hnz; clear hnz
  go_enter Try.func13, Try.ntmps13
  go_wp2
  go_loop [3, 8] (fun s i => ∃ (j : Nat) (x y : Nat), j ≤ n ∧ i = .int .i64 j ∧ s = .complex .f64 x y ∧ Fl x (s1 (zs.take j)) ∧ Fl y (s2 (zs.take j))) (fun _ i => n - (intOf i).toNat)
  case atStart => exact ⟨0, 0, 0, Nat.zero_le _, rfl, rfl, fl_zero, fl_zero⟩
  case round =>
    obtain ⟨j, x, y, hj, rfl, rfl, hx, hy⟩ := hrel
    by_cases hlt : j < n
    · obtain ⟨b, off, rfl, _, hcell⟩ := hr.at (i := j) (by rw [← hn.out]; exact hlt)
      obtain ⟨u, v, huv, hu, hv⟩ := hz.2 j (by rw [← Hnz.out]; exact hlt)
      rw [huv] at hcell
      have hsn := take_snoc' (0, 0) zs j (by rw [← Hnz.out]; exact hlt)
      obtain ⟨h1, h2⟩ := hs (j + 1)
      rw [hsn, s1_snoc, s1_one] at h1
      rw [hsn, s2_snoc, s2_one] at h2
      obtain ⟨re, im, f1, f2, hadd⟩ := cx_add hx hy hu hv h1 h2
      have F : Fl re (s1 (zs.take (j + 1))) ∧ Fl im (s2 (zs.take (j + 1))) := by rw [hsn, s1_snoc, s1_one, s2_snoc, s2_one]; exact ⟨f1, f2⟩
      clear hsn h1 h2 huv hu hv hx hy f1 f2
      go_wp2
      go_round
      case rel => exact ⟨j + 1, re, im, by omega, by go_num, rfl, F.1, F.2⟩
      case measure => simp [intOf]; omega
    · have e : zs.take j = zs := List.take_of_length_le (by rw [← Hnz.out]; omega)
      rw [e] at hx hy
      clear e
      go_wp2
      go_ret
      exact ⟨_, _, rfl, hx, hy, rfl⟩

theorem fl_const {n : Int} (h : n.natAbs < 2 ^ 53) {k : Nat} (e : floatOfInt .f64 n = k) : Fl k n := by
  have := fl_of_int h
  rwa [e] at this
theorem fl_one : Fl 4607182418800017408 1 := fl_const (by decide) (by decide +kernel)
theorem fl_two : Fl 4611686018427387904 2 := fl_const (by decide) (by decide +kernel)
theorem fl_three : Fl 4613937818241073152 3 := fl_const (by decide) (by decide +kernel)
theorem fl_neg4 : Fl 13839561654909534208 (-4) := fl_const (by decide) (by decide +kernel)
theorem fl_round : Fl 4696837163864555520 1000002 := fl_const (by decide) (by decide +kernel)

theorem cx_mul12 {x y : Nat} {a b : Int} (hx : Fl x a) (hy : Fl y b) (h1 : 0 ≤ a) (h2 : a < 1000003) (h3 : 0 ≤ b) (h4 : b < 1000003) :
    ∃ re im, Fl re (a - 2 * b) ∧ Fl im (2 * a + b) ∧ ∀ (t : TypeId) (w : World), (binOp .mul t (.complex .f64 x y) (.complex .f64 4607182418800017408 4611686018427387904)).run Try.prog w = .ok (.complex .f64 re im) w := by
  obtain ⟨ac, e1, f1⟩ := fl_mul hx fl_one (by omega)
  obtain ⟨bd, e2, f2⟩ := fl_mul hy fl_two (by omega)
  obtain ⟨re, e3, f3⟩ := fl_sub f1 f2 (by omega)
  obtain ⟨ad, e4, f4⟩ := fl_mul hx fl_two (by omega)
  obtain ⟨bc, e5, f5⟩ := fl_mul hy fl_one (by omega)
  obtain ⟨im, e6, f6⟩ := fl_add f4 f5 (by omega)
  refine ⟨re, im, ?_, ?_, fun t w => run_complex_mul w t x y _ _ re im ?_⟩
  · have : a * 1 - b * 2 = a - 2 * b := by omega
    rwa [this] at f3
  · have : a * 2 + b * 1 = 2 * a + b := by omega
    rwa [this] at f6
  · unfold cMulBits
    simp only [e1, e2, e3, e4, e5, e6, Option.bind_some]

set_option maxHeartbeats 400000 in
theorem mark_any (x y : Nat) (a b fn n : Int) (w : World) (hx : Fl x a) (hy : Fl y b) (h1 : 0 ≤ a) (h2 : a < 1000003) (h3 : 0 ≤ b) (h4 : b < 1000003) (h5 : 0 ≤ fn) (h6 : fn ≤ 1000) :
    Calls Try.prog 15 #[.complex .f64 x y, .int .i64 fn, .int .i64 n] w fun e w' => e = .returned (.complex .f64 (floatOfInt .f64 ((a - 2 * b + fn + 1) % 1000003)) (floatOfInt .f64 ((2 * a + b + n) % 1000003))) ∧ w = w' := by
  obtain ⟨re, im, f1, f2, hmul⟩ := cx_mul12 hx hy h1 h2 h3 h4
  have hm0 := Int.emod_nonneg n (show (1000003 : Int) ≠ 0 by decide)
  have hm1 := Int.emod_lt_of_pos n (show (0 : Int) < 1000003 by decide)
  obtain ⟨m, hm⟩ : ∃ m, m = n % 1000003 := ⟨_, rfl⟩
  have hmn : (2 * a + b + n) % 1000003 = (2 * a + b + m) % 1000003 := by rw [hm]; simp
  rw [← hm] at hm0 hm1
  rw [hmn]
  clear hmn
  have Hm := Lib.hid hm; clear hm
  obtain ⟨R, I, g1, g2, hadd⟩ := cx_add f1 f2 (fl_of_int (n := fn + 1) (by omega)) (fl_of_int (n := m) (by omega)) (by omega) (by omega)
  have c1 := fun w => to_int g1 (by omega) (by omega) w 2 Try.underlying2
  have c2 := fun w => to_int g2 (by omega) (by omega) w 2 Try.underlying2
  clear hx hy f1 f2 g1 g2
  go_enter Try.func15, Try.ntmps15
  go_wp2_with fail
  refine (mod_any n w).mono ?_
  rintro e w1 ⟨rfl, rfl⟩
  rw [← Hm.out]
  go_wp2_with fail
  refine (mod_any _ w).mono ?_
  rintro e w1 ⟨rfl, rfl⟩
  go_wp2_with fail
  refine (mod_any _ w).mono ?_
  rintro e w1 ⟨rfl, rfl⟩
  go_wp2_with fail
  go_ret
  have e1 : a - 2 * b + (fn + 1) = a - 2 * b + fn + 1 := by omega
  rw [e1]
  exact ⟨rfl, rfl⟩

theorem ret_ints2 {a b c d : Int} (h1 : a = c) (h2 : b = d) : Ending.returned (.tuple #[.int .i64 a, .int .i64 b]) = Ending.returned (.tuple #[.int .i64 c, .int .i64 d]) := by rw [h1, h2]

set_option maxHeartbeats 400000 in
theorem refmark_any (a b fn n : Int) (w : World) (h1 : 0 ≤ a) (h2 : a < 1000003) (h3 : 0 ≤ b) (h4 : b < 1000003) (h5 : 0 ≤ fn) (h6 : fn ≤ 1000) :
    Calls Try.prog 16 #[.int .i64 a, .int .i64 b, .int .i64 fn, .int .i64 n] w fun e w' => e = .returned (.tuple #[.int .i64 ((a - 2 * b + fn + 1) % 1000003), .int .i64 ((2 * a + b + n) % 1000003)]) ∧ w = w' := by
  have q1 := Int.lt_tmod_of_pos n (show (0:Int) < 1000003 by decide)
  have q2 := Int.tmod_lt_of_pos n (show (0:Int) < 1000003 by decide)
  have hm0 := Int.emod_nonneg n (show (1000003 : Int) ≠ 0 by decide)
  have hm1 := Int.emod_lt_of_pos n (show (0 : Int) < 1000003 by decide)
  have hq : n % 1000003 = if n.tmod 1000003 < 0 then n.tmod 1000003 + 1000003 else n.tmod 1000003 := by
    have e := mod_of n 1000003 (by decide)
    rw [Int.tmod_eq_emod_of_nonneg (by omega)] at e
    split <;> omega
  obtain ⟨m, hm⟩ : ∃ m, m = n % 1000003 := ⟨_, rfl⟩
  have hmn : (2 * a + b + n) % 1000003 = (2 * a + b + m) % 1000003 := by rw [hm]; simp
  rw [← hm] at hm0 hm1 hq
  rw [hmn]
  clear hm hmn
  obtain ⟨t, ht⟩ : ∃ t, t = n.tmod 1000003 := ⟨_, rfl⟩
  rw [← ht] at q1 q2 hq
  have Ht := Lib.hid ht.symm; clear ht
  have r1 := Int.lt_tmod_of_pos (a - 2 * b + fn + 1) (show (0:Int) < 1000003 by decide)
  have r2 := Int.tmod_lt_of_pos (a - 2 * b + fn + 1) (show (0:Int) < 1000003 by decide)
  have e1 := mod_of (a - 2 * b + fn + 1) 1000003 (by decide)
  rw [Int.tmod_eq_emod_of_nonneg (by omega)] at e1
  have E1 := Lib.hid e1; clear e1
  by_cases h0 : t < 0
  · rw [if_pos h0] at hq
    have HQ := Lib.hid hq; clear hq
    have ht := Ht.out
    clear hm0 hm1
    go_enter Try.func16, Try.ntmps16
    go_wp2
    go_ret2
    have HQ2 := HQ.out
    have E1' := E1.out
    exact ⟨ret_ints2 (by omega) (by omega), rfl⟩
  · rw [if_neg h0] at hq
    have HQ := Lib.hid hq; clear hq
    have ht := Ht.out
    clear hm0 hm1
    go_enter Try.func16, Try.ntmps16
    go_wp2
    go_ret2
    have HQ2 := HQ.out
    have E1' := E1.out
    exact ⟨ret_ints2 (by omega) (by omega), rfl⟩

theorem cost_0x29 (w : World) : Calls Try.prog 17 #[.int .i64 41] w fun e w' => e = .returned (.complex .f64 (floatOfInt .f64 1) (floatOfInt .f64 8)) ∧ w = w' := by
  go_enter Try.func17, Try.ntmps17
  go_wp2_with fail
  refine (of_any _ _ _).mono ?_
  rintro e w1 ⟨rfl, rfl⟩
  go_wp2_with fail
  go_ret
  exact ⟨rfl, rfl⟩
theorem cost_0x6a (w : World) : Calls Try.prog 17 #[.int .i64 106] w fun e w' => e = .returned (.complex .f64 (floatOfInt .f64 1) (floatOfInt .f64 0)) ∧ w = w' := by
  go_enter Try.func17, Try.ntmps17
  go_wp2_with fail
  refine (of_any _ _ _).mono ?_
  rintro e w1 ⟨rfl, rfl⟩
  go_wp2_with fail
  go_ret
  exact ⟨rfl, rfl⟩

theorem order_yes {x y : Nat} {a b : Int} (hx : Fl x a) (hy : Fl y b) (h : a = b) : FloatKind.f64.format.order x y = some .eq := by
  rw [fl_order hx hy, h]; simp

/-- A pair of whole numbers as a complex number's words. -/
def cxv (p : Int × Int) : Value := .complex .f64 (floatOfInt .f64 p.1) (floatOfInt .f64 p.2)
theorem cxs_map {zs : List (Int × Int)} (h : ∀ p ∈ zs, p.1.natAbs < 2 ^ 53 ∧ p.2.natAbs < 2 ^ 53) : Cxs (zs.map cxv) zs := by
  refine ⟨by simp, fun i hi => ?_⟩
  have hg : zs.getD i (0, 0) = zs[i] := by rw [List.getD_eq_getElem?_getD, List.getElem?_eq_getElem hi]; rfl
  have hm := h zs[i] (List.getElem_mem hi)
  refine ⟨floatOfInt .f64 zs[i].1, floatOfInt .f64 zs[i].2, by simp [cxv, List.getElem?_eq_getElem hi], ?_, ?_⟩
  · rw [hg]; exact fl_of_int hm.1
  · rw [hg]; exact fl_of_int hm.2
theorem one1_cxv (zs : List (Int × Int)) : One1 (zs.map cxv) := by
  intro u hu
  simp only [List.mem_map] at hu
  obtain ⟨p, _, rfl⟩ := hu
  rfl
def first3 : List (Int × Int) := [(3, 4), (1, 8), (1, 0)]
theorem first3_small : Small first3 := by
  intro j
  rcases (show j = 0 ∨ j = 1 ∨ j = 2 ∨ 3 ≤ j by omega) with rfl | rfl | rfl | h
  · decide
  · decide
  · decide
  · rw [List.take_of_length_le (by simpa [first3] using h)]; decide

set_option maxHeartbeats 1000000 in
theorem begun_any (w : World) :
    Calls Try.prog 8 #[] w fun e w' => e = .returned (.bool true) ∧ Below w.heap.size w w' := by
  go_enter Try.func8, Try.ntmps8
  go_wp2_with fail
  refine (of_any _ _ _).mono ?_
  rintro e w1 ⟨rfl, rfl⟩
  go_wp2_with fail
  refine (cost_0x29 _).mono ?_
  rintro e w1 ⟨rfl, rfl⟩
  go_wp2_with fail
  refine (cost_0x6a _).mono ?_
  rintro e w1 ⟨rfl, rfl⟩
  go_wp2_with fail
  refine (add_any _ (first3.map cxv) first3 3 3 _ _ rfl (by decide) (RdV.lit w _ (one1_cxv _) _ rfl _ _) (cxs_map (by decide)) first3_small).mono ?_
  rintro e w1 ⟨x1, y1, rfl, hx1, hy1, rfl⟩
  have e1 : s1 first3 = 5 := by decide
  have e2 : s2 first3 = 12 := by decide
  rw [e1] at hx1
  rw [e2] at hy1
  clear e1 e2
  go_wp2_with fail
  refine (of_any _ _ _).mono ?_
  rintro e w1 ⟨rfl, rfl⟩
  go_wp2_with fail
  refine (turn_any _ _ 3 4 1 _ (fl_of_int (by decide)) (fl_of_int (by decide))).mono ?_
  rintro e w1 ⟨x2, y2, rfl, hx2, hy2, rfl⟩
  have hx2' : Fl x2 (-4) := hx2
  have hy2' : Fl y2 3 := hy2
  clear hx2 hy2
  go_wp2_with fail
  refine (mark_any _ _ 0 0 2 (-1) _ fl_zero fl_zero (by decide) (by decide) (by decide) (by decide) (by decide) (by decide)).mono ?_
  rintro e w1 ⟨rfl, rfl⟩
  have hx3 : Fl (floatOfInt .f64 ((0 - 2 * 0 + 2 + 1) % 1000003)) 3 := fl_of_int (n := 3) (by decide)
  have hy3 : Fl (floatOfInt .f64 ((2 * 0 + 0 + -1) % 1000003)) 1000002 := fl_of_int (n := 1000002) (by decide)
  generalize floatOfInt .f64 ((0 - 2 * 0 + 2 + 1) % 1000003) = x3 at hx3 ⊢
  generalize floatOfInt .f64 ((2 * 0 + 0 + -1) % 1000003) = y3 at hy3 ⊢
  go_wp2_with fail
  refine (steps_any _ _ _ _ hx1 (by decide) (by decide)).mono ?_
  rintro e w1 ⟨rfl, rfl⟩
  go_wp2_with fail
  refine (bytes_any _ _ _ _ hy1 (by decide) (by decide)).mono ?_
  rintro e w1 ⟨rfl, rfl⟩
  have o1 := order_yes hx2' fl_neg4 rfl
  have o2 := order_yes hy2' fl_three rfl
  have o3 := order_yes hx3 fl_three rfl
  have o4 := order_yes hy3 fl_round rfl
  go_wp2_with fail
  refine (turn_any _ _ _ _ (-1) _ hx2' hy2').mono ?_
  rintro e w1 ⟨x4, y4, rfl, hx4, hy4, rfl⟩
  have hx4' : Fl x4 3 := hx4
  have hy4' : Fl y4 4 := hy4
  clear hx4 hy4
  go_wp2_with fail
  refine (of_any _ _ _).mono ?_
  rintro e w1 ⟨rfl, rfl⟩
  have o5 := order_yes hx4' (fl_of_int (n := 3) (by decide)) rfl
  have o6 := order_yes hy4' (fl_of_int (n := 4) (by decide)) rfl
  go_wp2_with fail
  go_ret
  exact ⟨rfl, (Below.refl _ _).alloc (Nat.le_refl _) _⟩

end Go.Proofs.Ytdnfncbinhbioaa
