/- The walk of TopGlobals: true for any first value, any numbers. No condition. -/
import Derived.Test.YteefpemaeecicaaGreatDoorEwGlobN0
import Derived.Test.YteefpemaeecicaaGreatDoorEwGlobN1
import Derived.Test.YteefpemaeecicaaGreatDoorEwGlobN2
import Derived.Test.YteefpemaeecicaaGreatDoorEwGlobN3
import Derived.Test.YteefpemaeecicaaGreatDoorEwGlobN4
import Derived.Test.YteefpemaeecicaaGreatDoorEwGlobR0
import Derived.Test.YteefpemaeecicaaGreatDoorEwGlobR1
import Derived.Test.YteefpemaeecicaaGreatDoorEwGlobR2
import Derived.Test.YteefpemaeecicaaGreatDoorEwGlobR3
import Derived.Test.YteefpemaeecicaaGreatDoorEwRefWrap
import Derived.Test.YteefpemaeecicaaGreatDoorEwB6
import Derived.Test.YteefpemaeecicaaGreatDoorWords
open Go Go.RowKit Go.Proofs Go.IntWalk
open Go.Proofs.YteefpemaeecicaaGreatDoor
namespace Go.Proofs.YteefpemaeecicaaGreatDoor
open Ev
set_option linter.unusedVariables false
set_option linter.unusedSimpArgs false
theorem gb_mask [R : Rho] {u : Nat} (h : R.n 50 = u) (p q : Nat) {m val : Nat} (hq : q = 2 ^ p) (hp : p ≤ 64) (hm : m + q = 18446744073709551616) (hu : u < 4294967296) (hv : u / q * q = val) :
    cmpD 0 7 (den (.op 3 7 (.var 50) (.lit m)) % kmN 7) (den (.lit val) % kmN 7) = true := by
  have e1 : den (.op 3 7 (.var 50) (.lit m)) = (u % 2 ^ 64) &&& (m % 2 ^ 64) := by rw [← h]; rfl
  have hq0 : 0 < q := by rw [hq]; exact Nat.two_pow_pos p
  have e2 : m = 2 ^ 64 - 2 ^ p := by rw [← hq]; omega
  have e3 : (u % 2 ^ 64) &&& (m % 2 ^ 64) = u / q * q := by
    rw [Nat.mod_eq_of_lt (show u < 2 ^ 64 by omega), Nat.mod_eq_of_lt (show m < 2 ^ 64 by omega), e2, hq]
    refine Nat.eq_of_testBit_eq fun t => ?_
    rw [Nat.testBit_and, pow_sub_bit hp, Nat.testBit_mul_two_pow, Nat.testBit_div_two_pow]
    by_cases h1 : p ≤ t
    · rw [decide_eq_true h1, Nat.sub_add_cancel h1]
      by_cases h2 : t < 64
      · rw [decide_eq_true h2]; simp
      · rw [Nat.testBit_lt_two_pow (Nat.lt_of_lt_of_le (show u < 2 ^ 64 by omega) (Nat.pow_le_pow_right (by omega) (by omega)))]; rfl
    · rw [decide_eq_false h1]; simp
  exact take_eq (by rw [e1, e3, hv]; symm; exact decide_eq_true rfl)
theorem sShr_up {H N a b : Nat} (h : a + 1 ≤ H) : sShr H N a b = a / 2 ^ b := by
  unfold sShr
  rw [ble_iff.2 h]
  rfl
theorem sShr_down {H N a b : Nat} (h : ¬ a + 1 ≤ H) : sShr H N a b = N - 1 - (N - 1 - a) / 2 ^ b := by
  unfold sShr
  rw [ble_no h]
  rfl
theorem sExt_up {H N M a : Nat} (h : ¬ a + 1 ≤ H) : sExt H N M a = a + (M - N) := by
  unfold sExt
  rw [ble_no h]
  rfl
theorem gbE_den [R : Rho] {u : Nat} (h : R.n 50 = u) (hu : u < 4294967296) : den gbE = if u < 2147483648 then u else u + (18446744073709551616 - 4294967296) := by
  have e : den gbE = sExt 2147483648 4294967296 18446744073709551616 (u % 4294967296) := by rw [← h]; rfl
  rw [e, Nat.mod_eq_of_lt hu]
  split
  · exact sExt_lo (by omega)
  · exact sExt_up (by omega)
theorem gb_shr [Rho] (e : Ex) (k : Nat) : den (.op 8 3 e (.lit k)) = sShr (khN 3) (kmN 3) (den e % kmN 3) (k % kmN 3) := rfl
theorem gb_nep [R : Rho] {u : Nat} (h : R.n 50 = u) (k q : Nat) (hq : q = 2 ^ k) (hk : k < 64) (hu : u < 4294967296) (h1 : q ≤ u) (h2 : u < 2147483648) :
    cmpD 0 3 (den (.op 8 3 gbE (.lit k)) % kmN 3) (den (.lit 0) % kmN 3) = false := by
  have e1 : den (.op 8 3 gbE (.lit k)) = u / q := by
    rw [gb_shr, gbE_den h hu, if_pos h2, kmN_3, khN_3, Nat.mod_eq_of_lt (show u < 18446744073709551616 by omega), Nat.mod_eq_of_lt (show k < 18446744073709551616 by omega), hq]
    exact sShr_up (by omega)
  have hq0 : 0 < q := by rw [hq]; exact Nat.two_pow_pos k
  have h3 : 1 ≤ u / q := (Nat.le_div_iff_mul_le hq0).2 (by omega)
  have h4 : u / q ≤ u := Nat.div_le_self _ _
  refine take_eq ?_
  rw [e1, kmN_3]
  symm
  refine decide_eq_false fun e => ?_
  rw [Nat.mod_eq_of_lt (show u / q < 18446744073709551616 by omega), den_lit, Nat.zero_mod] at e
  omega
theorem gb_nen [R : Rho] {u : Nat} (h : R.n 50 = u) (k q : Nat) (hq : q = 2 ^ k) (hk : k < 64) (hu : u < 4294967296) (h1 : q ≤ 4294967295 - u) (h2 : 2147483648 ≤ u) :
    cmpD 0 3 (den (.op 8 3 gbE (.lit k)) % kmN 3) (den (.lit 18446744073709551615) % kmN 3) = false := by
  have e1 : den (.op 8 3 gbE (.lit k)) = 18446744073709551615 - (4294967295 - u) / q := by
    rw [gb_shr, gbE_den h hu, if_neg (by omega), kmN_3, khN_3, Nat.mod_eq_of_lt (show u + (18446744073709551616 - 4294967296) < 18446744073709551616 by omega), Nat.mod_eq_of_lt (show k < 18446744073709551616 by omega), hq]
    rw [sShr_down (by omega), show 18446744073709551616 - 1 - (u + (18446744073709551616 - 4294967296)) = 4294967295 - u by omega]
  have hq0 : 0 < q := by rw [hq]; exact Nat.two_pow_pos k
  have h3 : 1 ≤ (4294967295 - u) / q := (Nat.le_div_iff_mul_le hq0).2 (by omega)
  have h4 : (4294967295 - u) / q ≤ 4294967295 - u := Nat.div_le_self _ _
  refine take_eq ?_
  rw [e1, kmN_3]
  symm
  refine decide_eq_false fun e => ?_
  generalize (4294967295 - u) / q = d at h3 h4 e
  rw [Nat.mod_eq_of_lt (show 18446744073709551615 - d < 18446744073709551616 by omega), den_lit, Nat.mod_eq_of_lt (show 18446744073709551615 < 18446744073709551616 by omega)] at e
  omega
theorem gbHoldp1a [R : Rho] {u : Nat} (h : R.n 50 = u) (hu : u < 4294967296) (h1 : 0 ≤ u) (h2 : u < 64 ∧ u < 2147483648) : Holds gbKp1a := by
  refine holds_cons (gb_mask h 6 64 rfl (by omega) (by omega) hu (by omega)) ?_
  exact holds_nil
theorem gbHoldp2a [R : Rho] {u : Nat} (h : R.n 50 = u) (hu : u < 4294967296) (h1 : 128 ≤ u) (h2 : u < 8192 ∧ u < 2147483648) : Holds gbKp2a := by
  refine holds_cons (gb_mask h 13 8192 rfl (by omega) (by omega) hu (by omega)) ?_
  refine holds_cons (gb_nep h 7 128 rfl (by omega) hu (by omega) (by omega)) ?_
  exact holds_nil
theorem gbHoldp2b [R : Rho] {u : Nat} (h : R.n 50 = u) (hu : u < 4294967296) (h1 : 64 ≤ u) (h2 : u < 128 ∧ u < 2147483648) : Holds gbKp2b := by
  refine holds_cons (gb_mask h 6 64 rfl (by omega) (by omega) hu (by omega)) ?_
  exact holds_nil
theorem gbHoldp3a [R : Rho] {u : Nat} (h : R.n 50 = u) (hu : u < 4294967296) (h1 : 16384 ≤ u) (h2 : u < 1048576 ∧ u < 2147483648) : Holds gbKp3a := by
  refine holds_cons (gb_mask h 20 1048576 rfl (by omega) (by omega) hu (by omega)) ?_
  refine holds_cons (gb_nep h 7 128 rfl (by omega) hu (by omega) (by omega)) ?_
  refine holds_cons (gb_nep h 14 16384 rfl (by omega) hu (by omega) (by omega)) ?_
  exact holds_nil
theorem gbHoldp3b [R : Rho] {u : Nat} (h : R.n 50 = u) (hu : u < 4294967296) (h1 : 8192 ≤ u) (h2 : u < 16384 ∧ u < 2147483648) : Holds gbKp3b := by
  refine holds_cons (gb_mask h 13 8192 rfl (by omega) (by omega) hu (by omega)) ?_
  exact holds_nil
theorem gbHoldp4a [R : Rho] {u : Nat} (h : R.n 50 = u) (hu : u < 4294967296) (h1 : 2097152 ≤ u) (h2 : u < 134217728 ∧ u < 2147483648) : Holds gbKp4a := by
  refine holds_cons (gb_mask h 27 134217728 rfl (by omega) (by omega) hu (by omega)) ?_
  refine holds_cons (gb_nep h 7 128 rfl (by omega) hu (by omega) (by omega)) ?_
  refine holds_cons (gb_nep h 14 16384 rfl (by omega) hu (by omega) (by omega)) ?_
  refine holds_cons (gb_nep h 21 2097152 rfl (by omega) hu (by omega) (by omega)) ?_
  exact holds_nil
theorem gbHoldp4b [R : Rho] {u : Nat} (h : R.n 50 = u) (hu : u < 4294967296) (h1 : 1048576 ≤ u) (h2 : u < 2097152 ∧ u < 2147483648) : Holds gbKp4b := by
  refine holds_cons (gb_mask h 20 1048576 rfl (by omega) (by omega) hu (by omega)) ?_
  exact holds_nil
theorem gbHoldp5a [R : Rho] {u : Nat} (h : R.n 50 = u) (hu : u < 4294967296) (h1 : 268435456 ≤ u) (h2 : u < 2147483648 ∧ u < 2147483648) : Holds gbKp5a := by
  refine holds_cons (gb_mask h 31 2147483648 rfl (by omega) (by omega) hu (by omega)) ?_
  refine holds_cons (gb_nep h 7 128 rfl (by omega) hu (by omega) (by omega)) ?_
  refine holds_cons (gb_nep h 14 16384 rfl (by omega) hu (by omega) (by omega)) ?_
  refine holds_cons (gb_nep h 21 2097152 rfl (by omega) hu (by omega) (by omega)) ?_
  refine holds_cons (gb_nep h 28 268435456 rfl (by omega) hu (by omega) (by omega)) ?_
  exact holds_nil
theorem gbHoldp5b [R : Rho] {u : Nat} (h : R.n 50 = u) (hu : u < 4294967296) (h1 : 134217728 ≤ u) (h2 : u < 268435456 ∧ u < 2147483648) : Holds gbKp5b := by
  refine holds_cons (gb_mask h 27 134217728 rfl (by omega) (by omega) hu (by omega)) ?_
  exact holds_nil
theorem gbHoldn1a [R : Rho] {u : Nat} (h : R.n 50 = u) (hu : u < 4294967296) (h1 : 0 ≤ 4294967295 - u) (h2 : 4294967295 - u < 64 ∧ 2147483648 ≤ u) : Holds gbKn1a := by
  refine holds_cons (gb_mask h 6 64 rfl (by omega) (by omega) hu (by omega)) ?_
  exact holds_nil
theorem gbHoldn2a [R : Rho] {u : Nat} (h : R.n 50 = u) (hu : u < 4294967296) (h1 : 128 ≤ 4294967295 - u) (h2 : 4294967295 - u < 8192 ∧ 2147483648 ≤ u) : Holds gbKn2a := by
  refine holds_cons (gb_mask h 13 8192 rfl (by omega) (by omega) hu (by omega)) ?_
  refine holds_cons (gb_nen h 7 128 rfl (by omega) hu (by omega) (by omega)) ?_
  exact holds_nil
theorem gbHoldn2b [R : Rho] {u : Nat} (h : R.n 50 = u) (hu : u < 4294967296) (h1 : 64 ≤ 4294967295 - u) (h2 : 4294967295 - u < 128 ∧ 2147483648 ≤ u) : Holds gbKn2b := by
  refine holds_cons (gb_mask h 6 64 rfl (by omega) (by omega) hu (by omega)) ?_
  exact holds_nil
theorem gbHoldn3a [R : Rho] {u : Nat} (h : R.n 50 = u) (hu : u < 4294967296) (h1 : 16384 ≤ 4294967295 - u) (h2 : 4294967295 - u < 1048576 ∧ 2147483648 ≤ u) : Holds gbKn3a := by
  refine holds_cons (gb_mask h 20 1048576 rfl (by omega) (by omega) hu (by omega)) ?_
  refine holds_cons (gb_nen h 7 128 rfl (by omega) hu (by omega) (by omega)) ?_
  refine holds_cons (gb_nen h 14 16384 rfl (by omega) hu (by omega) (by omega)) ?_
  exact holds_nil
theorem gbHoldn3b [R : Rho] {u : Nat} (h : R.n 50 = u) (hu : u < 4294967296) (h1 : 8192 ≤ 4294967295 - u) (h2 : 4294967295 - u < 16384 ∧ 2147483648 ≤ u) : Holds gbKn3b := by
  refine holds_cons (gb_mask h 13 8192 rfl (by omega) (by omega) hu (by omega)) ?_
  exact holds_nil
theorem gbHoldn4a [R : Rho] {u : Nat} (h : R.n 50 = u) (hu : u < 4294967296) (h1 : 2097152 ≤ 4294967295 - u) (h2 : 4294967295 - u < 134217728 ∧ 2147483648 ≤ u) : Holds gbKn4a := by
  refine holds_cons (gb_mask h 27 134217728 rfl (by omega) (by omega) hu (by omega)) ?_
  refine holds_cons (gb_nen h 7 128 rfl (by omega) hu (by omega) (by omega)) ?_
  refine holds_cons (gb_nen h 14 16384 rfl (by omega) hu (by omega) (by omega)) ?_
  refine holds_cons (gb_nen h 21 2097152 rfl (by omega) hu (by omega) (by omega)) ?_
  exact holds_nil
theorem gbHoldn4b [R : Rho] {u : Nat} (h : R.n 50 = u) (hu : u < 4294967296) (h1 : 1048576 ≤ 4294967295 - u) (h2 : 4294967295 - u < 2097152 ∧ 2147483648 ≤ u) : Holds gbKn4b := by
  refine holds_cons (gb_mask h 20 1048576 rfl (by omega) (by omega) hu (by omega)) ?_
  exact holds_nil
theorem gbHoldn5a [R : Rho] {u : Nat} (h : R.n 50 = u) (hu : u < 4294967296) (h1 : 268435456 ≤ 4294967295 - u) (h2 : 4294967295 - u < 2147483648 ∧ 2147483648 ≤ u) : Holds gbKn5a := by
  refine holds_cons (gb_mask h 31 2147483648 rfl (by omega) (by omega) hu (by omega)) ?_
  refine holds_cons (gb_nen h 7 128 rfl (by omega) hu (by omega) (by omega)) ?_
  refine holds_cons (gb_nen h 14 16384 rfl (by omega) hu (by omega) (by omega)) ?_
  refine holds_cons (gb_nen h 21 2097152 rfl (by omega) hu (by omega) (by omega)) ?_
  refine holds_cons (gb_nen h 28 268435456 rfl (by omega) hu (by omega) (by omega)) ?_
  exact holds_nil
theorem gbHoldn5b [R : Rho] {u : Nat} (h : R.n 50 = u) (hu : u < 4294967296) (h1 : 134217728 ≤ 4294967295 - u) (h2 : 4294967295 - u < 268435456 ∧ 2147483648 ≤ u) : Holds gbKn5b := by
  refine holds_cons (gb_mask h 27 134217728 rfl (by omega) (by omega) hu (by omega)) ?_
  exact holds_nil

/-- New's contract, whatever the first value is. -/
theorem gb_new [R : Rho] {u : Nat} (h : R.n 50 = u) (hu : u < 4294967296) : Ctr Tryz.prog 12 gbA gbT0 gbC gbV gbT1 gbC := by
  have fin : ∀ {tk : List As} {ps : List (Nm × Nm)}, Holds tk → gbK tk ps = .yes → namesT gbT1 ps = true → Ctr Tryz.prog 12 gbA gbT0 gbC gbV gbT1 gbC := fun {tk} {ps} hA hy hn => by
    unfold gbK at hy
    exact ctr_of_okMT (P := Tryz.prog) (hn := gbH tk []) (ps := ps) (f := 12) (A := gbA) (T0 := gbT0) (T1 := gbT1) (c0 := gbC) (c1 := gbC) (Vs := gbU) (gbH_ok hA LOk.nil) hy gb_disj hn
  rcases Nat.lt_or_ge u 2147483648 with hs | hs
  · -- from nought
    by_cases c1 : u < 64
    · exact fin (gbHoldp1a h hu (by omega) ⟨by omega, by omega⟩) gbNp1a gb_names1
    by_cases c2a : u < 128
    · exact fin (gbHoldp2b h hu (by omega) ⟨by omega, by omega⟩) gbNp2b gb_names2
    by_cases c2b : u < 8192
    · exact fin (gbHoldp2a h hu (by omega) ⟨by omega, by omega⟩) gbNp2a gb_names2
    by_cases c3a : u < 16384
    · exact fin (gbHoldp3b h hu (by omega) ⟨by omega, by omega⟩) gbNp3b gb_names3
    by_cases c3b : u < 1048576
    · exact fin (gbHoldp3a h hu (by omega) ⟨by omega, by omega⟩) gbNp3a gb_names3
    by_cases c4a : u < 2097152
    · exact fin (gbHoldp4b h hu (by omega) ⟨by omega, by omega⟩) gbNp4b gb_names4
    by_cases c4b : u < 134217728
    · exact fin (gbHoldp4a h hu (by omega) ⟨by omega, by omega⟩) gbNp4a gb_names4
    by_cases c5a : u < 268435456
    · exact fin (gbHoldp5b h hu (by omega) ⟨by omega, by omega⟩) gbNp5b gb_names5
    exact fin (gbHoldp5a h hu (by omega) ⟨by omega, by omega⟩) gbNp5a gb_names5
  · -- below nought
    by_cases c1 : 4294967295 - u < 64
    · exact fin (gbHoldn1a h hu (by omega) ⟨by omega, by omega⟩) gbNn1a gb_names1
    by_cases c2a : 4294967295 - u < 128
    · exact fin (gbHoldn2b h hu (by omega) ⟨by omega, by omega⟩) gbNn2b gb_names2
    by_cases c2b : 4294967295 - u < 8192
    · exact fin (gbHoldn2a h hu (by omega) ⟨by omega, by omega⟩) gbNn2a gb_names2
    by_cases c3a : 4294967295 - u < 16384
    · exact fin (gbHoldn3b h hu (by omega) ⟨by omega, by omega⟩) gbNn3b gb_names3
    by_cases c3b : 4294967295 - u < 1048576
    · exact fin (gbHoldn3a h hu (by omega) ⟨by omega, by omega⟩) gbNn3a gb_names3
    by_cases c4a : 4294967295 - u < 2097152
    · exact fin (gbHoldn4b h hu (by omega) ⟨by omega, by omega⟩) gbNn4b gb_names4
    by_cases c4b : 4294967295 - u < 134217728
    · exact fin (gbHoldn4a h hu (by omega) ⟨by omega, by omega⟩) gbNn4a gb_names4
    by_cases c5a : 4294967295 - u < 268435456
    · exact fin (gbHoldn5b h hu (by omega) ⟨by omega, by omega⟩) gbNn5b gb_names5
    exact fin (gbHoldn5a h hu (by omega) ⟨by omega, by omega⟩) gbNn5a gb_names5

theorem gb_enter : Enter Tryz.prog 12 := ⟨Tryz.f12, Tryz.func12, by kernel_rfl, by decide⟩
theorem rho_sub_nil (R : Rho) : @Rho.sub R [] = R := rfl
theorem gbNew_ok [R : Rho] {u : Nat} (h : R.n 50 = u) (hu : u < 4294967296) : FcOk Tryz.prog 12 gbNew := by
  have C := gb_new h hu
  exact ctF_ok (σ := []) gb_enter (by rw [rho_sub_nil]; exact C) gb_inc gb_news
theorem wrap_back {z : Int} (h1 : -9223372036854775808 ≤ z) (h2 : z < 9223372036854775808) : IntKind.i64.wrap (((z % 18446744073709551616).toNat % km .i64 : Nat) : Int) = z := by
  have e : (((z % 18446744073709551616).toNat % km .i64 : Nat) : Int) = z % 18446744073709551616 := by
    show (((z % 18446744073709551616).toNat % 18446744073709551616 : Nat) : Int) = _
    omega
  have hu : (z % 18446744073709551616).toNat % km .i64 < km .i64 := Nat.mod_lt _ (km_pos _)
  rw [wrap_nat hu]
  by_cases hz : 0 ≤ z
  · rw [if_neg (fun h => by have h2 : 9223372036854775808 ≤ (z % 18446744073709551616).toNat % km .i64 := h.2; omega)]
    omega
  · rw [if_pos ⟨rfl, by show 9223372036854775808 ≤ (z % 18446744073709551616).toNat % km .i64; omega⟩]
    show (((z % 18446744073709551616).toNat % km .i64 : Nat) : Int) - ((18446744073709551616 : Nat) : Int) = z
    omega
theorem wrap_back32 {z : Int} (h1 : -2147483648 ≤ z) (h2 : z < 2147483648) : IntKind.i32.wrap (((z % 4294967296).toNat % km .i32 : Nat) : Int) = z := by
  have e : (((z % 4294967296).toNat % km .i32 : Nat) : Int) = z % 4294967296 := by
    show (((z % 4294967296).toNat % 4294967296 : Nat) : Int) = _
    omega
  have hu : (z % 4294967296).toNat % km .i32 < km .i32 := Nat.mod_lt _ (km_pos _)
  rw [wrap_nat hu]
  by_cases hz : 0 ≤ z
  · rw [if_neg (fun h => by have h2 : 2147483648 ≤ (z % 4294967296).toNat % km .i32 := h.2; omega)]
    omega
  · rw [if_pos ⟨rfl, by show 2147483648 ≤ (z % 4294967296).toNat % km .i32; omega⟩]
    show (((z % 4294967296).toNat % km .i32 : Nat) : Int) - ((4294967296 : Nat) : Int) = z
    omega
/-- The block of a row that came in. -/
def inpOf (w : World) (a : Option Addr) (b : Nat) : Option Obj := match a with
  | some x => if b = x.block then w.heap[b]? else none
  | none => none
theorem inpOf_ok (w : World) (a : Option Addr) : ∀ b o, inpOf w a b = some o → w.heap[b]? = some o := by
  intro b o h
  unfold inpOf at h
  split at h
  · split at h
    · exact h
    · cases h
  · cases h
/-- What the unknowns of the law stand for: the first value; how many numbers; the numbers. -/
@[reducible] def rhoG (w : World) (f : Int) (a : Option Addr) (len : Nat) (zs : List Int) : Rho := ⟨fun i => if i = 50 then (f % 4294967296).toNat else if i = 100 then len else (zs.getD i 0 % 18446744073709551616).toNat, fun _ => .bool false, fun _ => rfl, inpOf w a⟩
theorem gbVs_at (i : Nat) (h : i < 15) : gbVs[i]? = some (.var i) := by
  rw [show gbVs = (List.range 15).map Ex.var from rfl, List.getElem?_map, List.getElem?_range h]
  rfl
theorem rowG {w : World} (f : Int) {a : Option Addr} {len cap : Nat} {zs : List Int} (h : IsRow .i64 w a len cap zs) (m : Nat) (hm : m ≤ len) (hm2 : m ≤ 15) : @RowI (rhoG w f a len zs) .i64 a ((gbVs.take m).map fun x => @den (rhoG w f a len zs) x % km .i64) := by
  by_cases h0 : m = 0
  · subst h0; exact .inl rfl
  rcases h with ⟨rfl, rfl, rfl, rfl⟩ | ⟨x, rfl, hl, hx, hz, hc, hw⟩
  · omega
  · obtain ⟨b, off, spot⟩ := x
    have h00 := hc 0 (by omega)
    have hspot : spot = none := by simpa [Addr.add] using World.cell?_spot h00
    subst hspot
    have hobj : ∃ arr ty fr, w.heap[b]? = some (.cells arr ty fr) := by
      unfold World.cell? at h00
      split at h00
      · rename_i c ty fr heq; exact ⟨c, ty, fr, heq⟩
      · cases h00
    obtain ⟨arr, ty, fr, hobj⟩ := hobj
    refine .inr ⟨b, off, arr, ty, fr, rfl, ?_, fun i u hu => ?_⟩
    · show (if b = b then w.heap[b]? else none) = _
      rw [if_pos rfl]
      exact hobj
    · rw [List.getElem?_map, Option.map_eq_some_iff] at hu
      obtain ⟨x, hx2, rfl⟩ := hu
      rw [List.getElem?_take] at hx2
      split at hx2
      · rename_i hi
        have hi : i < m := hi
        rw [gbVs_at i (by omega)] at hx2
        obtain rfl := Option.some.inj hx2
        have h1 := hc i (by omega)
        rw [show (⟨b, off, none⟩ : Addr).add i = ⟨b, off + i, none⟩ by simp [Addr.add]] at h1
        have h2 : @den (rhoG w f (some ⟨b, off, none⟩) len zs) (.var i) = (zs.getD i 0 % 18446744073709551616).toNat := by
          show (if i = 50 then (f % 4294967296).toNat else if i = 100 then len else (zs.getD i 0 % 18446744073709551616).toNat) = _
          rw [if_neg (by omega), if_neg (by omega)]
        have h3 : (Lit.int .i64 (zs.getD i 0)).wf = true := hw _ (by
          rw [List.getD_eq_getElem?_getD, List.getElem?_eq_getElem (by omega)]
          exact List.getElem_mem _)
        obtain ⟨q1, q2⟩ := (Bool.and_eq_true _ _).mp h3
        have q1 := of_decide_eq_true q1
        have q2 := of_decide_eq_true q2
        have e1 : IntKind.i64.min = -9223372036854775808 := by decide
        have e2 : IntKind.i64.max = 9223372036854775807 := by decide
        rw [e1] at q1
        rw [e2] at q2
        rw [h2, wrap_back q1 (by omega)]
        unfold World.cell? at h1
        rw [hobj] at h1
        exact h1
      · cases hx2
theorem gbR_all : ∀ n, n ≤ 15 → gbR n = .yes := by
  intro n hn
  match n, hn with
  | 0, _ => exact gbR0
  | 1, _ => exact gbR1
  | 2, _ => exact gbR2
  | 3, _ => exact gbR3
  | 4, _ => exact gbR4
  | 5, _ => exact gbR5
  | 6, _ => exact gbR6
  | 7, _ => exact gbR7
  | 8, _ => exact gbR8
  | 9, _ => exact gbR9
  | 10, _ => exact gbR10
  | 11, _ => exact gbR11
  | 12, _ => exact gbR12
  | 13, _ => exact gbR13
  | 14, _ => exact gbR14
  | 15, _ => exact gbR15
  | n + 16, h => omega
theorem topGlobals_walk (f : Int) (a : Option Addr) (len cap : Nat) (zs : List Int) (w : World) (w0 : (Lit.int .i32 f).wf = true) (w1 : IsRow .i64 w a len cap zs) :
    Calls Tryz.prog 4 #[.int .i32 f, .slice a len cap] w (fun e w' => e = .returned (.bool true) ∧ Below w.heap.size w w') := by
  obtain ⟨q1, q2⟩ := (Bool.and_eq_true _ _).mp w0
  have q1 := of_decide_eq_true q1
  have q2 := of_decide_eq_true q2
  rw [show IntKind.i32.min = -2147483648 by decide] at q1
  rw [show IntKind.i32.max = 2147483647 by decide] at q2
  have hlc : len ≤ cap ∧ cap ≤ 9223372036854775807 := by
    rcases w1 with ⟨rfl, rfl, rfl, rfl⟩ | ⟨x, rfl, hl, hx, hz, hc, hw⟩
    · omega
    · exact ⟨hl, hx⟩
  have hf : (rhoG w f a len zs).n 50 = (f % 4294967296).toNat := rfl
  have hL : @LOk (rhoG w f a len zs) gbO := @LOk.cons (rhoG w f a len zs) _ _ _ (@yesF_ok Tryz.prog (rhoG w f a len zs) _ begun27) (@LOk.cons (rhoG w f a len zs) _ _ _ (@refwrapF_ok (rhoG w f a len zs)) (@LOk.cons (rhoG w f a len zs) _ _ _ (@gbNew_ok (rhoG w f a len zs) _ hf (by omega)) (@LOk.nil (rhoG w f a len zs))))
  have go : ∀ (le : Ex) (m : Nat) (tk : List As), m ≤ 15 → m ≤ len → @den (rhoG w f a len zs) le % 18446744073709551616 = len → @Holds (rhoG w f a len zs) tk → (gbH tk gbO).run 4 [.y 2 (.var 50), .y 19 (.op 0 0 le (mkE (gbVs.take m)))] hp0 okT = .yes → Calls Tryz.prog 4 #[.int .i32 f, .slice a len cap] w (fun e w' => e = .returned (.bool true) ∧ Below w.heap.size w w') := by
    intro le m tk hm hm2 hle hold hy
    have hv : @VRs (rhoG w f a len zs) mp0 [.y 2 (.var 50), .y 19 (.op 0 0 le (mkE (gbVs.take m)))] #[Value.int .i32 f, Value.slice a len cap].toList := by
      refine @VRs.cons (rhoG w f a len zs) _ _ _ _ _ ?_ (@VRs.cons (rhoG w f a len zs) _ _ _ _ _ ?_ (@VRs.nil (rhoG w f a len zs) _))
      · have := @VR.y (rhoG w f a len zs) mp0 .i32 (.var 50)
        have e : IntKind.i32.wrap ((@den (rhoG w f a len zs) (.var 50) % km .i32 : Nat) : Int) = f := wrap_back32 q1 (by omega)
        rw [e] at this
        exact this
      · exact @VR.yl (rhoG w f a len zs) mp0 .i64 le (gbVs.take m) a len cap (rowG f w1 m hm2 hm) (by rw [List.length_take]; omega) hlc.1 (by omega) hle
    exact @calls_true (rhoG w f a len zs) _ _ (@gbH_ok (rhoG w f a len zs) _ hold _ hL) _ _ hy w _ hv (inpOf_ok w a)
  by_cases hn : len ≤ 15
  · refine go (.lit len) len [] hn (Nat.le_refl _) (Nat.mod_eq_of_lt (show len < 18446744073709551616 by omega)) (@holds_nil (rhoG w f a len zs)) ?_
    have := gbR_all len hn
    unfold gbR gbArg at this
    rw [ltake_eq] at this
    exact this
  · have e : @den (rhoG w f a len zs) (.var 100) % 18446744073709551616 = len := Nat.mod_eq_of_lt (show len < 18446744073709551616 by omega)
    refine go (.var 100) 15 gbTX (Nat.le_refl _) (by omega) e ?_ gbR16
    intro x hx
    have one : ∀ i, i < 16 → cmpD 2 3 (@den (rhoG w f a len zs) (.lit i) % kmN 3) (@den (rhoG w f a len zs) (.var 100) % kmN 3) = true := by
      intro i hi
      show ltN 3 (i % 18446744073709551616) (@den (rhoG w f a len zs) (.var 100) % 18446744073709551616) = true
      rw [e, ltN3, decide_eq_true_eq]
      omega
    unfold gbTX at hx
    simp only [List.mem_cons, List.not_mem_nil, or_false] at hx
    rcases hx with rfl | rfl | rfl | rfl | rfl | rfl | rfl | rfl | rfl | rfl | rfl | rfl | rfl | rfl | rfl | rfl <;> exact one _ (by omega)
end Go.Proofs.YteefpemaeecicaaGreatDoor
