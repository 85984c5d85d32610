/- The walk of MeterMark: it returns true and writes nothing that was there. Conditions: the slice reads as a row of int64. -/
import Derived.Test.YtdnfncbinhbioaaMeterWalks
namespace Go.Proofs.Ytdnfncbinhbioaa
open Go.RowKit
set_option linter.unusedVariables false
attribute [local irreducible] floatOfInt

/-- What the code makes of a number, in each of the walk's spellings: from 0 below m. -/
theorem mod_em (n m : Int) (h : 0 < m) : ((n.tmod m + m).tmod m = n % m ∧ (n.tmod m + m) % m = n % m ∧ n.tmod m % m = n % m) ∧ (-m < n.tmod m ∧ n.tmod m < m) ∧ 0 ≤ n % m ∧ n % m < m := by
  have e := mod_of n m h
  have e' := e
  rw [Int.tmod_eq_emod_of_nonneg (by have := Int.lt_tmod_of_pos n h; omega)] at e'
  exact ⟨⟨e, e', by rw [← e', Int.add_emod_right]⟩, ⟨Int.lt_tmod_of_pos n h, Int.tmod_lt_of_pos n h⟩, Int.emod_nonneg n (by omega), Int.emod_lt_of_pos n h⟩

set_option maxHeartbeats 1000000 in
theorem meterMark_walk (a b fn : Int) (a3 : Option Addr) (len3 cap3 : Nat) (z3 : List Int) (w : World) (w0 : (Lit.int .i64 a).wf = true) (w1 : (Lit.int .i64 b).wf = true) (w2 : (Lit.int .i64 fn).wf = true) (w3 : IsRow .i64 w a3 len3 cap3 z3) :
    Calls Try.prog 5 #[.int .i64 a, .int .i64 b, .int .i64 fn, .slice a3 len3 cap3] w fun e w' => e = .returned (.bool true) ∧ Below w.heap.size w w' := by
  obtain ⟨l, rfl, hl1, hl2, hwf, hr⟩ := isrow_list w3
  clear w0 w1 w2 w3
  obtain ⟨⟨ea1, ea2, ea3⟩, ⟨a1, a2⟩, A1, A2⟩ := mod_em a 1000003 (by decide)
  obtain ⟨⟨eb1, eb2, eb3⟩, ⟨b1, b2⟩, B1, B2⟩ := mod_em b 1000003 (by decide)
  generalize a % 1000003 = A at ea1 ea2 ea3 A1 A2
  generalize b % 1000003 = B at eb1 eb2 eb3 B1 B2
  go_enter Try.func5, Try.ntmps5
  go_wp2_with fail
  refine (begun_any w).mono ?_
  rintro e w1 ⟨rfl, hb1⟩
  have hr1 := hr.below hb1
  clear hr
  go_wp2_with fail
  clear ea1 ea2 ea3 eb1 eb2 eb3 a1 a2 b1 b2
  go_loop [10, 11, 12, 13] (fun x y f i => ∃ (j : Nat) (X Y : Int), j ≤ l.length ∧ i = .int .i64 j ∧ x = .int .i64 X ∧ y = .int .i64 Y ∧ f = .complex .f64 (floatOfInt .f64 X) (floatOfInt .f64 Y) ∧ 0 ≤ X ∧ X < 1000003 ∧ 0 ≤ Y ∧ Y < 1000003) (fun _ _ _ i => l.length - (intOf i).toNat)
  case atStart => exact ⟨0, A, B, Nat.zero_le _, rfl, rfl, rfl, rfl, A1, A2, B1, B2⟩
  case round =>
    obtain ⟨j, X, Y, hj, rfl, rfl, rfl, rfl, X1, X2, Y1, Y2⟩ := hrel
    clear A1 A2 B1 B2
    by_cases hlt : j < l.length
    · have hltd : decide (j < l.length) = true := decide_eq_true hlt
      by_cases h30 : j < 30
      · have h30d : decide ((j : Int) < 30) = true := decide_eq_true (by omega)
        obtain ⟨bb, off, rfl, _, hcell⟩ := hr1.at (i := j) (by simpa using hlt)
        obtain ⟨n, hn⟩ : ∃ n, n = l.getD j 0 := ⟨_, rfl⟩
        have hc : w1.cell? ⟨bb, off + j, none⟩ = some (.int .i64 n) := by
          rw [hcell, hn]; simp [List.getElem?_eq_getElem hlt]
        clear hcell hn
        obtain ⟨⟨ek1, ek2, ek3⟩, ⟨k1, k2⟩, K1, K2⟩ := mod_em (wrap64 (fn + j)) 1001 (by decide)
        generalize wrap64 (fn + j) % 1001 = K at ek1 ek2 ek3 K1 K2
        have hf1 := fl_of_int (n := X) (by omega)
        have hf2 := fl_of_int (n := Y) (by omega)
        go_wp2_with fail
        (with_reducible refine (mark_any _ _ X Y K n w1 hf1 hf2 X1 X2 Y1 Y2 K1 (by omega)).mono ?_)
        rintro e w2 ⟨rfl, rfl⟩
        go_wp2_with fail
        (with_reducible refine (refmark_any X Y K n w1 X1 X2 Y1 Y2 K1 (by omega)).mono ?_)
        rintro e w2 ⟨rfl, rfl⟩
        have z1 := Int.emod_nonneg (X - 2 * Y + K + 1) (show (1000003 : Int) ≠ 0 by decide)
        have z2 := Int.emod_lt_of_pos (X - 2 * Y + K + 1) (show (0 : Int) < 1000003 by decide)
        have z3 := Int.emod_nonneg (2 * X + Y + n) (show (1000003 : Int) ≠ 0 by decide)
        have z4 := Int.emod_lt_of_pos (2 * X + Y + n) (show (0 : Int) < 1000003 by decide)
        generalize (X - 2 * Y + K + 1) % 1000003 = X' at z1 z2 ⊢
        generalize (2 * X + Y + n) % 1000003 = Y' at z3 z4 ⊢
        have o1 := order_yes (fl_of_int (n := X') (by omega)) (fl_of_int (n := X') (by omega)) rfl
        have o2 := order_yes (fl_of_int (n := Y') (by omega)) (fl_of_int (n := Y') (by omega)) rfl
        clear X1 X2 Y1 Y2 K1 K2 hf1 hf2
        go_wp2_with fail
        go_round
        case rel => exact ⟨j + 1, X', Y', hlt, by go_num, rfl, rfl, rfl, z1, z2, z3, z4⟩
        case measure => simp [intOf]; omega
      · have h30d : decide ((j : Int) < 30) = false := decide_eq_false (by omega)
        go_wp2_with fail
        go_ret
        exact ⟨rfl, hb1⟩
    · have hltd : decide (j < l.length) = false := decide_eq_false hlt
      go_wp2_with fail
      go_ret
      exact ⟨rfl, hb1⟩

end Go.Proofs.Ytdnfncbinhbioaa
