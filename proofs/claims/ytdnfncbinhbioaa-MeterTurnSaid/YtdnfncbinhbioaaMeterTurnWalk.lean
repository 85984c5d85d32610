/- The walk of MeterTurn: it returns true and writes nothing that was there. No condition but the kinds' own ranges. -/
import Derived.Test.YtdnfncbinhbioaaMeterWalks
namespace Go.Proofs.Ytdnfncbinhbioaa
open Go.RowKit
set_option linter.unusedVariables false

theorem rot_add (p : Int × Int) (k j : Int) : rot (j % 4).toNat (rot (k % 4).toNat p) = rot ((k + j) % 4).toNat p := by
  have hk : k % 4 = 0 ∨ k % 4 = 1 ∨ k % 4 = 2 ∨ k % 4 = 3 := by omega
  have hj : j % 4 = 0 ∨ j % 4 = 1 ∨ j % 4 = 2 ∨ j % 4 = 3 := by omega
  have hs : (k + j) % 4 = (k % 4 + j % 4) % 4 := Int.add_emod k j 4
  rw [hs]
  rcases hk with h | h | h | h <;> rcases hj with h' | h' | h' | h' <;> rw [h, h'] <;> simp [rot]
theorem rot_add' (p : Int × Int) (k j : Int) : rot (j % 4).toNat ((rot (k % 4).toNat p).1, (rot (k % 4).toNat p).2) = rot ((k + j) % 4).toNat p := rot_add p k j
theorem rot_four (p : Int × Int) : rot ((4 : Int) % 4).toNat p = p := rfl
theorem rot_none (p : Int × Int) : rot ((0 : Int) % 4).toNat p = p := rfl
theorem rot_two (p : Int × Int) : rot ((2 : Int) % 4).toNat p = (-p.1, -p.2) := rfl

set_option maxHeartbeats 1000000 in
theorem meterTurn_walk (a b k j : Int) (w0 : (Lit.int .i64 a).wf = true) (w1 : (Lit.int .i64 b).wf = true) (w2 : (Lit.int .i64 k).wf = true) (w3 : (Lit.int .i64 j).wf = true) (w : World) :
    Calls Try.prog 4 #[.int .i64 a, .int .i64 b, .int .i64 k, .int .i64 j] w fun e w' => e = .returned (.bool true) ∧ Below w.heap.size w w' := by
  clear w0 w1 w2 w3
  have b1 := Int.lt_tmod_of_pos a (show (0:Int) < 1073741824 by decide)
  have b2 := Int.tmod_lt_of_pos a (show (0:Int) < 1073741824 by decide)
  have b3 := Int.lt_tmod_of_pos b (show (0:Int) < 1073741824 by decide)
  have b4 := Int.tmod_lt_of_pos b (show (0:Int) < 1073741824 by decide)
  have b5 := Int.lt_tmod_of_pos k (show (0:Int) < 1000000 by decide)
  have b6 := Int.tmod_lt_of_pos k (show (0:Int) < 1000000 by decide)
  have b7 := Int.lt_tmod_of_pos j (show (0:Int) < 1000000 by decide)
  have b8 := Int.tmod_lt_of_pos j (show (0:Int) < 1000000 by decide)
  go_enter Try.func4, Try.ntmps4
  go_wp2_with fail
  refine (begun_any w).mono ?_
  rintro e w1 ⟨rfl, hb1⟩
  go_wp2_with fail
  refine (part_any a w1).mono ?_
  rintro e w2 ⟨rfl, rfl⟩
  generalize hA : a.tmod 1073741824 = A at b1 b2 ⊢
  have HA := Lib.hid hA; clear hA
  go_wp2_with fail
  refine (part_any b w1).mono ?_
  rintro e w2 ⟨rfl, rfl⟩
  generalize hB : b.tmod 1073741824 = B at b3 b4 ⊢
  have HB := Lib.hid hB; clear hB
  go_wp2_with fail
  refine (of_any A B w1).mono ?_
  rintro e w2 ⟨rfl, rfl⟩
  have hx := fl_of_int (n := A) (by omega)
  have hy := fl_of_int (n := B) (by omega)
  generalize floatOfInt .f64 A = x at hx ⊢
  generalize floatOfInt .f64 B = y at hy ⊢
  go_wp2_with fail
  generalize k.tmod 1000000 = K at b5 b6 ⊢
  generalize j.tmod 1000000 = J at b7 b8 ⊢
  refine (turn_any x y A B 4 w1 hx hy).mono ?_
  rintro e w2 ⟨x1, y1, rfl, hx1, hy1, rfl⟩
  rw [rot_four] at hx1 hy1
  have o1 := order_yes hx1 hx rfl
  have o2 := order_yes hy1 hy rfl
  clear hx1 hy1
  go_wp2_with fail
  refine (turn_any x y A B K w1 hx hy).mono ?_
  rintro e w2 ⟨x2, y2, rfl, hx2, hy2, rfl⟩
  go_wp2_with fail
  refine (turn_any x2 y2 _ _ (-K) w1 hx2 hy2).mono ?_
  rintro e w2 ⟨x3, y3, rfl, hx3, hy3, rfl⟩
  rw [rot_add', Int.add_right_neg, rot_none] at hx3 hy3
  have o3 := order_yes hx3 hx rfl
  have o4 := order_yes hy3 hy rfl
  clear hx2 hy2 hx3 hy3
  go_wp2_with fail
  refine (turn_any x y A B K w1 hx hy).mono ?_
  rintro e w2 ⟨x4, y4, rfl, hx4, hy4, rfl⟩
  go_wp2_with fail
  refine (turn_any x4 y4 _ _ J w1 hx4 hy4).mono ?_
  rintro e w2 ⟨x5, y5, rfl, hx5, hy5, rfl⟩
  rw [rot_add'] at hx5 hy5
  clear hx4 hy4
  go_wp2_with fail
  refine (turn_any x y A B (K + J) w1 hx hy).mono ?_
  rintro e w2 ⟨x6, y6, rfl, hx6, hy6, rfl⟩
  have o5 := order_yes hx5 hx6 rfl
  have o6 := order_yes hy5 hy6 rfl
  clear hx5 hy5 hx6 hy6
  go_wp2_with fail
  refine (turn_any x y A B 2 w1 hx hy).mono ?_
  rintro e w2 ⟨x7, y7, rfl, hx7, hy7, rfl⟩
  rw [rot_two] at hx7 hy7
  go_wp2_with fail
  refine (part_any a w1).mono ?_
  rintro e w2 ⟨rfl, rfl⟩
  rw [HA.out]
  go_wp2_with fail
  refine (part_any b w1).mono ?_
  rintro e w2 ⟨rfl, rfl⟩
  rw [HB.out]
  go_wp2_with fail
  refine (of_any (-A) (-B) w1).mono ?_
  rintro e w2 ⟨rfl, rfl⟩
  have o7 := order_yes hx7 (fl_of_int (n := -A) (by omega)) rfl
  have o8 := order_yes hy7 (fl_of_int (n := -B) (by omega)) rfl
  clear hx7 hy7
  go_wp2_with fail
  go_ret
  exact ⟨rfl, hb1⟩

end Go.Proofs.Ytdnfncbinhbioaa
