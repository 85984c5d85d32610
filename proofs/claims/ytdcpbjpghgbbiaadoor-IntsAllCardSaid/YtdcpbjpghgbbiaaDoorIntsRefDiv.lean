/- The contract of the reference's divide: what ints.divided gives. Printed by gen_rdiv.py. -/
import Derived.Test.YtdcpbjpghgbbiaaDoorIntsRefMath
namespace Go.Proofs.YtdcpbjpghgbbiaaDoor
open Go.RowKit
set_option linter.unusedVariables false
set_option maxHeartbeats 4000000
set_option maxRecDepth 100000

theorem one_cell (w : World) : (w.alloc (.cells #[.int .i64 0, .int .i64 0] 23)).cell? ⟨w.heap.size, 0, none⟩ = some (.int .i64 0) ∧ (w.alloc (.cells #[.int .i64 0, .int .i64 0] 23)).cell? ⟨w.heap.size, 1, none⟩ = some (.int .i64 0) ∧ (∀ o, (w.alloc (.cells #[.int .i64 0, .int .i64 0] 23)).frozen? ⟨w.heap.size, o, none⟩ = false) :=
  ⟨by simp, by simp, fun o => World.frozen?_alloc_at _ _ _ _ rfl⟩
theorem rdiv0_1_109 (n m X : Int) (w : World) :
    Calls Tryd.prog 44 #[.int .i64 109, .int .i64 1, .int .i64 n, .int .i64 m, .int .u64 X, .int .u64 0] w fun e w' => e = .returned (T2 0 0 2) ∧ Below w.heap.size w w' := by
  go_enter Tryd.func44, Tryd.ntmps44
  go_wp2_with fail
  exact bodyPost_ret (v := .tuple #[.agg #[.int .i64 0, .int .i64 0], .int .i64 2]) (by simp [results, Tryd.results44, go_sem]) rfl ⟨rfl, by first | exact one_block _ _ | exact ((one_block _ _).setCell (by simp) _).setCell (by simp) _⟩
theorem rdiv0_1_110 (n m X : Int) (w : World) :
    Calls Tryd.prog 44 #[.int .i64 110, .int .i64 1, .int .i64 n, .int .i64 m, .int .u64 X, .int .u64 0] w fun e w' => e = .returned (T2 0 0 2) ∧ Below w.heap.size w w' := by
  go_enter Tryd.func44, Tryd.ntmps44
  go_wp2_with fail
  exact bodyPost_ret (v := .tuple #[.agg #[.int .i64 0, .int .i64 0], .int .i64 2]) (by simp [results, Tryd.results44, go_sem]) rfl ⟨rfl, by first | exact one_block _ _ | exact ((one_block _ _).setCell (by simp) _).setCell (by simp) _⟩
theorem rdiv0_1_111 (n m X : Int) (w : World) :
    Calls Tryd.prog 44 #[.int .i64 111, .int .i64 1, .int .i64 n, .int .i64 m, .int .u64 X, .int .u64 0] w fun e w' => e = .returned (T2 0 0 2) ∧ Below w.heap.size w w' := by
  go_enter Tryd.func44, Tryd.ntmps44
  go_wp2_with fail
  exact bodyPost_ret (v := .tuple #[.agg #[.int .i64 0, .int .i64 0], .int .i64 2]) (by simp [results, Tryd.results44, go_sem]) rfl ⟨rfl, by first | exact one_block _ _ | exact ((one_block _ _).setCell (by simp) _).setCell (by simp) _⟩
theorem rdiv0_1_112 (n m X : Int) (w : World) :
    Calls Tryd.prog 44 #[.int .i64 112, .int .i64 1, .int .i64 n, .int .i64 m, .int .u64 X, .int .u64 0] w fun e w' => e = .returned (T2 0 0 2) ∧ Below w.heap.size w w' := by
  go_enter Tryd.func44, Tryd.ntmps44
  go_wp2_with fail
  exact bodyPost_ret (v := .tuple #[.agg #[.int .i64 0, .int .i64 0], .int .i64 2]) (by simp [results, Tryd.results44, go_sem]) rfl ⟨rfl, by first | exact one_block _ _ | exact ((one_block _ _).setCell (by simp) _).setCell (by simp) _⟩
theorem rdivo_1 (X Y : Int) (w : World) (hy : ¬ Y = 0) :
    Calls Tryd.prog 44 #[.int .i64 109, .int .i64 1, .int .i64 (-2147483648), .int .i64 (-1), .int .u64 X, .int .u64 Y] w fun e w' => e = .returned (T2 0 0 3) ∧ Below w.heap.size w w' := by
  go_enter Tryd.func44, Tryd.ntmps44
  go_wp2_with fail
  exact bodyPost_ret (v := .tuple #[.agg #[.int .i64 0, .int .i64 0], .int .i64 3]) (by simp [results, Tryd.results44, go_sem]) rfl ⟨rfl, by first | exact one_block _ _ | exact ((one_block _ _).setCell (by simp) _).setCell (by simp) _⟩
theorem rdivs_1 (n m X Y : Int) (w : World) (hy : ¬ Y = 0) (hm : ¬ m = 0) (ho : ¬ n = -2147483648) :
    Calls Tryd.prog 44 #[.int .i64 109, .int .i64 1, .int .i64 n, .int .i64 m, .int .u64 X, .int .u64 Y] w fun e w' => e = .returned (T2 1 (wk 1 (wrap64 (n.tdiv m))) 0) ∧ Below w.heap.size w w' := by
  go_enter Tryd.func44, Tryd.ntmps44
  go_wp2_with fail
  obtain ⟨c1, c2, c3⟩ := one_cell w
  refine (refwrap_1 _ _).mono ?_
  rintro e w2 ⟨rfl, hb2⟩
  have d1 := cell_up hb2 w.heap.size 0 (by simp) c1
  have d2 := cell_up hb2 w.heap.size 1 (by simp) c2
  have d3 : ∀ o, w2.frozen? ⟨w.heap.size, o, none⟩ = false := fun o => froz_up hb2 w.heap.size o (by simp) (c3 o)
  have hb := (one_block w (.cells #[.int .i64 0, .int .i64 0] 23)).trans (hb2.mono (by simp))
  have hlt : w.heap.size < w2.heap.size := Nat.lt_of_lt_of_le (by simp) hb2.size
  clear c1 c2 c3
  go_wp2_with fail
  exact bodyPost_ret (v := .tuple #[.agg #[.int .i64 1, .int .i64 (wk 1 (wrap64 (n.tdiv m)))], .int .i64 0]) (by simp [results, Tryd.results44, go_sem, d1, d2]) rfl ⟨rfl, (hb.setCell (by simp) _).setCell (by simp) _⟩
theorem rdivt_1 (m X Y : Int) (w : World) (hy : ¬ Y = 0) (hm : ¬ m = 0) (ho : ¬ m = -1) :
    Calls Tryd.prog 44 #[.int .i64 109, .int .i64 1, .int .i64 (-2147483648), .int .i64 m, .int .u64 X, .int .u64 Y] w fun e w' => e = .returned (T2 1 (wk 1 (wrap64 ((-2147483648 : Int).tdiv m))) 0) ∧ Below w.heap.size w w' := by
  go_enter Tryd.func44, Tryd.ntmps44
  go_wp2_with fail
  obtain ⟨c1, c2, c3⟩ := one_cell w
  refine (refwrap_1 _ _).mono ?_
  rintro e w2 ⟨rfl, hb2⟩
  have d1 := cell_up hb2 w.heap.size 0 (by simp) c1
  have d2 := cell_up hb2 w.heap.size 1 (by simp) c2
  have d3 : ∀ o, w2.frozen? ⟨w.heap.size, o, none⟩ = false := fun o => froz_up hb2 w.heap.size o (by simp) (c3 o)
  have hb := (one_block w (.cells #[.int .i64 0, .int .i64 0] 23)).trans (hb2.mono (by simp))
  have hlt : w.heap.size < w2.heap.size := Nat.lt_of_lt_of_le (by simp) hb2.size
  clear c1 c2 c3
  go_wp2_with fail
  exact bodyPost_ret (v := .tuple #[.agg #[.int .i64 1, .int .i64 (wk 1 (wrap64 ((-2147483648 : Int).tdiv m)))], .int .i64 0]) (by simp [results, Tryd.results44, go_sem, d1, d2]) rfl ⟨rfl, (hb.setCell (by simp) _).setCell (by simp) _⟩
theorem rdivu_1 (n m X Y : Int) (w : World) (hy : ¬ Y = 0) (hx0 : 0 ≤ X) (hy0 : 0 ≤ Y) :
    Calls Tryd.prog 44 #[.int .i64 110, .int .i64 1, .int .i64 n, .int .i64 m, .int .u64 X, .int .u64 Y] w fun e w' => e = .returned (T2 1 (wk 1 (wrap64 (IntKind.u64.wrap (X.tdiv Y)))) 0) ∧ Below w.heap.size w w' := by
  go_enter Tryd.func44, Tryd.ntmps44
  go_wp2_with fail
  obtain ⟨c1, c2, c3⟩ := one_cell w
  refine (refwrap_1 _ _).mono ?_
  rintro e w2 ⟨rfl, hb2⟩
  have d1 := cell_up hb2 w.heap.size 0 (by simp) c1
  have d2 := cell_up hb2 w.heap.size 1 (by simp) c2
  have d3 : ∀ o, w2.frozen? ⟨w.heap.size, o, none⟩ = false := fun o => froz_up hb2 w.heap.size o (by simp) (c3 o)
  have hb := (one_block w (.cells #[.int .i64 0, .int .i64 0] 23)).trans (hb2.mono (by simp))
  have hlt : w.heap.size < w2.heap.size := Nat.lt_of_lt_of_le (by simp) hb2.size
  clear c1 c2 c3
  go_wp2_with fail
  exact bodyPost_ret (v := .tuple #[.agg #[.int .i64 1, .int .i64 (wk 1 (wrap64 (IntKind.u64.wrap (X.tdiv Y))))], .int .i64 0]) (by simp [results, Tryd.results44, go_sem, d1, d2]) rfl ⟨rfl, (hb.setCell (by simp) _).setCell (by simp) _⟩
theorem rremo_1 (n X Y : Int) (w : World) (hy : ¬ Y = 0) :
    Calls Tryd.prog 44 #[.int .i64 111, .int .i64 1, .int .i64 n, .int .i64 (-1), .int .u64 X, .int .u64 Y] w fun e w' => e = .returned (T2 1 0 0) ∧ Below w.heap.size w w' := by
  go_enter Tryd.func44, Tryd.ntmps44
  go_wp2_with fail
  exact bodyPost_ret (v := .tuple #[.agg #[.int .i64 1, .int .i64 0], .int .i64 0]) (by simp [results, Tryd.results44, go_sem]) rfl ⟨rfl, by first | exact one_block _ _ | exact ((one_block _ _).setCell (by simp) _).setCell (by simp) _⟩
theorem rrems_1 (n m X Y : Int) (w : World) (hy : ¬ Y = 0) (hm : ¬ m = 0) (ho : ¬ m = -1) :
    Calls Tryd.prog 44 #[.int .i64 111, .int .i64 1, .int .i64 n, .int .i64 m, .int .u64 X, .int .u64 Y] w fun e w' => e = .returned (T2 1 (wk 1 (n.tmod m)) 0) ∧ Below w.heap.size w w' := by
  go_enter Tryd.func44, Tryd.ntmps44
  go_wp2_with fail
  obtain ⟨c1, c2, c3⟩ := one_cell w
  refine (refwrap_1 _ _).mono ?_
  rintro e w2 ⟨rfl, hb2⟩
  have d1 := cell_up hb2 w.heap.size 0 (by simp) c1
  have d2 := cell_up hb2 w.heap.size 1 (by simp) c2
  have d3 : ∀ o, w2.frozen? ⟨w.heap.size, o, none⟩ = false := fun o => froz_up hb2 w.heap.size o (by simp) (c3 o)
  have hb := (one_block w (.cells #[.int .i64 0, .int .i64 0] 23)).trans (hb2.mono (by simp))
  have hlt : w.heap.size < w2.heap.size := Nat.lt_of_lt_of_le (by simp) hb2.size
  clear c1 c2 c3
  go_wp2_with fail
  exact bodyPost_ret (v := .tuple #[.agg #[.int .i64 1, .int .i64 (wk 1 (n.tmod m))], .int .i64 0]) (by simp [results, Tryd.results44, go_sem, d1, d2]) rfl ⟨rfl, (hb.setCell (by simp) _).setCell (by simp) _⟩
theorem rremu_1 (n m X Y : Int) (w : World) (hy : ¬ Y = 0) (hx0 : 0 ≤ X) (hy0 : 0 ≤ Y) :
    Calls Tryd.prog 44 #[.int .i64 112, .int .i64 1, .int .i64 n, .int .i64 m, .int .u64 X, .int .u64 Y] w fun e w' => e = .returned (T2 1 (wk 1 (wrap64 (X % Y))) 0) ∧ Below w.heap.size w w' := by
  go_enter Tryd.func44, Tryd.ntmps44
  go_wp2_with fail
  obtain ⟨c1, c2, c3⟩ := one_cell w
  refine (refwrap_1 _ _).mono ?_
  rintro e w2 ⟨rfl, hb2⟩
  have d1 := cell_up hb2 w.heap.size 0 (by simp) c1
  have d2 := cell_up hb2 w.heap.size 1 (by simp) c2
  have d3 : ∀ o, w2.frozen? ⟨w.heap.size, o, none⟩ = false := fun o => froz_up hb2 w.heap.size o (by simp) (c3 o)
  have hb := (one_block w (.cells #[.int .i64 0, .int .i64 0] 23)).trans (hb2.mono (by simp))
  have hlt : w.heap.size < w2.heap.size := Nat.lt_of_lt_of_le (by simp) hb2.size
  clear c1 c2 c3
  go_wp2_with fail
  exact bodyPost_ret (v := .tuple #[.agg #[.int .i64 1, .int .i64 (wk 1 (wrap64 (X % Y)))], .int .i64 0]) (by simp [results, Tryd.results44, go_sem, d1, d2]) rfl ⟨rfl, (hb.setCell (by simp) _).setCell (by simp) _⟩
theorem rdiv0_2_109 (n m X : Int) (w : World) :
    Calls Tryd.prog 44 #[.int .i64 109, .int .i64 2, .int .i64 n, .int .i64 m, .int .u64 X, .int .u64 0] w fun e w' => e = .returned (T2 0 0 2) ∧ Below w.heap.size w w' := by
  go_enter Tryd.func44, Tryd.ntmps44
  go_wp2_with fail
  exact bodyPost_ret (v := .tuple #[.agg #[.int .i64 0, .int .i64 0], .int .i64 2]) (by simp [results, Tryd.results44, go_sem]) rfl ⟨rfl, by first | exact one_block _ _ | exact ((one_block _ _).setCell (by simp) _).setCell (by simp) _⟩
theorem rdiv0_2_110 (n m X : Int) (w : World) :
    Calls Tryd.prog 44 #[.int .i64 110, .int .i64 2, .int .i64 n, .int .i64 m, .int .u64 X, .int .u64 0] w fun e w' => e = .returned (T2 0 0 2) ∧ Below w.heap.size w w' := by
  go_enter Tryd.func44, Tryd.ntmps44
  go_wp2_with fail
  exact bodyPost_ret (v := .tuple #[.agg #[.int .i64 0, .int .i64 0], .int .i64 2]) (by simp [results, Tryd.results44, go_sem]) rfl ⟨rfl, by first | exact one_block _ _ | exact ((one_block _ _).setCell (by simp) _).setCell (by simp) _⟩
theorem rdiv0_2_111 (n m X : Int) (w : World) :
    Calls Tryd.prog 44 #[.int .i64 111, .int .i64 2, .int .i64 n, .int .i64 m, .int .u64 X, .int .u64 0] w fun e w' => e = .returned (T2 0 0 2) ∧ Below w.heap.size w w' := by
  go_enter Tryd.func44, Tryd.ntmps44
  go_wp2_with fail
  exact bodyPost_ret (v := .tuple #[.agg #[.int .i64 0, .int .i64 0], .int .i64 2]) (by simp [results, Tryd.results44, go_sem]) rfl ⟨rfl, by first | exact one_block _ _ | exact ((one_block _ _).setCell (by simp) _).setCell (by simp) _⟩
theorem rdiv0_2_112 (n m X : Int) (w : World) :
    Calls Tryd.prog 44 #[.int .i64 112, .int .i64 2, .int .i64 n, .int .i64 m, .int .u64 X, .int .u64 0] w fun e w' => e = .returned (T2 0 0 2) ∧ Below w.heap.size w w' := by
  go_enter Tryd.func44, Tryd.ntmps44
  go_wp2_with fail
  exact bodyPost_ret (v := .tuple #[.agg #[.int .i64 0, .int .i64 0], .int .i64 2]) (by simp [results, Tryd.results44, go_sem]) rfl ⟨rfl, by first | exact one_block _ _ | exact ((one_block _ _).setCell (by simp) _).setCell (by simp) _⟩
theorem rdivo_2 (X Y : Int) (w : World) (hy : ¬ Y = 0) :
    Calls Tryd.prog 44 #[.int .i64 109, .int .i64 2, .int .i64 (-9223372036854775808), .int .i64 (-1), .int .u64 X, .int .u64 Y] w fun e w' => e = .returned (T2 0 0 3) ∧ Below w.heap.size w w' := by
  go_enter Tryd.func44, Tryd.ntmps44
  go_wp2_with fail
  exact bodyPost_ret (v := .tuple #[.agg #[.int .i64 0, .int .i64 0], .int .i64 3]) (by simp [results, Tryd.results44, go_sem]) rfl ⟨rfl, by first | exact one_block _ _ | exact ((one_block _ _).setCell (by simp) _).setCell (by simp) _⟩
theorem rdivs_2 (n m X Y : Int) (w : World) (hy : ¬ Y = 0) (hm : ¬ m = 0) (ho : ¬ n = -9223372036854775808) :
    Calls Tryd.prog 44 #[.int .i64 109, .int .i64 2, .int .i64 n, .int .i64 m, .int .u64 X, .int .u64 Y] w fun e w' => e = .returned (T2 2 (wk 2 (wrap64 (n.tdiv m))) 0) ∧ Below w.heap.size w w' := by
  go_enter Tryd.func44, Tryd.ntmps44
  go_wp2_with fail
  obtain ⟨c1, c2, c3⟩ := one_cell w
  refine (refwrap_2 _ _).mono ?_
  rintro e w2 ⟨rfl, hb2⟩
  have d1 := cell_up hb2 w.heap.size 0 (by simp) c1
  have d2 := cell_up hb2 w.heap.size 1 (by simp) c2
  have d3 : ∀ o, w2.frozen? ⟨w.heap.size, o, none⟩ = false := fun o => froz_up hb2 w.heap.size o (by simp) (c3 o)
  have hb := (one_block w (.cells #[.int .i64 0, .int .i64 0] 23)).trans (hb2.mono (by simp))
  have hlt : w.heap.size < w2.heap.size := Nat.lt_of_lt_of_le (by simp) hb2.size
  clear c1 c2 c3
  go_wp2_with fail
  exact bodyPost_ret (v := .tuple #[.agg #[.int .i64 2, .int .i64 (wk 2 (wrap64 (n.tdiv m)))], .int .i64 0]) (by simp [results, Tryd.results44, go_sem, d1, d2]) rfl ⟨rfl, (hb.setCell (by simp) _).setCell (by simp) _⟩
theorem rdivt_2 (m X Y : Int) (w : World) (hy : ¬ Y = 0) (hm : ¬ m = 0) (ho : ¬ m = -1) :
    Calls Tryd.prog 44 #[.int .i64 109, .int .i64 2, .int .i64 (-9223372036854775808), .int .i64 m, .int .u64 X, .int .u64 Y] w fun e w' => e = .returned (T2 2 (wk 2 (wrap64 ((-9223372036854775808 : Int).tdiv m))) 0) ∧ Below w.heap.size w w' := by
  go_enter Tryd.func44, Tryd.ntmps44
  go_wp2_with fail
  obtain ⟨c1, c2, c3⟩ := one_cell w
  refine (refwrap_2 _ _).mono ?_
  rintro e w2 ⟨rfl, hb2⟩
  have d1 := cell_up hb2 w.heap.size 0 (by simp) c1
  have d2 := cell_up hb2 w.heap.size 1 (by simp) c2
  have d3 : ∀ o, w2.frozen? ⟨w.heap.size, o, none⟩ = false := fun o => froz_up hb2 w.heap.size o (by simp) (c3 o)
  have hb := (one_block w (.cells #[.int .i64 0, .int .i64 0] 23)).trans (hb2.mono (by simp))
  have hlt : w.heap.size < w2.heap.size := Nat.lt_of_lt_of_le (by simp) hb2.size
  clear c1 c2 c3
  go_wp2_with fail
  exact bodyPost_ret (v := .tuple #[.agg #[.int .i64 2, .int .i64 (wk 2 (wrap64 ((-9223372036854775808 : Int).tdiv m)))], .int .i64 0]) (by simp [results, Tryd.results44, go_sem, d1, d2]) rfl ⟨rfl, (hb.setCell (by simp) _).setCell (by simp) _⟩
theorem rdivu_2 (n m X Y : Int) (w : World) (hy : ¬ Y = 0) (hx0 : 0 ≤ X) (hy0 : 0 ≤ Y) :
    Calls Tryd.prog 44 #[.int .i64 110, .int .i64 2, .int .i64 n, .int .i64 m, .int .u64 X, .int .u64 Y] w fun e w' => e = .returned (T2 2 (wk 2 (wrap64 (IntKind.u64.wrap (X.tdiv Y)))) 0) ∧ Below w.heap.size w w' := by
  go_enter Tryd.func44, Tryd.ntmps44
  go_wp2_with fail
  obtain ⟨c1, c2, c3⟩ := one_cell w
  refine (refwrap_2 _ _).mono ?_
  rintro e w2 ⟨rfl, hb2⟩
  have d1 := cell_up hb2 w.heap.size 0 (by simp) c1
  have d2 := cell_up hb2 w.heap.size 1 (by simp) c2
  have d3 : ∀ o, w2.frozen? ⟨w.heap.size, o, none⟩ = false := fun o => froz_up hb2 w.heap.size o (by simp) (c3 o)
  have hb := (one_block w (.cells #[.int .i64 0, .int .i64 0] 23)).trans (hb2.mono (by simp))
  have hlt : w.heap.size < w2.heap.size := Nat.lt_of_lt_of_le (by simp) hb2.size
  clear c1 c2 c3
  go_wp2_with fail
  exact bodyPost_ret (v := .tuple #[.agg #[.int .i64 2, .int .i64 (wk 2 (wrap64 (IntKind.u64.wrap (X.tdiv Y))))], .int .i64 0]) (by simp [results, Tryd.results44, go_sem, d1, d2]) rfl ⟨rfl, (hb.setCell (by simp) _).setCell (by simp) _⟩
theorem rremo_2 (n X Y : Int) (w : World) (hy : ¬ Y = 0) :
    Calls Tryd.prog 44 #[.int .i64 111, .int .i64 2, .int .i64 n, .int .i64 (-1), .int .u64 X, .int .u64 Y] w fun e w' => e = .returned (T2 2 0 0) ∧ Below w.heap.size w w' := by
  go_enter Tryd.func44, Tryd.ntmps44
  go_wp2_with fail
  exact bodyPost_ret (v := .tuple #[.agg #[.int .i64 2, .int .i64 0], .int .i64 0]) (by simp [results, Tryd.results44, go_sem]) rfl ⟨rfl, by first | exact one_block _ _ | exact ((one_block _ _).setCell (by simp) _).setCell (by simp) _⟩
theorem rrems_2 (n m X Y : Int) (w : World) (hy : ¬ Y = 0) (hm : ¬ m = 0) (ho : ¬ m = -1) :
    Calls Tryd.prog 44 #[.int .i64 111, .int .i64 2, .int .i64 n, .int .i64 m, .int .u64 X, .int .u64 Y] w fun e w' => e = .returned (T2 2 (wk 2 (n.tmod m)) 0) ∧ Below w.heap.size w w' := by
  go_enter Tryd.func44, Tryd.ntmps44
  go_wp2_with fail
  obtain ⟨c1, c2, c3⟩ := one_cell w
  refine (refwrap_2 _ _).mono ?_
  rintro e w2 ⟨rfl, hb2⟩
  have d1 := cell_up hb2 w.heap.size 0 (by simp) c1
  have d2 := cell_up hb2 w.heap.size 1 (by simp) c2
  have d3 : ∀ o, w2.frozen? ⟨w.heap.size, o, none⟩ = false := fun o => froz_up hb2 w.heap.size o (by simp) (c3 o)
  have hb := (one_block w (.cells #[.int .i64 0, .int .i64 0] 23)).trans (hb2.mono (by simp))
  have hlt : w.heap.size < w2.heap.size := Nat.lt_of_lt_of_le (by simp) hb2.size
  clear c1 c2 c3
  go_wp2_with fail
  exact bodyPost_ret (v := .tuple #[.agg #[.int .i64 2, .int .i64 (wk 2 (n.tmod m))], .int .i64 0]) (by simp [results, Tryd.results44, go_sem, d1, d2]) rfl ⟨rfl, (hb.setCell (by simp) _).setCell (by simp) _⟩
theorem rremu_2 (n m X Y : Int) (w : World) (hy : ¬ Y = 0) (hx0 : 0 ≤ X) (hy0 : 0 ≤ Y) :
    Calls Tryd.prog 44 #[.int .i64 112, .int .i64 2, .int .i64 n, .int .i64 m, .int .u64 X, .int .u64 Y] w fun e w' => e = .returned (T2 2 (wk 2 (wrap64 (X % Y))) 0) ∧ Below w.heap.size w w' := by
  go_enter Tryd.func44, Tryd.ntmps44
  go_wp2_with fail
  obtain ⟨c1, c2, c3⟩ := one_cell w
  refine (refwrap_2 _ _).mono ?_
  rintro e w2 ⟨rfl, hb2⟩
  have d1 := cell_up hb2 w.heap.size 0 (by simp) c1
  have d2 := cell_up hb2 w.heap.size 1 (by simp) c2
  have d3 : ∀ o, w2.frozen? ⟨w.heap.size, o, none⟩ = false := fun o => froz_up hb2 w.heap.size o (by simp) (c3 o)
  have hb := (one_block w (.cells #[.int .i64 0, .int .i64 0] 23)).trans (hb2.mono (by simp))
  have hlt : w.heap.size < w2.heap.size := Nat.lt_of_lt_of_le (by simp) hb2.size
  clear c1 c2 c3
  go_wp2_with fail
  exact bodyPost_ret (v := .tuple #[.agg #[.int .i64 2, .int .i64 (wk 2 (wrap64 (X % Y)))], .int .i64 0]) (by simp [results, Tryd.results44, go_sem, d1, d2]) rfl ⟨rfl, (hb.setCell (by simp) _).setCell (by simp) _⟩
theorem low_zero (k n : Int) (hk : k = 1 ∨ k = 2) (h : RK k n) : low (k, n) = 0 ↔ n = 0 := by
  rcases hk with rfl | rfl
  · have a : -2147483648 ≤ n ∧ n ≤ 2147483647 := h
    rw [low1]; omega
  · have a : -9223372036854775808 ≤ n ∧ n ≤ 9223372036854775807 := h
    rw [low2]; omega
theorem rdiv_any (c k n m : Int) (w : World) (hk : k = 1 ∨ k = 2) (hc : c = 109 ∨ c = 110 ∨ c = 111 ∨ c = 112) (hn : RK k n) (hm : RK k m) :
    Calls Tryd.prog 44 #[.int .i64 c, .int .i64 k, .int .i64 n, .int .i64 m, .int .u64 (low (k, n)), .int .u64 (low (k, m))] w fun e w' => e = .returned (T2 (divV k c n m).1 (divV k c n m).2.1 (divV k c n m).2.2) ∧ Below w.heap.size w w' := by
  have hz := low_zero k m hk hm
  have hx := low_nn (k, n)
  have hy := low_nn (k, m)
  by_cases h0 : m = 0
  · subst h0
    rw [hz.2 rfl]
    have e : divV k c n 0 = (0, 0, 2) := by simp [divV]
    rw [e]
    rcases hk with rfl | rfl
    · rcases hc with rfl | rfl | rfl | rfl
      · exact rdiv0_1_109 n 0 _ w
      · exact rdiv0_1_110 n 0 _ w
      · exact rdiv0_1_111 n 0 _ w
      · exact rdiv0_1_112 n 0 _ w
    · rcases hc with rfl | rfl | rfl | rfl
      · exact rdiv0_2_109 n 0 _ w
      · exact rdiv0_2_110 n 0 _ w
      · exact rdiv0_2_111 n 0 _ w
      · exact rdiv0_2_112 n 0 _ w
  · have hy0 : ¬ low (k, m) = 0 := fun e => h0 (hz.1 e)
    rcases hk with rfl | rfl
    · generalize hX : low (1, n) = X at *
      generalize hY : low (1, m) = Y at *
      rcases hc with rfl | rfl | rfl | rfl
      · by_cases h1 : n = -2147483648
        · subst h1
          by_cases h2 : m = -1
          · subst h2
            have e : divV 1 109 (-2147483648) (-1) = (0, 0, 3) := by simp [divV, least]
            rw [e]; exact rdivo_1 X Y w hy0
          · have e : divV 1 109 (-2147483648) m = (1, wk 1 (wrap64 ((-2147483648 : Int).tdiv m)), 0) := by simp [divV, least, h0, h2]
            rw [e]; exact rdivt_1 m X Y w hy0 h0 h2
        · have e : divV 1 109 n m = (1, wk 1 (wrap64 (n.tdiv m)), 0) := by simp [divV, least, h0, h1]
          rw [e]; exact rdivs_1 n m X Y w hy0 h0 h1
      · have e : divV 1 110 n m = (1, wk 1 (wrap64 (IntKind.u64.wrap (X.tdiv Y))), 0) := by simp [divV, h0, hX, hY]
        rw [e]; exact rdivu_1 n m X Y w hy0 hx hy
      · by_cases h2 : m = -1
        · subst h2
          have e : divV 1 111 n (-1) = (1, 0, 0) := by
            have e1 : (if n = least 1 ∧ (-1 : Int) = -1 then (0 : Int) else n.tmod (-1)) = 0 := by
              split
              · rfl
              · rw [Int.tmod_neg, Int.tmod_one]
            unfold divV
            rw [if_neg (by decide), if_neg (by decide), if_neg (by decide), if_pos rfl, e1, wk_0]
          rw [e]; exact rremo_1 n X Y w hy0
        · have e : divV 1 111 n m = (1, wk 1 (n.tmod m), 0) := by simp [divV, h0, h2]
          rw [e]; exact rrems_1 n m X Y w hy0 h0 h2
      · have e : divV 1 112 n m = (1, wk 1 (wrap64 (X % Y)), 0) := by simp [divV, h0, hX, hY]
        rw [e]; exact rremu_1 n m X Y w hy0 hx hy
    · generalize hX : low (2, n) = X at *
      generalize hY : low (2, m) = Y at *
      rcases hc with rfl | rfl | rfl | rfl
      · by_cases h1 : n = -9223372036854775808
        · subst h1
          by_cases h2 : m = -1
          · subst h2
            have e : divV 2 109 (-9223372036854775808) (-1) = (0, 0, 3) := by simp [divV, least]
            rw [e]; exact rdivo_2 X Y w hy0
          · have e : divV 2 109 (-9223372036854775808) m = (2, wk 2 (wrap64 ((-9223372036854775808 : Int).tdiv m)), 0) := by simp [divV, least, h0, h2]
            rw [e]; exact rdivt_2 m X Y w hy0 h0 h2
        · have e : divV 2 109 n m = (2, wk 2 (wrap64 (n.tdiv m)), 0) := by simp [divV, least, h0, h1]
          rw [e]; exact rdivs_2 n m X Y w hy0 h0 h1
      · have e : divV 2 110 n m = (2, wk 2 (wrap64 (IntKind.u64.wrap (X.tdiv Y))), 0) := by simp [divV, h0, hX, hY]
        rw [e]; exact rdivu_2 n m X Y w hy0 hx hy
      · by_cases h2 : m = -1
        · subst h2
          have e : divV 2 111 n (-1) = (2, 0, 0) := by
            have e1 : (if n = least 2 ∧ (-1 : Int) = -1 then (0 : Int) else n.tmod (-1)) = 0 := by
              split
              · rfl
              · rw [Int.tmod_neg, Int.tmod_one]
            unfold divV
            rw [if_neg (by decide), if_neg (by decide), if_neg (by decide), if_pos rfl, e1, wk_0]
          rw [e]; exact rremo_2 n X Y w hy0
        · have e : divV 2 111 n m = (2, wk 2 (n.tmod m), 0) := by simp [divV, h0, h2]
          rw [e]; exact rrems_2 n m X Y w hy0 h0 h2
      · have e : divV 2 112 n m = (2, wk 2 (wrap64 (X % Y)), 0) := by simp [divV, h0, hX, hY]
        rw [e]; exact rremu_2 n m X Y w hy0 hx hy
end Go.Proofs.YtdcpbjpghgbbiaaDoor
