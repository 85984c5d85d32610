/- The contracts of the small functions of ints and of the reference. -/
import Derived.Test.YtdcpbjpghgbbiaaDoorIntsMath
import Derived.Test.YtdcpbjpghgbbiaaDoorCells
import Derived.Test.YtdcpbjpghgbbiaaDoorProg
import Derived.WalkLawsBesides
import Derived.WalkSpells
import Derived.Outline
namespace Go.Proofs.YtdcpbjpghgbbiaaDoor
open Go.RowKit
set_option linter.unusedVariables false

theorem ret_bool {a b : Bool} (h : a = b) : Ending.returned (.bool a) = Ending.returned (.bool b) := by rw [h]
theorem ret_i64 {a b : Int} (h : a = b) : Ending.returned (.int .i64 a) = Ending.returned (.int .i64 b) := by rw [h]
theorem ret_u64 {a b : Int} (h : a = b) : Ending.returned (.int .u64 a) = Ending.returned (.int .u64 b) := by rw [h]
theorem one_block (w : World) (o : Obj) : Below w.heap.size w (w.alloc o) := (Below.refl _ _).alloc (Nat.le_refl _) _

theorem may_any (k n : Int) (w : World) :
    Calls Tryd.prog 21 #[.agg #[.int .i64 k, .int .i64 n]] w fun e w' => e = .returned (.bool (mayB (k, n))) ∧ Below w.heap.size w w' := by
  by_cases h2 : k = 2
  · subst h2
    go_enter Tryd.func21, Tryd.ntmps21
    go_wp2
    go_ret
    exact ⟨ret_bool (by simp [mayB]), one_block _ _⟩
  · have d2 : (k == 2) = false := beq_eq_false_iff_ne.2 h2
    by_cases h1 : k = 1
    · subst h1
      by_cases h3 : -2147483648 ≤ n
      · go_enter Tryd.func21, Tryd.ntmps21
        go_wp2
        go_ret
        exact ⟨ret_bool (by simp [mayB, h3]), one_block _ _⟩
      · have d3 : decide (-2147483648 ≤ n) = false := decide_eq_false h3
        go_enter Tryd.func21, Tryd.ntmps21
        go_wp2
        go_ret
        exact ⟨ret_bool (by simp [mayB]; omega), one_block _ _⟩
    · have d1 : (k == 1) = false := beq_eq_false_iff_ne.2 h1
      go_enter Tryd.func21, Tryd.ntmps21
      go_wp2
      go_ret
      exact ⟨ret_bool (by simp [mayB, h1, h2]), one_block _ _⟩

theorem s32_wrap (n : Int) : wrap64 (wrap32 n) = s32 n := by unfold s32 wrap64 wrap32 IntKind.wrap; simp [IntKind.bits, IntKind.signed]; omega

theorem wrap_any (k n : Int) (w : World) :
    Calls Tryd.prog 25 #[.int .i64 k, .int .i64 n] w fun e w' => e = .returned (V (wrapV k n)) ∧ Below w.heap.size w w' := by
  by_cases h1 : k = 1
  · subst h1
    go_enter Tryd.func25, Tryd.ntmps25
    go_wp2
    refine bodyPost_ret (v := .agg #[.int .i64 1, .int .i64 (wrap64 (wrap32 n))]) (by simp [results, Tryd.results25, go_sem]) rfl ⟨?_, one_block _ _⟩
    rw [s32_wrap]; simp [wrapV, V]
  · have d1 : (k == 1) = false := beq_eq_false_iff_ne.2 h1
    by_cases h2 : k = 2
    · subst h2
      go_enter Tryd.func25, Tryd.ntmps25
      go_wp2
      exact bodyPost_ret (v := .agg #[.int .i64 2, .int .i64 n]) (by simp [results, Tryd.results25, go_sem]) rfl ⟨by simp [wrapV, V], one_block _ _⟩
    · have d2 : (k == 2) = false := beq_eq_false_iff_ne.2 h2
      go_enter Tryd.func25, Tryd.ntmps25
      go_wp2
      exact bodyPost_ret (v := .agg #[.int .i64 0, .int .i64 0]) (by simp [results, Tryd.results25, go_sem]) rfl ⟨by simp [wrapV, V, h1, h2], one_block _ _⟩

theorem low_any (k n : Int) (w : World) :
    Calls Tryd.prog 28 #[.agg #[.int .i64 k, .int .i64 n]] w fun e w' => e = .returned (.int .u64 (low (k, n))) ∧ Below w.heap.size w w' := by
  by_cases h1 : k = 1
  · subst h1
    go_enter Tryd.func28, Tryd.ntmps28
    go_wp2
    go_ret
    exact ⟨ret_u64 (by simp [low]), one_block _ _⟩
  · have d1 : (k == 1) = false := beq_eq_false_iff_ne.2 h1
    go_enter Tryd.func28, Tryd.ntmps28
    go_wp2
    go_ret
    exact ⟨ret_u64 (by simp [low, h1, IntKind.wrap, IntKind.bits, IntKind.signed]), one_block _ _⟩

theorem between_any (n a b : Int) (w : World) :
    Calls Tryd.prog 40 #[.int .i64 n, .int .i64 a, .int .i64 b] w fun e w' => e = .returned (.bool (inB n a b)) ∧ w = w' := by
  by_cases h : a ≤ n
  · go_enter Tryd.func40, Tryd.ntmps40
    go_wp2
    go_ret
    exact ⟨ret_bool (by simp [inB, h]), rfl⟩
  · have d : decide (a ≤ n) = false := decide_eq_false h
    go_enter Tryd.func40, Tryd.ntmps40
    go_wp2
    go_ret
    exact ⟨ret_bool (by simp [inB]; omega), rfl⟩

theorem width_any (k : Int) (w : World) (h : k = 1 ∨ k = 2) :
    Calls Tryd.prog 32 #[.int .i64 k] w fun e w' => e = .returned (.int .i64 (32 * k)) ∧ w = w' := by
  have h1 : 1 ≤ k := by omega
  have h2 : k ≤ 2 := by omega
  go_enter Tryd.func32, Tryd.ntmps32
  go_wp2
  go_ret
  exact ⟨rfl, rfl⟩

theorem flag_any (b : Bool) (w : World) :
    Calls Tryd.prog 30 #[.bool b] w fun e w' => e = .returned (V (flagV b)) ∧ Below w.heap.size w w' := by
  cases b
  · go_enter Tryd.func30, Tryd.ntmps30
    go_wp2
    exact bodyPost_ret (v := .agg #[.int .i64 1, .int .i64 0]) (by simp [results, Tryd.results30, go_sem]) rfl ⟨rfl, one_block _ _⟩
  · go_enter Tryd.func30, Tryd.ntmps30
    go_wp2
    exact bodyPost_ret (v := .agg #[.int .i64 1, .int .i64 1]) (by simp [results, Tryd.results30, go_sem]) rfl ⟨rfl, one_block _ _⟩

theorem inB_yes {n a b : Int} (h : inB n a b = true) : a ≤ n ∧ n ≤ b := by simpa [inB] using h
theorem of_any (op : Int) (w : World) :
    Calls Tryd.prog 29 #[.int .i64 op] w fun e w' => e = .returned (.tuple #[.int .i64 (ofV op).1, .int .i64 (ofV op).2]) ∧ w = w' := by
  cases h1 : inB op 69 79
  · cases h2 : inB op 103 120
    · cases h3 : inB op 80 90
      · cases h4 : inB op 121 138
        · have ho : ofV op = (0, 0) := by simp [ofV, h1, h2, h3, h4]
          rw [ho]
          clear ho
          go_enter Tryd.func29, Tryd.ntmps29
          go_wp2_with (go_at_call 40; refine (between_any _ _ _ _).mono ?_; rintro e w1 ⟨rfl, rfl⟩)
          go_ret2
          exact ⟨rfl, rfl⟩
        · obtain ⟨l1, l2⟩ := inB_yes h4
          have ho : ofV op = (2, op - 121 + 103) := by simp [ofV, h1, h2, h3, h4]
          rw [ho]
          clear ho
          go_enter Tryd.func29, Tryd.ntmps29
          go_wp2_with (go_at_call 40; refine (between_any _ _ _ _).mono ?_; rintro e w1 ⟨rfl, rfl⟩)
          go_ret2
          exact ⟨rfl, rfl⟩
      · obtain ⟨l1, l2⟩ := inB_yes h3
        have ho : ofV op = (2, op - 80 + 69) := by simp [ofV, h1, h2, h3]
        rw [ho]
        clear ho
        go_enter Tryd.func29, Tryd.ntmps29
        go_wp2_with (go_at_call 40; refine (between_any _ _ _ _).mono ?_; rintro e w1 ⟨rfl, rfl⟩)
        go_ret2
        exact ⟨rfl, rfl⟩
    · have ho : ofV op = (1, op) := by simp [ofV, h1, h2]
      rw [ho]
      clear ho
      go_enter Tryd.func29, Tryd.ntmps29
      go_wp2_with (go_at_call 40; refine (between_any _ _ _ _).mono ?_; rintro e w1 ⟨rfl, rfl⟩)
      go_ret2
      exact ⟨rfl, rfl⟩
  · have ho : ofV op = (1, op) := by simp [ofV, h1]
    rw [ho]
    clear ho
    go_enter Tryd.func29, Tryd.ntmps29
    go_wp2_with (go_at_call 40; refine (between_any _ _ _ _).mono ?_; rintro e w1 ⟨rfl, rfl⟩)
    go_ret2
    exact ⟨rfl, rfl⟩

theorem i32_any (n : Int) (w : World) :
    Calls Tryd.prog 27 #[.int .i64 n] w fun e w' => e = .returned (V (1, n)) ∧ Below w.heap.size w w' := by
  go_enter Tryd.func27, Tryd.ntmps27
  go_wp2
  exact bodyPost_ret (v := .agg #[.int .i64 1, .int .i64 n]) (by simp [results, Tryd.results27, go_sem]) rfl ⟨rfl, one_block _ _⟩
theorem i64_any (n : Int) (w : World) :
    Calls Tryd.prog 26 #[.int .i64 n] w fun e w' => e = .returned (V (2, n)) ∧ Below w.heap.size w w' := by
  go_enter Tryd.func26, Tryd.ntmps26
  go_wp2
  exact bodyPost_ret (v := .agg #[.int .i64 2, .int .i64 n]) (by simp [results, Tryd.results26, go_sem]) rfl ⟨rfl, one_block _ _⟩

end Go.Proofs.YtdcpbjpghgbbiaaDoor
