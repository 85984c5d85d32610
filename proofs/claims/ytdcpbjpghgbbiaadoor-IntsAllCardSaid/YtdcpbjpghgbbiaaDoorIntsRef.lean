/- The contracts of the reference's small functions of whole numbers: unsigned, truth, bits, May, Class, Kinds, compare. Printed by gen_ref.py. -/
import Derived.Test.YtdcpbjpghgbbiaaDoorIntsTwo
namespace Go.Proofs.YtdcpbjpghgbbiaaDoor
open Go.RowKit
set_option linter.unusedVariables false
set_option maxHeartbeats 1000000

theorem and_low_u (n : Int) : bits .and .u64 (IntKind.u64.wrap n) 4294967295 = n % 4294967296 := by
  have e1 : (BitVec.ofInt 64 (IntKind.u64.wrap n) &&& BitVec.ofInt 64 4294967295).toNat = (n % 4294967296).toNat := by
    rw [BitVec.toNat_and, BitVec.toNat_ofInt, BitVec.toNat_ofInt]
    have e3 : ((4294967295 : Int) % ((2 ^ 64 : Nat) : Int)).toNat = 2 ^ 32 - 1 := by decide
    rw [e3, Nat.and_two_pow_sub_one_eq_mod]
    have : ((2 ^ 64 : Nat) : Int) = 18446744073709551616 := by decide
    rw [this]
    have : (2 : Nat) ^ 32 = 4294967296 := by decide
    rw [this]
    simp [IntKind.wrap, IntKind.bits, IntKind.signed]
    omega
  show IntKind.u64.wrap ((BitVec.ofInt 64 (IntKind.u64.wrap n) &&& BitVec.ofInt 64 4294967295).toNat : Int) = n % 4294967296
  rw [e1]
  simp [IntKind.wrap, IntKind.bits, IntKind.signed]
  omega
theorem runsigned_any (k n : Int) (w : World) :
    Calls Tryd.prog 36 #[.agg #[.int .i64 k, .int .i64 n]] w fun e w' => e = .returned (.int .u64 (low (k, n))) ∧ Below w.heap.size w w' := by
  have hl := and_low_u n
  by_cases h1 : k = 1
  · subst h1
    go_enter Tryd.func36, Tryd.ntmps36
    go_wp2
    go_ret
    exact ⟨ret_u64 (by simp [low]), one_block _ _⟩
  · have d1 : (k == 1) = false := beq_eq_false_iff_ne.2 h1
    clear hl
    go_enter Tryd.func36, Tryd.ntmps36
    go_wp2
    go_ret
    exact ⟨ret_u64 (by simp [low, h1, IntKind.wrap, IntKind.bits, IntKind.signed]), one_block _ _⟩
theorem truth_any (b : Bool) (w : World) :
    Calls Tryd.prog 37 #[.bool b] w fun e w' => e = .returned (.agg #[.int .i64 1, .int .i64 (b2i b)]) ∧ Below w.heap.size w w' := by
  cases b
  · go_enter Tryd.func37, Tryd.ntmps37
    go_wp2
    exact bodyPost_ret (v := .agg #[.int .i64 1, .int .i64 0]) (by simp [results, Tryd.results37, go_sem]) rfl ⟨rfl, one_block _ _⟩
  · go_enter Tryd.func37, Tryd.ntmps37
    go_wp2
    exact bodyPost_ret (v := .agg #[.int .i64 1, .int .i64 1]) (by simp [results, Tryd.results37, go_sem]) rfl ⟨rfl, one_block _ _⟩
theorem rbits_any (k : Int) (w : World) (h : k = 1 ∨ k = 2) :
    Calls Tryd.prog 38 #[.int .i64 k] w fun e w' => e = .returned (.int .i64 (32 * k)) ∧ w = w' := by
  have h1 : 1 ≤ k := by omega
  have h2 : k ≤ 2 := by omega
  go_enter Tryd.func38, Tryd.ntmps38
  go_wp2
  go_ret
  exact ⟨rfl, rfl⟩
theorem rmay_any (k n : Int) (w : World) :
    Calls Tryd.prog 22 #[.agg #[.int .i64 k, .int .i64 n]] w fun e w' => e = .returned (.bool (mayB (k, n))) ∧ Below w.heap.size w w' := by
  by_cases h2 : k = 2
  · subst h2
    go_enter Tryd.func22, Tryd.ntmps22
    go_wp2
    go_ret
    exact ⟨ret_bool (by simp [mayB]), one_block _ _⟩
  · have d2 : (k == 2) = false := beq_eq_false_iff_ne.2 h2
    by_cases h1 : k = 1
    · subst h1
      by_cases h3 : -2147483648 ≤ n
      · go_enter Tryd.func22, Tryd.ntmps22
        go_wp2
        go_ret
        exact ⟨ret_bool (by simp [mayB, h3]; omega), one_block _ _⟩
      · have d3 : decide (-2147483648 ≤ n) = false := decide_eq_false h3
        go_enter Tryd.func22, Tryd.ntmps22
        go_wp2
        go_ret
        exact ⟨ret_bool (by simp [mayB]; omega), one_block _ _⟩
    · have d1 : (k == 1) = false := beq_eq_false_iff_ne.2 h1
      go_enter Tryd.func22, Tryd.ntmps22
      go_wp2
      go_ret
      exact ⟨ret_bool (by simp [mayB, h1, h2]), one_block _ _⟩

/-- Which instruction it is, as those of I32, and of which kind. -/
def clsV (op : Int) : Int × Int := if op = 167 then (167, 2) else if op = 172 ∨ op = 173 then (op, 1) else ((ofV op).2, (ofV op).1)
theorem clsV_lo (op : Int) (h2 : op ≤ 68) : clsV op = (0, 0) := by
  unfold clsV
  rw [if_neg (by omega), if_neg (by omega)]
  have e1 : inB op 69 79 = false := by unfold inB; simp; omega
  have e2 : inB op 103 120 = false := by unfold inB; simp; omega
  have e3 : inB op 80 90 = false := by unfold inB; simp; omega
  have e4 : inB op 121 138 = false := by unfold inB; simp; omega
  simp [ofV, e1, e2, e3, e4]
theorem cls_lo (op : Int) (h2 : op ≤ 68) (w : World) : Calls Tryd.prog 35 #[.int .i64 op] w fun e w' => e = .returned (.tuple #[.int .i64 (0), .int .i64 0]) ∧ w = w' := by
  have d0 : decide (69 ≤ op) = false := decide_eq_false (by omega)
  have d1 : decide (op ≤ 79) = true := decide_eq_true (by omega)
  have d2 : decide (103 ≤ op) = false := decide_eq_false (by omega)
  have d3 : decide (op ≤ 120) = true := decide_eq_true (by omega)
  have d4 : decide (80 ≤ op) = false := decide_eq_false (by omega)
  have d5 : decide (op ≤ 90) = true := decide_eq_true (by omega)
  have d6 : decide (121 ≤ op) = false := decide_eq_false (by omega)
  have d7 : decide (op ≤ 138) = true := decide_eq_true (by omega)
  have q0 : (op == 167) = false := beq_eq_false_iff_ne.2 (by omega)
  have q1 : (op == 172) = false := beq_eq_false_iff_ne.2 (by omega)
  have q2 : (op == 173) = false := beq_eq_false_iff_ne.2 (by omega)
  clear h2
  go_enter Tryd.func35, Tryd.ntmps35
  go_wp2
  go_ret2
  exact ⟨rfl, rfl⟩
theorem clsV_a (op : Int) (h1 : 69 ≤ op) (h2 : op ≤ 79) : clsV op = (op, 1) := by
  unfold clsV
  rw [if_neg (by omega), if_neg (by omega)]
  have e1 : inB op 69 79 = true := by unfold inB; simp; omega
  have e2 : inB op 103 120 = false := by unfold inB; simp; omega
  have e3 : inB op 80 90 = false := by unfold inB; simp; omega
  have e4 : inB op 121 138 = false := by unfold inB; simp; omega
  simp [ofV, e1]
theorem cls_a (op : Int) (h1 : 69 ≤ op) (h2 : op ≤ 79) (w : World) : Calls Tryd.prog 35 #[.int .i64 op] w fun e w' => e = .returned (.tuple #[.int .i64 (op), .int .i64 1]) ∧ w = w' := by
  have d0 : decide (69 ≤ op) = true := decide_eq_true (by omega)
  have d1 : decide (op ≤ 79) = true := decide_eq_true (by omega)
  have d2 : decide (103 ≤ op) = false := decide_eq_false (by omega)
  have d3 : decide (op ≤ 120) = true := decide_eq_true (by omega)
  have d4 : decide (80 ≤ op) = false := decide_eq_false (by omega)
  have d5 : decide (op ≤ 90) = true := decide_eq_true (by omega)
  have d6 : decide (121 ≤ op) = false := decide_eq_false (by omega)
  have d7 : decide (op ≤ 138) = true := decide_eq_true (by omega)
  have q0 : (op == 167) = false := beq_eq_false_iff_ne.2 (by omega)
  have q1 : (op == 172) = false := beq_eq_false_iff_ne.2 (by omega)
  have q2 : (op == 173) = false := beq_eq_false_iff_ne.2 (by omega)
  clear h1 h2
  go_enter Tryd.func35, Tryd.ntmps35
  go_wp2
  go_ret2
  exact ⟨rfl, rfl⟩
theorem clsV_b (op : Int) (h1 : 80 ≤ op) (h2 : op ≤ 90) : clsV op = (op - 80 + 69, 2) := by
  unfold clsV
  rw [if_neg (by omega), if_neg (by omega)]
  have e1 : inB op 69 79 = false := by unfold inB; simp; omega
  have e2 : inB op 103 120 = false := by unfold inB; simp; omega
  have e3 : inB op 80 90 = true := by unfold inB; simp; omega
  have e4 : inB op 121 138 = false := by unfold inB; simp; omega
  simp [ofV, e1, e2, e3]
theorem cls_b (op : Int) (h1 : 80 ≤ op) (h2 : op ≤ 90) (w : World) : Calls Tryd.prog 35 #[.int .i64 op] w fun e w' => e = .returned (.tuple #[.int .i64 (op - 80 + 69), .int .i64 2]) ∧ w = w' := by
  have d0 : decide (69 ≤ op) = true := decide_eq_true (by omega)
  have d1 : decide (op ≤ 79) = false := decide_eq_false (by omega)
  have d2 : decide (103 ≤ op) = false := decide_eq_false (by omega)
  have d3 : decide (op ≤ 120) = true := decide_eq_true (by omega)
  have d4 : decide (80 ≤ op) = true := decide_eq_true (by omega)
  have d5 : decide (op ≤ 90) = true := decide_eq_true (by omega)
  have d6 : decide (121 ≤ op) = false := decide_eq_false (by omega)
  have d7 : decide (op ≤ 138) = true := decide_eq_true (by omega)
  have q0 : (op == 167) = false := beq_eq_false_iff_ne.2 (by omega)
  have q1 : (op == 172) = false := beq_eq_false_iff_ne.2 (by omega)
  have q2 : (op == 173) = false := beq_eq_false_iff_ne.2 (by omega)
  go_enter Tryd.func35, Tryd.ntmps35
  go_wp2
  go_ret2
  exact ⟨rfl, rfl⟩
theorem clsV_c (op : Int) (h1 : 91 ≤ op) (h2 : op ≤ 102) : clsV op = (0, 0) := by
  unfold clsV
  rw [if_neg (by omega), if_neg (by omega)]
  have e1 : inB op 69 79 = false := by unfold inB; simp; omega
  have e2 : inB op 103 120 = false := by unfold inB; simp; omega
  have e3 : inB op 80 90 = false := by unfold inB; simp; omega
  have e4 : inB op 121 138 = false := by unfold inB; simp; omega
  simp [ofV, e1, e2, e3, e4]
theorem cls_c (op : Int) (h1 : 91 ≤ op) (h2 : op ≤ 102) (w : World) : Calls Tryd.prog 35 #[.int .i64 op] w fun e w' => e = .returned (.tuple #[.int .i64 (0), .int .i64 0]) ∧ w = w' := by
  have d0 : decide (69 ≤ op) = true := decide_eq_true (by omega)
  have d1 : decide (op ≤ 79) = false := decide_eq_false (by omega)
  have d2 : decide (103 ≤ op) = false := decide_eq_false (by omega)
  have d3 : decide (op ≤ 120) = true := decide_eq_true (by omega)
  have d4 : decide (80 ≤ op) = true := decide_eq_true (by omega)
  have d5 : decide (op ≤ 90) = false := decide_eq_false (by omega)
  have d6 : decide (121 ≤ op) = false := decide_eq_false (by omega)
  have d7 : decide (op ≤ 138) = true := decide_eq_true (by omega)
  have q0 : (op == 167) = false := beq_eq_false_iff_ne.2 (by omega)
  have q1 : (op == 172) = false := beq_eq_false_iff_ne.2 (by omega)
  have q2 : (op == 173) = false := beq_eq_false_iff_ne.2 (by omega)
  clear h1 h2
  go_enter Tryd.func35, Tryd.ntmps35
  go_wp2
  go_ret2
  exact ⟨rfl, rfl⟩
theorem clsV_d (op : Int) (h1 : 103 ≤ op) (h2 : op ≤ 120) : clsV op = (op, 1) := by
  unfold clsV
  rw [if_neg (by omega), if_neg (by omega)]
  have e1 : inB op 69 79 = false := by unfold inB; simp; omega
  have e2 : inB op 103 120 = true := by unfold inB; simp; omega
  have e3 : inB op 80 90 = false := by unfold inB; simp; omega
  have e4 : inB op 121 138 = false := by unfold inB; simp; omega
  simp [ofV, e1, e2]
theorem cls_d (op : Int) (h1 : 103 ≤ op) (h2 : op ≤ 120) (w : World) : Calls Tryd.prog 35 #[.int .i64 op] w fun e w' => e = .returned (.tuple #[.int .i64 (op), .int .i64 1]) ∧ w = w' := by
  have d0 : decide (69 ≤ op) = true := decide_eq_true (by omega)
  have d1 : decide (op ≤ 79) = false := decide_eq_false (by omega)
  have d2 : decide (103 ≤ op) = true := decide_eq_true (by omega)
  have d3 : decide (op ≤ 120) = true := decide_eq_true (by omega)
  have d4 : decide (80 ≤ op) = true := decide_eq_true (by omega)
  have d5 : decide (op ≤ 90) = false := decide_eq_false (by omega)
  have d6 : decide (121 ≤ op) = false := decide_eq_false (by omega)
  have d7 : decide (op ≤ 138) = true := decide_eq_true (by omega)
  have q0 : (op == 167) = false := beq_eq_false_iff_ne.2 (by omega)
  have q1 : (op == 172) = false := beq_eq_false_iff_ne.2 (by omega)
  have q2 : (op == 173) = false := beq_eq_false_iff_ne.2 (by omega)
  clear h1 h2
  go_enter Tryd.func35, Tryd.ntmps35
  go_wp2
  go_ret2
  exact ⟨rfl, rfl⟩
theorem clsV_e (op : Int) (h1 : 121 ≤ op) (h2 : op ≤ 138) : clsV op = (op - 121 + 103, 2) := by
  unfold clsV
  rw [if_neg (by omega), if_neg (by omega)]
  have e1 : inB op 69 79 = false := by unfold inB; simp; omega
  have e2 : inB op 103 120 = false := by unfold inB; simp; omega
  have e3 : inB op 80 90 = false := by unfold inB; simp; omega
  have e4 : inB op 121 138 = true := by unfold inB; simp; omega
  simp [ofV, e1, e2, e3, e4]
theorem cls_e (op : Int) (h1 : 121 ≤ op) (h2 : op ≤ 138) (w : World) : Calls Tryd.prog 35 #[.int .i64 op] w fun e w' => e = .returned (.tuple #[.int .i64 (op - 121 + 103), .int .i64 2]) ∧ w = w' := by
  have d0 : decide (69 ≤ op) = true := decide_eq_true (by omega)
  have d1 : decide (op ≤ 79) = false := decide_eq_false (by omega)
  have d2 : decide (103 ≤ op) = true := decide_eq_true (by omega)
  have d3 : decide (op ≤ 120) = false := decide_eq_false (by omega)
  have d4 : decide (80 ≤ op) = true := decide_eq_true (by omega)
  have d5 : decide (op ≤ 90) = false := decide_eq_false (by omega)
  have d6 : decide (121 ≤ op) = true := decide_eq_true (by omega)
  have d7 : decide (op ≤ 138) = true := decide_eq_true (by omega)
  have q0 : (op == 167) = false := beq_eq_false_iff_ne.2 (by omega)
  have q1 : (op == 172) = false := beq_eq_false_iff_ne.2 (by omega)
  have q2 : (op == 173) = false := beq_eq_false_iff_ne.2 (by omega)
  go_enter Tryd.func35, Tryd.ntmps35
  go_wp2
  go_ret2
  exact ⟨rfl, rfl⟩
theorem clsV_f (op : Int) (h1 : 139 ≤ op) (h2 : op ≤ 166) : clsV op = (0, 0) := by
  unfold clsV
  rw [if_neg (by omega), if_neg (by omega)]
  have e1 : inB op 69 79 = false := by unfold inB; simp; omega
  have e2 : inB op 103 120 = false := by unfold inB; simp; omega
  have e3 : inB op 80 90 = false := by unfold inB; simp; omega
  have e4 : inB op 121 138 = false := by unfold inB; simp; omega
  simp [ofV, e1, e2, e3, e4]
theorem cls_f (op : Int) (h1 : 139 ≤ op) (h2 : op ≤ 166) (w : World) : Calls Tryd.prog 35 #[.int .i64 op] w fun e w' => e = .returned (.tuple #[.int .i64 (0), .int .i64 0]) ∧ w = w' := by
  have d0 : decide (69 ≤ op) = true := decide_eq_true (by omega)
  have d1 : decide (op ≤ 79) = false := decide_eq_false (by omega)
  have d2 : decide (103 ≤ op) = true := decide_eq_true (by omega)
  have d3 : decide (op ≤ 120) = false := decide_eq_false (by omega)
  have d4 : decide (80 ≤ op) = true := decide_eq_true (by omega)
  have d5 : decide (op ≤ 90) = false := decide_eq_false (by omega)
  have d6 : decide (121 ≤ op) = true := decide_eq_true (by omega)
  have d7 : decide (op ≤ 138) = false := decide_eq_false (by omega)
  have q0 : (op == 167) = false := beq_eq_false_iff_ne.2 (by omega)
  have q1 : (op == 172) = false := beq_eq_false_iff_ne.2 (by omega)
  have q2 : (op == 173) = false := beq_eq_false_iff_ne.2 (by omega)
  clear h1 h2
  go_enter Tryd.func35, Tryd.ntmps35
  go_wp2
  go_ret2
  exact ⟨rfl, rfl⟩
theorem cls_g (w : World) : Calls Tryd.prog 35 #[.int .i64 167] w fun e w' => e = .returned (.tuple #[.int .i64 167, .int .i64 2]) ∧ w = w' := by
  go_enter Tryd.func35, Tryd.ntmps35
  go_wp2
  go_ret2
  exact ⟨rfl, rfl⟩
theorem clsV_g : clsV 167 = (167, 2) := by decide
theorem clsV_h (op : Int) (h1 : 168 ≤ op) (h2 : op ≤ 171) : clsV op = (0, 0) := by
  unfold clsV
  rw [if_neg (by omega), if_neg (by omega)]
  have e1 : inB op 69 79 = false := by unfold inB; simp; omega
  have e2 : inB op 103 120 = false := by unfold inB; simp; omega
  have e3 : inB op 80 90 = false := by unfold inB; simp; omega
  have e4 : inB op 121 138 = false := by unfold inB; simp; omega
  simp [ofV, e1, e2, e3, e4]
theorem cls_h (op : Int) (h1 : 168 ≤ op) (h2 : op ≤ 171) (w : World) : Calls Tryd.prog 35 #[.int .i64 op] w fun e w' => e = .returned (.tuple #[.int .i64 (0), .int .i64 0]) ∧ w = w' := by
  have d0 : decide (69 ≤ op) = true := decide_eq_true (by omega)
  have d1 : decide (op ≤ 79) = false := decide_eq_false (by omega)
  have d2 : decide (103 ≤ op) = true := decide_eq_true (by omega)
  have d3 : decide (op ≤ 120) = false := decide_eq_false (by omega)
  have d4 : decide (80 ≤ op) = true := decide_eq_true (by omega)
  have d5 : decide (op ≤ 90) = false := decide_eq_false (by omega)
  have d6 : decide (121 ≤ op) = true := decide_eq_true (by omega)
  have d7 : decide (op ≤ 138) = false := decide_eq_false (by omega)
  have q0 : (op == 167) = false := beq_eq_false_iff_ne.2 (by omega)
  have q1 : (op == 172) = false := beq_eq_false_iff_ne.2 (by omega)
  have q2 : (op == 173) = false := beq_eq_false_iff_ne.2 (by omega)
  clear h1 h2
  go_enter Tryd.func35, Tryd.ntmps35
  go_wp2
  go_ret2
  exact ⟨rfl, rfl⟩
theorem cls_i (w : World) : Calls Tryd.prog 35 #[.int .i64 172] w fun e w' => e = .returned (.tuple #[.int .i64 172, .int .i64 1]) ∧ w = w' := by
  go_enter Tryd.func35, Tryd.ntmps35
  go_wp2
  go_ret2
  exact ⟨rfl, rfl⟩
theorem clsV_i : clsV 172 = (172, 1) := by decide
theorem cls_j (w : World) : Calls Tryd.prog 35 #[.int .i64 173] w fun e w' => e = .returned (.tuple #[.int .i64 173, .int .i64 1]) ∧ w = w' := by
  go_enter Tryd.func35, Tryd.ntmps35
  go_wp2
  go_ret2
  exact ⟨rfl, rfl⟩
theorem clsV_j : clsV 173 = (173, 1) := by decide
theorem clsV_hi (op : Int) (h1 : 174 ≤ op) : clsV op = (0, 0) := by
  unfold clsV
  rw [if_neg (by omega), if_neg (by omega)]
  have e1 : inB op 69 79 = false := by unfold inB; simp; omega
  have e2 : inB op 103 120 = false := by unfold inB; simp; omega
  have e3 : inB op 80 90 = false := by unfold inB; simp; omega
  have e4 : inB op 121 138 = false := by unfold inB; simp; omega
  simp [ofV, e1, e2, e3, e4]
theorem cls_hi (op : Int) (h1 : 174 ≤ op) (w : World) : Calls Tryd.prog 35 #[.int .i64 op] w fun e w' => e = .returned (.tuple #[.int .i64 (0), .int .i64 0]) ∧ w = w' := by
  have d0 : decide (69 ≤ op) = true := decide_eq_true (by omega)
  have d1 : decide (op ≤ 79) = false := decide_eq_false (by omega)
  have d2 : decide (103 ≤ op) = true := decide_eq_true (by omega)
  have d3 : decide (op ≤ 120) = false := decide_eq_false (by omega)
  have d4 : decide (80 ≤ op) = true := decide_eq_true (by omega)
  have d5 : decide (op ≤ 90) = false := decide_eq_false (by omega)
  have d6 : decide (121 ≤ op) = true := decide_eq_true (by omega)
  have d7 : decide (op ≤ 138) = false := decide_eq_false (by omega)
  have q0 : (op == 167) = false := beq_eq_false_iff_ne.2 (by omega)
  have q1 : (op == 172) = false := beq_eq_false_iff_ne.2 (by omega)
  have q2 : (op == 173) = false := beq_eq_false_iff_ne.2 (by omega)
  clear h1
  go_enter Tryd.func35, Tryd.ntmps35
  go_wp2
  go_ret2
  exact ⟨rfl, rfl⟩
theorem class_any (op : Int) (w : World) : Calls Tryd.prog 35 #[.int .i64 op] w fun e w' => e = .returned (.tuple #[.int .i64 (clsV op).1, .int .i64 (clsV op).2]) ∧ w = w' := by
  rcases (show op ≤ 68 ∨ (69 ≤ op ∧ op ≤ 79) ∨ (80 ≤ op ∧ op ≤ 90) ∨ (91 ≤ op ∧ op ≤ 102) ∨ (103 ≤ op ∧ op ≤ 120) ∨ (121 ≤ op ∧ op ≤ 138) ∨ (139 ≤ op ∧ op ≤ 166) ∨ op = 167 ∨ (168 ≤ op ∧ op ≤ 171) ∨ op = 172 ∨ op = 173 ∨ 174 ≤ op by omega) with h | h | h | h | h | h | h | rfl | h | rfl | rfl | h
  · rw [clsV_lo op h]; exact cls_lo op h w
  · rw [clsV_a op h.1 h.2]; exact cls_a op h.1 h.2 w
  · rw [clsV_b op h.1 h.2]; exact cls_b op h.1 h.2 w
  · rw [clsV_c op h.1 h.2]; exact cls_c op h.1 h.2 w
  · rw [clsV_d op h.1 h.2]; exact cls_d op h.1 h.2 w
  · rw [clsV_e op h.1 h.2]; exact cls_e op h.1 h.2 w
  · rw [clsV_f op h.1 h.2]; exact cls_f op h.1 h.2 w
  · rw [clsV_g]; exact cls_g w
  · rw [clsV_h op h.1 h.2]; exact cls_h op h.1 h.2 w
  · rw [clsV_i]; exact cls_i w
  · rw [clsV_j]; exact cls_j w
  · rw [clsV_hi op h]; exact cls_hi op h w

/-- What the reference's Kinds tells. -/
def rkV (c k : Int) : Int × Int × Int × Bool := if c = 0 then (0, 0, 0, false) else if c = 69 then (1, k, 1, true) else if c ≤ 79 then (2, k, 1, true) else if c ≤ 105 then (1, k, k, true) else if c ≤ 120 then (2, k, k, true) else if c = 167 then (1, k, 1, true) else (1, k, 2, true)
def K4 (r : Int × Int × Int × Bool) : Value := .tuple #[.int .i64 r.1, .int .i64 r.2.1, .int .i64 r.2.2.1, .bool r.2.2.2]
theorem rkinds_any (op : Int) (w : World) : Calls Tryd.prog 20 #[.int .i64 op] w fun e w' => e = .returned (K4 (rkV (clsV op).1 (clsV op).2)) ∧ w = w' := by
  have hc := class_any op
  generalize (clsV op).1 = c at hc ⊢
  generalize (clsV op).2 = k at hc ⊢
  have Hc := Lib.hid hc; clear hc
  unfold rkV
  by_cases p0 : c = 0
  · rw [if_pos p0]
    have q0 : (c == 0) = true := beq_iff_eq.2 p0
    clear p0
    go_enter Tryd.func20, Tryd.ntmps20
    go_wp2_with (go_at_call 35; refine (Hc.out _).mono ?_; rintro e w1 ⟨rfl, rfl⟩)
    refine bodyPost_ret (v := K4 _) (by simp [results, Tryd.results20, go_sem, K4]) rfl ⟨rfl, rfl⟩
  · rw [if_neg p0]
    have q0 : (c == 0) = false := beq_eq_false_iff_ne.2 p0
    by_cases p1 : c = 69
    · rw [if_pos p1]
      have q1 : (c == 69) = true := beq_iff_eq.2 p1
      clear p0 p1
      go_enter Tryd.func20, Tryd.ntmps20
      go_wp2_with (go_at_call 35; refine (Hc.out _).mono ?_; rintro e w1 ⟨rfl, rfl⟩)
      refine bodyPost_ret (v := K4 _) (by simp [results, Tryd.results20, go_sem, K4]) rfl ⟨rfl, rfl⟩
    · rw [if_neg p1]
      have q1 : (c == 69) = false := beq_eq_false_iff_ne.2 p1
      by_cases p2 : c ≤ 79
      · rw [if_pos p2]
        have q2 : decide (c ≤ 79) = true := decide_eq_true p2
        clear p0 p1 p2
        go_enter Tryd.func20, Tryd.ntmps20
        go_wp2_with (go_at_call 35; refine (Hc.out _).mono ?_; rintro e w1 ⟨rfl, rfl⟩)
        refine bodyPost_ret (v := K4 _) (by simp [results, Tryd.results20, go_sem, K4]) rfl ⟨rfl, rfl⟩
      · rw [if_neg p2]
        have q2 : decide (c ≤ 79) = false := decide_eq_false p2
        by_cases p3 : c ≤ 105
        · rw [if_pos p3]
          have q3 : decide (c ≤ 105) = true := decide_eq_true p3
          clear p0 p1 p2 p3
          go_enter Tryd.func20, Tryd.ntmps20
          go_wp2_with (go_at_call 35; refine (Hc.out _).mono ?_; rintro e w1 ⟨rfl, rfl⟩)
          refine bodyPost_ret (v := K4 _) (by simp [results, Tryd.results20, go_sem, K4]) rfl ⟨rfl, rfl⟩
        · rw [if_neg p3]
          have q3 : decide (c ≤ 105) = false := decide_eq_false p3
          by_cases p4 : c ≤ 120
          · rw [if_pos p4]
            have q4 : decide (c ≤ 120) = true := decide_eq_true p4
            clear p0 p1 p2 p3 p4
            go_enter Tryd.func20, Tryd.ntmps20
            go_wp2_with (go_at_call 35; refine (Hc.out _).mono ?_; rintro e w1 ⟨rfl, rfl⟩)
            refine bodyPost_ret (v := K4 _) (by simp [results, Tryd.results20, go_sem, K4]) rfl ⟨rfl, rfl⟩
          · rw [if_neg p4]
            have q4 : decide (c ≤ 120) = false := decide_eq_false p4
            by_cases p5 : c = 167
            · rw [if_pos p5]
              have q5 : (c == 167) = true := beq_iff_eq.2 p5
              clear p0 p1 p2 p3 p4 p5
              go_enter Tryd.func20, Tryd.ntmps20
              go_wp2_with (go_at_call 35; refine (Hc.out _).mono ?_; rintro e w1 ⟨rfl, rfl⟩)
              refine bodyPost_ret (v := K4 _) (by simp [results, Tryd.results20, go_sem, K4]) rfl ⟨rfl, rfl⟩
            · rw [if_neg p5]
              have q5 : (c == 167) = false := beq_eq_false_iff_ne.2 p5
              clear p0 p1 p2 p3 p4 p5
              go_enter Tryd.func20, Tryd.ntmps20
              go_wp2_with (go_at_call 35; refine (Hc.out _).mono ?_; rintro e w1 ⟨rfl, rfl⟩)
              refine bodyPost_ret (v := K4 _) (by simp [results, Tryd.results20, go_sem, K4]) rfl ⟨rfl, rfl⟩
theorem rcmp_70 (a b x y : Int) (w : World) : Calls Tryd.prog 43 #[.int .i64 70, .int .i64 a, .int .i64 b, .int .u64 x, .int .u64 y] w fun e w' => e = .returned (.bool (x == y)) ∧ w = w' := by
  go_enter Tryd.func43, Tryd.ntmps43
  go_wp2
  go_ret
  exact ⟨rfl, rfl⟩
theorem rcmp_71 (a b x y : Int) (w : World) : Calls Tryd.prog 43 #[.int .i64 71, .int .i64 a, .int .i64 b, .int .u64 x, .int .u64 y] w fun e w' => e = .returned (.bool (x != y)) ∧ w = w' := by
  go_enter Tryd.func43, Tryd.ntmps43
  go_wp2
  go_ret
  exact ⟨rfl, rfl⟩
theorem rcmp_72 (a b x y : Int) (w : World) : Calls Tryd.prog 43 #[.int .i64 72, .int .i64 a, .int .i64 b, .int .u64 x, .int .u64 y] w fun e w' => e = .returned (.bool (decide (a < b))) ∧ w = w' := by
  go_enter Tryd.func43, Tryd.ntmps43
  go_wp2
  go_ret
  exact ⟨rfl, rfl⟩
theorem rcmp_73 (a b x y : Int) (w : World) : Calls Tryd.prog 43 #[.int .i64 73, .int .i64 a, .int .i64 b, .int .u64 x, .int .u64 y] w fun e w' => e = .returned (.bool (decide (x < y))) ∧ w = w' := by
  go_enter Tryd.func43, Tryd.ntmps43
  go_wp2
  go_ret
  exact ⟨rfl, rfl⟩
theorem rcmp_74 (a b x y : Int) (w : World) : Calls Tryd.prog 43 #[.int .i64 74, .int .i64 a, .int .i64 b, .int .u64 x, .int .u64 y] w fun e w' => e = .returned (.bool (decide (b < a))) ∧ w = w' := by
  go_enter Tryd.func43, Tryd.ntmps43
  go_wp2
  go_ret
  exact ⟨rfl, rfl⟩
theorem rcmp_75 (a b x y : Int) (w : World) : Calls Tryd.prog 43 #[.int .i64 75, .int .i64 a, .int .i64 b, .int .u64 x, .int .u64 y] w fun e w' => e = .returned (.bool (decide (y < x))) ∧ w = w' := by
  go_enter Tryd.func43, Tryd.ntmps43
  go_wp2
  go_ret
  exact ⟨rfl, rfl⟩
theorem rcmp_76 (a b x y : Int) (w : World) : Calls Tryd.prog 43 #[.int .i64 76, .int .i64 a, .int .i64 b, .int .u64 x, .int .u64 y] w fun e w' => e = .returned (.bool (decide (a ≤ b))) ∧ w = w' := by
  go_enter Tryd.func43, Tryd.ntmps43
  go_wp2
  go_ret
  exact ⟨rfl, rfl⟩
theorem rcmp_77 (a b x y : Int) (w : World) : Calls Tryd.prog 43 #[.int .i64 77, .int .i64 a, .int .i64 b, .int .u64 x, .int .u64 y] w fun e w' => e = .returned (.bool (decide (x ≤ y))) ∧ w = w' := by
  go_enter Tryd.func43, Tryd.ntmps43
  go_wp2
  go_ret
  exact ⟨rfl, rfl⟩
theorem rcmp_78 (a b x y : Int) (w : World) : Calls Tryd.prog 43 #[.int .i64 78, .int .i64 a, .int .i64 b, .int .u64 x, .int .u64 y] w fun e w' => e = .returned (.bool (decide (b ≤ a))) ∧ w = w' := by
  go_enter Tryd.func43, Tryd.ntmps43
  go_wp2
  go_ret
  exact ⟨rfl, rfl⟩
theorem rcmp_79 (a b x y : Int) (w : World) : Calls Tryd.prog 43 #[.int .i64 79, .int .i64 a, .int .i64 b, .int .u64 x, .int .u64 y] w fun e w' => e = .returned (.bool (decide (y ≤ x))) ∧ w = w' := by
  go_enter Tryd.func43, Tryd.ntmps43
  go_wp2
  go_ret
  exact ⟨rfl, rfl⟩
end Go.Proofs.YtdcpbjpghgbbiaaDoor
