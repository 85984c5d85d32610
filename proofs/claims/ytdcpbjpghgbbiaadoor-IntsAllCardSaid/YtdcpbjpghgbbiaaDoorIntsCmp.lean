/- The contract of ints.compared. Printed by gen_ints.py. -/
import Derived.Test.YtdcpbjpghgbbiaaDoorIntsKinds
import Derived.Test.YtdcpbjpghgbbiaaDoorQuietT
namespace Go.Proofs.YtdcpbjpghgbbiaaDoor
open Go.RowKit
set_option linter.unusedVariables false

def cmpB (l : Int) (p q : Int × Int) : Bool :=
  if l = 70 then p.2 == q.2 else if l = 71 then p.2 != q.2 else if l = 72 then decide (p.2 < q.2) else if l = 73 then decide (low p < low q)
  else if l = 74 then decide (q.2 < p.2) else if l = 75 then decide (low q < low p) else if l = 76 then decide (p.2 ≤ q.2) else if l = 77 then decide (low p ≤ low q)
  else if l = 78 then decide (q.2 ≤ p.2) else decide (low q ≤ low p)

theorem cmp_70 (k n k' n' : Int) (w : World) :
    Calls Tryd.prog 39 #[.int .i64 70, .agg #[.int .i64 k, .int .i64 n], .agg #[.int .i64 k', .int .i64 n']] w fun e w' => e = .returned (.bool (cmpB 70 (k, n) (k', n'))) ∧ Below w.heap.size w w' := by
  have ho : cmpB 70 (k, n) (k', n') = (n == n') := rfl
  rw [ho]
  clear ho
  go_enter Tryd.func39, Tryd.ntmps39
  go_wp2
  go_ret
  exact ⟨rfl, (one_block _ _).alloc (by simp) _⟩

theorem cmp_71 (k n k' n' : Int) (w : World) :
    Calls Tryd.prog 39 #[.int .i64 71, .agg #[.int .i64 k, .int .i64 n], .agg #[.int .i64 k', .int .i64 n']] w fun e w' => e = .returned (.bool (cmpB 71 (k, n) (k', n'))) ∧ Below w.heap.size w w' := by
  have ho : cmpB 71 (k, n) (k', n') = (n != n') := rfl
  rw [ho]
  clear ho
  go_enter Tryd.func39, Tryd.ntmps39
  go_wp2
  go_ret
  exact ⟨rfl, (one_block _ _).alloc (by simp) _⟩

theorem cmp_72 (k n k' n' : Int) (w : World) :
    Calls Tryd.prog 39 #[.int .i64 72, .agg #[.int .i64 k, .int .i64 n], .agg #[.int .i64 k', .int .i64 n']] w fun e w' => e = .returned (.bool (cmpB 72 (k, n) (k', n'))) ∧ Below w.heap.size w w' := by
  have ho : cmpB 72 (k, n) (k', n') = (decide (n < n')) := rfl
  rw [ho]
  clear ho
  go_enter Tryd.func39, Tryd.ntmps39
  go_wp2
  go_ret
  exact ⟨rfl, (one_block _ _).alloc (by simp) _⟩

theorem cmp_73 (k n k' n' : Int) (w : World) :
    Calls Tryd.prog 39 #[.int .i64 73, .agg #[.int .i64 k, .int .i64 n], .agg #[.int .i64 k', .int .i64 n']] w fun e w' => e = .returned (.bool (cmpB 73 (k, n) (k', n'))) ∧ Below w.heap.size w w' := by
  have ho : cmpB 73 (k, n) (k', n') = (decide (low (k, n) < low (k', n'))) := rfl
  rw [ho]
  clear ho
  go_enter Tryd.func39, Tryd.ntmps39
  go_wp2_with fail
  obtain ⟨W, hW⟩ : ∃ W, W = (w.alloc (.cells #[.int .i64 k, .int .i64 n] 23)).alloc (.cells #[.int .i64 k', .int .i64 n'] 23) := ⟨_, rfl⟩
  have hb : Below w.heap.size w W := by rw [hW]; exact (one_block _ _).alloc (by simp) _
  have c1 : ∀ m : Above W, m.w.cell? ⟨w.heap.size, 0, none⟩ = some (.int .i64 k) := above_cell (by rw [hW]; simp) (by rw [hW]; simp; try omega)
  have c2 : ∀ m : Above W, m.w.cell? ⟨w.heap.size, 1, none⟩ = some (.int .i64 n) := above_cell (by rw [hW]; simp) (by rw [hW]; simp; try omega)
  have c3 : ∀ m : Above W, m.w.cell? ⟨w.heap.size + 1, 0, none⟩ = some (.int .i64 k') := above_cell (by rw [hW]; simp) (by rw [hW]; simp)
  have c4 : ∀ m : Above W, m.w.cell? ⟨w.heap.size + 1, 1, none⟩ = some (.int .i64 n') := above_cell (by rw [hW]; simp) (by rw [hW]; simp)
  rw [← hW]
  clear hW
  refine wp_region_T (by kernel_rfl) (by kernel_rfl) ?_
  repeat (go_big_quiet_step (exact quiet_T (low_any _ _ _)))
  refine wpQuiet_nil ?_
  rintro _ ⟨⟨w5, hb5⟩, rfl⟩
  go_wp2_with fail
  go_ret
  exact ⟨rfl, hb.trans (hb5.mono hb.size)⟩

theorem cmp_74 (k n k' n' : Int) (w : World) :
    Calls Tryd.prog 39 #[.int .i64 74, .agg #[.int .i64 k, .int .i64 n], .agg #[.int .i64 k', .int .i64 n']] w fun e w' => e = .returned (.bool (cmpB 74 (k, n) (k', n'))) ∧ Below w.heap.size w w' := by
  have ho : cmpB 74 (k, n) (k', n') = (decide (n' < n)) := rfl
  rw [ho]
  clear ho
  go_enter Tryd.func39, Tryd.ntmps39
  go_wp2
  go_ret
  exact ⟨rfl, (one_block _ _).alloc (by simp) _⟩

theorem cmp_75 (k n k' n' : Int) (w : World) :
    Calls Tryd.prog 39 #[.int .i64 75, .agg #[.int .i64 k, .int .i64 n], .agg #[.int .i64 k', .int .i64 n']] w fun e w' => e = .returned (.bool (cmpB 75 (k, n) (k', n'))) ∧ Below w.heap.size w w' := by
  have ho : cmpB 75 (k, n) (k', n') = (decide (low (k', n') < low (k, n))) := rfl
  rw [ho]
  clear ho
  go_enter Tryd.func39, Tryd.ntmps39
  go_wp2_with fail
  obtain ⟨W, hW⟩ : ∃ W, W = (w.alloc (.cells #[.int .i64 k, .int .i64 n] 23)).alloc (.cells #[.int .i64 k', .int .i64 n'] 23) := ⟨_, rfl⟩
  have hb : Below w.heap.size w W := by rw [hW]; exact (one_block _ _).alloc (by simp) _
  have c1 : ∀ m : Above W, m.w.cell? ⟨w.heap.size, 0, none⟩ = some (.int .i64 k) := above_cell (by rw [hW]; simp) (by rw [hW]; simp; try omega)
  have c2 : ∀ m : Above W, m.w.cell? ⟨w.heap.size, 1, none⟩ = some (.int .i64 n) := above_cell (by rw [hW]; simp) (by rw [hW]; simp; try omega)
  have c3 : ∀ m : Above W, m.w.cell? ⟨w.heap.size + 1, 0, none⟩ = some (.int .i64 k') := above_cell (by rw [hW]; simp) (by rw [hW]; simp)
  have c4 : ∀ m : Above W, m.w.cell? ⟨w.heap.size + 1, 1, none⟩ = some (.int .i64 n') := above_cell (by rw [hW]; simp) (by rw [hW]; simp)
  rw [← hW]
  clear hW
  refine wp_region_T (by kernel_rfl) (by kernel_rfl) ?_
  repeat (go_big_quiet_step (exact quiet_T (low_any _ _ _)))
  refine wpQuiet_nil ?_
  rintro _ ⟨⟨w5, hb5⟩, rfl⟩
  go_wp2_with fail
  go_ret
  exact ⟨rfl, hb.trans (hb5.mono hb.size)⟩

theorem cmp_76 (k n k' n' : Int) (w : World) :
    Calls Tryd.prog 39 #[.int .i64 76, .agg #[.int .i64 k, .int .i64 n], .agg #[.int .i64 k', .int .i64 n']] w fun e w' => e = .returned (.bool (cmpB 76 (k, n) (k', n'))) ∧ Below w.heap.size w w' := by
  have ho : cmpB 76 (k, n) (k', n') = (decide (n ≤ n')) := rfl
  rw [ho]
  clear ho
  go_enter Tryd.func39, Tryd.ntmps39
  go_wp2
  go_ret
  exact ⟨rfl, (one_block _ _).alloc (by simp) _⟩

theorem cmp_77 (k n k' n' : Int) (w : World) :
    Calls Tryd.prog 39 #[.int .i64 77, .agg #[.int .i64 k, .int .i64 n], .agg #[.int .i64 k', .int .i64 n']] w fun e w' => e = .returned (.bool (cmpB 77 (k, n) (k', n'))) ∧ Below w.heap.size w w' := by
  have ho : cmpB 77 (k, n) (k', n') = (decide (low (k, n) ≤ low (k', n'))) := rfl
  rw [ho]
  clear ho
  go_enter Tryd.func39, Tryd.ntmps39
  go_wp2_with fail
  obtain ⟨W, hW⟩ : ∃ W, W = (w.alloc (.cells #[.int .i64 k, .int .i64 n] 23)).alloc (.cells #[.int .i64 k', .int .i64 n'] 23) := ⟨_, rfl⟩
  have hb : Below w.heap.size w W := by rw [hW]; exact (one_block _ _).alloc (by simp) _
  have c1 : ∀ m : Above W, m.w.cell? ⟨w.heap.size, 0, none⟩ = some (.int .i64 k) := above_cell (by rw [hW]; simp) (by rw [hW]; simp; try omega)
  have c2 : ∀ m : Above W, m.w.cell? ⟨w.heap.size, 1, none⟩ = some (.int .i64 n) := above_cell (by rw [hW]; simp) (by rw [hW]; simp; try omega)
  have c3 : ∀ m : Above W, m.w.cell? ⟨w.heap.size + 1, 0, none⟩ = some (.int .i64 k') := above_cell (by rw [hW]; simp) (by rw [hW]; simp)
  have c4 : ∀ m : Above W, m.w.cell? ⟨w.heap.size + 1, 1, none⟩ = some (.int .i64 n') := above_cell (by rw [hW]; simp) (by rw [hW]; simp)
  rw [← hW]
  clear hW
  refine wp_region_T (by kernel_rfl) (by kernel_rfl) ?_
  repeat (go_big_quiet_step (exact quiet_T (low_any _ _ _)))
  refine wpQuiet_nil ?_
  rintro _ ⟨⟨w5, hb5⟩, rfl⟩
  go_wp2_with fail
  go_ret
  exact ⟨rfl, hb.trans (hb5.mono hb.size)⟩

theorem cmp_78 (k n k' n' : Int) (w : World) :
    Calls Tryd.prog 39 #[.int .i64 78, .agg #[.int .i64 k, .int .i64 n], .agg #[.int .i64 k', .int .i64 n']] w fun e w' => e = .returned (.bool (cmpB 78 (k, n) (k', n'))) ∧ Below w.heap.size w w' := by
  have ho : cmpB 78 (k, n) (k', n') = (decide (n' ≤ n)) := rfl
  rw [ho]
  clear ho
  go_enter Tryd.func39, Tryd.ntmps39
  go_wp2
  go_ret
  exact ⟨rfl, (one_block _ _).alloc (by simp) _⟩

theorem cmp_79 (k n k' n' : Int) (w : World) :
    Calls Tryd.prog 39 #[.int .i64 79, .agg #[.int .i64 k, .int .i64 n], .agg #[.int .i64 k', .int .i64 n']] w fun e w' => e = .returned (.bool (cmpB 79 (k, n) (k', n'))) ∧ Below w.heap.size w w' := by
  have ho : cmpB 79 (k, n) (k', n') = (decide (low (k', n') ≤ low (k, n))) := rfl
  rw [ho]
  clear ho
  go_enter Tryd.func39, Tryd.ntmps39
  go_wp2_with fail
  obtain ⟨W, hW⟩ : ∃ W, W = (w.alloc (.cells #[.int .i64 k, .int .i64 n] 23)).alloc (.cells #[.int .i64 k', .int .i64 n'] 23) := ⟨_, rfl⟩
  have hb : Below w.heap.size w W := by rw [hW]; exact (one_block _ _).alloc (by simp) _
  have c1 : ∀ m : Above W, m.w.cell? ⟨w.heap.size, 0, none⟩ = some (.int .i64 k) := above_cell (by rw [hW]; simp) (by rw [hW]; simp; try omega)
  have c2 : ∀ m : Above W, m.w.cell? ⟨w.heap.size, 1, none⟩ = some (.int .i64 n) := above_cell (by rw [hW]; simp) (by rw [hW]; simp; try omega)
  have c3 : ∀ m : Above W, m.w.cell? ⟨w.heap.size + 1, 0, none⟩ = some (.int .i64 k') := above_cell (by rw [hW]; simp) (by rw [hW]; simp)
  have c4 : ∀ m : Above W, m.w.cell? ⟨w.heap.size + 1, 1, none⟩ = some (.int .i64 n') := above_cell (by rw [hW]; simp) (by rw [hW]; simp)
  rw [← hW]
  clear hW
  refine wp_region_T (by kernel_rfl) (by kernel_rfl) ?_
  repeat (go_big_quiet_step (exact quiet_T (low_any _ _ _)))
  refine wpQuiet_nil ?_
  rintro _ ⟨⟨w5, hb5⟩, rfl⟩
  go_wp2_with fail
  go_ret
  exact ⟨rfl, hb.trans (hb5.mono hb.size)⟩

theorem cmp_any (l k n k' n' : Int) (w : World) (h1 : 70 ≤ l) (h2 : l ≤ 79) :
    Calls Tryd.prog 39 #[.int .i64 l, .agg #[.int .i64 k, .int .i64 n], .agg #[.int .i64 k', .int .i64 n']] w fun e w' => e = .returned (.bool (cmpB l (k, n) (k', n'))) ∧ Below w.heap.size w w' := by
  rcases (show l = 70 ∨ l = 71 ∨ l = 72 ∨ l = 73 ∨ l = 74 ∨ l = 75 ∨ l = 76 ∨ l = 77 ∨ l = 78 ∨ l = 79 by omega) with rfl | rfl | rfl | rfl | rfl | rfl | rfl | rfl | rfl | rfl
  · exact cmp_70 k n k' n' w
  · exact cmp_71 k n k' n' w
  · exact cmp_72 k n k' n' w
  · exact cmp_73 k n k' n' w
  · exact cmp_74 k n k' n' w
  · exact cmp_75 k n k' n' w
  · exact cmp_76 k n k' n' w
  · exact cmp_77 k n k' n' w
  · exact cmp_78 k n k' n' w
  · exact cmp_79 k n k' n' w

end Go.Proofs.YtdcpbjpghgbbiaaDoor
