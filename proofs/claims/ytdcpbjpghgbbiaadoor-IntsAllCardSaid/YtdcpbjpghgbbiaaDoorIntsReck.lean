/- The contract of ints.reckoned. Printed by gen_ints.py. -/
import Derived.Test.YtdcpbjpghgbbiaaDoorIntsCmp
import Derived.Laws.BitsAll
namespace Go.Proofs.YtdcpbjpghgbbiaaDoor
open Go.RowKit
set_option linter.unusedVariables false
theorem low_nn (p : Int × Int) : 0 ≤ low p := by unfold low; split <;> omega

/-- Both halves of a number that is turned. -/
def rotU (B M s : Int) : Int := wrap64 (bits .or .u64 (IntKind.u64.wrap (M * 2 ^ s.toNat)) (M / 2 ^ (B - s).toNat))
/-- What 'reckoned' computes. -/
def reckV (k l n n' : Int) : Int :=
  if l = 106 then wrap64 (n + n') else if l = 107 then wrap64 (n - n') else if l = 108 then wrap64 (n * n')
  else if l = 113 then bits .and .i64 n n' else if l = 114 then bits .or .i64 n n' else if l = 115 then bits .xor .i64 n n'
  else if l = 116 then wrap64 (n * 2 ^ (low (k, n') % (32 * k)).toNat) else if l = 117 then n / 2 ^ (low (k, n') % (32 * k)).toNat
  else if l = 118 then wrap64 (low (k, n) / 2 ^ (low (k, n') % (32 * k)).toNat)
  else if l = 119 then rotU (32 * k) (low (k, n)) (low (k, n') % (32 * k))
  else rotU (32 * k) (low (k, n)) (-(low (k, n') % (32 * k)) % (32 * k))

theorem reckV_106 (k n n' : Int) : reckV k 106 n n' = wrap64 (n + n') := by simp [reckV]
theorem reckV_107 (k n n' : Int) : reckV k 107 n n' = wrap64 (n - n') := by simp [reckV]
theorem reckV_108 (k n n' : Int) : reckV k 108 n n' = wrap64 (n * n') := by simp [reckV]
theorem reckV_113 (k n n' : Int) : reckV k 113 n n' = bits .and .i64 n n' := by simp [reckV]
theorem reckV_114 (k n n' : Int) : reckV k 114 n n' = bits .or .i64 n n' := by simp [reckV]
theorem reckV_115 (k n n' : Int) : reckV k 115 n n' = bits .xor .i64 n n' := by simp [reckV]
theorem reckV_116 (k n n' : Int) : reckV k 116 n n' = wrap64 (n * 2 ^ (low (k, n') % (32 * k)).toNat) := by simp [reckV]
theorem reckV_117 (k n n' : Int) : reckV k 117 n n' = n / 2 ^ (low (k, n') % (32 * k)).toNat := by simp [reckV]
theorem reckV_118 (k n n' : Int) : reckV k 118 n n' = wrap64 (low (k, n) / 2 ^ (low (k, n') % (32 * k)).toNat) := by simp [reckV]
theorem reckV_119 (k n n' : Int) : reckV k 119 n n' = rotU (32 * k) (low (k, n)) (low (k, n') % (32 * k)) := by simp [reckV]
theorem reckV_120 (k n n' : Int) : reckV k 120 n n' = rotU (32 * k) (low (k, n)) (-(low (k, n') % (32 * k)) % (32 * k)) := by simp [reckV]
theorem w32 : (32 : Int) * 1 = 32 := rfl
theorem w64 : (32 : Int) * 2 = 64 := rfl

theorem reck_106_1 (n n' : Int) (w : World) :
    Calls Tryd.prog 42 #[.int .i64 106, .agg #[.int .i64 1, .int .i64 n], .agg #[.int .i64 1, .int .i64 n']] w fun e w' => e = .returned (.int .i64 (reckV 1 106 n n')) ∧ Below w.heap.size w w' := by
  rw [reckV_106]
  go_enter Tryd.func42, Tryd.ntmps42
  go_wp2_with fail
  refine (width_any _ _ (by omega)).mono ?_
  rintro e w1 ⟨rfl, rfl⟩
  obtain ⟨W, hW⟩ : ∃ W, W = (w.alloc (.cells #[.int .i64 1, .int .i64 n] 23)).alloc (.cells #[.int .i64 1, .int .i64 n'] 23) := ⟨_, rfl⟩
  have hb : Below w.heap.size w W := by rw [hW]; exact (one_block _ _).alloc (by simp) _
  have c1 : W.cell? ⟨w.heap.size, 0, none⟩ = some (.int .i64 1) := by rw [hW]; simp
  have c2 : W.cell? ⟨w.heap.size, 1, none⟩ = some (.int .i64 n) := by rw [hW]; simp
  have c3 : W.cell? ⟨w.heap.size + 1, 0, none⟩ = some (.int .i64 1) := by rw [hW]; simp
  have c4 : W.cell? ⟨w.heap.size + 1, 1, none⟩ = some (.int .i64 n') := by rw [hW]; simp
  have hz : w.heap.size + 1 < W.heap.size := by rw [hW]; simp
  rw [← hW]
  clear hW
  go_wp2_with fail
  refine (low_any _ _ _).mono ?_
  rintro e w2 ⟨rfl, hb2⟩
  have d1 := (hb2.cell (p := ⟨w.heap.size, 0, none⟩) (by simp; omega)).trans c1
  have d2 := (hb2.cell (p := ⟨w.heap.size, 1, none⟩) (by simp; omega)).trans c2
  have d3 := (hb2.cell (p := ⟨w.heap.size + 1, 0, none⟩) (by simp; omega)).trans c3
  have d4 := (hb2.cell (p := ⟨w.heap.size + 1, 1, none⟩) (by simp; omega)).trans c4
  have hz2 := Nat.lt_of_lt_of_le hz hb2.size
  have hb' := hb.trans (hb2.mono hb.size)
  clear c1 c2 c3 c4 hz
  have hL := low_nn (1, n')
  go_wp2_with fail
  go_ret
  exact ⟨ret_i64 rfl, hb'⟩

theorem reck_107_1 (n n' : Int) (w : World) :
    Calls Tryd.prog 42 #[.int .i64 107, .agg #[.int .i64 1, .int .i64 n], .agg #[.int .i64 1, .int .i64 n']] w fun e w' => e = .returned (.int .i64 (reckV 1 107 n n')) ∧ Below w.heap.size w w' := by
  rw [reckV_107]
  go_enter Tryd.func42, Tryd.ntmps42
  go_wp2_with fail
  refine (width_any _ _ (by omega)).mono ?_
  rintro e w1 ⟨rfl, rfl⟩
  obtain ⟨W, hW⟩ : ∃ W, W = (w.alloc (.cells #[.int .i64 1, .int .i64 n] 23)).alloc (.cells #[.int .i64 1, .int .i64 n'] 23) := ⟨_, rfl⟩
  have hb : Below w.heap.size w W := by rw [hW]; exact (one_block _ _).alloc (by simp) _
  have c1 : W.cell? ⟨w.heap.size, 0, none⟩ = some (.int .i64 1) := by rw [hW]; simp
  have c2 : W.cell? ⟨w.heap.size, 1, none⟩ = some (.int .i64 n) := by rw [hW]; simp
  have c3 : W.cell? ⟨w.heap.size + 1, 0, none⟩ = some (.int .i64 1) := by rw [hW]; simp
  have c4 : W.cell? ⟨w.heap.size + 1, 1, none⟩ = some (.int .i64 n') := by rw [hW]; simp
  have hz : w.heap.size + 1 < W.heap.size := by rw [hW]; simp
  rw [← hW]
  clear hW
  go_wp2_with fail
  refine (low_any _ _ _).mono ?_
  rintro e w2 ⟨rfl, hb2⟩
  have d1 := (hb2.cell (p := ⟨w.heap.size, 0, none⟩) (by simp; omega)).trans c1
  have d2 := (hb2.cell (p := ⟨w.heap.size, 1, none⟩) (by simp; omega)).trans c2
  have d3 := (hb2.cell (p := ⟨w.heap.size + 1, 0, none⟩) (by simp; omega)).trans c3
  have d4 := (hb2.cell (p := ⟨w.heap.size + 1, 1, none⟩) (by simp; omega)).trans c4
  have hz2 := Nat.lt_of_lt_of_le hz hb2.size
  have hb' := hb.trans (hb2.mono hb.size)
  clear c1 c2 c3 c4 hz
  have hL := low_nn (1, n')
  go_wp2_with fail
  go_ret
  exact ⟨ret_i64 rfl, hb'⟩

theorem reck_108_1 (n n' : Int) (w : World) :
    Calls Tryd.prog 42 #[.int .i64 108, .agg #[.int .i64 1, .int .i64 n], .agg #[.int .i64 1, .int .i64 n']] w fun e w' => e = .returned (.int .i64 (reckV 1 108 n n')) ∧ Below w.heap.size w w' := by
  rw [reckV_108]
  go_enter Tryd.func42, Tryd.ntmps42
  go_wp2_with fail
  refine (width_any _ _ (by omega)).mono ?_
  rintro e w1 ⟨rfl, rfl⟩
  obtain ⟨W, hW⟩ : ∃ W, W = (w.alloc (.cells #[.int .i64 1, .int .i64 n] 23)).alloc (.cells #[.int .i64 1, .int .i64 n'] 23) := ⟨_, rfl⟩
  have hb : Below w.heap.size w W := by rw [hW]; exact (one_block _ _).alloc (by simp) _
  have c1 : W.cell? ⟨w.heap.size, 0, none⟩ = some (.int .i64 1) := by rw [hW]; simp
  have c2 : W.cell? ⟨w.heap.size, 1, none⟩ = some (.int .i64 n) := by rw [hW]; simp
  have c3 : W.cell? ⟨w.heap.size + 1, 0, none⟩ = some (.int .i64 1) := by rw [hW]; simp
  have c4 : W.cell? ⟨w.heap.size + 1, 1, none⟩ = some (.int .i64 n') := by rw [hW]; simp
  have hz : w.heap.size + 1 < W.heap.size := by rw [hW]; simp
  rw [← hW]
  clear hW
  go_wp2_with fail
  refine (low_any _ _ _).mono ?_
  rintro e w2 ⟨rfl, hb2⟩
  have d1 := (hb2.cell (p := ⟨w.heap.size, 0, none⟩) (by simp; omega)).trans c1
  have d2 := (hb2.cell (p := ⟨w.heap.size, 1, none⟩) (by simp; omega)).trans c2
  have d3 := (hb2.cell (p := ⟨w.heap.size + 1, 0, none⟩) (by simp; omega)).trans c3
  have d4 := (hb2.cell (p := ⟨w.heap.size + 1, 1, none⟩) (by simp; omega)).trans c4
  have hz2 := Nat.lt_of_lt_of_le hz hb2.size
  have hb' := hb.trans (hb2.mono hb.size)
  clear c1 c2 c3 c4 hz
  have hL := low_nn (1, n')
  go_wp2_with fail
  go_ret
  exact ⟨ret_i64 rfl, hb'⟩

theorem reck_113_1 (n n' : Int) (w : World) :
    Calls Tryd.prog 42 #[.int .i64 113, .agg #[.int .i64 1, .int .i64 n], .agg #[.int .i64 1, .int .i64 n']] w fun e w' => e = .returned (.int .i64 (reckV 1 113 n n')) ∧ Below w.heap.size w w' := by
  rw [reckV_113]
  go_enter Tryd.func42, Tryd.ntmps42
  go_wp2_with fail
  refine (width_any _ _ (by omega)).mono ?_
  rintro e w1 ⟨rfl, rfl⟩
  obtain ⟨W, hW⟩ : ∃ W, W = (w.alloc (.cells #[.int .i64 1, .int .i64 n] 23)).alloc (.cells #[.int .i64 1, .int .i64 n'] 23) := ⟨_, rfl⟩
  have hb : Below w.heap.size w W := by rw [hW]; exact (one_block _ _).alloc (by simp) _
  have c1 : W.cell? ⟨w.heap.size, 0, none⟩ = some (.int .i64 1) := by rw [hW]; simp
  have c2 : W.cell? ⟨w.heap.size, 1, none⟩ = some (.int .i64 n) := by rw [hW]; simp
  have c3 : W.cell? ⟨w.heap.size + 1, 0, none⟩ = some (.int .i64 1) := by rw [hW]; simp
  have c4 : W.cell? ⟨w.heap.size + 1, 1, none⟩ = some (.int .i64 n') := by rw [hW]; simp
  have hz : w.heap.size + 1 < W.heap.size := by rw [hW]; simp
  rw [← hW]
  clear hW
  go_wp2_with fail
  refine (low_any _ _ _).mono ?_
  rintro e w2 ⟨rfl, hb2⟩
  have d1 := (hb2.cell (p := ⟨w.heap.size, 0, none⟩) (by simp; omega)).trans c1
  have d2 := (hb2.cell (p := ⟨w.heap.size, 1, none⟩) (by simp; omega)).trans c2
  have d3 := (hb2.cell (p := ⟨w.heap.size + 1, 0, none⟩) (by simp; omega)).trans c3
  have d4 := (hb2.cell (p := ⟨w.heap.size + 1, 1, none⟩) (by simp; omega)).trans c4
  have hz2 := Nat.lt_of_lt_of_le hz hb2.size
  have hb' := hb.trans (hb2.mono hb.size)
  clear c1 c2 c3 c4 hz
  have hL := low_nn (1, n')
  go_wp2_with fail
  go_ret
  exact ⟨ret_i64 rfl, hb'⟩

theorem reck_114_1 (n n' : Int) (w : World) :
    Calls Tryd.prog 42 #[.int .i64 114, .agg #[.int .i64 1, .int .i64 n], .agg #[.int .i64 1, .int .i64 n']] w fun e w' => e = .returned (.int .i64 (reckV 1 114 n n')) ∧ Below w.heap.size w w' := by
  rw [reckV_114]
  go_enter Tryd.func42, Tryd.ntmps42
  go_wp2_with fail
  refine (width_any _ _ (by omega)).mono ?_
  rintro e w1 ⟨rfl, rfl⟩
  obtain ⟨W, hW⟩ : ∃ W, W = (w.alloc (.cells #[.int .i64 1, .int .i64 n] 23)).alloc (.cells #[.int .i64 1, .int .i64 n'] 23) := ⟨_, rfl⟩
  have hb : Below w.heap.size w W := by rw [hW]; exact (one_block _ _).alloc (by simp) _
  have c1 : W.cell? ⟨w.heap.size, 0, none⟩ = some (.int .i64 1) := by rw [hW]; simp
  have c2 : W.cell? ⟨w.heap.size, 1, none⟩ = some (.int .i64 n) := by rw [hW]; simp
  have c3 : W.cell? ⟨w.heap.size + 1, 0, none⟩ = some (.int .i64 1) := by rw [hW]; simp
  have c4 : W.cell? ⟨w.heap.size + 1, 1, none⟩ = some (.int .i64 n') := by rw [hW]; simp
  have hz : w.heap.size + 1 < W.heap.size := by rw [hW]; simp
  rw [← hW]
  clear hW
  go_wp2_with fail
  refine (low_any _ _ _).mono ?_
  rintro e w2 ⟨rfl, hb2⟩
  have d1 := (hb2.cell (p := ⟨w.heap.size, 0, none⟩) (by simp; omega)).trans c1
  have d2 := (hb2.cell (p := ⟨w.heap.size, 1, none⟩) (by simp; omega)).trans c2
  have d3 := (hb2.cell (p := ⟨w.heap.size + 1, 0, none⟩) (by simp; omega)).trans c3
  have d4 := (hb2.cell (p := ⟨w.heap.size + 1, 1, none⟩) (by simp; omega)).trans c4
  have hz2 := Nat.lt_of_lt_of_le hz hb2.size
  have hb' := hb.trans (hb2.mono hb.size)
  clear c1 c2 c3 c4 hz
  have hL := low_nn (1, n')
  go_wp2_with fail
  go_ret
  exact ⟨ret_i64 rfl, hb'⟩

theorem reck_115_1 (n n' : Int) (w : World) :
    Calls Tryd.prog 42 #[.int .i64 115, .agg #[.int .i64 1, .int .i64 n], .agg #[.int .i64 1, .int .i64 n']] w fun e w' => e = .returned (.int .i64 (reckV 1 115 n n')) ∧ Below w.heap.size w w' := by
  rw [reckV_115]
  go_enter Tryd.func42, Tryd.ntmps42
  go_wp2_with fail
  refine (width_any _ _ (by omega)).mono ?_
  rintro e w1 ⟨rfl, rfl⟩
  obtain ⟨W, hW⟩ : ∃ W, W = (w.alloc (.cells #[.int .i64 1, .int .i64 n] 23)).alloc (.cells #[.int .i64 1, .int .i64 n'] 23) := ⟨_, rfl⟩
  have hb : Below w.heap.size w W := by rw [hW]; exact (one_block _ _).alloc (by simp) _
  have c1 : W.cell? ⟨w.heap.size, 0, none⟩ = some (.int .i64 1) := by rw [hW]; simp
  have c2 : W.cell? ⟨w.heap.size, 1, none⟩ = some (.int .i64 n) := by rw [hW]; simp
  have c3 : W.cell? ⟨w.heap.size + 1, 0, none⟩ = some (.int .i64 1) := by rw [hW]; simp
  have c4 : W.cell? ⟨w.heap.size + 1, 1, none⟩ = some (.int .i64 n') := by rw [hW]; simp
  have hz : w.heap.size + 1 < W.heap.size := by rw [hW]; simp
  rw [← hW]
  clear hW
  go_wp2_with fail
  refine (low_any _ _ _).mono ?_
  rintro e w2 ⟨rfl, hb2⟩
  have d1 := (hb2.cell (p := ⟨w.heap.size, 0, none⟩) (by simp; omega)).trans c1
  have d2 := (hb2.cell (p := ⟨w.heap.size, 1, none⟩) (by simp; omega)).trans c2
  have d3 := (hb2.cell (p := ⟨w.heap.size + 1, 0, none⟩) (by simp; omega)).trans c3
  have d4 := (hb2.cell (p := ⟨w.heap.size + 1, 1, none⟩) (by simp; omega)).trans c4
  have hz2 := Nat.lt_of_lt_of_le hz hb2.size
  have hb' := hb.trans (hb2.mono hb.size)
  clear c1 c2 c3 c4 hz
  have hL := low_nn (1, n')
  go_wp2_with fail
  go_ret
  exact ⟨ret_i64 rfl, hb'⟩

theorem reck_116_1 (n n' : Int) (w : World) :
    Calls Tryd.prog 42 #[.int .i64 116, .agg #[.int .i64 1, .int .i64 n], .agg #[.int .i64 1, .int .i64 n']] w fun e w' => e = .returned (.int .i64 (reckV 1 116 n n')) ∧ Below w.heap.size w w' := by
  rw [reckV_116, w32]
  go_enter Tryd.func42, Tryd.ntmps42
  go_wp2_with fail
  refine (width_any _ _ (by omega)).mono ?_
  rintro e w1 ⟨rfl, rfl⟩
  obtain ⟨W, hW⟩ : ∃ W, W = (w.alloc (.cells #[.int .i64 1, .int .i64 n] 23)).alloc (.cells #[.int .i64 1, .int .i64 n'] 23) := ⟨_, rfl⟩
  have hb : Below w.heap.size w W := by rw [hW]; exact (one_block _ _).alloc (by simp) _
  have c1 : W.cell? ⟨w.heap.size, 0, none⟩ = some (.int .i64 1) := by rw [hW]; simp
  have c2 : W.cell? ⟨w.heap.size, 1, none⟩ = some (.int .i64 n) := by rw [hW]; simp
  have c3 : W.cell? ⟨w.heap.size + 1, 0, none⟩ = some (.int .i64 1) := by rw [hW]; simp
  have c4 : W.cell? ⟨w.heap.size + 1, 1, none⟩ = some (.int .i64 n') := by rw [hW]; simp
  have hz : w.heap.size + 1 < W.heap.size := by rw [hW]; simp
  rw [← hW]
  clear hW
  go_wp2_with fail
  refine (low_any _ _ _).mono ?_
  rintro e w2 ⟨rfl, hb2⟩
  have d1 := (hb2.cell (p := ⟨w.heap.size, 0, none⟩) (by simp; omega)).trans c1
  have d2 := (hb2.cell (p := ⟨w.heap.size, 1, none⟩) (by simp; omega)).trans c2
  have d3 := (hb2.cell (p := ⟨w.heap.size + 1, 0, none⟩) (by simp; omega)).trans c3
  have d4 := (hb2.cell (p := ⟨w.heap.size + 1, 1, none⟩) (by simp; omega)).trans c4
  have hz2 := Nat.lt_of_lt_of_le hz hb2.size
  have hb' := hb.trans (hb2.mono hb.size)
  clear c1 c2 c3 c4 hz
  have hL := low_nn (1, n')
  go_wp2_with fail
  go_ret
  exact ⟨ret_i64 rfl, hb'⟩

theorem reck_117_1 (n n' : Int) (w : World) :
    Calls Tryd.prog 42 #[.int .i64 117, .agg #[.int .i64 1, .int .i64 n], .agg #[.int .i64 1, .int .i64 n']] w fun e w' => e = .returned (.int .i64 (reckV 1 117 n n')) ∧ Below w.heap.size w w' := by
  rw [reckV_117, w32]
  go_enter Tryd.func42, Tryd.ntmps42
  go_wp2_with fail
  refine (width_any _ _ (by omega)).mono ?_
  rintro e w1 ⟨rfl, rfl⟩
  obtain ⟨W, hW⟩ : ∃ W, W = (w.alloc (.cells #[.int .i64 1, .int .i64 n] 23)).alloc (.cells #[.int .i64 1, .int .i64 n'] 23) := ⟨_, rfl⟩
  have hb : Below w.heap.size w W := by rw [hW]; exact (one_block _ _).alloc (by simp) _
  have c1 : W.cell? ⟨w.heap.size, 0, none⟩ = some (.int .i64 1) := by rw [hW]; simp
  have c2 : W.cell? ⟨w.heap.size, 1, none⟩ = some (.int .i64 n) := by rw [hW]; simp
  have c3 : W.cell? ⟨w.heap.size + 1, 0, none⟩ = some (.int .i64 1) := by rw [hW]; simp
  have c4 : W.cell? ⟨w.heap.size + 1, 1, none⟩ = some (.int .i64 n') := by rw [hW]; simp
  have hz : w.heap.size + 1 < W.heap.size := by rw [hW]; simp
  rw [← hW]
  clear hW
  go_wp2_with fail
  refine (low_any _ _ _).mono ?_
  rintro e w2 ⟨rfl, hb2⟩
  have d1 := (hb2.cell (p := ⟨w.heap.size, 0, none⟩) (by simp; omega)).trans c1
  have d2 := (hb2.cell (p := ⟨w.heap.size, 1, none⟩) (by simp; omega)).trans c2
  have d3 := (hb2.cell (p := ⟨w.heap.size + 1, 0, none⟩) (by simp; omega)).trans c3
  have d4 := (hb2.cell (p := ⟨w.heap.size + 1, 1, none⟩) (by simp; omega)).trans c4
  have hz2 := Nat.lt_of_lt_of_le hz hb2.size
  have hb' := hb.trans (hb2.mono hb.size)
  clear c1 c2 c3 c4 hz
  have hL := low_nn (1, n')
  go_wp2_with fail
  go_ret
  exact ⟨ret_i64 rfl, hb'⟩

theorem reck_118_1 (n n' : Int) (w : World) :
    Calls Tryd.prog 42 #[.int .i64 118, .agg #[.int .i64 1, .int .i64 n], .agg #[.int .i64 1, .int .i64 n']] w fun e w' => e = .returned (.int .i64 (reckV 1 118 n n')) ∧ Below w.heap.size w w' := by
  rw [reckV_118, w32]
  go_enter Tryd.func42, Tryd.ntmps42
  go_wp2_with fail
  refine (width_any _ _ (by omega)).mono ?_
  rintro e w1 ⟨rfl, rfl⟩
  obtain ⟨W, hW⟩ : ∃ W, W = (w.alloc (.cells #[.int .i64 1, .int .i64 n] 23)).alloc (.cells #[.int .i64 1, .int .i64 n'] 23) := ⟨_, rfl⟩
  have hb : Below w.heap.size w W := by rw [hW]; exact (one_block _ _).alloc (by simp) _
  have c1 : W.cell? ⟨w.heap.size, 0, none⟩ = some (.int .i64 1) := by rw [hW]; simp
  have c2 : W.cell? ⟨w.heap.size, 1, none⟩ = some (.int .i64 n) := by rw [hW]; simp
  have c3 : W.cell? ⟨w.heap.size + 1, 0, none⟩ = some (.int .i64 1) := by rw [hW]; simp
  have c4 : W.cell? ⟨w.heap.size + 1, 1, none⟩ = some (.int .i64 n') := by rw [hW]; simp
  have hz : w.heap.size + 1 < W.heap.size := by rw [hW]; simp
  rw [← hW]
  clear hW
  go_wp2_with fail
  refine (low_any _ _ _).mono ?_
  rintro e w2 ⟨rfl, hb2⟩
  have d1 := (hb2.cell (p := ⟨w.heap.size, 0, none⟩) (by simp; omega)).trans c1
  have d2 := (hb2.cell (p := ⟨w.heap.size, 1, none⟩) (by simp; omega)).trans c2
  have d3 := (hb2.cell (p := ⟨w.heap.size + 1, 0, none⟩) (by simp; omega)).trans c3
  have d4 := (hb2.cell (p := ⟨w.heap.size + 1, 1, none⟩) (by simp; omega)).trans c4
  have hz2 := Nat.lt_of_lt_of_le hz hb2.size
  have hb' := hb.trans (hb2.mono hb.size)
  clear c1 c2 c3 c4 hz
  have hL := low_nn (1, n')
  go_wp2_with fail
  refine (low_any _ _ _).mono ?_
  rintro e w3 ⟨rfl, hb3⟩
  have hM := low_nn (1, n)
  go_wp2_with fail
  go_ret
  exact ⟨ret_i64 rfl, hb'.trans (hb3.mono hb'.size)⟩

theorem reck_119_1 (n n' : Int) (w : World) :
    Calls Tryd.prog 42 #[.int .i64 119, .agg #[.int .i64 1, .int .i64 n], .agg #[.int .i64 1, .int .i64 n']] w fun e w' => e = .returned (.int .i64 (reckV 1 119 n n')) ∧ Below w.heap.size w w' := by
  rw [reckV_119, w32]
  go_enter Tryd.func42, Tryd.ntmps42
  go_wp2_with fail
  refine (width_any _ _ (by omega)).mono ?_
  rintro e w1 ⟨rfl, rfl⟩
  obtain ⟨W, hW⟩ : ∃ W, W = (w.alloc (.cells #[.int .i64 1, .int .i64 n] 23)).alloc (.cells #[.int .i64 1, .int .i64 n'] 23) := ⟨_, rfl⟩
  have hb : Below w.heap.size w W := by rw [hW]; exact (one_block _ _).alloc (by simp) _
  have c1 : W.cell? ⟨w.heap.size, 0, none⟩ = some (.int .i64 1) := by rw [hW]; simp
  have c2 : W.cell? ⟨w.heap.size, 1, none⟩ = some (.int .i64 n) := by rw [hW]; simp
  have c3 : W.cell? ⟨w.heap.size + 1, 0, none⟩ = some (.int .i64 1) := by rw [hW]; simp
  have c4 : W.cell? ⟨w.heap.size + 1, 1, none⟩ = some (.int .i64 n') := by rw [hW]; simp
  have hz : w.heap.size + 1 < W.heap.size := by rw [hW]; simp
  rw [← hW]
  clear hW
  go_wp2_with fail
  refine (low_any _ _ _).mono ?_
  rintro e w2 ⟨rfl, hb2⟩
  have d1 := (hb2.cell (p := ⟨w.heap.size, 0, none⟩) (by simp; omega)).trans c1
  have d2 := (hb2.cell (p := ⟨w.heap.size, 1, none⟩) (by simp; omega)).trans c2
  have d3 := (hb2.cell (p := ⟨w.heap.size + 1, 0, none⟩) (by simp; omega)).trans c3
  have d4 := (hb2.cell (p := ⟨w.heap.size + 1, 1, none⟩) (by simp; omega)).trans c4
  have hz2 := Nat.lt_of_lt_of_le hz hb2.size
  have hb' := hb.trans (hb2.mono hb.size)
  clear c1 c2 c3 c4 hz
  have hL := low_nn (1, n')
  go_wp2_with fail
  have e1 := fun m : Above w2 => above_cell d1 (by simp; omega) m
  have e2 := fun m : Above w2 => above_cell d2 (by simp; omega) m
  have hM := low_nn (1, n)
  refine wp_region_T (by kernel_rfl) (by kernel_rfl) ?_
  repeat (go_big_quiet_step (exact quiet_T (low_any _ _ _)))
  refine wpQuiet_nil ?_
  rintro _ ⟨⟨w5, hb5⟩, rfl⟩
  go_wp2_with fail
  go_ret
  exact ⟨ret_i64 rfl, hb'.trans (hb5.mono hb'.size)⟩

theorem reck_120_1 (n n' : Int) (w : World) :
    Calls Tryd.prog 42 #[.int .i64 120, .agg #[.int .i64 1, .int .i64 n], .agg #[.int .i64 1, .int .i64 n']] w fun e w' => e = .returned (.int .i64 (reckV 1 120 n n')) ∧ Below w.heap.size w w' := by
  rw [reckV_120, w32]
  go_enter Tryd.func42, Tryd.ntmps42
  go_wp2_with fail
  refine (width_any _ _ (by omega)).mono ?_
  rintro e w1 ⟨rfl, rfl⟩
  obtain ⟨W, hW⟩ : ∃ W, W = (w.alloc (.cells #[.int .i64 1, .int .i64 n] 23)).alloc (.cells #[.int .i64 1, .int .i64 n'] 23) := ⟨_, rfl⟩
  have hb : Below w.heap.size w W := by rw [hW]; exact (one_block _ _).alloc (by simp) _
  have c1 : W.cell? ⟨w.heap.size, 0, none⟩ = some (.int .i64 1) := by rw [hW]; simp
  have c2 : W.cell? ⟨w.heap.size, 1, none⟩ = some (.int .i64 n) := by rw [hW]; simp
  have c3 : W.cell? ⟨w.heap.size + 1, 0, none⟩ = some (.int .i64 1) := by rw [hW]; simp
  have c4 : W.cell? ⟨w.heap.size + 1, 1, none⟩ = some (.int .i64 n') := by rw [hW]; simp
  have hz : w.heap.size + 1 < W.heap.size := by rw [hW]; simp
  rw [← hW]
  clear hW
  go_wp2_with fail
  refine (low_any _ _ _).mono ?_
  rintro e w2 ⟨rfl, hb2⟩
  have d1 := (hb2.cell (p := ⟨w.heap.size, 0, none⟩) (by simp; omega)).trans c1
  have d2 := (hb2.cell (p := ⟨w.heap.size, 1, none⟩) (by simp; omega)).trans c2
  have d3 := (hb2.cell (p := ⟨w.heap.size + 1, 0, none⟩) (by simp; omega)).trans c3
  have d4 := (hb2.cell (p := ⟨w.heap.size + 1, 1, none⟩) (by simp; omega)).trans c4
  have hz2 := Nat.lt_of_lt_of_le hz hb2.size
  have hb' := hb.trans (hb2.mono hb.size)
  clear c1 c2 c3 c4 hz
  have hL := low_nn (1, n')
  go_wp2_with fail
  have e1 := fun m : Above w2 => above_cell d1 (by simp; omega) m
  have e2 := fun m : Above w2 => above_cell d2 (by simp; omega) m
  have hM := low_nn (1, n)
  refine wp_region_T (by kernel_rfl) (by kernel_rfl) ?_
  repeat (go_big_quiet_step (exact quiet_T (low_any _ _ _)))
  refine wpQuiet_nil ?_
  rintro _ ⟨⟨w5, hb5⟩, rfl⟩
  go_wp2_with fail
  go_ret
  exact ⟨ret_i64 rfl, hb'.trans (hb5.mono hb'.size)⟩

theorem reck_106_2 (n n' : Int) (w : World) :
    Calls Tryd.prog 42 #[.int .i64 106, .agg #[.int .i64 2, .int .i64 n], .agg #[.int .i64 2, .int .i64 n']] w fun e w' => e = .returned (.int .i64 (reckV 2 106 n n')) ∧ Below w.heap.size w w' := by
  rw [reckV_106]
  go_enter Tryd.func42, Tryd.ntmps42
  go_wp2_with fail
  refine (width_any _ _ (by omega)).mono ?_
  rintro e w1 ⟨rfl, rfl⟩
  obtain ⟨W, hW⟩ : ∃ W, W = (w.alloc (.cells #[.int .i64 2, .int .i64 n] 23)).alloc (.cells #[.int .i64 2, .int .i64 n'] 23) := ⟨_, rfl⟩
  have hb : Below w.heap.size w W := by rw [hW]; exact (one_block _ _).alloc (by simp) _
  have c1 : W.cell? ⟨w.heap.size, 0, none⟩ = some (.int .i64 2) := by rw [hW]; simp
  have c2 : W.cell? ⟨w.heap.size, 1, none⟩ = some (.int .i64 n) := by rw [hW]; simp
  have c3 : W.cell? ⟨w.heap.size + 1, 0, none⟩ = some (.int .i64 2) := by rw [hW]; simp
  have c4 : W.cell? ⟨w.heap.size + 1, 1, none⟩ = some (.int .i64 n') := by rw [hW]; simp
  have hz : w.heap.size + 1 < W.heap.size := by rw [hW]; simp
  rw [← hW]
  clear hW
  go_wp2_with fail
  refine (low_any _ _ _).mono ?_
  rintro e w2 ⟨rfl, hb2⟩
  have d1 := (hb2.cell (p := ⟨w.heap.size, 0, none⟩) (by simp; omega)).trans c1
  have d2 := (hb2.cell (p := ⟨w.heap.size, 1, none⟩) (by simp; omega)).trans c2
  have d3 := (hb2.cell (p := ⟨w.heap.size + 1, 0, none⟩) (by simp; omega)).trans c3
  have d4 := (hb2.cell (p := ⟨w.heap.size + 1, 1, none⟩) (by simp; omega)).trans c4
  have hz2 := Nat.lt_of_lt_of_le hz hb2.size
  have hb' := hb.trans (hb2.mono hb.size)
  clear c1 c2 c3 c4 hz
  have hL := low_nn (2, n')
  go_wp2_with fail
  go_ret
  exact ⟨ret_i64 rfl, hb'⟩

theorem reck_107_2 (n n' : Int) (w : World) :
    Calls Tryd.prog 42 #[.int .i64 107, .agg #[.int .i64 2, .int .i64 n], .agg #[.int .i64 2, .int .i64 n']] w fun e w' => e = .returned (.int .i64 (reckV 2 107 n n')) ∧ Below w.heap.size w w' := by
  rw [reckV_107]
  go_enter Tryd.func42, Tryd.ntmps42
  go_wp2_with fail
  refine (width_any _ _ (by omega)).mono ?_
  rintro e w1 ⟨rfl, rfl⟩
  obtain ⟨W, hW⟩ : ∃ W, W = (w.alloc (.cells #[.int .i64 2, .int .i64 n] 23)).alloc (.cells #[.int .i64 2, .int .i64 n'] 23) := ⟨_, rfl⟩
  have hb : Below w.heap.size w W := by rw [hW]; exact (one_block _ _).alloc (by simp) _
  have c1 : W.cell? ⟨w.heap.size, 0, none⟩ = some (.int .i64 2) := by rw [hW]; simp
  have c2 : W.cell? ⟨w.heap.size, 1, none⟩ = some (.int .i64 n) := by rw [hW]; simp
  have c3 : W.cell? ⟨w.heap.size + 1, 0, none⟩ = some (.int .i64 2) := by rw [hW]; simp
  have c4 : W.cell? ⟨w.heap.size + 1, 1, none⟩ = some (.int .i64 n') := by rw [hW]; simp
  have hz : w.heap.size + 1 < W.heap.size := by rw [hW]; simp
  rw [← hW]
  clear hW
  go_wp2_with fail
  refine (low_any _ _ _).mono ?_
  rintro e w2 ⟨rfl, hb2⟩
  have d1 := (hb2.cell (p := ⟨w.heap.size, 0, none⟩) (by simp; omega)).trans c1
  have d2 := (hb2.cell (p := ⟨w.heap.size, 1, none⟩) (by simp; omega)).trans c2
  have d3 := (hb2.cell (p := ⟨w.heap.size + 1, 0, none⟩) (by simp; omega)).trans c3
  have d4 := (hb2.cell (p := ⟨w.heap.size + 1, 1, none⟩) (by simp; omega)).trans c4
  have hz2 := Nat.lt_of_lt_of_le hz hb2.size
  have hb' := hb.trans (hb2.mono hb.size)
  clear c1 c2 c3 c4 hz
  have hL := low_nn (2, n')
  go_wp2_with fail
  go_ret
  exact ⟨ret_i64 rfl, hb'⟩

theorem reck_108_2 (n n' : Int) (w : World) :
    Calls Tryd.prog 42 #[.int .i64 108, .agg #[.int .i64 2, .int .i64 n], .agg #[.int .i64 2, .int .i64 n']] w fun e w' => e = .returned (.int .i64 (reckV 2 108 n n')) ∧ Below w.heap.size w w' := by
  rw [reckV_108]
  go_enter Tryd.func42, Tryd.ntmps42
  go_wp2_with fail
  refine (width_any _ _ (by omega)).mono ?_
  rintro e w1 ⟨rfl, rfl⟩
  obtain ⟨W, hW⟩ : ∃ W, W = (w.alloc (.cells #[.int .i64 2, .int .i64 n] 23)).alloc (.cells #[.int .i64 2, .int .i64 n'] 23) := ⟨_, rfl⟩
  have hb : Below w.heap.size w W := by rw [hW]; exact (one_block _ _).alloc (by simp) _
  have c1 : W.cell? ⟨w.heap.size, 0, none⟩ = some (.int .i64 2) := by rw [hW]; simp
  have c2 : W.cell? ⟨w.heap.size, 1, none⟩ = some (.int .i64 n) := by rw [hW]; simp
  have c3 : W.cell? ⟨w.heap.size + 1, 0, none⟩ = some (.int .i64 2) := by rw [hW]; simp
  have c4 : W.cell? ⟨w.heap.size + 1, 1, none⟩ = some (.int .i64 n') := by rw [hW]; simp
  have hz : w.heap.size + 1 < W.heap.size := by rw [hW]; simp
  rw [← hW]
  clear hW
  go_wp2_with fail
  refine (low_any _ _ _).mono ?_
  rintro e w2 ⟨rfl, hb2⟩
  have d1 := (hb2.cell (p := ⟨w.heap.size, 0, none⟩) (by simp; omega)).trans c1
  have d2 := (hb2.cell (p := ⟨w.heap.size, 1, none⟩) (by simp; omega)).trans c2
  have d3 := (hb2.cell (p := ⟨w.heap.size + 1, 0, none⟩) (by simp; omega)).trans c3
  have d4 := (hb2.cell (p := ⟨w.heap.size + 1, 1, none⟩) (by simp; omega)).trans c4
  have hz2 := Nat.lt_of_lt_of_le hz hb2.size
  have hb' := hb.trans (hb2.mono hb.size)
  clear c1 c2 c3 c4 hz
  have hL := low_nn (2, n')
  go_wp2_with fail
  go_ret
  exact ⟨ret_i64 rfl, hb'⟩

theorem reck_113_2 (n n' : Int) (w : World) :
    Calls Tryd.prog 42 #[.int .i64 113, .agg #[.int .i64 2, .int .i64 n], .agg #[.int .i64 2, .int .i64 n']] w fun e w' => e = .returned (.int .i64 (reckV 2 113 n n')) ∧ Below w.heap.size w w' := by
  rw [reckV_113]
  go_enter Tryd.func42, Tryd.ntmps42
  go_wp2_with fail
  refine (width_any _ _ (by omega)).mono ?_
  rintro e w1 ⟨rfl, rfl⟩
  obtain ⟨W, hW⟩ : ∃ W, W = (w.alloc (.cells #[.int .i64 2, .int .i64 n] 23)).alloc (.cells #[.int .i64 2, .int .i64 n'] 23) := ⟨_, rfl⟩
  have hb : Below w.heap.size w W := by rw [hW]; exact (one_block _ _).alloc (by simp) _
  have c1 : W.cell? ⟨w.heap.size, 0, none⟩ = some (.int .i64 2) := by rw [hW]; simp
  have c2 : W.cell? ⟨w.heap.size, 1, none⟩ = some (.int .i64 n) := by rw [hW]; simp
  have c3 : W.cell? ⟨w.heap.size + 1, 0, none⟩ = some (.int .i64 2) := by rw [hW]; simp
  have c4 : W.cell? ⟨w.heap.size + 1, 1, none⟩ = some (.int .i64 n') := by rw [hW]; simp
  have hz : w.heap.size + 1 < W.heap.size := by rw [hW]; simp
  rw [← hW]
  clear hW
  go_wp2_with fail
  refine (low_any _ _ _).mono ?_
  rintro e w2 ⟨rfl, hb2⟩
  have d1 := (hb2.cell (p := ⟨w.heap.size, 0, none⟩) (by simp; omega)).trans c1
  have d2 := (hb2.cell (p := ⟨w.heap.size, 1, none⟩) (by simp; omega)).trans c2
  have d3 := (hb2.cell (p := ⟨w.heap.size + 1, 0, none⟩) (by simp; omega)).trans c3
  have d4 := (hb2.cell (p := ⟨w.heap.size + 1, 1, none⟩) (by simp; omega)).trans c4
  have hz2 := Nat.lt_of_lt_of_le hz hb2.size
  have hb' := hb.trans (hb2.mono hb.size)
  clear c1 c2 c3 c4 hz
  have hL := low_nn (2, n')
  go_wp2_with fail
  go_ret
  exact ⟨ret_i64 rfl, hb'⟩

theorem reck_114_2 (n n' : Int) (w : World) :
    Calls Tryd.prog 42 #[.int .i64 114, .agg #[.int .i64 2, .int .i64 n], .agg #[.int .i64 2, .int .i64 n']] w fun e w' => e = .returned (.int .i64 (reckV 2 114 n n')) ∧ Below w.heap.size w w' := by
  rw [reckV_114]
  go_enter Tryd.func42, Tryd.ntmps42
  go_wp2_with fail
  refine (width_any _ _ (by omega)).mono ?_
  rintro e w1 ⟨rfl, rfl⟩
  obtain ⟨W, hW⟩ : ∃ W, W = (w.alloc (.cells #[.int .i64 2, .int .i64 n] 23)).alloc (.cells #[.int .i64 2, .int .i64 n'] 23) := ⟨_, rfl⟩
  have hb : Below w.heap.size w W := by rw [hW]; exact (one_block _ _).alloc (by simp) _
  have c1 : W.cell? ⟨w.heap.size, 0, none⟩ = some (.int .i64 2) := by rw [hW]; simp
  have c2 : W.cell? ⟨w.heap.size, 1, none⟩ = some (.int .i64 n) := by rw [hW]; simp
  have c3 : W.cell? ⟨w.heap.size + 1, 0, none⟩ = some (.int .i64 2) := by rw [hW]; simp
  have c4 : W.cell? ⟨w.heap.size + 1, 1, none⟩ = some (.int .i64 n') := by rw [hW]; simp
  have hz : w.heap.size + 1 < W.heap.size := by rw [hW]; simp
  rw [← hW]
  clear hW
  go_wp2_with fail
  refine (low_any _ _ _).mono ?_
  rintro e w2 ⟨rfl, hb2⟩
  have d1 := (hb2.cell (p := ⟨w.heap.size, 0, none⟩) (by simp; omega)).trans c1
  have d2 := (hb2.cell (p := ⟨w.heap.size, 1, none⟩) (by simp; omega)).trans c2
  have d3 := (hb2.cell (p := ⟨w.heap.size + 1, 0, none⟩) (by simp; omega)).trans c3
  have d4 := (hb2.cell (p := ⟨w.heap.size + 1, 1, none⟩) (by simp; omega)).trans c4
  have hz2 := Nat.lt_of_lt_of_le hz hb2.size
  have hb' := hb.trans (hb2.mono hb.size)
  clear c1 c2 c3 c4 hz
  have hL := low_nn (2, n')
  go_wp2_with fail
  go_ret
  exact ⟨ret_i64 rfl, hb'⟩

theorem reck_115_2 (n n' : Int) (w : World) :
    Calls Tryd.prog 42 #[.int .i64 115, .agg #[.int .i64 2, .int .i64 n], .agg #[.int .i64 2, .int .i64 n']] w fun e w' => e = .returned (.int .i64 (reckV 2 115 n n')) ∧ Below w.heap.size w w' := by
  rw [reckV_115]
  go_enter Tryd.func42, Tryd.ntmps42
  go_wp2_with fail
  refine (width_any _ _ (by omega)).mono ?_
  rintro e w1 ⟨rfl, rfl⟩
  obtain ⟨W, hW⟩ : ∃ W, W = (w.alloc (.cells #[.int .i64 2, .int .i64 n] 23)).alloc (.cells #[.int .i64 2, .int .i64 n'] 23) := ⟨_, rfl⟩
  have hb : Below w.heap.size w W := by rw [hW]; exact (one_block _ _).alloc (by simp) _
  have c1 : W.cell? ⟨w.heap.size, 0, none⟩ = some (.int .i64 2) := by rw [hW]; simp
  have c2 : W.cell? ⟨w.heap.size, 1, none⟩ = some (.int .i64 n) := by rw [hW]; simp
  have c3 : W.cell? ⟨w.heap.size + 1, 0, none⟩ = some (.int .i64 2) := by rw [hW]; simp
  have c4 : W.cell? ⟨w.heap.size + 1, 1, none⟩ = some (.int .i64 n') := by rw [hW]; simp
  have hz : w.heap.size + 1 < W.heap.size := by rw [hW]; simp
  rw [← hW]
  clear hW
  go_wp2_with fail
  refine (low_any _ _ _).mono ?_
  rintro e w2 ⟨rfl, hb2⟩
  have d1 := (hb2.cell (p := ⟨w.heap.size, 0, none⟩) (by simp; omega)).trans c1
  have d2 := (hb2.cell (p := ⟨w.heap.size, 1, none⟩) (by simp; omega)).trans c2
  have d3 := (hb2.cell (p := ⟨w.heap.size + 1, 0, none⟩) (by simp; omega)).trans c3
  have d4 := (hb2.cell (p := ⟨w.heap.size + 1, 1, none⟩) (by simp; omega)).trans c4
  have hz2 := Nat.lt_of_lt_of_le hz hb2.size
  have hb' := hb.trans (hb2.mono hb.size)
  clear c1 c2 c3 c4 hz
  have hL := low_nn (2, n')
  go_wp2_with fail
  go_ret
  exact ⟨ret_i64 rfl, hb'⟩

theorem reck_116_2 (n n' : Int) (w : World) :
    Calls Tryd.prog 42 #[.int .i64 116, .agg #[.int .i64 2, .int .i64 n], .agg #[.int .i64 2, .int .i64 n']] w fun e w' => e = .returned (.int .i64 (reckV 2 116 n n')) ∧ Below w.heap.size w w' := by
  rw [reckV_116, w64]
  go_enter Tryd.func42, Tryd.ntmps42
  go_wp2_with fail
  refine (width_any _ _ (by omega)).mono ?_
  rintro e w1 ⟨rfl, rfl⟩
  obtain ⟨W, hW⟩ : ∃ W, W = (w.alloc (.cells #[.int .i64 2, .int .i64 n] 23)).alloc (.cells #[.int .i64 2, .int .i64 n'] 23) := ⟨_, rfl⟩
  have hb : Below w.heap.size w W := by rw [hW]; exact (one_block _ _).alloc (by simp) _
  have c1 : W.cell? ⟨w.heap.size, 0, none⟩ = some (.int .i64 2) := by rw [hW]; simp
  have c2 : W.cell? ⟨w.heap.size, 1, none⟩ = some (.int .i64 n) := by rw [hW]; simp
  have c3 : W.cell? ⟨w.heap.size + 1, 0, none⟩ = some (.int .i64 2) := by rw [hW]; simp
  have c4 : W.cell? ⟨w.heap.size + 1, 1, none⟩ = some (.int .i64 n') := by rw [hW]; simp
  have hz : w.heap.size + 1 < W.heap.size := by rw [hW]; simp
  rw [← hW]
  clear hW
  go_wp2_with fail
  refine (low_any _ _ _).mono ?_
  rintro e w2 ⟨rfl, hb2⟩
  have d1 := (hb2.cell (p := ⟨w.heap.size, 0, none⟩) (by simp; omega)).trans c1
  have d2 := (hb2.cell (p := ⟨w.heap.size, 1, none⟩) (by simp; omega)).trans c2
  have d3 := (hb2.cell (p := ⟨w.heap.size + 1, 0, none⟩) (by simp; omega)).trans c3
  have d4 := (hb2.cell (p := ⟨w.heap.size + 1, 1, none⟩) (by simp; omega)).trans c4
  have hz2 := Nat.lt_of_lt_of_le hz hb2.size
  have hb' := hb.trans (hb2.mono hb.size)
  clear c1 c2 c3 c4 hz
  have hL := low_nn (2, n')
  go_wp2_with fail
  go_ret
  exact ⟨ret_i64 rfl, hb'⟩

theorem reck_117_2 (n n' : Int) (w : World) :
    Calls Tryd.prog 42 #[.int .i64 117, .agg #[.int .i64 2, .int .i64 n], .agg #[.int .i64 2, .int .i64 n']] w fun e w' => e = .returned (.int .i64 (reckV 2 117 n n')) ∧ Below w.heap.size w w' := by
  rw [reckV_117, w64]
  go_enter Tryd.func42, Tryd.ntmps42
  go_wp2_with fail
  refine (width_any _ _ (by omega)).mono ?_
  rintro e w1 ⟨rfl, rfl⟩
  obtain ⟨W, hW⟩ : ∃ W, W = (w.alloc (.cells #[.int .i64 2, .int .i64 n] 23)).alloc (.cells #[.int .i64 2, .int .i64 n'] 23) := ⟨_, rfl⟩
  have hb : Below w.heap.size w W := by rw [hW]; exact (one_block _ _).alloc (by simp) _
  have c1 : W.cell? ⟨w.heap.size, 0, none⟩ = some (.int .i64 2) := by rw [hW]; simp
  have c2 : W.cell? ⟨w.heap.size, 1, none⟩ = some (.int .i64 n) := by rw [hW]; simp
  have c3 : W.cell? ⟨w.heap.size + 1, 0, none⟩ = some (.int .i64 2) := by rw [hW]; simp
  have c4 : W.cell? ⟨w.heap.size + 1, 1, none⟩ = some (.int .i64 n') := by rw [hW]; simp
  have hz : w.heap.size + 1 < W.heap.size := by rw [hW]; simp
  rw [← hW]
  clear hW
  go_wp2_with fail
  refine (low_any _ _ _).mono ?_
  rintro e w2 ⟨rfl, hb2⟩
  have d1 := (hb2.cell (p := ⟨w.heap.size, 0, none⟩) (by simp; omega)).trans c1
  have d2 := (hb2.cell (p := ⟨w.heap.size, 1, none⟩) (by simp; omega)).trans c2
  have d3 := (hb2.cell (p := ⟨w.heap.size + 1, 0, none⟩) (by simp; omega)).trans c3
  have d4 := (hb2.cell (p := ⟨w.heap.size + 1, 1, none⟩) (by simp; omega)).trans c4
  have hz2 := Nat.lt_of_lt_of_le hz hb2.size
  have hb' := hb.trans (hb2.mono hb.size)
  clear c1 c2 c3 c4 hz
  have hL := low_nn (2, n')
  go_wp2_with fail
  go_ret
  exact ⟨ret_i64 rfl, hb'⟩

theorem reck_118_2 (n n' : Int) (w : World) :
    Calls Tryd.prog 42 #[.int .i64 118, .agg #[.int .i64 2, .int .i64 n], .agg #[.int .i64 2, .int .i64 n']] w fun e w' => e = .returned (.int .i64 (reckV 2 118 n n')) ∧ Below w.heap.size w w' := by
  rw [reckV_118, w64]
  go_enter Tryd.func42, Tryd.ntmps42
  go_wp2_with fail
  refine (width_any _ _ (by omega)).mono ?_
  rintro e w1 ⟨rfl, rfl⟩
  obtain ⟨W, hW⟩ : ∃ W, W = (w.alloc (.cells #[.int .i64 2, .int .i64 n] 23)).alloc (.cells #[.int .i64 2, .int .i64 n'] 23) := ⟨_, rfl⟩
  have hb : Below w.heap.size w W := by rw [hW]; exact (one_block _ _).alloc (by simp) _
  have c1 : W.cell? ⟨w.heap.size, 0, none⟩ = some (.int .i64 2) := by rw [hW]; simp
  have c2 : W.cell? ⟨w.heap.size, 1, none⟩ = some (.int .i64 n) := by rw [hW]; simp
  have c3 : W.cell? ⟨w.heap.size + 1, 0, none⟩ = some (.int .i64 2) := by rw [hW]; simp
  have c4 : W.cell? ⟨w.heap.size + 1, 1, none⟩ = some (.int .i64 n') := by rw [hW]; simp
  have hz : w.heap.size + 1 < W.heap.size := by rw [hW]; simp
  rw [← hW]
  clear hW
  go_wp2_with fail
  refine (low_any _ _ _).mono ?_
  rintro e w2 ⟨rfl, hb2⟩
  have d1 := (hb2.cell (p := ⟨w.heap.size, 0, none⟩) (by simp; omega)).trans c1
  have d2 := (hb2.cell (p := ⟨w.heap.size, 1, none⟩) (by simp; omega)).trans c2
  have d3 := (hb2.cell (p := ⟨w.heap.size + 1, 0, none⟩) (by simp; omega)).trans c3
  have d4 := (hb2.cell (p := ⟨w.heap.size + 1, 1, none⟩) (by simp; omega)).trans c4
  have hz2 := Nat.lt_of_lt_of_le hz hb2.size
  have hb' := hb.trans (hb2.mono hb.size)
  clear c1 c2 c3 c4 hz
  have hL := low_nn (2, n')
  go_wp2_with fail
  refine (low_any _ _ _).mono ?_
  rintro e w3 ⟨rfl, hb3⟩
  have hM := low_nn (2, n)
  go_wp2_with fail
  go_ret
  exact ⟨ret_i64 rfl, hb'.trans (hb3.mono hb'.size)⟩

theorem reck_119_2 (n n' : Int) (w : World) :
    Calls Tryd.prog 42 #[.int .i64 119, .agg #[.int .i64 2, .int .i64 n], .agg #[.int .i64 2, .int .i64 n']] w fun e w' => e = .returned (.int .i64 (reckV 2 119 n n')) ∧ Below w.heap.size w w' := by
  rw [reckV_119, w64]
  go_enter Tryd.func42, Tryd.ntmps42
  go_wp2_with fail
  refine (width_any _ _ (by omega)).mono ?_
  rintro e w1 ⟨rfl, rfl⟩
  obtain ⟨W, hW⟩ : ∃ W, W = (w.alloc (.cells #[.int .i64 2, .int .i64 n] 23)).alloc (.cells #[.int .i64 2, .int .i64 n'] 23) := ⟨_, rfl⟩
  have hb : Below w.heap.size w W := by rw [hW]; exact (one_block _ _).alloc (by simp) _
  have c1 : W.cell? ⟨w.heap.size, 0, none⟩ = some (.int .i64 2) := by rw [hW]; simp
  have c2 : W.cell? ⟨w.heap.size, 1, none⟩ = some (.int .i64 n) := by rw [hW]; simp
  have c3 : W.cell? ⟨w.heap.size + 1, 0, none⟩ = some (.int .i64 2) := by rw [hW]; simp
  have c4 : W.cell? ⟨w.heap.size + 1, 1, none⟩ = some (.int .i64 n') := by rw [hW]; simp
  have hz : w.heap.size + 1 < W.heap.size := by rw [hW]; simp
  rw [← hW]
  clear hW
  go_wp2_with fail
  refine (low_any _ _ _).mono ?_
  rintro e w2 ⟨rfl, hb2⟩
  have d1 := (hb2.cell (p := ⟨w.heap.size, 0, none⟩) (by simp; omega)).trans c1
  have d2 := (hb2.cell (p := ⟨w.heap.size, 1, none⟩) (by simp; omega)).trans c2
  have d3 := (hb2.cell (p := ⟨w.heap.size + 1, 0, none⟩) (by simp; omega)).trans c3
  have d4 := (hb2.cell (p := ⟨w.heap.size + 1, 1, none⟩) (by simp; omega)).trans c4
  have hz2 := Nat.lt_of_lt_of_le hz hb2.size
  have hb' := hb.trans (hb2.mono hb.size)
  clear c1 c2 c3 c4 hz
  have hL := low_nn (2, n')
  go_wp2_with fail
  have e1 := fun m : Above w2 => above_cell d1 (by simp; omega) m
  have e2 := fun m : Above w2 => above_cell d2 (by simp; omega) m
  have hM := low_nn (2, n)
  refine wp_region_T (by kernel_rfl) (by kernel_rfl) ?_
  repeat (go_big_quiet_step (exact quiet_T (low_any _ _ _)))
  refine wpQuiet_nil ?_
  rintro _ ⟨⟨w5, hb5⟩, rfl⟩
  go_wp2_with fail
  go_ret
  exact ⟨ret_i64 rfl, hb'.trans (hb5.mono hb'.size)⟩

theorem reck_120_2 (n n' : Int) (w : World) :
    Calls Tryd.prog 42 #[.int .i64 120, .agg #[.int .i64 2, .int .i64 n], .agg #[.int .i64 2, .int .i64 n']] w fun e w' => e = .returned (.int .i64 (reckV 2 120 n n')) ∧ Below w.heap.size w w' := by
  rw [reckV_120, w64]
  go_enter Tryd.func42, Tryd.ntmps42
  go_wp2_with fail
  refine (width_any _ _ (by omega)).mono ?_
  rintro e w1 ⟨rfl, rfl⟩
  obtain ⟨W, hW⟩ : ∃ W, W = (w.alloc (.cells #[.int .i64 2, .int .i64 n] 23)).alloc (.cells #[.int .i64 2, .int .i64 n'] 23) := ⟨_, rfl⟩
  have hb : Below w.heap.size w W := by rw [hW]; exact (one_block _ _).alloc (by simp) _
  have c1 : W.cell? ⟨w.heap.size, 0, none⟩ = some (.int .i64 2) := by rw [hW]; simp
  have c2 : W.cell? ⟨w.heap.size, 1, none⟩ = some (.int .i64 n) := by rw [hW]; simp
  have c3 : W.cell? ⟨w.heap.size + 1, 0, none⟩ = some (.int .i64 2) := by rw [hW]; simp
  have c4 : W.cell? ⟨w.heap.size + 1, 1, none⟩ = some (.int .i64 n') := by rw [hW]; simp
  have hz : w.heap.size + 1 < W.heap.size := by rw [hW]; simp
  rw [← hW]
  clear hW
  go_wp2_with fail
  refine (low_any _ _ _).mono ?_
  rintro e w2 ⟨rfl, hb2⟩
  have d1 := (hb2.cell (p := ⟨w.heap.size, 0, none⟩) (by simp; omega)).trans c1
  have d2 := (hb2.cell (p := ⟨w.heap.size, 1, none⟩) (by simp; omega)).trans c2
  have d3 := (hb2.cell (p := ⟨w.heap.size + 1, 0, none⟩) (by simp; omega)).trans c3
  have d4 := (hb2.cell (p := ⟨w.heap.size + 1, 1, none⟩) (by simp; omega)).trans c4
  have hz2 := Nat.lt_of_lt_of_le hz hb2.size
  have hb' := hb.trans (hb2.mono hb.size)
  clear c1 c2 c3 c4 hz
  have hL := low_nn (2, n')
  go_wp2_with fail
  have e1 := fun m : Above w2 => above_cell d1 (by simp; omega) m
  have e2 := fun m : Above w2 => above_cell d2 (by simp; omega) m
  have hM := low_nn (2, n)
  refine wp_region_T (by kernel_rfl) (by kernel_rfl) ?_
  repeat (go_big_quiet_step (exact quiet_T (low_any _ _ _)))
  refine wpQuiet_nil ?_
  rintro _ ⟨⟨w5, hb5⟩, rfl⟩
  go_wp2_with fail
  go_ret
  exact ⟨ret_i64 rfl, hb'.trans (hb5.mono hb'.size)⟩

/-- A number of an instruction that 'reckoned' is for. -/
def Reck (l : Int) : Prop := l = 106 ∨ l = 107 ∨ l = 108 ∨ l = 113 ∨ l = 114 ∨ l = 115 ∨ l = 116 ∨ l = 117 ∨ l = 118 ∨ l = 119 ∨ l = 120
theorem reck_any (l k n n' : Int) (w : World) (hk : k = 1 ∨ k = 2) (hl : Reck l) :
    Calls Tryd.prog 42 #[.int .i64 l, .agg #[.int .i64 k, .int .i64 n], .agg #[.int .i64 k, .int .i64 n']] w fun e w' => e = .returned (.int .i64 (reckV k l n n')) ∧ Below w.heap.size w w' := by
  rcases hk with rfl | rfl
  · rcases hl with rfl | rfl | rfl | rfl | rfl | rfl | rfl | rfl | rfl | rfl | rfl
    · exact reck_106_1 n n' w
    · exact reck_107_1 n n' w
    · exact reck_108_1 n n' w
    · exact reck_113_1 n n' w
    · exact reck_114_1 n n' w
    · exact reck_115_1 n n' w
    · exact reck_116_1 n n' w
    · exact reck_117_1 n n' w
    · exact reck_118_1 n n' w
    · exact reck_119_1 n n' w
    · exact reck_120_1 n n' w
  · rcases hl with rfl | rfl | rfl | rfl | rfl | rfl | rfl | rfl | rfl | rfl | rfl
    · exact reck_106_2 n n' w
    · exact reck_107_2 n n' w
    · exact reck_108_2 n n' w
    · exact reck_113_2 n n' w
    · exact reck_114_2 n n' w
    · exact reck_115_2 n n' w
    · exact reck_116_2 n n' w
    · exact reck_117_2 n n' w
    · exact reck_118_2 n n' w
    · exact reck_119_2 n n' w
    · exact reck_120_2 n n' w

end Go.Proofs.YtdcpbjpghgbbiaaDoor
