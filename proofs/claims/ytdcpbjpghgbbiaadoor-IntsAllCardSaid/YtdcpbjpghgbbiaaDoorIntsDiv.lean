/- The contract of ints.divided. Printed by gen_ints.py. -/
import Derived.Test.YtdcpbjpghgbbiaaDoorIntsReck
namespace Go.Proofs.YtdcpbjpghgbbiaaDoor
open Go.RowKit
set_option linter.unusedVariables false

theorem cell_up {W w' : World} (hb : Below W.heap.size W w') (b o : Nat) (h : b < W.heap.size) {v : Value} (hc : W.cell? ⟨b, o, none⟩ = some v) : w'.cell? ⟨b, o, none⟩ = some v := (hb.cell (p := ⟨b, o, none⟩) h).trans hc
theorem above_at {W : World} {b o : Nat} {v : Value} (h : W.cell? ⟨b, o, none⟩ = some v) (hp : b < W.heap.size) (n : Above W) : n.w.cell? ⟨b, o, none⟩ = some v := above_cell h hp n
theorem froz_up {W w' : World} (hb : Below W.heap.size W w') (b o : Nat) (h : b < W.heap.size) {v : Bool} (hc : W.frozen? ⟨b, o, none⟩ = v) : w'.frozen? ⟨b, o, none⟩ = v := (hb.frozen (p := ⟨b, o, none⟩) h).trans hc

/-- A number as its kind holds it. -/
def wk (k x : Int) : Int := if k = 1 then s32 x else x
theorem wrap_1 (n : Int) (w : World) : Calls Tryd.prog 25 #[.int .i64 1, .int .i64 n] w fun e w' => e = .returned (.agg #[.int .i64 1, .int .i64 (wk 1 n)]) ∧ Below w.heap.size w w' :=
  (wrap_any 1 n w).mono fun _ _ h => ⟨h.1.trans (by simp [V, wrapV, wk]), h.2⟩
theorem wrap_2 (n : Int) (w : World) : Calls Tryd.prog 25 #[.int .i64 2, .int .i64 n] w fun e w' => e = .returned (.agg #[.int .i64 2, .int .i64 (wk 2 n)]) ∧ Below w.heap.size w w' :=
  (wrap_any 2 n w).mono fun _ _ h => ⟨h.1.trans (by simp [V, wrapV, wk]), h.2⟩
theorem wk_0 (k : Int) : wk k 0 = 0 := by unfold wk; split <;> rfl

def least (k : Int) : Int := if k = 1 then -2147483648 else -9223372036854775808
/-- A value and how it ended, as Go hands them back. -/
def T2 (a b t : Int) : Value := .tuple #[.agg #[.int .i64 a, .int .i64 b], .int .i64 t]
/-- What 'divided' computes: kind, number, trap. -/
def divV (k l n n' : Int) : Int × Int × Int :=
  if n' = 0 then (0, 0, 2)
  else if l = 109 then (if n = least k ∧ n' = -1 then (0, 0, 3) else (k, wk k (wrap64 (n.tdiv n')), 0))
  else if l = 110 then (k, wk k (wrap64 (IntKind.u64.wrap ((low (k, n)).tdiv (low (k, n'))))), 0)
  else if l = 111 then (k, wk k (if n = least k ∧ n' = -1 then 0 else n.tmod n'), 0)
  else (k, wk k (wrap64 (low (k, n) % low (k, n'))), 0)

theorem div_0 (l k n : Int) (w : World) :
    Calls Tryd.prog 41 #[.int .i64 l, .agg #[.int .i64 k, .int .i64 n], .agg #[.int .i64 k, .int .i64 0]] w fun e w' => e = .returned (T2 0 0 2) ∧ Below w.heap.size w w' := by
  go_enter Tryd.func41, Tryd.ntmps41
  go_wp2_with fail
  exact bodyPost_ret (v := .tuple #[.agg #[.int .i64 0, .int .i64 0], .int .i64 2]) (by simp [results, Tryd.results41, go_sem]) rfl ⟨rfl, ((one_block _ _).alloc (by simp) _).alloc (by simp; omega) _⟩

theorem div_109_1_A (n n' : Int) (w : World) (hA : (n == -2147483648) = false) (hz' : ¬ n' = 0) :
    Calls Tryd.prog 41 #[.int .i64 109, .agg #[.int .i64 1, .int .i64 (n)], .agg #[.int .i64 1, .int .i64 (n')]] w fun e w' => e = .returned (T2 1 (wk 1 (wrap64 (Int.tdiv (n) n'))) 0) ∧ Below w.heap.size w w' := by
  go_enter Tryd.func41, Tryd.ntmps41
  go_wp2_with fail
  refine (width_any _ _ (by omega)).mono ?_
  rintro e w1 ⟨rfl, rfl⟩
  obtain ⟨tA, tB, tC, tF, tS⟩ := three_blocks w #[.int .i64 1, .int .i64 (n)] #[.int .i64 1, .int .i64 (n')] #[.int .i64 0, .int .i64 0] 23
  obtain ⟨W, hW⟩ : ∃ W, W = ((w.alloc (.cells #[.int .i64 1, .int .i64 (n)] 23)).alloc (.cells #[.int .i64 1, .int .i64 (n')] 23)).alloc (.cells #[.int .i64 0, .int .i64 0] 23) := ⟨_, rfl⟩
  have hb : Below w.heap.size w W := by rw [hW]; exact ((one_block _ _).alloc (by simp) _).alloc (by simp; omega) _
  rw [← hW] at tA tB tC tF tS ⊢
  clear hW
  have c1 := tA 0
  have c2 := tA 1
  have c3 := tB 0
  have c4 := tB 1
  have c5 := tC 0
  have c6 := tC 1
  have c7 := tF
  have hz : w.heap.size + 1 + 1 < W.heap.size := by omega
  simp at c1 c2 c3 c4 c5 c6
  clear tA tB tC tF tS
  go_wp2_with fail
  have hb' := hb
  refine (wrap_1 _ _).mono ?_
  rintro e w6 ⟨rfl, hb6⟩
  have d61 := cell_up hb6 (w.heap.size) 0 (by omega) c1
  have d62 := cell_up hb6 (w.heap.size) 1 (by omega) c2
  have d63 := cell_up hb6 (w.heap.size + 1) 0 (by omega) c3
  have d64 := cell_up hb6 (w.heap.size + 1) 1 (by omega) c4
  have d65 := cell_up hb6 (w.heap.size + 1 + 1) 0 (by omega) c5
  have d66 := cell_up hb6 (w.heap.size + 1 + 1) 1 (by omega) c6
  have d67 : ∀ o, w6.frozen? ⟨w.heap.size + 1 + 1, o, none⟩ = false := fun o => froz_up hb6 (w.heap.size + 1 + 1) o (by omega) (c7 o)
  have hb'' := hb'.trans (hb6.mono hb'.size)
  go_wp2_with fail
  refine bodyPost_ret (v := .tuple #[.agg #[.int .i64 1, .int .i64 (wk 1 (wrap64 (Int.tdiv (n) n')))], .int .i64 0]) (by simp [results, Tryd.results41, go_sem, d65, d66]) rfl ⟨rfl, ?_⟩
  exact (hb''.setCell (by simp; omega) _).setCell (by simp; omega) _

theorem div_109_1_B (n n' : Int) (w : World) (hB0 : (n == -2147483648) = true) (hB : (n' == -1) = false) (hz' : ¬ n' = 0) :
    Calls Tryd.prog 41 #[.int .i64 109, .agg #[.int .i64 1, .int .i64 (n)], .agg #[.int .i64 1, .int .i64 (n')]] w fun e w' => e = .returned (T2 1 (wk 1 (wrap64 (Int.tdiv (n) n'))) 0) ∧ Below w.heap.size w w' := by
  go_enter Tryd.func41, Tryd.ntmps41
  go_wp2_with fail
  refine (width_any _ _ (by omega)).mono ?_
  rintro e w1 ⟨rfl, rfl⟩
  obtain ⟨tA, tB, tC, tF, tS⟩ := three_blocks w #[.int .i64 1, .int .i64 (n)] #[.int .i64 1, .int .i64 (n')] #[.int .i64 0, .int .i64 0] 23
  obtain ⟨W, hW⟩ : ∃ W, W = ((w.alloc (.cells #[.int .i64 1, .int .i64 (n)] 23)).alloc (.cells #[.int .i64 1, .int .i64 (n')] 23)).alloc (.cells #[.int .i64 0, .int .i64 0] 23) := ⟨_, rfl⟩
  have hb : Below w.heap.size w W := by rw [hW]; exact ((one_block _ _).alloc (by simp) _).alloc (by simp; omega) _
  rw [← hW] at tA tB tC tF tS ⊢
  clear hW
  have c1 := tA 0
  have c2 := tA 1
  have c3 := tB 0
  have c4 := tB 1
  have c5 := tC 0
  have c6 := tC 1
  have c7 := tF
  have hz : w.heap.size + 1 + 1 < W.heap.size := by omega
  simp at c1 c2 c3 c4 c5 c6
  clear tA tB tC tF tS
  go_wp2_with fail
  have hb' := hb
  refine (wrap_1 _ _).mono ?_
  rintro e w6 ⟨rfl, hb6⟩
  have d61 := cell_up hb6 (w.heap.size) 0 (by omega) c1
  have d62 := cell_up hb6 (w.heap.size) 1 (by omega) c2
  have d63 := cell_up hb6 (w.heap.size + 1) 0 (by omega) c3
  have d64 := cell_up hb6 (w.heap.size + 1) 1 (by omega) c4
  have d65 := cell_up hb6 (w.heap.size + 1 + 1) 0 (by omega) c5
  have d66 := cell_up hb6 (w.heap.size + 1 + 1) 1 (by omega) c6
  have d67 : ∀ o, w6.frozen? ⟨w.heap.size + 1 + 1, o, none⟩ = false := fun o => froz_up hb6 (w.heap.size + 1 + 1) o (by omega) (c7 o)
  have hb'' := hb'.trans (hb6.mono hb'.size)
  go_wp2_with fail
  refine bodyPost_ret (v := .tuple #[.agg #[.int .i64 1, .int .i64 (wk 1 (wrap64 (Int.tdiv (n) n')))], .int .i64 0]) (by simp [results, Tryd.results41, go_sem, d65, d66]) rfl ⟨rfl, ?_⟩
  exact (hb''.setCell (by simp; omega) _).setCell (by simp; omega) _

theorem div_109_1_C (n n' : Int) (w : World) (hC0 : (n == -2147483648) = true) (hC : (n' == -1) = true) (hz' : ¬ n' = 0) :
    Calls Tryd.prog 41 #[.int .i64 109, .agg #[.int .i64 1, .int .i64 (n)], .agg #[.int .i64 1, .int .i64 (n')]] w fun e w' => e = .returned (T2 0 0 3) ∧ Below w.heap.size w w' := by
  go_enter Tryd.func41, Tryd.ntmps41
  go_wp2_with fail
  refine (width_any _ _ (by omega)).mono ?_
  rintro e w1 ⟨rfl, rfl⟩
  go_wp2_with fail
  exact bodyPost_ret (v := .tuple #[.agg #[.int .i64 0, .int .i64 0], .int .i64 3]) (by simp [results, Tryd.results41, go_sem]) rfl ⟨rfl, ((one_block _ _).alloc (by simp) _).alloc (by simp; omega) _⟩

theorem div_110_1_A (n n' : Int) (w : World) (hA : (n == -2147483648) = false) (hz' : ¬ n' = 0) (hp : 1 ≤ low (1, n')) (hq : 0 ≤ low (1, n)) :
    Calls Tryd.prog 41 #[.int .i64 110, .agg #[.int .i64 1, .int .i64 (n)], .agg #[.int .i64 1, .int .i64 (n')]] w fun e w' => e = .returned (T2 1 (wk 1 (wrap64 (IntKind.u64.wrap (Int.tdiv (low (1, n)) (low (1, n')))))) 0) ∧ Below w.heap.size w w' := by
  go_enter Tryd.func41, Tryd.ntmps41
  go_wp2_with fail
  refine (width_any _ _ (by omega)).mono ?_
  rintro e w1 ⟨rfl, rfl⟩
  obtain ⟨tA, tB, tC, tF, tS⟩ := three_blocks w #[.int .i64 1, .int .i64 (n)] #[.int .i64 1, .int .i64 (n')] #[.int .i64 0, .int .i64 0] 23
  obtain ⟨W, hW⟩ : ∃ W, W = ((w.alloc (.cells #[.int .i64 1, .int .i64 (n)] 23)).alloc (.cells #[.int .i64 1, .int .i64 (n')] 23)).alloc (.cells #[.int .i64 0, .int .i64 0] 23) := ⟨_, rfl⟩
  have hb : Below w.heap.size w W := by rw [hW]; exact ((one_block _ _).alloc (by simp) _).alloc (by simp; omega) _
  rw [← hW] at tA tB tC tF tS ⊢
  clear hW
  have c1 := tA 0
  have c2 := tA 1
  have c3 := tB 0
  have c4 := tB 1
  have c5 := tC 0
  have c6 := tC 1
  have c7 := tF
  have hz : w.heap.size + 1 + 1 < W.heap.size := by omega
  simp at c1 c2 c3 c4 c5 c6
  clear tA tB tC tF tS
  go_wp2_with fail
  have e1 := fun m : Above W => above_at c1 (by omega) m
  have e2 := fun m : Above W => above_at c2 (by omega) m
  have e3 := fun m : Above W => above_at c3 (by omega) m
  have e4 := fun m : Above W => above_at c4 (by omega) m
  have hne : ¬ low (1, n') = 0 := by omega
  refine wp_region_T (by kernel_rfl) (by kernel_rfl) ?_
  repeat (go_big_quiet_step (exact quiet_T (low_any _ _ _)))
  refine wpQuiet_nil ?_
  intro w5 h5
  obtain ⟨⟨x5, hb5⟩, hx5⟩ := h5
  dsimp only at hx5
  subst hx5
  have d51 := cell_up hb5 (w.heap.size) 0 (by omega) c1
  have d52 := cell_up hb5 (w.heap.size) 1 (by omega) c2
  have d53 := cell_up hb5 (w.heap.size + 1) 0 (by omega) c3
  have d54 := cell_up hb5 (w.heap.size + 1) 1 (by omega) c4
  have d55 := cell_up hb5 (w.heap.size + 1 + 1) 0 (by omega) c5
  have d56 := cell_up hb5 (w.heap.size + 1 + 1) 1 (by omega) c6
  have d57 : ∀ o, w5.frozen? ⟨w.heap.size + 1 + 1, o, none⟩ = false := fun o => froz_up hb5 (w.heap.size + 1 + 1) o (by omega) (c7 o)
  have hz5 := Nat.lt_of_lt_of_le hz hb5.size
  have hb' := hb.trans (hb5.mono hb.size)
  clear c1 c2 c3 c4 c5 c6 c7 hz e1 e2 e3 e4
  go_wp2_with fail
  refine (wrap_1 _ _).mono ?_
  rintro e w6 ⟨rfl, hb6⟩
  have d61 := cell_up hb6 (w.heap.size) 0 (by omega) d51
  have d62 := cell_up hb6 (w.heap.size) 1 (by omega) d52
  have d63 := cell_up hb6 (w.heap.size + 1) 0 (by omega) d53
  have d64 := cell_up hb6 (w.heap.size + 1) 1 (by omega) d54
  have d65 := cell_up hb6 (w.heap.size + 1 + 1) 0 (by omega) d55
  have d66 := cell_up hb6 (w.heap.size + 1 + 1) 1 (by omega) d56
  have d67 : ∀ o, w6.frozen? ⟨w.heap.size + 1 + 1, o, none⟩ = false := fun o => froz_up hb6 (w.heap.size + 1 + 1) o (by omega) (d57 o)
  have hb'' := hb'.trans (hb6.mono hb'.size)
  go_wp2_with fail
  refine bodyPost_ret (v := .tuple #[.agg #[.int .i64 1, .int .i64 (wk 1 (wrap64 (IntKind.u64.wrap (Int.tdiv (low (1, n)) (low (1, n'))))))], .int .i64 0]) (by simp [results, Tryd.results41, go_sem, d65, d66]) rfl ⟨rfl, ?_⟩
  exact (hb''.setCell (by simp; omega) _).setCell (by simp; omega) _

theorem div_110_1_B (n n' : Int) (w : World) (hB0 : (n == -2147483648) = true) (hB : (n' == -1) = false) (hz' : ¬ n' = 0) (hp : 1 ≤ low (1, n')) (hq : 0 ≤ low (1, n)) :
    Calls Tryd.prog 41 #[.int .i64 110, .agg #[.int .i64 1, .int .i64 (n)], .agg #[.int .i64 1, .int .i64 (n')]] w fun e w' => e = .returned (T2 1 (wk 1 (wrap64 (IntKind.u64.wrap (Int.tdiv (low (1, n)) (low (1, n')))))) 0) ∧ Below w.heap.size w w' := by
  go_enter Tryd.func41, Tryd.ntmps41
  go_wp2_with fail
  refine (width_any _ _ (by omega)).mono ?_
  rintro e w1 ⟨rfl, rfl⟩
  obtain ⟨tA, tB, tC, tF, tS⟩ := three_blocks w #[.int .i64 1, .int .i64 (n)] #[.int .i64 1, .int .i64 (n')] #[.int .i64 0, .int .i64 0] 23
  obtain ⟨W, hW⟩ : ∃ W, W = ((w.alloc (.cells #[.int .i64 1, .int .i64 (n)] 23)).alloc (.cells #[.int .i64 1, .int .i64 (n')] 23)).alloc (.cells #[.int .i64 0, .int .i64 0] 23) := ⟨_, rfl⟩
  have hb : Below w.heap.size w W := by rw [hW]; exact ((one_block _ _).alloc (by simp) _).alloc (by simp; omega) _
  rw [← hW] at tA tB tC tF tS ⊢
  clear hW
  have c1 := tA 0
  have c2 := tA 1
  have c3 := tB 0
  have c4 := tB 1
  have c5 := tC 0
  have c6 := tC 1
  have c7 := tF
  have hz : w.heap.size + 1 + 1 < W.heap.size := by omega
  simp at c1 c2 c3 c4 c5 c6
  clear tA tB tC tF tS
  go_wp2_with fail
  have e1 := fun m : Above W => above_at c1 (by omega) m
  have e2 := fun m : Above W => above_at c2 (by omega) m
  have e3 := fun m : Above W => above_at c3 (by omega) m
  have e4 := fun m : Above W => above_at c4 (by omega) m
  have hne : ¬ low (1, n') = 0 := by omega
  refine wp_region_T (by kernel_rfl) (by kernel_rfl) ?_
  repeat (go_big_quiet_step (exact quiet_T (low_any _ _ _)))
  refine wpQuiet_nil ?_
  intro w5 h5
  obtain ⟨⟨x5, hb5⟩, hx5⟩ := h5
  dsimp only at hx5
  subst hx5
  have d51 := cell_up hb5 (w.heap.size) 0 (by omega) c1
  have d52 := cell_up hb5 (w.heap.size) 1 (by omega) c2
  have d53 := cell_up hb5 (w.heap.size + 1) 0 (by omega) c3
  have d54 := cell_up hb5 (w.heap.size + 1) 1 (by omega) c4
  have d55 := cell_up hb5 (w.heap.size + 1 + 1) 0 (by omega) c5
  have d56 := cell_up hb5 (w.heap.size + 1 + 1) 1 (by omega) c6
  have d57 : ∀ o, w5.frozen? ⟨w.heap.size + 1 + 1, o, none⟩ = false := fun o => froz_up hb5 (w.heap.size + 1 + 1) o (by omega) (c7 o)
  have hz5 := Nat.lt_of_lt_of_le hz hb5.size
  have hb' := hb.trans (hb5.mono hb.size)
  clear c1 c2 c3 c4 c5 c6 c7 hz e1 e2 e3 e4
  go_wp2_with fail
  refine (wrap_1 _ _).mono ?_
  rintro e w6 ⟨rfl, hb6⟩
  have d61 := cell_up hb6 (w.heap.size) 0 (by omega) d51
  have d62 := cell_up hb6 (w.heap.size) 1 (by omega) d52
  have d63 := cell_up hb6 (w.heap.size + 1) 0 (by omega) d53
  have d64 := cell_up hb6 (w.heap.size + 1) 1 (by omega) d54
  have d65 := cell_up hb6 (w.heap.size + 1 + 1) 0 (by omega) d55
  have d66 := cell_up hb6 (w.heap.size + 1 + 1) 1 (by omega) d56
  have d67 : ∀ o, w6.frozen? ⟨w.heap.size + 1 + 1, o, none⟩ = false := fun o => froz_up hb6 (w.heap.size + 1 + 1) o (by omega) (d57 o)
  have hb'' := hb'.trans (hb6.mono hb'.size)
  go_wp2_with fail
  refine bodyPost_ret (v := .tuple #[.agg #[.int .i64 1, .int .i64 (wk 1 (wrap64 (IntKind.u64.wrap (Int.tdiv (low (1, n)) (low (1, n'))))))], .int .i64 0]) (by simp [results, Tryd.results41, go_sem, d65, d66]) rfl ⟨rfl, ?_⟩
  exact (hb''.setCell (by simp; omega) _).setCell (by simp; omega) _

theorem div_110_1_C (n n' : Int) (w : World) (hC0 : (n == -2147483648) = true) (hC : (n' == -1) = true) (hz' : ¬ n' = 0) (hp : 1 ≤ low (1, n')) (hq : 0 ≤ low (1, n)) :
    Calls Tryd.prog 41 #[.int .i64 110, .agg #[.int .i64 1, .int .i64 (n)], .agg #[.int .i64 1, .int .i64 (n')]] w fun e w' => e = .returned (T2 1 (wk 1 (wrap64 (IntKind.u64.wrap (Int.tdiv (low (1, n)) (low (1, n')))))) 0) ∧ Below w.heap.size w w' := by
  go_enter Tryd.func41, Tryd.ntmps41
  go_wp2_with fail
  refine (width_any _ _ (by omega)).mono ?_
  rintro e w1 ⟨rfl, rfl⟩
  obtain ⟨tA, tB, tC, tF, tS⟩ := three_blocks w #[.int .i64 1, .int .i64 (n)] #[.int .i64 1, .int .i64 (n')] #[.int .i64 0, .int .i64 0] 23
  obtain ⟨W, hW⟩ : ∃ W, W = ((w.alloc (.cells #[.int .i64 1, .int .i64 (n)] 23)).alloc (.cells #[.int .i64 1, .int .i64 (n')] 23)).alloc (.cells #[.int .i64 0, .int .i64 0] 23) := ⟨_, rfl⟩
  have hb : Below w.heap.size w W := by rw [hW]; exact ((one_block _ _).alloc (by simp) _).alloc (by simp; omega) _
  rw [← hW] at tA tB tC tF tS ⊢
  clear hW
  have c1 := tA 0
  have c2 := tA 1
  have c3 := tB 0
  have c4 := tB 1
  have c5 := tC 0
  have c6 := tC 1
  have c7 := tF
  have hz : w.heap.size + 1 + 1 < W.heap.size := by omega
  simp at c1 c2 c3 c4 c5 c6
  clear tA tB tC tF tS
  go_wp2_with fail
  have e1 := fun m : Above W => above_at c1 (by omega) m
  have e2 := fun m : Above W => above_at c2 (by omega) m
  have e3 := fun m : Above W => above_at c3 (by omega) m
  have e4 := fun m : Above W => above_at c4 (by omega) m
  have hne : ¬ low (1, n') = 0 := by omega
  refine wp_region_T (by kernel_rfl) (by kernel_rfl) ?_
  repeat (go_big_quiet_step (exact quiet_T (low_any _ _ _)))
  refine wpQuiet_nil ?_
  intro w5 h5
  obtain ⟨⟨x5, hb5⟩, hx5⟩ := h5
  dsimp only at hx5
  subst hx5
  have d51 := cell_up hb5 (w.heap.size) 0 (by omega) c1
  have d52 := cell_up hb5 (w.heap.size) 1 (by omega) c2
  have d53 := cell_up hb5 (w.heap.size + 1) 0 (by omega) c3
  have d54 := cell_up hb5 (w.heap.size + 1) 1 (by omega) c4
  have d55 := cell_up hb5 (w.heap.size + 1 + 1) 0 (by omega) c5
  have d56 := cell_up hb5 (w.heap.size + 1 + 1) 1 (by omega) c6
  have d57 : ∀ o, w5.frozen? ⟨w.heap.size + 1 + 1, o, none⟩ = false := fun o => froz_up hb5 (w.heap.size + 1 + 1) o (by omega) (c7 o)
  have hz5 := Nat.lt_of_lt_of_le hz hb5.size
  have hb' := hb.trans (hb5.mono hb.size)
  clear c1 c2 c3 c4 c5 c6 c7 hz e1 e2 e3 e4
  go_wp2_with fail
  refine (wrap_1 _ _).mono ?_
  rintro e w6 ⟨rfl, hb6⟩
  have d61 := cell_up hb6 (w.heap.size) 0 (by omega) d51
  have d62 := cell_up hb6 (w.heap.size) 1 (by omega) d52
  have d63 := cell_up hb6 (w.heap.size + 1) 0 (by omega) d53
  have d64 := cell_up hb6 (w.heap.size + 1) 1 (by omega) d54
  have d65 := cell_up hb6 (w.heap.size + 1 + 1) 0 (by omega) d55
  have d66 := cell_up hb6 (w.heap.size + 1 + 1) 1 (by omega) d56
  have d67 : ∀ o, w6.frozen? ⟨w.heap.size + 1 + 1, o, none⟩ = false := fun o => froz_up hb6 (w.heap.size + 1 + 1) o (by omega) (d57 o)
  have hb'' := hb'.trans (hb6.mono hb'.size)
  go_wp2_with fail
  refine bodyPost_ret (v := .tuple #[.agg #[.int .i64 1, .int .i64 (wk 1 (wrap64 (IntKind.u64.wrap (Int.tdiv (low (1, n)) (low (1, n'))))))], .int .i64 0]) (by simp [results, Tryd.results41, go_sem, d65, d66]) rfl ⟨rfl, ?_⟩
  exact (hb''.setCell (by simp; omega) _).setCell (by simp; omega) _

theorem div_111_1_A (n n' : Int) (w : World) (hA : (n == -2147483648) = false) (hz' : ¬ n' = 0) :
    Calls Tryd.prog 41 #[.int .i64 111, .agg #[.int .i64 1, .int .i64 (n)], .agg #[.int .i64 1, .int .i64 (n')]] w fun e w' => e = .returned (T2 1 (wk 1 (Int.tmod (n) n')) 0) ∧ Below w.heap.size w w' := by
  go_enter Tryd.func41, Tryd.ntmps41
  go_wp2_with fail
  refine (width_any _ _ (by omega)).mono ?_
  rintro e w1 ⟨rfl, rfl⟩
  obtain ⟨tA, tB, tC, tF, tS⟩ := three_blocks w #[.int .i64 1, .int .i64 (n)] #[.int .i64 1, .int .i64 (n')] #[.int .i64 0, .int .i64 0] 23
  obtain ⟨W, hW⟩ : ∃ W, W = ((w.alloc (.cells #[.int .i64 1, .int .i64 (n)] 23)).alloc (.cells #[.int .i64 1, .int .i64 (n')] 23)).alloc (.cells #[.int .i64 0, .int .i64 0] 23) := ⟨_, rfl⟩
  have hb : Below w.heap.size w W := by rw [hW]; exact ((one_block _ _).alloc (by simp) _).alloc (by simp; omega) _
  rw [← hW] at tA tB tC tF tS ⊢
  clear hW
  have c1 := tA 0
  have c2 := tA 1
  have c3 := tB 0
  have c4 := tB 1
  have c5 := tC 0
  have c6 := tC 1
  have c7 := tF
  have hz : w.heap.size + 1 + 1 < W.heap.size := by omega
  simp at c1 c2 c3 c4 c5 c6
  clear tA tB tC tF tS
  go_wp2_with fail
  have hb' := hb
  refine (wrap_1 _ _).mono ?_
  rintro e w6 ⟨rfl, hb6⟩
  have d61 := cell_up hb6 (w.heap.size) 0 (by omega) c1
  have d62 := cell_up hb6 (w.heap.size) 1 (by omega) c2
  have d63 := cell_up hb6 (w.heap.size + 1) 0 (by omega) c3
  have d64 := cell_up hb6 (w.heap.size + 1) 1 (by omega) c4
  have d65 := cell_up hb6 (w.heap.size + 1 + 1) 0 (by omega) c5
  have d66 := cell_up hb6 (w.heap.size + 1 + 1) 1 (by omega) c6
  have d67 : ∀ o, w6.frozen? ⟨w.heap.size + 1 + 1, o, none⟩ = false := fun o => froz_up hb6 (w.heap.size + 1 + 1) o (by omega) (c7 o)
  have hb'' := hb'.trans (hb6.mono hb'.size)
  go_wp2_with fail
  refine bodyPost_ret (v := .tuple #[.agg #[.int .i64 1, .int .i64 (wk 1 (Int.tmod (n) n'))], .int .i64 0]) (by simp [results, Tryd.results41, go_sem, d65, d66]) rfl ⟨rfl, ?_⟩
  exact (hb''.setCell (by simp; omega) _).setCell (by simp; omega) _

theorem div_111_1_B (n n' : Int) (w : World) (hB0 : (n == -2147483648) = true) (hB : (n' == -1) = false) (hz' : ¬ n' = 0) :
    Calls Tryd.prog 41 #[.int .i64 111, .agg #[.int .i64 1, .int .i64 (n)], .agg #[.int .i64 1, .int .i64 (n')]] w fun e w' => e = .returned (T2 1 (wk 1 (Int.tmod (n) n')) 0) ∧ Below w.heap.size w w' := by
  go_enter Tryd.func41, Tryd.ntmps41
  go_wp2_with fail
  refine (width_any _ _ (by omega)).mono ?_
  rintro e w1 ⟨rfl, rfl⟩
  obtain ⟨tA, tB, tC, tF, tS⟩ := three_blocks w #[.int .i64 1, .int .i64 (n)] #[.int .i64 1, .int .i64 (n')] #[.int .i64 0, .int .i64 0] 23
  obtain ⟨W, hW⟩ : ∃ W, W = ((w.alloc (.cells #[.int .i64 1, .int .i64 (n)] 23)).alloc (.cells #[.int .i64 1, .int .i64 (n')] 23)).alloc (.cells #[.int .i64 0, .int .i64 0] 23) := ⟨_, rfl⟩
  have hb : Below w.heap.size w W := by rw [hW]; exact ((one_block _ _).alloc (by simp) _).alloc (by simp; omega) _
  rw [← hW] at tA tB tC tF tS ⊢
  clear hW
  have c1 := tA 0
  have c2 := tA 1
  have c3 := tB 0
  have c4 := tB 1
  have c5 := tC 0
  have c6 := tC 1
  have c7 := tF
  have hz : w.heap.size + 1 + 1 < W.heap.size := by omega
  simp at c1 c2 c3 c4 c5 c6
  clear tA tB tC tF tS
  go_wp2_with fail
  have hb' := hb
  refine (wrap_1 _ _).mono ?_
  rintro e w6 ⟨rfl, hb6⟩
  have d61 := cell_up hb6 (w.heap.size) 0 (by omega) c1
  have d62 := cell_up hb6 (w.heap.size) 1 (by omega) c2
  have d63 := cell_up hb6 (w.heap.size + 1) 0 (by omega) c3
  have d64 := cell_up hb6 (w.heap.size + 1) 1 (by omega) c4
  have d65 := cell_up hb6 (w.heap.size + 1 + 1) 0 (by omega) c5
  have d66 := cell_up hb6 (w.heap.size + 1 + 1) 1 (by omega) c6
  have d67 : ∀ o, w6.frozen? ⟨w.heap.size + 1 + 1, o, none⟩ = false := fun o => froz_up hb6 (w.heap.size + 1 + 1) o (by omega) (c7 o)
  have hb'' := hb'.trans (hb6.mono hb'.size)
  go_wp2_with fail
  refine bodyPost_ret (v := .tuple #[.agg #[.int .i64 1, .int .i64 (wk 1 (Int.tmod (n) n'))], .int .i64 0]) (by simp [results, Tryd.results41, go_sem, d65, d66]) rfl ⟨rfl, ?_⟩
  exact (hb''.setCell (by simp; omega) _).setCell (by simp; omega) _

theorem div_111_1_C (n n' : Int) (w : World) (hC0 : (n == -2147483648) = true) (hC : (n' == -1) = true) (hz' : ¬ n' = 0) :
    Calls Tryd.prog 41 #[.int .i64 111, .agg #[.int .i64 1, .int .i64 (n)], .agg #[.int .i64 1, .int .i64 (n')]] w fun e w' => e = .returned (T2 1 (wk 1 (0)) 0) ∧ Below w.heap.size w w' := by
  go_enter Tryd.func41, Tryd.ntmps41
  go_wp2_with fail
  refine (width_any _ _ (by omega)).mono ?_
  rintro e w1 ⟨rfl, rfl⟩
  obtain ⟨tA, tB, tC, tF, tS⟩ := three_blocks w #[.int .i64 1, .int .i64 (n)] #[.int .i64 1, .int .i64 (n')] #[.int .i64 0, .int .i64 0] 23
  obtain ⟨W, hW⟩ : ∃ W, W = ((w.alloc (.cells #[.int .i64 1, .int .i64 (n)] 23)).alloc (.cells #[.int .i64 1, .int .i64 (n')] 23)).alloc (.cells #[.int .i64 0, .int .i64 0] 23) := ⟨_, rfl⟩
  have hb : Below w.heap.size w W := by rw [hW]; exact ((one_block _ _).alloc (by simp) _).alloc (by simp; omega) _
  rw [← hW] at tA tB tC tF tS ⊢
  clear hW
  have c1 := tA 0
  have c2 := tA 1
  have c3 := tB 0
  have c4 := tB 1
  have c5 := tC 0
  have c6 := tC 1
  have c7 := tF
  have hz : w.heap.size + 1 + 1 < W.heap.size := by omega
  simp at c1 c2 c3 c4 c5 c6
  clear tA tB tC tF tS
  go_wp2_with fail
  have hb' := hb
  refine (wrap_1 _ _).mono ?_
  rintro e w6 ⟨rfl, hb6⟩
  have d61 := cell_up hb6 (w.heap.size) 0 (by omega) c1
  have d62 := cell_up hb6 (w.heap.size) 1 (by omega) c2
  have d63 := cell_up hb6 (w.heap.size + 1) 0 (by omega) c3
  have d64 := cell_up hb6 (w.heap.size + 1) 1 (by omega) c4
  have d65 := cell_up hb6 (w.heap.size + 1 + 1) 0 (by omega) c5
  have d66 := cell_up hb6 (w.heap.size + 1 + 1) 1 (by omega) c6
  have d67 : ∀ o, w6.frozen? ⟨w.heap.size + 1 + 1, o, none⟩ = false := fun o => froz_up hb6 (w.heap.size + 1 + 1) o (by omega) (c7 o)
  have hb'' := hb'.trans (hb6.mono hb'.size)
  go_wp2_with fail
  refine bodyPost_ret (v := .tuple #[.agg #[.int .i64 1, .int .i64 (wk 1 (0))], .int .i64 0]) (by simp [results, Tryd.results41, go_sem, d65, d66]) rfl ⟨rfl, ?_⟩
  exact (hb''.setCell (by simp; omega) _).setCell (by simp; omega) _

theorem div_112_1_A (n n' : Int) (w : World) (hA : (n == -2147483648) = false) (hz' : ¬ n' = 0) (hp : 1 ≤ low (1, n')) (hq : 0 ≤ low (1, n)) :
    Calls Tryd.prog 41 #[.int .i64 112, .agg #[.int .i64 1, .int .i64 (n)], .agg #[.int .i64 1, .int .i64 (n')]] w fun e w' => e = .returned (T2 1 (wk 1 (wrap64 (low (1, n) % low (1, n')))) 0) ∧ Below w.heap.size w w' := by
  go_enter Tryd.func41, Tryd.ntmps41
  go_wp2_with fail
  refine (width_any _ _ (by omega)).mono ?_
  rintro e w1 ⟨rfl, rfl⟩
  obtain ⟨tA, tB, tC, tF, tS⟩ := three_blocks w #[.int .i64 1, .int .i64 (n)] #[.int .i64 1, .int .i64 (n')] #[.int .i64 0, .int .i64 0] 23
  obtain ⟨W, hW⟩ : ∃ W, W = ((w.alloc (.cells #[.int .i64 1, .int .i64 (n)] 23)).alloc (.cells #[.int .i64 1, .int .i64 (n')] 23)).alloc (.cells #[.int .i64 0, .int .i64 0] 23) := ⟨_, rfl⟩
  have hb : Below w.heap.size w W := by rw [hW]; exact ((one_block _ _).alloc (by simp) _).alloc (by simp; omega) _
  rw [← hW] at tA tB tC tF tS ⊢
  clear hW
  have c1 := tA 0
  have c2 := tA 1
  have c3 := tB 0
  have c4 := tB 1
  have c5 := tC 0
  have c6 := tC 1
  have c7 := tF
  have hz : w.heap.size + 1 + 1 < W.heap.size := by omega
  simp at c1 c2 c3 c4 c5 c6
  clear tA tB tC tF tS
  go_wp2_with fail
  have e1 := fun m : Above W => above_at c1 (by omega) m
  have e2 := fun m : Above W => above_at c2 (by omega) m
  have e3 := fun m : Above W => above_at c3 (by omega) m
  have e4 := fun m : Above W => above_at c4 (by omega) m
  have hne : ¬ low (1, n') = 0 := by omega
  refine wp_region_T (by kernel_rfl) (by kernel_rfl) ?_
  repeat (go_big_quiet_step (exact quiet_T (low_any _ _ _)))
  refine wpQuiet_nil ?_
  intro w5 h5
  obtain ⟨⟨x5, hb5⟩, hx5⟩ := h5
  dsimp only at hx5
  subst hx5
  have d51 := cell_up hb5 (w.heap.size) 0 (by omega) c1
  have d52 := cell_up hb5 (w.heap.size) 1 (by omega) c2
  have d53 := cell_up hb5 (w.heap.size + 1) 0 (by omega) c3
  have d54 := cell_up hb5 (w.heap.size + 1) 1 (by omega) c4
  have d55 := cell_up hb5 (w.heap.size + 1 + 1) 0 (by omega) c5
  have d56 := cell_up hb5 (w.heap.size + 1 + 1) 1 (by omega) c6
  have d57 : ∀ o, w5.frozen? ⟨w.heap.size + 1 + 1, o, none⟩ = false := fun o => froz_up hb5 (w.heap.size + 1 + 1) o (by omega) (c7 o)
  have hz5 := Nat.lt_of_lt_of_le hz hb5.size
  have hb' := hb.trans (hb5.mono hb.size)
  clear c1 c2 c3 c4 c5 c6 c7 hz e1 e2 e3 e4
  go_wp2_with fail
  refine (wrap_1 _ _).mono ?_
  rintro e w6 ⟨rfl, hb6⟩
  have d61 := cell_up hb6 (w.heap.size) 0 (by omega) d51
  have d62 := cell_up hb6 (w.heap.size) 1 (by omega) d52
  have d63 := cell_up hb6 (w.heap.size + 1) 0 (by omega) d53
  have d64 := cell_up hb6 (w.heap.size + 1) 1 (by omega) d54
  have d65 := cell_up hb6 (w.heap.size + 1 + 1) 0 (by omega) d55
  have d66 := cell_up hb6 (w.heap.size + 1 + 1) 1 (by omega) d56
  have d67 : ∀ o, w6.frozen? ⟨w.heap.size + 1 + 1, o, none⟩ = false := fun o => froz_up hb6 (w.heap.size + 1 + 1) o (by omega) (d57 o)
  have hb'' := hb'.trans (hb6.mono hb'.size)
  go_wp2_with fail
  refine bodyPost_ret (v := .tuple #[.agg #[.int .i64 1, .int .i64 (wk 1 (wrap64 (low (1, n) % low (1, n'))))], .int .i64 0]) (by simp [results, Tryd.results41, go_sem, d65, d66]) rfl ⟨rfl, ?_⟩
  exact (hb''.setCell (by simp; omega) _).setCell (by simp; omega) _

theorem div_112_1_B (n n' : Int) (w : World) (hB0 : (n == -2147483648) = true) (hB : (n' == -1) = false) (hz' : ¬ n' = 0) (hp : 1 ≤ low (1, n')) (hq : 0 ≤ low (1, n)) :
    Calls Tryd.prog 41 #[.int .i64 112, .agg #[.int .i64 1, .int .i64 (n)], .agg #[.int .i64 1, .int .i64 (n')]] w fun e w' => e = .returned (T2 1 (wk 1 (wrap64 (low (1, n) % low (1, n')))) 0) ∧ Below w.heap.size w w' := by
  go_enter Tryd.func41, Tryd.ntmps41
  go_wp2_with fail
  refine (width_any _ _ (by omega)).mono ?_
  rintro e w1 ⟨rfl, rfl⟩
  obtain ⟨tA, tB, tC, tF, tS⟩ := three_blocks w #[.int .i64 1, .int .i64 (n)] #[.int .i64 1, .int .i64 (n')] #[.int .i64 0, .int .i64 0] 23
  obtain ⟨W, hW⟩ : ∃ W, W = ((w.alloc (.cells #[.int .i64 1, .int .i64 (n)] 23)).alloc (.cells #[.int .i64 1, .int .i64 (n')] 23)).alloc (.cells #[.int .i64 0, .int .i64 0] 23) := ⟨_, rfl⟩
  have hb : Below w.heap.size w W := by rw [hW]; exact ((one_block _ _).alloc (by simp) _).alloc (by simp; omega) _
  rw [← hW] at tA tB tC tF tS ⊢
  clear hW
  have c1 := tA 0
  have c2 := tA 1
  have c3 := tB 0
  have c4 := tB 1
  have c5 := tC 0
  have c6 := tC 1
  have c7 := tF
  have hz : w.heap.size + 1 + 1 < W.heap.size := by omega
  simp at c1 c2 c3 c4 c5 c6
  clear tA tB tC tF tS
  go_wp2_with fail
  have e1 := fun m : Above W => above_at c1 (by omega) m
  have e2 := fun m : Above W => above_at c2 (by omega) m
  have e3 := fun m : Above W => above_at c3 (by omega) m
  have e4 := fun m : Above W => above_at c4 (by omega) m
  have hne : ¬ low (1, n') = 0 := by omega
  refine wp_region_T (by kernel_rfl) (by kernel_rfl) ?_
  repeat (go_big_quiet_step (exact quiet_T (low_any _ _ _)))
  refine wpQuiet_nil ?_
  intro w5 h5
  obtain ⟨⟨x5, hb5⟩, hx5⟩ := h5
  dsimp only at hx5
  subst hx5
  have d51 := cell_up hb5 (w.heap.size) 0 (by omega) c1
  have d52 := cell_up hb5 (w.heap.size) 1 (by omega) c2
  have d53 := cell_up hb5 (w.heap.size + 1) 0 (by omega) c3
  have d54 := cell_up hb5 (w.heap.size + 1) 1 (by omega) c4
  have d55 := cell_up hb5 (w.heap.size + 1 + 1) 0 (by omega) c5
  have d56 := cell_up hb5 (w.heap.size + 1 + 1) 1 (by omega) c6
  have d57 : ∀ o, w5.frozen? ⟨w.heap.size + 1 + 1, o, none⟩ = false := fun o => froz_up hb5 (w.heap.size + 1 + 1) o (by omega) (c7 o)
  have hz5 := Nat.lt_of_lt_of_le hz hb5.size
  have hb' := hb.trans (hb5.mono hb.size)
  clear c1 c2 c3 c4 c5 c6 c7 hz e1 e2 e3 e4
  go_wp2_with fail
  refine (wrap_1 _ _).mono ?_
  rintro e w6 ⟨rfl, hb6⟩
  have d61 := cell_up hb6 (w.heap.size) 0 (by omega) d51
  have d62 := cell_up hb6 (w.heap.size) 1 (by omega) d52
  have d63 := cell_up hb6 (w.heap.size + 1) 0 (by omega) d53
  have d64 := cell_up hb6 (w.heap.size + 1) 1 (by omega) d54
  have d65 := cell_up hb6 (w.heap.size + 1 + 1) 0 (by omega) d55
  have d66 := cell_up hb6 (w.heap.size + 1 + 1) 1 (by omega) d56
  have d67 : ∀ o, w6.frozen? ⟨w.heap.size + 1 + 1, o, none⟩ = false := fun o => froz_up hb6 (w.heap.size + 1 + 1) o (by omega) (d57 o)
  have hb'' := hb'.trans (hb6.mono hb'.size)
  go_wp2_with fail
  refine bodyPost_ret (v := .tuple #[.agg #[.int .i64 1, .int .i64 (wk 1 (wrap64 (low (1, n) % low (1, n'))))], .int .i64 0]) (by simp [results, Tryd.results41, go_sem, d65, d66]) rfl ⟨rfl, ?_⟩
  exact (hb''.setCell (by simp; omega) _).setCell (by simp; omega) _

theorem div_112_1_C (n n' : Int) (w : World) (hC0 : (n == -2147483648) = true) (hC : (n' == -1) = true) (hz' : ¬ n' = 0) (hp : 1 ≤ low (1, n')) (hq : 0 ≤ low (1, n)) :
    Calls Tryd.prog 41 #[.int .i64 112, .agg #[.int .i64 1, .int .i64 (n)], .agg #[.int .i64 1, .int .i64 (n')]] w fun e w' => e = .returned (T2 1 (wk 1 (wrap64 (low (1, n) % low (1, n')))) 0) ∧ Below w.heap.size w w' := by
  go_enter Tryd.func41, Tryd.ntmps41
  go_wp2_with fail
  refine (width_any _ _ (by omega)).mono ?_
  rintro e w1 ⟨rfl, rfl⟩
  obtain ⟨tA, tB, tC, tF, tS⟩ := three_blocks w #[.int .i64 1, .int .i64 (n)] #[.int .i64 1, .int .i64 (n')] #[.int .i64 0, .int .i64 0] 23
  obtain ⟨W, hW⟩ : ∃ W, W = ((w.alloc (.cells #[.int .i64 1, .int .i64 (n)] 23)).alloc (.cells #[.int .i64 1, .int .i64 (n')] 23)).alloc (.cells #[.int .i64 0, .int .i64 0] 23) := ⟨_, rfl⟩
  have hb : Below w.heap.size w W := by rw [hW]; exact ((one_block _ _).alloc (by simp) _).alloc (by simp; omega) _
  rw [← hW] at tA tB tC tF tS ⊢
  clear hW
  have c1 := tA 0
  have c2 := tA 1
  have c3 := tB 0
  have c4 := tB 1
  have c5 := tC 0
  have c6 := tC 1
  have c7 := tF
  have hz : w.heap.size + 1 + 1 < W.heap.size := by omega
  simp at c1 c2 c3 c4 c5 c6
  clear tA tB tC tF tS
  go_wp2_with fail
  have e1 := fun m : Above W => above_at c1 (by omega) m
  have e2 := fun m : Above W => above_at c2 (by omega) m
  have e3 := fun m : Above W => above_at c3 (by omega) m
  have e4 := fun m : Above W => above_at c4 (by omega) m
  have hne : ¬ low (1, n') = 0 := by omega
  refine wp_region_T (by kernel_rfl) (by kernel_rfl) ?_
  repeat (go_big_quiet_step (exact quiet_T (low_any _ _ _)))
  refine wpQuiet_nil ?_
  intro w5 h5
  obtain ⟨⟨x5, hb5⟩, hx5⟩ := h5
  dsimp only at hx5
  subst hx5
  have d51 := cell_up hb5 (w.heap.size) 0 (by omega) c1
  have d52 := cell_up hb5 (w.heap.size) 1 (by omega) c2
  have d53 := cell_up hb5 (w.heap.size + 1) 0 (by omega) c3
  have d54 := cell_up hb5 (w.heap.size + 1) 1 (by omega) c4
  have d55 := cell_up hb5 (w.heap.size + 1 + 1) 0 (by omega) c5
  have d56 := cell_up hb5 (w.heap.size + 1 + 1) 1 (by omega) c6
  have d57 : ∀ o, w5.frozen? ⟨w.heap.size + 1 + 1, o, none⟩ = false := fun o => froz_up hb5 (w.heap.size + 1 + 1) o (by omega) (c7 o)
  have hz5 := Nat.lt_of_lt_of_le hz hb5.size
  have hb' := hb.trans (hb5.mono hb.size)
  clear c1 c2 c3 c4 c5 c6 c7 hz e1 e2 e3 e4
  go_wp2_with fail
  refine (wrap_1 _ _).mono ?_
  rintro e w6 ⟨rfl, hb6⟩
  have d61 := cell_up hb6 (w.heap.size) 0 (by omega) d51
  have d62 := cell_up hb6 (w.heap.size) 1 (by omega) d52
  have d63 := cell_up hb6 (w.heap.size + 1) 0 (by omega) d53
  have d64 := cell_up hb6 (w.heap.size + 1) 1 (by omega) d54
  have d65 := cell_up hb6 (w.heap.size + 1 + 1) 0 (by omega) d55
  have d66 := cell_up hb6 (w.heap.size + 1 + 1) 1 (by omega) d56
  have d67 : ∀ o, w6.frozen? ⟨w.heap.size + 1 + 1, o, none⟩ = false := fun o => froz_up hb6 (w.heap.size + 1 + 1) o (by omega) (d57 o)
  have hb'' := hb'.trans (hb6.mono hb'.size)
  go_wp2_with fail
  refine bodyPost_ret (v := .tuple #[.agg #[.int .i64 1, .int .i64 (wk 1 (wrap64 (low (1, n) % low (1, n'))))], .int .i64 0]) (by simp [results, Tryd.results41, go_sem, d65, d66]) rfl ⟨rfl, ?_⟩
  exact (hb''.setCell (by simp; omega) _).setCell (by simp; omega) _

theorem div_109_2_A (n n' : Int) (w : World) (hA : (n == -9223372036854775808) = false) (hz' : ¬ n' = 0) :
    Calls Tryd.prog 41 #[.int .i64 109, .agg #[.int .i64 2, .int .i64 (n)], .agg #[.int .i64 2, .int .i64 (n')]] w fun e w' => e = .returned (T2 2 (wk 2 (wrap64 (Int.tdiv (n) n'))) 0) ∧ Below w.heap.size w w' := by
  go_enter Tryd.func41, Tryd.ntmps41
  go_wp2_with fail
  refine (width_any _ _ (by omega)).mono ?_
  rintro e w1 ⟨rfl, rfl⟩
  obtain ⟨tA, tB, tC, tF, tS⟩ := three_blocks w #[.int .i64 2, .int .i64 (n)] #[.int .i64 2, .int .i64 (n')] #[.int .i64 0, .int .i64 0] 23
  obtain ⟨W, hW⟩ : ∃ W, W = ((w.alloc (.cells #[.int .i64 2, .int .i64 (n)] 23)).alloc (.cells #[.int .i64 2, .int .i64 (n')] 23)).alloc (.cells #[.int .i64 0, .int .i64 0] 23) := ⟨_, rfl⟩
  have hb : Below w.heap.size w W := by rw [hW]; exact ((one_block _ _).alloc (by simp) _).alloc (by simp; omega) _
  rw [← hW] at tA tB tC tF tS ⊢
  clear hW
  have c1 := tA 0
  have c2 := tA 1
  have c3 := tB 0
  have c4 := tB 1
  have c5 := tC 0
  have c6 := tC 1
  have c7 := tF
  have hz : w.heap.size + 1 + 1 < W.heap.size := by omega
  simp at c1 c2 c3 c4 c5 c6
  clear tA tB tC tF tS
  go_wp2_with fail
  have hb' := hb
  refine (wrap_2 _ _).mono ?_
  rintro e w6 ⟨rfl, hb6⟩
  have d61 := cell_up hb6 (w.heap.size) 0 (by omega) c1
  have d62 := cell_up hb6 (w.heap.size) 1 (by omega) c2
  have d63 := cell_up hb6 (w.heap.size + 1) 0 (by omega) c3
  have d64 := cell_up hb6 (w.heap.size + 1) 1 (by omega) c4
  have d65 := cell_up hb6 (w.heap.size + 1 + 1) 0 (by omega) c5
  have d66 := cell_up hb6 (w.heap.size + 1 + 1) 1 (by omega) c6
  have d67 : ∀ o, w6.frozen? ⟨w.heap.size + 1 + 1, o, none⟩ = false := fun o => froz_up hb6 (w.heap.size + 1 + 1) o (by omega) (c7 o)
  have hb'' := hb'.trans (hb6.mono hb'.size)
  go_wp2_with fail
  refine bodyPost_ret (v := .tuple #[.agg #[.int .i64 2, .int .i64 (wk 2 (wrap64 (Int.tdiv (n) n')))], .int .i64 0]) (by simp [results, Tryd.results41, go_sem, d65, d66]) rfl ⟨rfl, ?_⟩
  exact (hb''.setCell (by simp; omega) _).setCell (by simp; omega) _

theorem div_109_2_B (n n' : Int) (w : World) (hB0 : (n == -9223372036854775808) = true) (hB : (n' == -1) = false) (hz' : ¬ n' = 0) :
    Calls Tryd.prog 41 #[.int .i64 109, .agg #[.int .i64 2, .int .i64 (n)], .agg #[.int .i64 2, .int .i64 (n')]] w fun e w' => e = .returned (T2 2 (wk 2 (wrap64 (Int.tdiv (n) n'))) 0) ∧ Below w.heap.size w w' := by
  go_enter Tryd.func41, Tryd.ntmps41
  go_wp2_with fail
  refine (width_any _ _ (by omega)).mono ?_
  rintro e w1 ⟨rfl, rfl⟩
  obtain ⟨tA, tB, tC, tF, tS⟩ := three_blocks w #[.int .i64 2, .int .i64 (n)] #[.int .i64 2, .int .i64 (n')] #[.int .i64 0, .int .i64 0] 23
  obtain ⟨W, hW⟩ : ∃ W, W = ((w.alloc (.cells #[.int .i64 2, .int .i64 (n)] 23)).alloc (.cells #[.int .i64 2, .int .i64 (n')] 23)).alloc (.cells #[.int .i64 0, .int .i64 0] 23) := ⟨_, rfl⟩
  have hb : Below w.heap.size w W := by rw [hW]; exact ((one_block _ _).alloc (by simp) _).alloc (by simp; omega) _
  rw [← hW] at tA tB tC tF tS ⊢
  clear hW
  have c1 := tA 0
  have c2 := tA 1
  have c3 := tB 0
  have c4 := tB 1
  have c5 := tC 0
  have c6 := tC 1
  have c7 := tF
  have hz : w.heap.size + 1 + 1 < W.heap.size := by omega
  simp at c1 c2 c3 c4 c5 c6
  clear tA tB tC tF tS
  go_wp2_with fail
  have hb' := hb
  refine (wrap_2 _ _).mono ?_
  rintro e w6 ⟨rfl, hb6⟩
  have d61 := cell_up hb6 (w.heap.size) 0 (by omega) c1
  have d62 := cell_up hb6 (w.heap.size) 1 (by omega) c2
  have d63 := cell_up hb6 (w.heap.size + 1) 0 (by omega) c3
  have d64 := cell_up hb6 (w.heap.size + 1) 1 (by omega) c4
  have d65 := cell_up hb6 (w.heap.size + 1 + 1) 0 (by omega) c5
  have d66 := cell_up hb6 (w.heap.size + 1 + 1) 1 (by omega) c6
  have d67 : ∀ o, w6.frozen? ⟨w.heap.size + 1 + 1, o, none⟩ = false := fun o => froz_up hb6 (w.heap.size + 1 + 1) o (by omega) (c7 o)
  have hb'' := hb'.trans (hb6.mono hb'.size)
  go_wp2_with fail
  refine bodyPost_ret (v := .tuple #[.agg #[.int .i64 2, .int .i64 (wk 2 (wrap64 (Int.tdiv (n) n')))], .int .i64 0]) (by simp [results, Tryd.results41, go_sem, d65, d66]) rfl ⟨rfl, ?_⟩
  exact (hb''.setCell (by simp; omega) _).setCell (by simp; omega) _

theorem div_109_2_C (n n' : Int) (w : World) (hC0 : (n == -9223372036854775808) = true) (hC : (n' == -1) = true) (hz' : ¬ n' = 0) :
    Calls Tryd.prog 41 #[.int .i64 109, .agg #[.int .i64 2, .int .i64 (n)], .agg #[.int .i64 2, .int .i64 (n')]] w fun e w' => e = .returned (T2 0 0 3) ∧ Below w.heap.size w w' := by
  go_enter Tryd.func41, Tryd.ntmps41
  go_wp2_with fail
  refine (width_any _ _ (by omega)).mono ?_
  rintro e w1 ⟨rfl, rfl⟩
  go_wp2_with fail
  exact bodyPost_ret (v := .tuple #[.agg #[.int .i64 0, .int .i64 0], .int .i64 3]) (by simp [results, Tryd.results41, go_sem]) rfl ⟨rfl, ((one_block _ _).alloc (by simp) _).alloc (by simp; omega) _⟩

theorem div_110_2_A (n n' : Int) (w : World) (hA : (n == -9223372036854775808) = false) (hz' : ¬ n' = 0) (hp : 1 ≤ low (2, n')) (hq : 0 ≤ low (2, n)) :
    Calls Tryd.prog 41 #[.int .i64 110, .agg #[.int .i64 2, .int .i64 (n)], .agg #[.int .i64 2, .int .i64 (n')]] w fun e w' => e = .returned (T2 2 (wk 2 (wrap64 (IntKind.u64.wrap (Int.tdiv (low (2, n)) (low (2, n')))))) 0) ∧ Below w.heap.size w w' := by
  go_enter Tryd.func41, Tryd.ntmps41
  go_wp2_with fail
  refine (width_any _ _ (by omega)).mono ?_
  rintro e w1 ⟨rfl, rfl⟩
  obtain ⟨tA, tB, tC, tF, tS⟩ := three_blocks w #[.int .i64 2, .int .i64 (n)] #[.int .i64 2, .int .i64 (n')] #[.int .i64 0, .int .i64 0] 23
  obtain ⟨W, hW⟩ : ∃ W, W = ((w.alloc (.cells #[.int .i64 2, .int .i64 (n)] 23)).alloc (.cells #[.int .i64 2, .int .i64 (n')] 23)).alloc (.cells #[.int .i64 0, .int .i64 0] 23) := ⟨_, rfl⟩
  have hb : Below w.heap.size w W := by rw [hW]; exact ((one_block _ _).alloc (by simp) _).alloc (by simp; omega) _
  rw [← hW] at tA tB tC tF tS ⊢
  clear hW
  have c1 := tA 0
  have c2 := tA 1
  have c3 := tB 0
  have c4 := tB 1
  have c5 := tC 0
  have c6 := tC 1
  have c7 := tF
  have hz : w.heap.size + 1 + 1 < W.heap.size := by omega
  simp at c1 c2 c3 c4 c5 c6
  clear tA tB tC tF tS
  go_wp2_with fail
  have e1 := fun m : Above W => above_at c1 (by omega) m
  have e2 := fun m : Above W => above_at c2 (by omega) m
  have e3 := fun m : Above W => above_at c3 (by omega) m
  have e4 := fun m : Above W => above_at c4 (by omega) m
  have hne : ¬ low (2, n') = 0 := by omega
  refine wp_region_T (by kernel_rfl) (by kernel_rfl) ?_
  repeat (go_big_quiet_step (exact quiet_T (low_any _ _ _)))
  refine wpQuiet_nil ?_
  intro w5 h5
  obtain ⟨⟨x5, hb5⟩, hx5⟩ := h5
  dsimp only at hx5
  subst hx5
  have d51 := cell_up hb5 (w.heap.size) 0 (by omega) c1
  have d52 := cell_up hb5 (w.heap.size) 1 (by omega) c2
  have d53 := cell_up hb5 (w.heap.size + 1) 0 (by omega) c3
  have d54 := cell_up hb5 (w.heap.size + 1) 1 (by omega) c4
  have d55 := cell_up hb5 (w.heap.size + 1 + 1) 0 (by omega) c5
  have d56 := cell_up hb5 (w.heap.size + 1 + 1) 1 (by omega) c6
  have d57 : ∀ o, w5.frozen? ⟨w.heap.size + 1 + 1, o, none⟩ = false := fun o => froz_up hb5 (w.heap.size + 1 + 1) o (by omega) (c7 o)
  have hz5 := Nat.lt_of_lt_of_le hz hb5.size
  have hb' := hb.trans (hb5.mono hb.size)
  clear c1 c2 c3 c4 c5 c6 c7 hz e1 e2 e3 e4
  go_wp2_with fail
  refine (wrap_2 _ _).mono ?_
  rintro e w6 ⟨rfl, hb6⟩
  have d61 := cell_up hb6 (w.heap.size) 0 (by omega) d51
  have d62 := cell_up hb6 (w.heap.size) 1 (by omega) d52
  have d63 := cell_up hb6 (w.heap.size + 1) 0 (by omega) d53
  have d64 := cell_up hb6 (w.heap.size + 1) 1 (by omega) d54
  have d65 := cell_up hb6 (w.heap.size + 1 + 1) 0 (by omega) d55
  have d66 := cell_up hb6 (w.heap.size + 1 + 1) 1 (by omega) d56
  have d67 : ∀ o, w6.frozen? ⟨w.heap.size + 1 + 1, o, none⟩ = false := fun o => froz_up hb6 (w.heap.size + 1 + 1) o (by omega) (d57 o)
  have hb'' := hb'.trans (hb6.mono hb'.size)
  go_wp2_with fail
  refine bodyPost_ret (v := .tuple #[.agg #[.int .i64 2, .int .i64 (wk 2 (wrap64 (IntKind.u64.wrap (Int.tdiv (low (2, n)) (low (2, n'))))))], .int .i64 0]) (by simp [results, Tryd.results41, go_sem, d65, d66]) rfl ⟨rfl, ?_⟩
  exact (hb''.setCell (by simp; omega) _).setCell (by simp; omega) _

theorem div_110_2_B (n n' : Int) (w : World) (hB0 : (n == -9223372036854775808) = true) (hB : (n' == -1) = false) (hz' : ¬ n' = 0) (hp : 1 ≤ low (2, n')) (hq : 0 ≤ low (2, n)) :
    Calls Tryd.prog 41 #[.int .i64 110, .agg #[.int .i64 2, .int .i64 (n)], .agg #[.int .i64 2, .int .i64 (n')]] w fun e w' => e = .returned (T2 2 (wk 2 (wrap64 (IntKind.u64.wrap (Int.tdiv (low (2, n)) (low (2, n')))))) 0) ∧ Below w.heap.size w w' := by
  go_enter Tryd.func41, Tryd.ntmps41
  go_wp2_with fail
  refine (width_any _ _ (by omega)).mono ?_
  rintro e w1 ⟨rfl, rfl⟩
  obtain ⟨tA, tB, tC, tF, tS⟩ := three_blocks w #[.int .i64 2, .int .i64 (n)] #[.int .i64 2, .int .i64 (n')] #[.int .i64 0, .int .i64 0] 23
  obtain ⟨W, hW⟩ : ∃ W, W = ((w.alloc (.cells #[.int .i64 2, .int .i64 (n)] 23)).alloc (.cells #[.int .i64 2, .int .i64 (n')] 23)).alloc (.cells #[.int .i64 0, .int .i64 0] 23) := ⟨_, rfl⟩
  have hb : Below w.heap.size w W := by rw [hW]; exact ((one_block _ _).alloc (by simp) _).alloc (by simp; omega) _
  rw [← hW] at tA tB tC tF tS ⊢
  clear hW
  have c1 := tA 0
  have c2 := tA 1
  have c3 := tB 0
  have c4 := tB 1
  have c5 := tC 0
  have c6 := tC 1
  have c7 := tF
  have hz : w.heap.size + 1 + 1 < W.heap.size := by omega
  simp at c1 c2 c3 c4 c5 c6
  clear tA tB tC tF tS
  go_wp2_with fail
  have e1 := fun m : Above W => above_at c1 (by omega) m
  have e2 := fun m : Above W => above_at c2 (by omega) m
  have e3 := fun m : Above W => above_at c3 (by omega) m
  have e4 := fun m : Above W => above_at c4 (by omega) m
  have hne : ¬ low (2, n') = 0 := by omega
  refine wp_region_T (by kernel_rfl) (by kernel_rfl) ?_
  repeat (go_big_quiet_step (exact quiet_T (low_any _ _ _)))
  refine wpQuiet_nil ?_
  intro w5 h5
  obtain ⟨⟨x5, hb5⟩, hx5⟩ := h5
  dsimp only at hx5
  subst hx5
  have d51 := cell_up hb5 (w.heap.size) 0 (by omega) c1
  have d52 := cell_up hb5 (w.heap.size) 1 (by omega) c2
  have d53 := cell_up hb5 (w.heap.size + 1) 0 (by omega) c3
  have d54 := cell_up hb5 (w.heap.size + 1) 1 (by omega) c4
  have d55 := cell_up hb5 (w.heap.size + 1 + 1) 0 (by omega) c5
  have d56 := cell_up hb5 (w.heap.size + 1 + 1) 1 (by omega) c6
  have d57 : ∀ o, w5.frozen? ⟨w.heap.size + 1 + 1, o, none⟩ = false := fun o => froz_up hb5 (w.heap.size + 1 + 1) o (by omega) (c7 o)
  have hz5 := Nat.lt_of_lt_of_le hz hb5.size
  have hb' := hb.trans (hb5.mono hb.size)
  clear c1 c2 c3 c4 c5 c6 c7 hz e1 e2 e3 e4
  go_wp2_with fail
  refine (wrap_2 _ _).mono ?_
  rintro e w6 ⟨rfl, hb6⟩
  have d61 := cell_up hb6 (w.heap.size) 0 (by omega) d51
  have d62 := cell_up hb6 (w.heap.size) 1 (by omega) d52
  have d63 := cell_up hb6 (w.heap.size + 1) 0 (by omega) d53
  have d64 := cell_up hb6 (w.heap.size + 1) 1 (by omega) d54
  have d65 := cell_up hb6 (w.heap.size + 1 + 1) 0 (by omega) d55
  have d66 := cell_up hb6 (w.heap.size + 1 + 1) 1 (by omega) d56
  have d67 : ∀ o, w6.frozen? ⟨w.heap.size + 1 + 1, o, none⟩ = false := fun o => froz_up hb6 (w.heap.size + 1 + 1) o (by omega) (d57 o)
  have hb'' := hb'.trans (hb6.mono hb'.size)
  go_wp2_with fail
  refine bodyPost_ret (v := .tuple #[.agg #[.int .i64 2, .int .i64 (wk 2 (wrap64 (IntKind.u64.wrap (Int.tdiv (low (2, n)) (low (2, n'))))))], .int .i64 0]) (by simp [results, Tryd.results41, go_sem, d65, d66]) rfl ⟨rfl, ?_⟩
  exact (hb''.setCell (by simp; omega) _).setCell (by simp; omega) _

theorem div_110_2_C (n n' : Int) (w : World) (hC0 : (n == -9223372036854775808) = true) (hC : (n' == -1) = true) (hz' : ¬ n' = 0) (hp : 1 ≤ low (2, n')) (hq : 0 ≤ low (2, n)) :
    Calls Tryd.prog 41 #[.int .i64 110, .agg #[.int .i64 2, .int .i64 (n)], .agg #[.int .i64 2, .int .i64 (n')]] w fun e w' => e = .returned (T2 2 (wk 2 (wrap64 (IntKind.u64.wrap (Int.tdiv (low (2, n)) (low (2, n')))))) 0) ∧ Below w.heap.size w w' := by
  go_enter Tryd.func41, Tryd.ntmps41
  go_wp2_with fail
  refine (width_any _ _ (by omega)).mono ?_
  rintro e w1 ⟨rfl, rfl⟩
  obtain ⟨tA, tB, tC, tF, tS⟩ := three_blocks w #[.int .i64 2, .int .i64 (n)] #[.int .i64 2, .int .i64 (n')] #[.int .i64 0, .int .i64 0] 23
  obtain ⟨W, hW⟩ : ∃ W, W = ((w.alloc (.cells #[.int .i64 2, .int .i64 (n)] 23)).alloc (.cells #[.int .i64 2, .int .i64 (n')] 23)).alloc (.cells #[.int .i64 0, .int .i64 0] 23) := ⟨_, rfl⟩
  have hb : Below w.heap.size w W := by rw [hW]; exact ((one_block _ _).alloc (by simp) _).alloc (by simp; omega) _
  rw [← hW] at tA tB tC tF tS ⊢
  clear hW
  have c1 := tA 0
  have c2 := tA 1
  have c3 := tB 0
  have c4 := tB 1
  have c5 := tC 0
  have c6 := tC 1
  have c7 := tF
  have hz : w.heap.size + 1 + 1 < W.heap.size := by omega
  simp at c1 c2 c3 c4 c5 c6
  clear tA tB tC tF tS
  go_wp2_with fail
  have e1 := fun m : Above W => above_at c1 (by omega) m
  have e2 := fun m : Above W => above_at c2 (by omega) m
  have e3 := fun m : Above W => above_at c3 (by omega) m
  have e4 := fun m : Above W => above_at c4 (by omega) m
  have hne : ¬ low (2, n') = 0 := by omega
  refine wp_region_T (by kernel_rfl) (by kernel_rfl) ?_
  repeat (go_big_quiet_step (exact quiet_T (low_any _ _ _)))
  refine wpQuiet_nil ?_
  intro w5 h5
  obtain ⟨⟨x5, hb5⟩, hx5⟩ := h5
  dsimp only at hx5
  subst hx5
  have d51 := cell_up hb5 (w.heap.size) 0 (by omega) c1
  have d52 := cell_up hb5 (w.heap.size) 1 (by omega) c2
  have d53 := cell_up hb5 (w.heap.size + 1) 0 (by omega) c3
  have d54 := cell_up hb5 (w.heap.size + 1) 1 (by omega) c4
  have d55 := cell_up hb5 (w.heap.size + 1 + 1) 0 (by omega) c5
  have d56 := cell_up hb5 (w.heap.size + 1 + 1) 1 (by omega) c6
  have d57 : ∀ o, w5.frozen? ⟨w.heap.size + 1 + 1, o, none⟩ = false := fun o => froz_up hb5 (w.heap.size + 1 + 1) o (by omega) (c7 o)
  have hz5 := Nat.lt_of_lt_of_le hz hb5.size
  have hb' := hb.trans (hb5.mono hb.size)
  clear c1 c2 c3 c4 c5 c6 c7 hz e1 e2 e3 e4
  go_wp2_with fail
  refine (wrap_2 _ _).mono ?_
  rintro e w6 ⟨rfl, hb6⟩
  have d61 := cell_up hb6 (w.heap.size) 0 (by omega) d51
  have d62 := cell_up hb6 (w.heap.size) 1 (by omega) d52
  have d63 := cell_up hb6 (w.heap.size + 1) 0 (by omega) d53
  have d64 := cell_up hb6 (w.heap.size + 1) 1 (by omega) d54
  have d65 := cell_up hb6 (w.heap.size + 1 + 1) 0 (by omega) d55
  have d66 := cell_up hb6 (w.heap.size + 1 + 1) 1 (by omega) d56
  have d67 : ∀ o, w6.frozen? ⟨w.heap.size + 1 + 1, o, none⟩ = false := fun o => froz_up hb6 (w.heap.size + 1 + 1) o (by omega) (d57 o)
  have hb'' := hb'.trans (hb6.mono hb'.size)
  go_wp2_with fail
  refine bodyPost_ret (v := .tuple #[.agg #[.int .i64 2, .int .i64 (wk 2 (wrap64 (IntKind.u64.wrap (Int.tdiv (low (2, n)) (low (2, n'))))))], .int .i64 0]) (by simp [results, Tryd.results41, go_sem, d65, d66]) rfl ⟨rfl, ?_⟩
  exact (hb''.setCell (by simp; omega) _).setCell (by simp; omega) _

theorem div_111_2_A (n n' : Int) (w : World) (hA : (n == -9223372036854775808) = false) (hz' : ¬ n' = 0) :
    Calls Tryd.prog 41 #[.int .i64 111, .agg #[.int .i64 2, .int .i64 (n)], .agg #[.int .i64 2, .int .i64 (n')]] w fun e w' => e = .returned (T2 2 (wk 2 (Int.tmod (n) n')) 0) ∧ Below w.heap.size w w' := by
  go_enter Tryd.func41, Tryd.ntmps41
  go_wp2_with fail
  refine (width_any _ _ (by omega)).mono ?_
  rintro e w1 ⟨rfl, rfl⟩
  obtain ⟨tA, tB, tC, tF, tS⟩ := three_blocks w #[.int .i64 2, .int .i64 (n)] #[.int .i64 2, .int .i64 (n')] #[.int .i64 0, .int .i64 0] 23
  obtain ⟨W, hW⟩ : ∃ W, W = ((w.alloc (.cells #[.int .i64 2, .int .i64 (n)] 23)).alloc (.cells #[.int .i64 2, .int .i64 (n')] 23)).alloc (.cells #[.int .i64 0, .int .i64 0] 23) := ⟨_, rfl⟩
  have hb : Below w.heap.size w W := by rw [hW]; exact ((one_block _ _).alloc (by simp) _).alloc (by simp; omega) _
  rw [← hW] at tA tB tC tF tS ⊢
  clear hW
  have c1 := tA 0
  have c2 := tA 1
  have c3 := tB 0
  have c4 := tB 1
  have c5 := tC 0
  have c6 := tC 1
  have c7 := tF
  have hz : w.heap.size + 1 + 1 < W.heap.size := by omega
  simp at c1 c2 c3 c4 c5 c6
  clear tA tB tC tF tS
  go_wp2_with fail
  have hb' := hb
  refine (wrap_2 _ _).mono ?_
  rintro e w6 ⟨rfl, hb6⟩
  have d61 := cell_up hb6 (w.heap.size) 0 (by omega) c1
  have d62 := cell_up hb6 (w.heap.size) 1 (by omega) c2
  have d63 := cell_up hb6 (w.heap.size + 1) 0 (by omega) c3
  have d64 := cell_up hb6 (w.heap.size + 1) 1 (by omega) c4
  have d65 := cell_up hb6 (w.heap.size + 1 + 1) 0 (by omega) c5
  have d66 := cell_up hb6 (w.heap.size + 1 + 1) 1 (by omega) c6
  have d67 : ∀ o, w6.frozen? ⟨w.heap.size + 1 + 1, o, none⟩ = false := fun o => froz_up hb6 (w.heap.size + 1 + 1) o (by omega) (c7 o)
  have hb'' := hb'.trans (hb6.mono hb'.size)
  go_wp2_with fail
  refine bodyPost_ret (v := .tuple #[.agg #[.int .i64 2, .int .i64 (wk 2 (Int.tmod (n) n'))], .int .i64 0]) (by simp [results, Tryd.results41, go_sem, d65, d66]) rfl ⟨rfl, ?_⟩
  exact (hb''.setCell (by simp; omega) _).setCell (by simp; omega) _

theorem div_111_2_B (n n' : Int) (w : World) (hB0 : (n == -9223372036854775808) = true) (hB : (n' == -1) = false) (hz' : ¬ n' = 0) :
    Calls Tryd.prog 41 #[.int .i64 111, .agg #[.int .i64 2, .int .i64 (n)], .agg #[.int .i64 2, .int .i64 (n')]] w fun e w' => e = .returned (T2 2 (wk 2 (Int.tmod (n) n')) 0) ∧ Below w.heap.size w w' := by
  go_enter Tryd.func41, Tryd.ntmps41
  go_wp2_with fail
  refine (width_any _ _ (by omega)).mono ?_
  rintro e w1 ⟨rfl, rfl⟩
  obtain ⟨tA, tB, tC, tF, tS⟩ := three_blocks w #[.int .i64 2, .int .i64 (n)] #[.int .i64 2, .int .i64 (n')] #[.int .i64 0, .int .i64 0] 23
  obtain ⟨W, hW⟩ : ∃ W, W = ((w.alloc (.cells #[.int .i64 2, .int .i64 (n)] 23)).alloc (.cells #[.int .i64 2, .int .i64 (n')] 23)).alloc (.cells #[.int .i64 0, .int .i64 0] 23) := ⟨_, rfl⟩
  have hb : Below w.heap.size w W := by rw [hW]; exact ((one_block _ _).alloc (by simp) _).alloc (by simp; omega) _
  rw [← hW] at tA tB tC tF tS ⊢
  clear hW
  have c1 := tA 0
  have c2 := tA 1
  have c3 := tB 0
  have c4 := tB 1
  have c5 := tC 0
  have c6 := tC 1
  have c7 := tF
  have hz : w.heap.size + 1 + 1 < W.heap.size := by omega
  simp at c1 c2 c3 c4 c5 c6
  clear tA tB tC tF tS
  go_wp2_with fail
  have hb' := hb
  refine (wrap_2 _ _).mono ?_
  rintro e w6 ⟨rfl, hb6⟩
  have d61 := cell_up hb6 (w.heap.size) 0 (by omega) c1
  have d62 := cell_up hb6 (w.heap.size) 1 (by omega) c2
  have d63 := cell_up hb6 (w.heap.size + 1) 0 (by omega) c3
  have d64 := cell_up hb6 (w.heap.size + 1) 1 (by omega) c4
  have d65 := cell_up hb6 (w.heap.size + 1 + 1) 0 (by omega) c5
  have d66 := cell_up hb6 (w.heap.size + 1 + 1) 1 (by omega) c6
  have d67 : ∀ o, w6.frozen? ⟨w.heap.size + 1 + 1, o, none⟩ = false := fun o => froz_up hb6 (w.heap.size + 1 + 1) o (by omega) (c7 o)
  have hb'' := hb'.trans (hb6.mono hb'.size)
  go_wp2_with fail
  refine bodyPost_ret (v := .tuple #[.agg #[.int .i64 2, .int .i64 (wk 2 (Int.tmod (n) n'))], .int .i64 0]) (by simp [results, Tryd.results41, go_sem, d65, d66]) rfl ⟨rfl, ?_⟩
  exact (hb''.setCell (by simp; omega) _).setCell (by simp; omega) _

theorem div_111_2_C (n n' : Int) (w : World) (hC0 : (n == -9223372036854775808) = true) (hC : (n' == -1) = true) (hz' : ¬ n' = 0) :
    Calls Tryd.prog 41 #[.int .i64 111, .agg #[.int .i64 2, .int .i64 (n)], .agg #[.int .i64 2, .int .i64 (n')]] w fun e w' => e = .returned (T2 2 (wk 2 (0)) 0) ∧ Below w.heap.size w w' := by
  go_enter Tryd.func41, Tryd.ntmps41
  go_wp2_with fail
  refine (width_any _ _ (by omega)).mono ?_
  rintro e w1 ⟨rfl, rfl⟩
  obtain ⟨tA, tB, tC, tF, tS⟩ := three_blocks w #[.int .i64 2, .int .i64 (n)] #[.int .i64 2, .int .i64 (n')] #[.int .i64 0, .int .i64 0] 23
  obtain ⟨W, hW⟩ : ∃ W, W = ((w.alloc (.cells #[.int .i64 2, .int .i64 (n)] 23)).alloc (.cells #[.int .i64 2, .int .i64 (n')] 23)).alloc (.cells #[.int .i64 0, .int .i64 0] 23) := ⟨_, rfl⟩
  have hb : Below w.heap.size w W := by rw [hW]; exact ((one_block _ _).alloc (by simp) _).alloc (by simp; omega) _
  rw [← hW] at tA tB tC tF tS ⊢
  clear hW
  have c1 := tA 0
  have c2 := tA 1
  have c3 := tB 0
  have c4 := tB 1
  have c5 := tC 0
  have c6 := tC 1
  have c7 := tF
  have hz : w.heap.size + 1 + 1 < W.heap.size := by omega
  simp at c1 c2 c3 c4 c5 c6
  clear tA tB tC tF tS
  go_wp2_with fail
  have hb' := hb
  refine (wrap_2 _ _).mono ?_
  rintro e w6 ⟨rfl, hb6⟩
  have d61 := cell_up hb6 (w.heap.size) 0 (by omega) c1
  have d62 := cell_up hb6 (w.heap.size) 1 (by omega) c2
  have d63 := cell_up hb6 (w.heap.size + 1) 0 (by omega) c3
  have d64 := cell_up hb6 (w.heap.size + 1) 1 (by omega) c4
  have d65 := cell_up hb6 (w.heap.size + 1 + 1) 0 (by omega) c5
  have d66 := cell_up hb6 (w.heap.size + 1 + 1) 1 (by omega) c6
  have d67 : ∀ o, w6.frozen? ⟨w.heap.size + 1 + 1, o, none⟩ = false := fun o => froz_up hb6 (w.heap.size + 1 + 1) o (by omega) (c7 o)
  have hb'' := hb'.trans (hb6.mono hb'.size)
  go_wp2_with fail
  refine bodyPost_ret (v := .tuple #[.agg #[.int .i64 2, .int .i64 (wk 2 (0))], .int .i64 0]) (by simp [results, Tryd.results41, go_sem, d65, d66]) rfl ⟨rfl, ?_⟩
  exact (hb''.setCell (by simp; omega) _).setCell (by simp; omega) _

theorem div_112_2_A (n n' : Int) (w : World) (hA : (n == -9223372036854775808) = false) (hz' : ¬ n' = 0) (hp : 1 ≤ low (2, n')) (hq : 0 ≤ low (2, n)) :
    Calls Tryd.prog 41 #[.int .i64 112, .agg #[.int .i64 2, .int .i64 (n)], .agg #[.int .i64 2, .int .i64 (n')]] w fun e w' => e = .returned (T2 2 (wk 2 (wrap64 (low (2, n) % low (2, n')))) 0) ∧ Below w.heap.size w w' := by
  go_enter Tryd.func41, Tryd.ntmps41
  go_wp2_with fail
  refine (width_any _ _ (by omega)).mono ?_
  rintro e w1 ⟨rfl, rfl⟩
  obtain ⟨tA, tB, tC, tF, tS⟩ := three_blocks w #[.int .i64 2, .int .i64 (n)] #[.int .i64 2, .int .i64 (n')] #[.int .i64 0, .int .i64 0] 23
  obtain ⟨W, hW⟩ : ∃ W, W = ((w.alloc (.cells #[.int .i64 2, .int .i64 (n)] 23)).alloc (.cells #[.int .i64 2, .int .i64 (n')] 23)).alloc (.cells #[.int .i64 0, .int .i64 0] 23) := ⟨_, rfl⟩
  have hb : Below w.heap.size w W := by rw [hW]; exact ((one_block _ _).alloc (by simp) _).alloc (by simp; omega) _
  rw [← hW] at tA tB tC tF tS ⊢
  clear hW
  have c1 := tA 0
  have c2 := tA 1
  have c3 := tB 0
  have c4 := tB 1
  have c5 := tC 0
  have c6 := tC 1
  have c7 := tF
  have hz : w.heap.size + 1 + 1 < W.heap.size := by omega
  simp at c1 c2 c3 c4 c5 c6
  clear tA tB tC tF tS
  go_wp2_with fail
  have e1 := fun m : Above W => above_at c1 (by omega) m
  have e2 := fun m : Above W => above_at c2 (by omega) m
  have e3 := fun m : Above W => above_at c3 (by omega) m
  have e4 := fun m : Above W => above_at c4 (by omega) m
  have hne : ¬ low (2, n') = 0 := by omega
  refine wp_region_T (by kernel_rfl) (by kernel_rfl) ?_
  repeat (go_big_quiet_step (exact quiet_T (low_any _ _ _)))
  refine wpQuiet_nil ?_
  intro w5 h5
  obtain ⟨⟨x5, hb5⟩, hx5⟩ := h5
  dsimp only at hx5
  subst hx5
  have d51 := cell_up hb5 (w.heap.size) 0 (by omega) c1
  have d52 := cell_up hb5 (w.heap.size) 1 (by omega) c2
  have d53 := cell_up hb5 (w.heap.size + 1) 0 (by omega) c3
  have d54 := cell_up hb5 (w.heap.size + 1) 1 (by omega) c4
  have d55 := cell_up hb5 (w.heap.size + 1 + 1) 0 (by omega) c5
  have d56 := cell_up hb5 (w.heap.size + 1 + 1) 1 (by omega) c6
  have d57 : ∀ o, w5.frozen? ⟨w.heap.size + 1 + 1, o, none⟩ = false := fun o => froz_up hb5 (w.heap.size + 1 + 1) o (by omega) (c7 o)
  have hz5 := Nat.lt_of_lt_of_le hz hb5.size
  have hb' := hb.trans (hb5.mono hb.size)
  clear c1 c2 c3 c4 c5 c6 c7 hz e1 e2 e3 e4
  go_wp2_with fail
  refine (wrap_2 _ _).mono ?_
  rintro e w6 ⟨rfl, hb6⟩
  have d61 := cell_up hb6 (w.heap.size) 0 (by omega) d51
  have d62 := cell_up hb6 (w.heap.size) 1 (by omega) d52
  have d63 := cell_up hb6 (w.heap.size + 1) 0 (by omega) d53
  have d64 := cell_up hb6 (w.heap.size + 1) 1 (by omega) d54
  have d65 := cell_up hb6 (w.heap.size + 1 + 1) 0 (by omega) d55
  have d66 := cell_up hb6 (w.heap.size + 1 + 1) 1 (by omega) d56
  have d67 : ∀ o, w6.frozen? ⟨w.heap.size + 1 + 1, o, none⟩ = false := fun o => froz_up hb6 (w.heap.size + 1 + 1) o (by omega) (d57 o)
  have hb'' := hb'.trans (hb6.mono hb'.size)
  go_wp2_with fail
  refine bodyPost_ret (v := .tuple #[.agg #[.int .i64 2, .int .i64 (wk 2 (wrap64 (low (2, n) % low (2, n'))))], .int .i64 0]) (by simp [results, Tryd.results41, go_sem, d65, d66]) rfl ⟨rfl, ?_⟩
  exact (hb''.setCell (by simp; omega) _).setCell (by simp; omega) _

theorem div_112_2_B (n n' : Int) (w : World) (hB0 : (n == -9223372036854775808) = true) (hB : (n' == -1) = false) (hz' : ¬ n' = 0) (hp : 1 ≤ low (2, n')) (hq : 0 ≤ low (2, n)) :
    Calls Tryd.prog 41 #[.int .i64 112, .agg #[.int .i64 2, .int .i64 (n)], .agg #[.int .i64 2, .int .i64 (n')]] w fun e w' => e = .returned (T2 2 (wk 2 (wrap64 (low (2, n) % low (2, n')))) 0) ∧ Below w.heap.size w w' := by
  go_enter Tryd.func41, Tryd.ntmps41
  go_wp2_with fail
  refine (width_any _ _ (by omega)).mono ?_
  rintro e w1 ⟨rfl, rfl⟩
  obtain ⟨tA, tB, tC, tF, tS⟩ := three_blocks w #[.int .i64 2, .int .i64 (n)] #[.int .i64 2, .int .i64 (n')] #[.int .i64 0, .int .i64 0] 23
  obtain ⟨W, hW⟩ : ∃ W, W = ((w.alloc (.cells #[.int .i64 2, .int .i64 (n)] 23)).alloc (.cells #[.int .i64 2, .int .i64 (n')] 23)).alloc (.cells #[.int .i64 0, .int .i64 0] 23) := ⟨_, rfl⟩
  have hb : Below w.heap.size w W := by rw [hW]; exact ((one_block _ _).alloc (by simp) _).alloc (by simp; omega) _
  rw [← hW] at tA tB tC tF tS ⊢
  clear hW
  have c1 := tA 0
  have c2 := tA 1
  have c3 := tB 0
  have c4 := tB 1
  have c5 := tC 0
  have c6 := tC 1
  have c7 := tF
  have hz : w.heap.size + 1 + 1 < W.heap.size := by omega
  simp at c1 c2 c3 c4 c5 c6
  clear tA tB tC tF tS
  go_wp2_with fail
  have e1 := fun m : Above W => above_at c1 (by omega) m
  have e2 := fun m : Above W => above_at c2 (by omega) m
  have e3 := fun m : Above W => above_at c3 (by omega) m
  have e4 := fun m : Above W => above_at c4 (by omega) m
  have hne : ¬ low (2, n') = 0 := by omega
  refine wp_region_T (by kernel_rfl) (by kernel_rfl) ?_
  repeat (go_big_quiet_step (exact quiet_T (low_any _ _ _)))
  refine wpQuiet_nil ?_
  intro w5 h5
  obtain ⟨⟨x5, hb5⟩, hx5⟩ := h5
  dsimp only at hx5
  subst hx5
  have d51 := cell_up hb5 (w.heap.size) 0 (by omega) c1
  have d52 := cell_up hb5 (w.heap.size) 1 (by omega) c2
  have d53 := cell_up hb5 (w.heap.size + 1) 0 (by omega) c3
  have d54 := cell_up hb5 (w.heap.size + 1) 1 (by omega) c4
  have d55 := cell_up hb5 (w.heap.size + 1 + 1) 0 (by omega) c5
  have d56 := cell_up hb5 (w.heap.size + 1 + 1) 1 (by omega) c6
  have d57 : ∀ o, w5.frozen? ⟨w.heap.size + 1 + 1, o, none⟩ = false := fun o => froz_up hb5 (w.heap.size + 1 + 1) o (by omega) (c7 o)
  have hz5 := Nat.lt_of_lt_of_le hz hb5.size
  have hb' := hb.trans (hb5.mono hb.size)
  clear c1 c2 c3 c4 c5 c6 c7 hz e1 e2 e3 e4
  go_wp2_with fail
  refine (wrap_2 _ _).mono ?_
  rintro e w6 ⟨rfl, hb6⟩
  have d61 := cell_up hb6 (w.heap.size) 0 (by omega) d51
  have d62 := cell_up hb6 (w.heap.size) 1 (by omega) d52
  have d63 := cell_up hb6 (w.heap.size + 1) 0 (by omega) d53
  have d64 := cell_up hb6 (w.heap.size + 1) 1 (by omega) d54
  have d65 := cell_up hb6 (w.heap.size + 1 + 1) 0 (by omega) d55
  have d66 := cell_up hb6 (w.heap.size + 1 + 1) 1 (by omega) d56
  have d67 : ∀ o, w6.frozen? ⟨w.heap.size + 1 + 1, o, none⟩ = false := fun o => froz_up hb6 (w.heap.size + 1 + 1) o (by omega) (d57 o)
  have hb'' := hb'.trans (hb6.mono hb'.size)
  go_wp2_with fail
  refine bodyPost_ret (v := .tuple #[.agg #[.int .i64 2, .int .i64 (wk 2 (wrap64 (low (2, n) % low (2, n'))))], .int .i64 0]) (by simp [results, Tryd.results41, go_sem, d65, d66]) rfl ⟨rfl, ?_⟩
  exact (hb''.setCell (by simp; omega) _).setCell (by simp; omega) _

theorem div_112_2_C (n n' : Int) (w : World) (hC0 : (n == -9223372036854775808) = true) (hC : (n' == -1) = true) (hz' : ¬ n' = 0) (hp : 1 ≤ low (2, n')) (hq : 0 ≤ low (2, n)) :
    Calls Tryd.prog 41 #[.int .i64 112, .agg #[.int .i64 2, .int .i64 (n)], .agg #[.int .i64 2, .int .i64 (n')]] w fun e w' => e = .returned (T2 2 (wk 2 (wrap64 (low (2, n) % low (2, n')))) 0) ∧ Below w.heap.size w w' := by
  go_enter Tryd.func41, Tryd.ntmps41
  go_wp2_with fail
  refine (width_any _ _ (by omega)).mono ?_
  rintro e w1 ⟨rfl, rfl⟩
  obtain ⟨tA, tB, tC, tF, tS⟩ := three_blocks w #[.int .i64 2, .int .i64 (n)] #[.int .i64 2, .int .i64 (n')] #[.int .i64 0, .int .i64 0] 23
  obtain ⟨W, hW⟩ : ∃ W, W = ((w.alloc (.cells #[.int .i64 2, .int .i64 (n)] 23)).alloc (.cells #[.int .i64 2, .int .i64 (n')] 23)).alloc (.cells #[.int .i64 0, .int .i64 0] 23) := ⟨_, rfl⟩
  have hb : Below w.heap.size w W := by rw [hW]; exact ((one_block _ _).alloc (by simp) _).alloc (by simp; omega) _
  rw [← hW] at tA tB tC tF tS ⊢
  clear hW
  have c1 := tA 0
  have c2 := tA 1
  have c3 := tB 0
  have c4 := tB 1
  have c5 := tC 0
  have c6 := tC 1
  have c7 := tF
  have hz : w.heap.size + 1 + 1 < W.heap.size := by omega
  simp at c1 c2 c3 c4 c5 c6
  clear tA tB tC tF tS
  go_wp2_with fail
  have e1 := fun m : Above W => above_at c1 (by omega) m
  have e2 := fun m : Above W => above_at c2 (by omega) m
  have e3 := fun m : Above W => above_at c3 (by omega) m
  have e4 := fun m : Above W => above_at c4 (by omega) m
  have hne : ¬ low (2, n') = 0 := by omega
  refine wp_region_T (by kernel_rfl) (by kernel_rfl) ?_
  repeat (go_big_quiet_step (exact quiet_T (low_any _ _ _)))
  refine wpQuiet_nil ?_
  intro w5 h5
  obtain ⟨⟨x5, hb5⟩, hx5⟩ := h5
  dsimp only at hx5
  subst hx5
  have d51 := cell_up hb5 (w.heap.size) 0 (by omega) c1
  have d52 := cell_up hb5 (w.heap.size) 1 (by omega) c2
  have d53 := cell_up hb5 (w.heap.size + 1) 0 (by omega) c3
  have d54 := cell_up hb5 (w.heap.size + 1) 1 (by omega) c4
  have d55 := cell_up hb5 (w.heap.size + 1 + 1) 0 (by omega) c5
  have d56 := cell_up hb5 (w.heap.size + 1 + 1) 1 (by omega) c6
  have d57 : ∀ o, w5.frozen? ⟨w.heap.size + 1 + 1, o, none⟩ = false := fun o => froz_up hb5 (w.heap.size + 1 + 1) o (by omega) (c7 o)
  have hz5 := Nat.lt_of_lt_of_le hz hb5.size
  have hb' := hb.trans (hb5.mono hb.size)
  clear c1 c2 c3 c4 c5 c6 c7 hz e1 e2 e3 e4
  go_wp2_with fail
  refine (wrap_2 _ _).mono ?_
  rintro e w6 ⟨rfl, hb6⟩
  have d61 := cell_up hb6 (w.heap.size) 0 (by omega) d51
  have d62 := cell_up hb6 (w.heap.size) 1 (by omega) d52
  have d63 := cell_up hb6 (w.heap.size + 1) 0 (by omega) d53
  have d64 := cell_up hb6 (w.heap.size + 1) 1 (by omega) d54
  have d65 := cell_up hb6 (w.heap.size + 1 + 1) 0 (by omega) d55
  have d66 := cell_up hb6 (w.heap.size + 1 + 1) 1 (by omega) d56
  have d67 : ∀ o, w6.frozen? ⟨w.heap.size + 1 + 1, o, none⟩ = false := fun o => froz_up hb6 (w.heap.size + 1 + 1) o (by omega) (d57 o)
  have hb'' := hb'.trans (hb6.mono hb'.size)
  go_wp2_with fail
  refine bodyPost_ret (v := .tuple #[.agg #[.int .i64 2, .int .i64 (wk 2 (wrap64 (low (2, n) % low (2, n'))))], .int .i64 0]) (by simp [results, Tryd.results41, go_sem, d65, d66]) rfl ⟨rfl, ?_⟩
  exact (hb''.setCell (by simp; omega) _).setCell (by simp; omega) _

theorem div_k1 (l n n' : Int) (w : World) (hl : l = 109 ∨ l = 110 ∨ l = 111 ∨ l = 112) (hp : ¬ n' = 0 → 1 ≤ low (1, n')) :
    Calls Tryd.prog 41 #[.int .i64 l, .agg #[.int .i64 1, .int .i64 n], .agg #[.int .i64 1, .int .i64 n']] w fun e w' => e = .returned (T2 (divV 1 l n n').1 (divV 1 l n n').2.1 (divV 1 l n n').2.2) ∧ Below w.heap.size w w' := by
  by_cases h0 : n' = 0
  · subst h0
    have e : divV 1 l n 0 = (0, 0, 2) := by simp [divV]
    rw [e]; exact div_0 l 1 n w
  · have hp' := hp h0
    have hq := low_nn (1, n)
    by_cases ha : n = -2147483648
    · have hB0 : (n == -2147483648) = true := beq_iff_eq.2 ha
      by_cases hb : n' = -1
      · have hC : (n' == -1) = true := beq_iff_eq.2 hb
        rcases hl with rfl | rfl | rfl | rfl
        · have e : divV 1 109 n n' = (0, 0, 3) := by simp [divV, ha, hb, least]
          rw [e]; exact div_109_1_C n n' w hB0 hC h0
        · have e : divV 1 110 n n' = (1, wk 1 (wrap64 (IntKind.u64.wrap ((low (1, n)).tdiv (low (1, n'))))), 0) := by simp [divV, h0]
          rw [e]; exact div_110_1_C n n' w hB0 hC h0 hp' hq
        · have e : divV 1 111 n n' = (1, wk 1 0, 0) := by simp [divV, ha, hb, least]
          rw [e]; exact div_111_1_C n n' w hB0 hC h0
        · have e : divV 1 112 n n' = (1, wk 1 (wrap64 (low (1, n) % low (1, n'))), 0) := by simp [divV, h0]
          rw [e]; exact div_112_1_C n n' w hB0 hC h0 hp' hq
      · have hB : (n' == -1) = false := beq_eq_false_iff_ne.2 hb
        rcases hl with rfl | rfl | rfl | rfl
        · have e : divV 1 109 n n' = (1, wk 1 (wrap64 (n.tdiv n')), 0) := by simp [divV, h0, hb]
          rw [e]; exact div_109_1_B n n' w hB0 hB h0
        · have e : divV 1 110 n n' = (1, wk 1 (wrap64 (IntKind.u64.wrap ((low (1, n)).tdiv (low (1, n'))))), 0) := by simp [divV, h0]
          rw [e]; exact div_110_1_B n n' w hB0 hB h0 hp' hq
        · have e : divV 1 111 n n' = (1, wk 1 (n.tmod n'), 0) := by simp [divV, h0, hb]
          rw [e]; exact div_111_1_B n n' w hB0 hB h0
        · have e : divV 1 112 n n' = (1, wk 1 (wrap64 (low (1, n) % low (1, n'))), 0) := by simp [divV, h0]
          rw [e]; exact div_112_1_B n n' w hB0 hB h0 hp' hq
    · have hA : (n == -2147483648) = false := beq_eq_false_iff_ne.2 ha
      rcases hl with rfl | rfl | rfl | rfl
      · have e : divV 1 109 n n' = (1, wk 1 (wrap64 (n.tdiv n')), 0) := by simp [divV, h0, ha, least]
        rw [e]; exact div_109_1_A n n' w hA h0
      · have e : divV 1 110 n n' = (1, wk 1 (wrap64 (IntKind.u64.wrap ((low (1, n)).tdiv (low (1, n'))))), 0) := by simp [divV, h0]
        rw [e]; exact div_110_1_A n n' w hA h0 hp' hq
      · have e : divV 1 111 n n' = (1, wk 1 (n.tmod n'), 0) := by simp [divV, h0, ha, least]
        rw [e]; exact div_111_1_A n n' w hA h0
      · have e : divV 1 112 n n' = (1, wk 1 (wrap64 (low (1, n) % low (1, n'))), 0) := by simp [divV, h0]
        rw [e]; exact div_112_1_A n n' w hA h0 hp' hq

theorem div_k2 (l n n' : Int) (w : World) (hl : l = 109 ∨ l = 110 ∨ l = 111 ∨ l = 112) (hp : ¬ n' = 0 → 1 ≤ low (2, n')) :
    Calls Tryd.prog 41 #[.int .i64 l, .agg #[.int .i64 2, .int .i64 n], .agg #[.int .i64 2, .int .i64 n']] w fun e w' => e = .returned (T2 (divV 2 l n n').1 (divV 2 l n n').2.1 (divV 2 l n n').2.2) ∧ Below w.heap.size w w' := by
  by_cases h0 : n' = 0
  · subst h0
    have e : divV 2 l n 0 = (0, 0, 2) := by simp [divV]
    rw [e]; exact div_0 l 2 n w
  · have hp' := hp h0
    have hq := low_nn (2, n)
    by_cases ha : n = -9223372036854775808
    · have hB0 : (n == -9223372036854775808) = true := beq_iff_eq.2 ha
      by_cases hb : n' = -1
      · have hC : (n' == -1) = true := beq_iff_eq.2 hb
        rcases hl with rfl | rfl | rfl | rfl
        · have e : divV 2 109 n n' = (0, 0, 3) := by simp [divV, ha, hb, least]
          rw [e]; exact div_109_2_C n n' w hB0 hC h0
        · have e : divV 2 110 n n' = (2, wk 2 (wrap64 (IntKind.u64.wrap ((low (2, n)).tdiv (low (2, n'))))), 0) := by simp [divV, h0]
          rw [e]; exact div_110_2_C n n' w hB0 hC h0 hp' hq
        · have e : divV 2 111 n n' = (2, wk 2 0, 0) := by simp [divV, ha, hb, least]
          rw [e]; exact div_111_2_C n n' w hB0 hC h0
        · have e : divV 2 112 n n' = (2, wk 2 (wrap64 (low (2, n) % low (2, n'))), 0) := by simp [divV, h0]
          rw [e]; exact div_112_2_C n n' w hB0 hC h0 hp' hq
      · have hB : (n' == -1) = false := beq_eq_false_iff_ne.2 hb
        rcases hl with rfl | rfl | rfl | rfl
        · have e : divV 2 109 n n' = (2, wk 2 (wrap64 (n.tdiv n')), 0) := by simp [divV, h0, hb]
          rw [e]; exact div_109_2_B n n' w hB0 hB h0
        · have e : divV 2 110 n n' = (2, wk 2 (wrap64 (IntKind.u64.wrap ((low (2, n)).tdiv (low (2, n'))))), 0) := by simp [divV, h0]
          rw [e]; exact div_110_2_B n n' w hB0 hB h0 hp' hq
        · have e : divV 2 111 n n' = (2, wk 2 (n.tmod n'), 0) := by simp [divV, h0, hb]
          rw [e]; exact div_111_2_B n n' w hB0 hB h0
        · have e : divV 2 112 n n' = (2, wk 2 (wrap64 (low (2, n) % low (2, n'))), 0) := by simp [divV, h0]
          rw [e]; exact div_112_2_B n n' w hB0 hB h0 hp' hq
    · have hA : (n == -9223372036854775808) = false := beq_eq_false_iff_ne.2 ha
      rcases hl with rfl | rfl | rfl | rfl
      · have e : divV 2 109 n n' = (2, wk 2 (wrap64 (n.tdiv n')), 0) := by simp [divV, h0, ha, least]
        rw [e]; exact div_109_2_A n n' w hA h0
      · have e : divV 2 110 n n' = (2, wk 2 (wrap64 (IntKind.u64.wrap ((low (2, n)).tdiv (low (2, n'))))), 0) := by simp [divV, h0]
        rw [e]; exact div_110_2_A n n' w hA h0 hp' hq
      · have e : divV 2 111 n n' = (2, wk 2 (n.tmod n'), 0) := by simp [divV, h0, ha, least]
        rw [e]; exact div_111_2_A n n' w hA h0
      · have e : divV 2 112 n n' = (2, wk 2 (wrap64 (low (2, n) % low (2, n'))), 0) := by simp [divV, h0]
        rw [e]; exact div_112_2_A n n' w hA h0 hp' hq

theorem div_any (l k n n' : Int) (w : World) (hk : k = 1 ∨ k = 2) (hl : l = 109 ∨ l = 110 ∨ l = 111 ∨ l = 112) (hp : ¬ n' = 0 → 1 ≤ low (k, n')) :
    Calls Tryd.prog 41 #[.int .i64 l, .agg #[.int .i64 k, .int .i64 n], .agg #[.int .i64 k, .int .i64 n']] w fun e w' => e = .returned (T2 (divV k l n n').1 (divV k l n n').2.1 (divV k l n n').2.2) ∧ Below w.heap.size w w' := by
  rcases hk with rfl | rfl
  · exact div_k1 l n n' w hl hp
  · exact div_k2 l n n' w hl hp

end Go.Proofs.YtdcpbjpghgbbiaaDoor
