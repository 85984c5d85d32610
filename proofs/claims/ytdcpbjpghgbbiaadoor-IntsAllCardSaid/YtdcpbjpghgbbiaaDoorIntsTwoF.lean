/- The ways of ints.Two that are none: no instruction, one operand, a value that may not be, another kind. Printed by gen_two2.py. -/
import Derived.Test.YtdcpbjpghgbbiaaDoorIntsOne2
namespace Go.Proofs.YtdcpbjpghgbbiaaDoor
open Go.RowKit
set_option linter.unusedVariables false
set_option maxHeartbeats 2000000

theorem may_F (k n : Int) (w : World) (h : mayB (k, n) = false) : Calls Tryd.prog 21 #[.agg #[.int .i64 k, .int .i64 n]] w fun e w' => e = .returned (.bool false) ∧ Below w.heap.size w w' := (may_any k n w).mono fun _ _ h' => ⟨by rw [h'.1, h], h'.2⟩
theorem twof_none (op k k1 k2 t n n' : Int) (w : World) (hkd : Hid (kindsV op = ([], t, false)))  :
    Calls Tryd.prog 17 #[.int .i64 op, .agg #[.int .i64 k1, .int .i64 n], .agg #[.int .i64 k2, .int .i64 n']] w fun e w' => e = .returned (T2 0 0 (-1)) ∧ Below w.heap.size w w' := by
  go_enter Tryd.func17, Tryd.ntmps17
  go_wp2_with fail
  obtain ⟨tA, tB, tC, c7, tS⟩ := three_blocks w #[.int .i64 k1, .int .i64 n] #[.int .i64 k2, .int .i64 n'] #[.int .i64 0, .int .i64 0] 23
  obtain ⟨W, hW⟩ : ∃ W, W = ((w.alloc (.cells #[.int .i64 k1, .int .i64 n] 23)).alloc (.cells #[.int .i64 k2, .int .i64 n'] 23)).alloc (.cells #[.int .i64 0, .int .i64 0] 23) := ⟨_, rfl⟩
  have hb : Below w.heap.size w W := by rw [hW]; exact ((one_block _ _).alloc (by simp) _).alloc (by simp; omega) _
  rw [← hW] at tA tB tC c7 tS ⊢
  clear hW
  have c1 := tA 0
  have c2 := tA 1
  have c3 := tB 0
  have c4 := tB 1
  have c5 := tC 0
  have c6 := tC 1
  simp at c1 c2 c3 c4 c5 c6
  clear tA tB tC
  refine (kinds_any op W).mono ?_
  rintro e w1 ⟨kA, kc, rfl, hkr, hb1⟩
  rw [hkd.out] at hkr ⊢
  have d1 := cell_up hb1 (w.heap.size) 0 (by omega) c1
  have d2 := cell_up hb1 (w.heap.size) 1 (by omega) c2
  have d3 := cell_up hb1 (w.heap.size + 1) 0 (by omega) c3
  have d4 := cell_up hb1 (w.heap.size + 1) 1 (by omega) c4
  have d5 := cell_up hb1 (w.heap.size + 1 + 1) 0 (by omega) c5
  have d6 := cell_up hb1 (w.heap.size + 1 + 1) 1 (by omega) c6
  have d7 : ∀ o, w1.frozen? ⟨w.heap.size + 1 + 1, o, none⟩ = false := fun o => froz_up hb1 (w.heap.size + 1 + 1) o (by omega) (c7 o)
  have hz1 : w.heap.size + 1 + 1 < w1.heap.size := by have := hb1.size; omega
  have hb' := hb.trans (hb1.mono hb.size)
  clear c1 c2 c3 c4 c5 c6 c7 tS
  go_wp2_with fail
  have e1 := fun m : Above w1 => above_at d1 (by omega) m
  have e2 := fun m : Above w1 => above_at d2 (by omega) m
  have e3 := fun m : Above w1 => above_at d3 (by omega) m
  have e4 := fun m : Above w1 => above_at d4 (by omega) m
  refine wp_region_T (by kernel_rfl) (by kernel_rfl) ?_
  repeat (go_big_quiet_step (first | exact quiet_T (may_T _ _ _ (by first | exact hp.out | exact hq.out)) | exact quiet_T (may_F _ _ _ (by first | exact hp.out | exact hq.out))))
  refine wpQuiet_nil ?_
  intro w2 h2
  obtain ⟨⟨x2, hb2⟩, hx2⟩ := h2
  dsimp only at hx2
  subst hx2
  have f1 := cell_up hb2 (w.heap.size) 0 (by omega) d1
  have f2 := cell_up hb2 (w.heap.size) 1 (by omega) d2
  have f3 := cell_up hb2 (w.heap.size + 1) 0 (by omega) d3
  have f4 := cell_up hb2 (w.heap.size + 1) 1 (by omega) d4
  have f5 := cell_up hb2 (w.heap.size + 1 + 1) 0 (by omega) d5
  have f6 := cell_up hb2 (w.heap.size + 1 + 1) 1 (by omega) d6
  have f7 : ∀ o, w2.frozen? ⟨w.heap.size + 1 + 1, o, none⟩ = false := fun o => froz_up hb2 (w.heap.size + 1 + 1) o (by omega) (d7 o)
  have hb'' := hb'.trans (hb2.mono hb'.size)
  have hz2 : w.heap.size + 1 + 1 < w2.heap.size := by have := hb2.size; omega
  clear d1 d2 d3 d4 d5 d6 d7 e1 e2 e3 e4
  go_wp2_with fail
  refine bodyPost_ret (v := .tuple #[.agg #[.int .i64 0, .int .i64 0], .int .i64 (-1)]) (by simp [results, Tryd.results17, go_sem, f5, f6]) rfl ⟨rfl, ?_⟩
  exact (hb''.setCell (by simp; omega) _).setCell (by simp; omega) _
theorem twof_one (op k k1 k2 t n n' : Int) (w : World) (hkd : Hid (kindsV op = ([k], t, true)))  :
    Calls Tryd.prog 17 #[.int .i64 op, .agg #[.int .i64 k1, .int .i64 n], .agg #[.int .i64 k2, .int .i64 n']] w fun e w' => e = .returned (T2 0 0 (-1)) ∧ Below w.heap.size w w' := by
  go_enter Tryd.func17, Tryd.ntmps17
  go_wp2_with fail
  obtain ⟨tA, tB, tC, c7, tS⟩ := three_blocks w #[.int .i64 k1, .int .i64 n] #[.int .i64 k2, .int .i64 n'] #[.int .i64 0, .int .i64 0] 23
  obtain ⟨W, hW⟩ : ∃ W, W = ((w.alloc (.cells #[.int .i64 k1, .int .i64 n] 23)).alloc (.cells #[.int .i64 k2, .int .i64 n'] 23)).alloc (.cells #[.int .i64 0, .int .i64 0] 23) := ⟨_, rfl⟩
  have hb : Below w.heap.size w W := by rw [hW]; exact ((one_block _ _).alloc (by simp) _).alloc (by simp; omega) _
  rw [← hW] at tA tB tC c7 tS ⊢
  clear hW
  have c1 := tA 0
  have c2 := tA 1
  have c3 := tB 0
  have c4 := tB 1
  have c5 := tC 0
  have c6 := tC 1
  simp at c1 c2 c3 c4 c5 c6
  clear tA tB tC
  refine (kinds_any op W).mono ?_
  rintro e w1 ⟨kA, kc, rfl, hkr, hb1⟩
  rw [hkd.out] at hkr ⊢
  obtain ⟨kb, ko, rfl, hkb, hk0⟩ := hkr.at (i := 0) (by simp)
  simp at hk0
  have d1 := cell_up hb1 (w.heap.size) 0 (by omega) c1
  have d2 := cell_up hb1 (w.heap.size) 1 (by omega) c2
  have d3 := cell_up hb1 (w.heap.size + 1) 0 (by omega) c3
  have d4 := cell_up hb1 (w.heap.size + 1) 1 (by omega) c4
  have d5 := cell_up hb1 (w.heap.size + 1 + 1) 0 (by omega) c5
  have d6 := cell_up hb1 (w.heap.size + 1 + 1) 1 (by omega) c6
  have d7 : ∀ o, w1.frozen? ⟨w.heap.size + 1 + 1, o, none⟩ = false := fun o => froz_up hb1 (w.heap.size + 1 + 1) o (by omega) (c7 o)
  have hz1 : w.heap.size + 1 + 1 < w1.heap.size := by have := hb1.size; omega
  have hb' := hb.trans (hb1.mono hb.size)
  clear c1 c2 c3 c4 c5 c6 c7 tS
  go_wp2_with fail
  have e1 := fun m : Above w1 => above_at d1 (by omega) m
  have e2 := fun m : Above w1 => above_at d2 (by omega) m
  have e3 := fun m : Above w1 => above_at d3 (by omega) m
  have e4 := fun m : Above w1 => above_at d4 (by omega) m
  have e5 := fun m : Above w1 => above_at hk0 hkb m
  refine wp_region_T (by kernel_rfl) (by kernel_rfl) ?_
  repeat (go_big_quiet_step (first | exact quiet_T (may_T _ _ _ (by first | exact hp.out | exact hq.out)) | exact quiet_T (may_F _ _ _ (by first | exact hp.out | exact hq.out))))
  refine wpQuiet_nil ?_
  intro w2 h2
  obtain ⟨⟨x2, hb2⟩, hx2⟩ := h2
  dsimp only at hx2
  subst hx2
  have f1 := cell_up hb2 (w.heap.size) 0 (by omega) d1
  have f2 := cell_up hb2 (w.heap.size) 1 (by omega) d2
  have f3 := cell_up hb2 (w.heap.size + 1) 0 (by omega) d3
  have f4 := cell_up hb2 (w.heap.size + 1) 1 (by omega) d4
  have f5 := cell_up hb2 (w.heap.size + 1 + 1) 0 (by omega) d5
  have f6 := cell_up hb2 (w.heap.size + 1 + 1) 1 (by omega) d6
  have f7 : ∀ o, w2.frozen? ⟨w.heap.size + 1 + 1, o, none⟩ = false := fun o => froz_up hb2 (w.heap.size + 1 + 1) o (by omega) (d7 o)
  have hb'' := hb'.trans (hb2.mono hb'.size)
  have hz2 : w.heap.size + 1 + 1 < w2.heap.size := by have := hb2.size; omega
  clear d1 d2 d3 d4 d5 d6 d7 e1 e2 e3 e4
  go_wp2_with fail
  refine bodyPost_ret (v := .tuple #[.agg #[.int .i64 0, .int .i64 0], .int .i64 (-1)]) (by simp [results, Tryd.results17, go_sem, f5, f6]) rfl ⟨rfl, ?_⟩
  exact (hb''.setCell (by simp; omega) _).setCell (by simp; omega) _
theorem twof_m1 (op k k1 k2 t n n' : Int) (w : World) (hkd : Hid (kindsV op = ([k, k], t, true))) (hp : Hid (mayB (k1, n) = false)) :
    Calls Tryd.prog 17 #[.int .i64 op, .agg #[.int .i64 k1, .int .i64 n], .agg #[.int .i64 k2, .int .i64 n']] w fun e w' => e = .returned (T2 0 0 (-1)) ∧ Below w.heap.size w w' := by
  go_enter Tryd.func17, Tryd.ntmps17
  go_wp2_with fail
  obtain ⟨tA, tB, tC, c7, tS⟩ := three_blocks w #[.int .i64 k1, .int .i64 n] #[.int .i64 k2, .int .i64 n'] #[.int .i64 0, .int .i64 0] 23
  obtain ⟨W, hW⟩ : ∃ W, W = ((w.alloc (.cells #[.int .i64 k1, .int .i64 n] 23)).alloc (.cells #[.int .i64 k2, .int .i64 n'] 23)).alloc (.cells #[.int .i64 0, .int .i64 0] 23) := ⟨_, rfl⟩
  have hb : Below w.heap.size w W := by rw [hW]; exact ((one_block _ _).alloc (by simp) _).alloc (by simp; omega) _
  rw [← hW] at tA tB tC c7 tS ⊢
  clear hW
  have c1 := tA 0
  have c2 := tA 1
  have c3 := tB 0
  have c4 := tB 1
  have c5 := tC 0
  have c6 := tC 1
  simp at c1 c2 c3 c4 c5 c6
  clear tA tB tC
  refine (kinds_any op W).mono ?_
  rintro e w1 ⟨kA, kc, rfl, hkr, hb1⟩
  rw [hkd.out] at hkr ⊢
  obtain ⟨kb, ko, rfl, hkb, hk0⟩ := hkr.at (i := 0) (by simp)
  have hk1 := hkr.get (i := 1) (by simp)
  simp at hk0 hk1
  have d1 := cell_up hb1 (w.heap.size) 0 (by omega) c1
  have d2 := cell_up hb1 (w.heap.size) 1 (by omega) c2
  have d3 := cell_up hb1 (w.heap.size + 1) 0 (by omega) c3
  have d4 := cell_up hb1 (w.heap.size + 1) 1 (by omega) c4
  have d5 := cell_up hb1 (w.heap.size + 1 + 1) 0 (by omega) c5
  have d6 := cell_up hb1 (w.heap.size + 1 + 1) 1 (by omega) c6
  have d7 : ∀ o, w1.frozen? ⟨w.heap.size + 1 + 1, o, none⟩ = false := fun o => froz_up hb1 (w.heap.size + 1 + 1) o (by omega) (c7 o)
  have hz1 : w.heap.size + 1 + 1 < w1.heap.size := by have := hb1.size; omega
  have hb' := hb.trans (hb1.mono hb.size)
  clear c1 c2 c3 c4 c5 c6 c7 tS
  go_wp2_with fail
  have e1 := fun m : Above w1 => above_at d1 (by omega) m
  have e2 := fun m : Above w1 => above_at d2 (by omega) m
  have e3 := fun m : Above w1 => above_at d3 (by omega) m
  have e4 := fun m : Above w1 => above_at d4 (by omega) m
  have e5 := fun m : Above w1 => above_at hk0 hkb m
  have e6 := fun m : Above w1 => above_at hk1 hkb m
  refine wp_region_T (by kernel_rfl) (by kernel_rfl) ?_
  repeat (go_big_quiet_step (first | exact quiet_T (may_T _ _ _ (by first | exact hp.out | exact hq.out)) | exact quiet_T (may_F _ _ _ (by first | exact hp.out | exact hq.out))))
  refine wpQuiet_nil ?_
  intro w2 h2
  obtain ⟨⟨x2, hb2⟩, hx2⟩ := h2
  dsimp only at hx2
  subst hx2
  have f1 := cell_up hb2 (w.heap.size) 0 (by omega) d1
  have f2 := cell_up hb2 (w.heap.size) 1 (by omega) d2
  have f3 := cell_up hb2 (w.heap.size + 1) 0 (by omega) d3
  have f4 := cell_up hb2 (w.heap.size + 1) 1 (by omega) d4
  have f5 := cell_up hb2 (w.heap.size + 1 + 1) 0 (by omega) d5
  have f6 := cell_up hb2 (w.heap.size + 1 + 1) 1 (by omega) d6
  have f7 : ∀ o, w2.frozen? ⟨w.heap.size + 1 + 1, o, none⟩ = false := fun o => froz_up hb2 (w.heap.size + 1 + 1) o (by omega) (d7 o)
  have hb'' := hb'.trans (hb2.mono hb'.size)
  have hz2 : w.heap.size + 1 + 1 < w2.heap.size := by have := hb2.size; omega
  clear d1 d2 d3 d4 d5 d6 d7 e1 e2 e3 e4
  go_wp2_with fail
  refine bodyPost_ret (v := .tuple #[.agg #[.int .i64 0, .int .i64 0], .int .i64 (-1)]) (by simp [results, Tryd.results17, go_sem, f5, f6]) rfl ⟨rfl, ?_⟩
  exact (hb''.setCell (by simp; omega) _).setCell (by simp; omega) _
theorem twof_m2 (op k k1 k2 t n n' : Int) (w : World) (hkd : Hid (kindsV op = ([k, k], t, true))) (hp : Hid (mayB (k1, n) = true)) (hq : Hid (mayB (k2, n') = false)) :
    Calls Tryd.prog 17 #[.int .i64 op, .agg #[.int .i64 k1, .int .i64 n], .agg #[.int .i64 k2, .int .i64 n']] w fun e w' => e = .returned (T2 0 0 (-1)) ∧ Below w.heap.size w w' := by
  go_enter Tryd.func17, Tryd.ntmps17
  go_wp2_with fail
  obtain ⟨tA, tB, tC, c7, tS⟩ := three_blocks w #[.int .i64 k1, .int .i64 n] #[.int .i64 k2, .int .i64 n'] #[.int .i64 0, .int .i64 0] 23
  obtain ⟨W, hW⟩ : ∃ W, W = ((w.alloc (.cells #[.int .i64 k1, .int .i64 n] 23)).alloc (.cells #[.int .i64 k2, .int .i64 n'] 23)).alloc (.cells #[.int .i64 0, .int .i64 0] 23) := ⟨_, rfl⟩
  have hb : Below w.heap.size w W := by rw [hW]; exact ((one_block _ _).alloc (by simp) _).alloc (by simp; omega) _
  rw [← hW] at tA tB tC c7 tS ⊢
  clear hW
  have c1 := tA 0
  have c2 := tA 1
  have c3 := tB 0
  have c4 := tB 1
  have c5 := tC 0
  have c6 := tC 1
  simp at c1 c2 c3 c4 c5 c6
  clear tA tB tC
  refine (kinds_any op W).mono ?_
  rintro e w1 ⟨kA, kc, rfl, hkr, hb1⟩
  rw [hkd.out] at hkr ⊢
  obtain ⟨kb, ko, rfl, hkb, hk0⟩ := hkr.at (i := 0) (by simp)
  have hk1 := hkr.get (i := 1) (by simp)
  simp at hk0 hk1
  have d1 := cell_up hb1 (w.heap.size) 0 (by omega) c1
  have d2 := cell_up hb1 (w.heap.size) 1 (by omega) c2
  have d3 := cell_up hb1 (w.heap.size + 1) 0 (by omega) c3
  have d4 := cell_up hb1 (w.heap.size + 1) 1 (by omega) c4
  have d5 := cell_up hb1 (w.heap.size + 1 + 1) 0 (by omega) c5
  have d6 := cell_up hb1 (w.heap.size + 1 + 1) 1 (by omega) c6
  have d7 : ∀ o, w1.frozen? ⟨w.heap.size + 1 + 1, o, none⟩ = false := fun o => froz_up hb1 (w.heap.size + 1 + 1) o (by omega) (c7 o)
  have hz1 : w.heap.size + 1 + 1 < w1.heap.size := by have := hb1.size; omega
  have hb' := hb.trans (hb1.mono hb.size)
  clear c1 c2 c3 c4 c5 c6 c7 tS
  go_wp2_with fail
  have e1 := fun m : Above w1 => above_at d1 (by omega) m
  have e2 := fun m : Above w1 => above_at d2 (by omega) m
  have e3 := fun m : Above w1 => above_at d3 (by omega) m
  have e4 := fun m : Above w1 => above_at d4 (by omega) m
  have e5 := fun m : Above w1 => above_at hk0 hkb m
  have e6 := fun m : Above w1 => above_at hk1 hkb m
  refine wp_region_T (by kernel_rfl) (by kernel_rfl) ?_
  repeat (go_big_quiet_step (first | exact quiet_T (may_T _ _ _ (by first | exact hp.out | exact hq.out)) | exact quiet_T (may_F _ _ _ (by first | exact hp.out | exact hq.out))))
  refine wpQuiet_nil ?_
  intro w2 h2
  obtain ⟨⟨x2, hb2⟩, hx2⟩ := h2
  dsimp only at hx2
  subst hx2
  have f1 := cell_up hb2 (w.heap.size) 0 (by omega) d1
  have f2 := cell_up hb2 (w.heap.size) 1 (by omega) d2
  have f3 := cell_up hb2 (w.heap.size + 1) 0 (by omega) d3
  have f4 := cell_up hb2 (w.heap.size + 1) 1 (by omega) d4
  have f5 := cell_up hb2 (w.heap.size + 1 + 1) 0 (by omega) d5
  have f6 := cell_up hb2 (w.heap.size + 1 + 1) 1 (by omega) d6
  have f7 : ∀ o, w2.frozen? ⟨w.heap.size + 1 + 1, o, none⟩ = false := fun o => froz_up hb2 (w.heap.size + 1 + 1) o (by omega) (d7 o)
  have hb'' := hb'.trans (hb2.mono hb'.size)
  have hz2 : w.heap.size + 1 + 1 < w2.heap.size := by have := hb2.size; omega
  clear d1 d2 d3 d4 d5 d6 d7 e1 e2 e3 e4
  go_wp2_with fail
  refine bodyPost_ret (v := .tuple #[.agg #[.int .i64 0, .int .i64 0], .int .i64 (-1)]) (by simp [results, Tryd.results17, go_sem, f5, f6]) rfl ⟨rfl, ?_⟩
  exact (hb''.setCell (by simp; omega) _).setCell (by simp; omega) _
theorem twof_k1 (op k k1 k2 t n n' : Int) (w : World) (hkd : Hid (kindsV op = ([k, k], t, true))) (hp : Hid (mayB (k1, n) = true)) (hq : Hid (mayB (k2, n') = true)) (h : ¬ k1 = k) :
    Calls Tryd.prog 17 #[.int .i64 op, .agg #[.int .i64 k1, .int .i64 n], .agg #[.int .i64 k2, .int .i64 n']] w fun e w' => e = .returned (T2 0 0 (-1)) ∧ Below w.heap.size w w' := by
  have q : (k1 == k) = false := beq_eq_false_iff_ne.2 h
  have q2 : (k1 != k) = true := by simp [bne, q]
  have q3 : decide (k1 = k) = false := decide_eq_false h
  go_enter Tryd.func17, Tryd.ntmps17
  go_wp2_with fail
  obtain ⟨tA, tB, tC, c7, tS⟩ := three_blocks w #[.int .i64 k1, .int .i64 n] #[.int .i64 k2, .int .i64 n'] #[.int .i64 0, .int .i64 0] 23
  obtain ⟨W, hW⟩ : ∃ W, W = ((w.alloc (.cells #[.int .i64 k1, .int .i64 n] 23)).alloc (.cells #[.int .i64 k2, .int .i64 n'] 23)).alloc (.cells #[.int .i64 0, .int .i64 0] 23) := ⟨_, rfl⟩
  have hb : Below w.heap.size w W := by rw [hW]; exact ((one_block _ _).alloc (by simp) _).alloc (by simp; omega) _
  rw [← hW] at tA tB tC c7 tS ⊢
  clear hW
  have c1 := tA 0
  have c2 := tA 1
  have c3 := tB 0
  have c4 := tB 1
  have c5 := tC 0
  have c6 := tC 1
  simp at c1 c2 c3 c4 c5 c6
  clear tA tB tC
  refine (kinds_any op W).mono ?_
  rintro e w1 ⟨kA, kc, rfl, hkr, hb1⟩
  rw [hkd.out] at hkr ⊢
  obtain ⟨kb, ko, rfl, hkb, hk0⟩ := hkr.at (i := 0) (by simp)
  have hk1 := hkr.get (i := 1) (by simp)
  simp at hk0 hk1
  have d1 := cell_up hb1 (w.heap.size) 0 (by omega) c1
  have d2 := cell_up hb1 (w.heap.size) 1 (by omega) c2
  have d3 := cell_up hb1 (w.heap.size + 1) 0 (by omega) c3
  have d4 := cell_up hb1 (w.heap.size + 1) 1 (by omega) c4
  have d5 := cell_up hb1 (w.heap.size + 1 + 1) 0 (by omega) c5
  have d6 := cell_up hb1 (w.heap.size + 1 + 1) 1 (by omega) c6
  have d7 : ∀ o, w1.frozen? ⟨w.heap.size + 1 + 1, o, none⟩ = false := fun o => froz_up hb1 (w.heap.size + 1 + 1) o (by omega) (c7 o)
  have hz1 : w.heap.size + 1 + 1 < w1.heap.size := by have := hb1.size; omega
  have hb' := hb.trans (hb1.mono hb.size)
  clear c1 c2 c3 c4 c5 c6 c7 tS
  go_wp2_with fail
  have e1 := fun m : Above w1 => above_at d1 (by omega) m
  have e2 := fun m : Above w1 => above_at d2 (by omega) m
  have e3 := fun m : Above w1 => above_at d3 (by omega) m
  have e4 := fun m : Above w1 => above_at d4 (by omega) m
  have e5 := fun m : Above w1 => above_at hk0 hkb m
  have e6 := fun m : Above w1 => above_at hk1 hkb m
  refine wp_region_T (by kernel_rfl) (by kernel_rfl) ?_
  repeat (go_big_quiet_step (first | exact quiet_T (may_T _ _ _ (by first | exact hp.out | exact hq.out)) | exact quiet_T (may_F _ _ _ (by first | exact hp.out | exact hq.out))))
  refine wpQuiet_nil ?_
  intro w2 h2
  obtain ⟨⟨x2, hb2⟩, hx2⟩ := h2
  dsimp only at hx2
  subst hx2
  have f1 := cell_up hb2 (w.heap.size) 0 (by omega) d1
  have f2 := cell_up hb2 (w.heap.size) 1 (by omega) d2
  have f3 := cell_up hb2 (w.heap.size + 1) 0 (by omega) d3
  have f4 := cell_up hb2 (w.heap.size + 1) 1 (by omega) d4
  have f5 := cell_up hb2 (w.heap.size + 1 + 1) 0 (by omega) d5
  have f6 := cell_up hb2 (w.heap.size + 1 + 1) 1 (by omega) d6
  have f7 : ∀ o, w2.frozen? ⟨w.heap.size + 1 + 1, o, none⟩ = false := fun o => froz_up hb2 (w.heap.size + 1 + 1) o (by omega) (d7 o)
  have hb'' := hb'.trans (hb2.mono hb'.size)
  have hz2 : w.heap.size + 1 + 1 < w2.heap.size := by have := hb2.size; omega
  clear d1 d2 d3 d4 d5 d6 d7 e1 e2 e3 e4
  go_wp2_with fail
  refine bodyPost_ret (v := .tuple #[.agg #[.int .i64 0, .int .i64 0], .int .i64 (-1)]) (by simp [results, Tryd.results17, go_sem, f5, f6]) rfl ⟨rfl, ?_⟩
  exact (hb''.setCell (by simp; omega) _).setCell (by simp; omega) _
theorem twof_k2 (op k k1 k2 t n n' : Int) (w : World) (hkd : Hid (kindsV op = ([k, k], t, true))) (hp : Hid (mayB (k, n) = true)) (hq : Hid (mayB (k2, n') = true)) (h0 : k1 = k) (h : ¬ k2 = k) :
    Calls Tryd.prog 17 #[.int .i64 op, .agg #[.int .i64 k1, .int .i64 n], .agg #[.int .i64 k2, .int .i64 n']] w fun e w' => e = .returned (T2 0 0 (-1)) ∧ Below w.heap.size w w' := by
  subst h0
  have q : (k2 == k1) = false := beq_eq_false_iff_ne.2 h
  go_enter Tryd.func17, Tryd.ntmps17
  go_wp2_with fail
  obtain ⟨tA, tB, tC, c7, tS⟩ := three_blocks w #[.int .i64 k1, .int .i64 n] #[.int .i64 k2, .int .i64 n'] #[.int .i64 0, .int .i64 0] 23
  obtain ⟨W, hW⟩ : ∃ W, W = ((w.alloc (.cells #[.int .i64 k1, .int .i64 n] 23)).alloc (.cells #[.int .i64 k2, .int .i64 n'] 23)).alloc (.cells #[.int .i64 0, .int .i64 0] 23) := ⟨_, rfl⟩
  have hb : Below w.heap.size w W := by rw [hW]; exact ((one_block _ _).alloc (by simp) _).alloc (by simp; omega) _
  rw [← hW] at tA tB tC c7 tS ⊢
  clear hW
  have c1 := tA 0
  have c2 := tA 1
  have c3 := tB 0
  have c4 := tB 1
  have c5 := tC 0
  have c6 := tC 1
  simp at c1 c2 c3 c4 c5 c6
  clear tA tB tC
  refine (kinds_any op W).mono ?_
  rintro e w1 ⟨kA, kc, rfl, hkr, hb1⟩
  rw [hkd.out] at hkr ⊢
  obtain ⟨kb, ko, rfl, hkb, hk0⟩ := hkr.at (i := 0) (by simp)
  have hk1 := hkr.get (i := 1) (by simp)
  simp at hk0 hk1
  have d1 := cell_up hb1 (w.heap.size) 0 (by omega) c1
  have d2 := cell_up hb1 (w.heap.size) 1 (by omega) c2
  have d3 := cell_up hb1 (w.heap.size + 1) 0 (by omega) c3
  have d4 := cell_up hb1 (w.heap.size + 1) 1 (by omega) c4
  have d5 := cell_up hb1 (w.heap.size + 1 + 1) 0 (by omega) c5
  have d6 := cell_up hb1 (w.heap.size + 1 + 1) 1 (by omega) c6
  have d7 : ∀ o, w1.frozen? ⟨w.heap.size + 1 + 1, o, none⟩ = false := fun o => froz_up hb1 (w.heap.size + 1 + 1) o (by omega) (c7 o)
  have hz1 : w.heap.size + 1 + 1 < w1.heap.size := by have := hb1.size; omega
  have hb' := hb.trans (hb1.mono hb.size)
  clear c1 c2 c3 c4 c5 c6 c7 tS
  go_wp2_with fail
  have e1 := fun m : Above w1 => above_at d1 (by omega) m
  have e2 := fun m : Above w1 => above_at d2 (by omega) m
  have e3 := fun m : Above w1 => above_at d3 (by omega) m
  have e4 := fun m : Above w1 => above_at d4 (by omega) m
  have e5 := fun m : Above w1 => above_at hk0 hkb m
  have e6 := fun m : Above w1 => above_at hk1 hkb m
  refine wp_region_T (by kernel_rfl) (by kernel_rfl) ?_
  repeat (go_big_quiet_step (first | exact quiet_T (may_T _ _ _ (by first | exact hp.out | exact hq.out)) | exact quiet_T (may_F _ _ _ (by first | exact hp.out | exact hq.out))))
  refine wpQuiet_nil ?_
  intro w2 h2
  obtain ⟨⟨x2, hb2⟩, hx2⟩ := h2
  dsimp only at hx2
  subst hx2
  have f1 := cell_up hb2 (w.heap.size) 0 (by omega) d1
  have f2 := cell_up hb2 (w.heap.size) 1 (by omega) d2
  have f3 := cell_up hb2 (w.heap.size + 1) 0 (by omega) d3
  have f4 := cell_up hb2 (w.heap.size + 1) 1 (by omega) d4
  have f5 := cell_up hb2 (w.heap.size + 1 + 1) 0 (by omega) d5
  have f6 := cell_up hb2 (w.heap.size + 1 + 1) 1 (by omega) d6
  have f7 : ∀ o, w2.frozen? ⟨w.heap.size + 1 + 1, o, none⟩ = false := fun o => froz_up hb2 (w.heap.size + 1 + 1) o (by omega) (d7 o)
  have hb'' := hb'.trans (hb2.mono hb'.size)
  have hz2 : w.heap.size + 1 + 1 < w2.heap.size := by have := hb2.size; omega
  clear d1 d2 d3 d4 d5 d6 d7 e1 e2 e3 e4
  go_wp2_with fail
  refine bodyPost_ret (v := .tuple #[.agg #[.int .i64 0, .int .i64 0], .int .i64 (-1)]) (by simp [results, Tryd.results17, go_sem, f5, f6]) rfl ⟨rfl, ?_⟩
  exact (hb''.setCell (by simp; omega) _).setCell (by simp; omega) _
end Go.Proofs.YtdcpbjpghgbbiaaDoor
