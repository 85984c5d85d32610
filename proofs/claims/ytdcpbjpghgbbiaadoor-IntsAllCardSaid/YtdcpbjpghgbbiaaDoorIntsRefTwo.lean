/- The contract of the reference's Two: what ints.Two gives, of values of the instruction's kind, and of all others. Printed by gen_ref2.py. -/
import Derived.Test.YtdcpbjpghgbbiaaDoorIntsRefDiv
namespace Go.Proofs.YtdcpbjpghgbbiaaDoor
open Go.RowKit
set_option linter.unusedVariables false
set_option maxHeartbeats 4000000
set_option maxRecDepth 100000

theorem rt_1_106 (op n n' : Int) (w : World) (hcl : Hid (clsV op = (106, 1))) (hrk : Hid (rkV 106 1 = (2, 1, 1, true))) (hp : Hid (mayB (1, n) = true)) (hq : Hid (mayB (1, n') = true)) (hn : RK 1 n) :
    Calls Tryd.prog 18 #[.int .i64 op, .agg #[.int .i64 1, .int .i64 n], .agg #[.int .i64 1, .int .i64 n']] w fun e w' => e = .returned (T2 1 (wk 1 (reckV 1 106 n n')) 0) ∧ Below w.heap.size w w' := by
  go_enter Tryd.func18, Tryd.ntmps18
  go_wp2_with fail
  obtain ⟨tA, tB, tC, c7, tS⟩ := three_blocks w #[.int .i64 1, .int .i64 n] #[.int .i64 1, .int .i64 n'] #[.int .i64 0, .int .i64 0] 23
  obtain ⟨w1, hW⟩ : ∃ W, W = ((w.alloc (.cells #[.int .i64 1, .int .i64 n] 23)).alloc (.cells #[.int .i64 1, .int .i64 n'] 23)).alloc (.cells #[.int .i64 0, .int .i64 0] 23) := ⟨_, rfl⟩
  have hb : Below w.heap.size w w1 := by rw [hW]; exact ((one_block _ _).alloc (by simp) _).alloc (by simp; omega) _
  rw [← hW] at tA tB tC c7 tS ⊢
  clear hW
  have c1 := tA 0
  have c2 := tA 1
  have c3 := tB 0
  have c4 := tB 1
  have c5 := tC 0
  have c6 := tC 1
  simp at c1 c2 c3 c4 c5 c6
  clear tA tB tC
  refine (class_any op w1).mono ?_
  rintro e w0 ⟨rfl, rfl⟩
  rw [hcl.out]
  go_wp2_with fail
  refine (rkinds_any op w1).mono ?_
  rintro e w0 ⟨rfl, rfl⟩
  rw [hcl.out, show rkV _ _ = _ from hrk.out]
  unfold K4
  go_wp2_with fail
  refine (rmay_any _ _ w1).mono ?_
  rintro e w2 ⟨rfl, hb2⟩
  rw [hp.out]
  have d1 := cell_up hb2 (w.heap.size) 0 (by omega) c1
  have d2 := cell_up hb2 (w.heap.size) 1 (by omega) c2
  have d3 := cell_up hb2 (w.heap.size + 1) 0 (by omega) c3
  have d4 := cell_up hb2 (w.heap.size + 1) 1 (by omega) c4
  have d5 := cell_up hb2 (w.heap.size + 1 + 1) 0 (by omega) c5
  have d6 := cell_up hb2 (w.heap.size + 1 + 1) 1 (by omega) c6
  have d7 : ∀ o, w2.frozen? ⟨w.heap.size + 1 + 1, o, none⟩ = false := fun o => froz_up hb2 (w.heap.size + 1 + 1) o (by omega) (c7 o)
  have hz2 : w.heap.size + 1 + 1 < w2.heap.size := by have := hb2.size; omega
  have hb' := hb.trans (hb2.mono hb.size)
  clear c1 c2 c3 c4 c5 c6 c7 tS
  go_wp2_with fail
  refine (rmay_any _ _ w2).mono ?_
  rintro e w3 ⟨rfl, hb3⟩
  rw [hq.out]
  have f1 := cell_up hb3 (w.heap.size) 0 (by omega) d1
  have f2 := cell_up hb3 (w.heap.size) 1 (by omega) d2
  have f3 := cell_up hb3 (w.heap.size + 1) 0 (by omega) d3
  have f4 := cell_up hb3 (w.heap.size + 1) 1 (by omega) d4
  have f5 := cell_up hb3 (w.heap.size + 1 + 1) 0 (by omega) d5
  have f6 := cell_up hb3 (w.heap.size + 1 + 1) 1 (by omega) d6
  have f7 : ∀ o, w3.frozen? ⟨w.heap.size + 1 + 1, o, none⟩ = false := fun o => froz_up hb3 (w.heap.size + 1 + 1) o (by omega) (d7 o)
  have hz3 : w.heap.size + 1 + 1 < w3.heap.size := by have := hb3.size; omega
  have hb'' := hb'.trans (hb3.mono hb'.size)
  clear d1 d2 d3 d4 d5 d6 d7 hz2
  go_wp2_with fail
  have e1 := fun m : Above w3 => above_at f1 (by omega) m
  have e2 := fun m : Above w3 => above_at f2 (by omega) m
  have e3 := fun m : Above w3 => above_at f3 (by omega) m
  have e4 := fun m : Above w3 => above_at f4 (by omega) m
  refine wp_region_T (by kernel_rfl) (by kernel_rfl) ?_
  repeat (go_big_quiet_step (exact quiet_T (runsigned_any _ _ _)))
  refine wpQuiet_nil ?_
  intro w4 h4
  obtain ⟨⟨x4, hb4⟩, hx4⟩ := h4
  dsimp only at hx4
  subst hx4
  have g1 := cell_up hb4 (w.heap.size) 0 (by omega) f1
  have g2 := cell_up hb4 (w.heap.size) 1 (by omega) f2
  have g3 := cell_up hb4 (w.heap.size + 1) 0 (by omega) f3
  have g4 := cell_up hb4 (w.heap.size + 1) 1 (by omega) f4
  have g5 := cell_up hb4 (w.heap.size + 1 + 1) 0 (by omega) f5
  have g6 := cell_up hb4 (w.heap.size + 1 + 1) 1 (by omega) f6
  have g7 : ∀ o, w4.frozen? ⟨w.heap.size + 1 + 1, o, none⟩ = false := fun o => froz_up hb4 (w.heap.size + 1 + 1) o (by omega) (f7 o)
  have hz4 : w.heap.size + 1 + 1 < w4.heap.size := by have := hb4.size; omega
  have hb3' := hb''.trans (hb4.mono hb''.size)
  clear f1 f2 f3 f4 f5 f6 f7 e1 e2 e3 e4 hz3
  have hL := low_nn (1, n')
  have hM := low_nn (1, n)
  go_wp2_with fail
  refine (rbits_any _ w4 (by omega)).mono ?_
  rintro e w5 ⟨rfl, rfl⟩
  go_wp2_with fail
  refine (refwrap_1 (wrap64 (IntKind.u64.wrap (low (1, n) + low (1, n')))) w4).mono ?_
  rintro e w6 ⟨rfl, hb6⟩
  rw [rm_1_106 n n' hn]
  have j1 := cell_up hb6 (w.heap.size) 0 (by omega) g1
  have j2 := cell_up hb6 (w.heap.size) 1 (by omega) g2
  have j3 := cell_up hb6 (w.heap.size + 1) 0 (by omega) g3
  have j4 := cell_up hb6 (w.heap.size + 1) 1 (by omega) g4
  have j5 := cell_up hb6 (w.heap.size + 1 + 1) 0 (by omega) g5
  have j6 := cell_up hb6 (w.heap.size + 1 + 1) 1 (by omega) g6
  have j7 : ∀ o, w6.frozen? ⟨w.heap.size + 1 + 1, o, none⟩ = false := fun o => froz_up hb6 (w.heap.size + 1 + 1) o (by omega) (g7 o)
  have hz6 : w.heap.size + 1 + 1 < w6.heap.size := by have := hb6.size; omega
  clear g1 g2 g3 g4 g5 g6 g7 hL hM
  have hbe := hb3'.trans (hb6.mono hb3'.size)
  go_wp2_with fail
  refine bodyPost_ret (v := .tuple #[.agg #[.int .i64 1, .int .i64 (wk 1 (reckV 1 106 n n'))], .int .i64 0]) (by simp [results, Tryd.results18, go_sem, j5, j6]) rfl ⟨rfl, ?_⟩
  exact (hbe.setCell (by simp; omega) _).setCell (by simp; omega) _

theorem rt_1_107 (op n n' : Int) (w : World) (hcl : Hid (clsV op = (107, 1))) (hrk : Hid (rkV 107 1 = (2, 1, 1, true))) (hp : Hid (mayB (1, n) = true)) (hq : Hid (mayB (1, n') = true)) (hn : RK 1 n) :
    Calls Tryd.prog 18 #[.int .i64 op, .agg #[.int .i64 1, .int .i64 n], .agg #[.int .i64 1, .int .i64 n']] w fun e w' => e = .returned (T2 1 (wk 1 (reckV 1 107 n n')) 0) ∧ Below w.heap.size w w' := by
  go_enter Tryd.func18, Tryd.ntmps18
  go_wp2_with fail
  obtain ⟨tA, tB, tC, c7, tS⟩ := three_blocks w #[.int .i64 1, .int .i64 n] #[.int .i64 1, .int .i64 n'] #[.int .i64 0, .int .i64 0] 23
  obtain ⟨w1, hW⟩ : ∃ W, W = ((w.alloc (.cells #[.int .i64 1, .int .i64 n] 23)).alloc (.cells #[.int .i64 1, .int .i64 n'] 23)).alloc (.cells #[.int .i64 0, .int .i64 0] 23) := ⟨_, rfl⟩
  have hb : Below w.heap.size w w1 := by rw [hW]; exact ((one_block _ _).alloc (by simp) _).alloc (by simp; omega) _
  rw [← hW] at tA tB tC c7 tS ⊢
  clear hW
  have c1 := tA 0
  have c2 := tA 1
  have c3 := tB 0
  have c4 := tB 1
  have c5 := tC 0
  have c6 := tC 1
  simp at c1 c2 c3 c4 c5 c6
  clear tA tB tC
  refine (class_any op w1).mono ?_
  rintro e w0 ⟨rfl, rfl⟩
  rw [hcl.out]
  go_wp2_with fail
  refine (rkinds_any op w1).mono ?_
  rintro e w0 ⟨rfl, rfl⟩
  rw [hcl.out, show rkV _ _ = _ from hrk.out]
  unfold K4
  go_wp2_with fail
  refine (rmay_any _ _ w1).mono ?_
  rintro e w2 ⟨rfl, hb2⟩
  rw [hp.out]
  have d1 := cell_up hb2 (w.heap.size) 0 (by omega) c1
  have d2 := cell_up hb2 (w.heap.size) 1 (by omega) c2
  have d3 := cell_up hb2 (w.heap.size + 1) 0 (by omega) c3
  have d4 := cell_up hb2 (w.heap.size + 1) 1 (by omega) c4
  have d5 := cell_up hb2 (w.heap.size + 1 + 1) 0 (by omega) c5
  have d6 := cell_up hb2 (w.heap.size + 1 + 1) 1 (by omega) c6
  have d7 : ∀ o, w2.frozen? ⟨w.heap.size + 1 + 1, o, none⟩ = false := fun o => froz_up hb2 (w.heap.size + 1 + 1) o (by omega) (c7 o)
  have hz2 : w.heap.size + 1 + 1 < w2.heap.size := by have := hb2.size; omega
  have hb' := hb.trans (hb2.mono hb.size)
  clear c1 c2 c3 c4 c5 c6 c7 tS
  go_wp2_with fail
  refine (rmay_any _ _ w2).mono ?_
  rintro e w3 ⟨rfl, hb3⟩
  rw [hq.out]
  have f1 := cell_up hb3 (w.heap.size) 0 (by omega) d1
  have f2 := cell_up hb3 (w.heap.size) 1 (by omega) d2
  have f3 := cell_up hb3 (w.heap.size + 1) 0 (by omega) d3
  have f4 := cell_up hb3 (w.heap.size + 1) 1 (by omega) d4
  have f5 := cell_up hb3 (w.heap.size + 1 + 1) 0 (by omega) d5
  have f6 := cell_up hb3 (w.heap.size + 1 + 1) 1 (by omega) d6
  have f7 : ∀ o, w3.frozen? ⟨w.heap.size + 1 + 1, o, none⟩ = false := fun o => froz_up hb3 (w.heap.size + 1 + 1) o (by omega) (d7 o)
  have hz3 : w.heap.size + 1 + 1 < w3.heap.size := by have := hb3.size; omega
  have hb'' := hb'.trans (hb3.mono hb'.size)
  clear d1 d2 d3 d4 d5 d6 d7 hz2
  go_wp2_with fail
  have e1 := fun m : Above w3 => above_at f1 (by omega) m
  have e2 := fun m : Above w3 => above_at f2 (by omega) m
  have e3 := fun m : Above w3 => above_at f3 (by omega) m
  have e4 := fun m : Above w3 => above_at f4 (by omega) m
  refine wp_region_T (by kernel_rfl) (by kernel_rfl) ?_
  repeat (go_big_quiet_step (exact quiet_T (runsigned_any _ _ _)))
  refine wpQuiet_nil ?_
  intro w4 h4
  obtain ⟨⟨x4, hb4⟩, hx4⟩ := h4
  dsimp only at hx4
  subst hx4
  have g1 := cell_up hb4 (w.heap.size) 0 (by omega) f1
  have g2 := cell_up hb4 (w.heap.size) 1 (by omega) f2
  have g3 := cell_up hb4 (w.heap.size + 1) 0 (by omega) f3
  have g4 := cell_up hb4 (w.heap.size + 1) 1 (by omega) f4
  have g5 := cell_up hb4 (w.heap.size + 1 + 1) 0 (by omega) f5
  have g6 := cell_up hb4 (w.heap.size + 1 + 1) 1 (by omega) f6
  have g7 : ∀ o, w4.frozen? ⟨w.heap.size + 1 + 1, o, none⟩ = false := fun o => froz_up hb4 (w.heap.size + 1 + 1) o (by omega) (f7 o)
  have hz4 : w.heap.size + 1 + 1 < w4.heap.size := by have := hb4.size; omega
  have hb3' := hb''.trans (hb4.mono hb''.size)
  clear f1 f2 f3 f4 f5 f6 f7 e1 e2 e3 e4 hz3
  have hL := low_nn (1, n')
  have hM := low_nn (1, n)
  go_wp2_with fail
  refine (rbits_any _ w4 (by omega)).mono ?_
  rintro e w5 ⟨rfl, rfl⟩
  go_wp2_with fail
  refine (refwrap_1 (wrap64 (IntKind.u64.wrap (low (1, n) - low (1, n')))) w4).mono ?_
  rintro e w6 ⟨rfl, hb6⟩
  rw [rm_1_107 n n' hn]
  have j1 := cell_up hb6 (w.heap.size) 0 (by omega) g1
  have j2 := cell_up hb6 (w.heap.size) 1 (by omega) g2
  have j3 := cell_up hb6 (w.heap.size + 1) 0 (by omega) g3
  have j4 := cell_up hb6 (w.heap.size + 1) 1 (by omega) g4
  have j5 := cell_up hb6 (w.heap.size + 1 + 1) 0 (by omega) g5
  have j6 := cell_up hb6 (w.heap.size + 1 + 1) 1 (by omega) g6
  have j7 : ∀ o, w6.frozen? ⟨w.heap.size + 1 + 1, o, none⟩ = false := fun o => froz_up hb6 (w.heap.size + 1 + 1) o (by omega) (g7 o)
  have hz6 : w.heap.size + 1 + 1 < w6.heap.size := by have := hb6.size; omega
  clear g1 g2 g3 g4 g5 g6 g7 hL hM
  have hbe := hb3'.trans (hb6.mono hb3'.size)
  go_wp2_with fail
  refine bodyPost_ret (v := .tuple #[.agg #[.int .i64 1, .int .i64 (wk 1 (reckV 1 107 n n'))], .int .i64 0]) (by simp [results, Tryd.results18, go_sem, j5, j6]) rfl ⟨rfl, ?_⟩
  exact (hbe.setCell (by simp; omega) _).setCell (by simp; omega) _

theorem rt_1_108 (op n n' : Int) (w : World) (hcl : Hid (clsV op = (108, 1))) (hrk : Hid (rkV 108 1 = (2, 1, 1, true))) (hp : Hid (mayB (1, n) = true)) (hq : Hid (mayB (1, n') = true)) (hn : RK 1 n) :
    Calls Tryd.prog 18 #[.int .i64 op, .agg #[.int .i64 1, .int .i64 n], .agg #[.int .i64 1, .int .i64 n']] w fun e w' => e = .returned (T2 1 (wk 1 (reckV 1 108 n n')) 0) ∧ Below w.heap.size w w' := by
  go_enter Tryd.func18, Tryd.ntmps18
  go_wp2_with fail
  obtain ⟨tA, tB, tC, c7, tS⟩ := three_blocks w #[.int .i64 1, .int .i64 n] #[.int .i64 1, .int .i64 n'] #[.int .i64 0, .int .i64 0] 23
  obtain ⟨w1, hW⟩ : ∃ W, W = ((w.alloc (.cells #[.int .i64 1, .int .i64 n] 23)).alloc (.cells #[.int .i64 1, .int .i64 n'] 23)).alloc (.cells #[.int .i64 0, .int .i64 0] 23) := ⟨_, rfl⟩
  have hb : Below w.heap.size w w1 := by rw [hW]; exact ((one_block _ _).alloc (by simp) _).alloc (by simp; omega) _
  rw [← hW] at tA tB tC c7 tS ⊢
  clear hW
  have c1 := tA 0
  have c2 := tA 1
  have c3 := tB 0
  have c4 := tB 1
  have c5 := tC 0
  have c6 := tC 1
  simp at c1 c2 c3 c4 c5 c6
  clear tA tB tC
  refine (class_any op w1).mono ?_
  rintro e w0 ⟨rfl, rfl⟩
  rw [hcl.out]
  go_wp2_with fail
  refine (rkinds_any op w1).mono ?_
  rintro e w0 ⟨rfl, rfl⟩
  rw [hcl.out, show rkV _ _ = _ from hrk.out]
  unfold K4
  go_wp2_with fail
  refine (rmay_any _ _ w1).mono ?_
  rintro e w2 ⟨rfl, hb2⟩
  rw [hp.out]
  have d1 := cell_up hb2 (w.heap.size) 0 (by omega) c1
  have d2 := cell_up hb2 (w.heap.size) 1 (by omega) c2
  have d3 := cell_up hb2 (w.heap.size + 1) 0 (by omega) c3
  have d4 := cell_up hb2 (w.heap.size + 1) 1 (by omega) c4
  have d5 := cell_up hb2 (w.heap.size + 1 + 1) 0 (by omega) c5
  have d6 := cell_up hb2 (w.heap.size + 1 + 1) 1 (by omega) c6
  have d7 : ∀ o, w2.frozen? ⟨w.heap.size + 1 + 1, o, none⟩ = false := fun o => froz_up hb2 (w.heap.size + 1 + 1) o (by omega) (c7 o)
  have hz2 : w.heap.size + 1 + 1 < w2.heap.size := by have := hb2.size; omega
  have hb' := hb.trans (hb2.mono hb.size)
  clear c1 c2 c3 c4 c5 c6 c7 tS
  go_wp2_with fail
  refine (rmay_any _ _ w2).mono ?_
  rintro e w3 ⟨rfl, hb3⟩
  rw [hq.out]
  have f1 := cell_up hb3 (w.heap.size) 0 (by omega) d1
  have f2 := cell_up hb3 (w.heap.size) 1 (by omega) d2
  have f3 := cell_up hb3 (w.heap.size + 1) 0 (by omega) d3
  have f4 := cell_up hb3 (w.heap.size + 1) 1 (by omega) d4
  have f5 := cell_up hb3 (w.heap.size + 1 + 1) 0 (by omega) d5
  have f6 := cell_up hb3 (w.heap.size + 1 + 1) 1 (by omega) d6
  have f7 : ∀ o, w3.frozen? ⟨w.heap.size + 1 + 1, o, none⟩ = false := fun o => froz_up hb3 (w.heap.size + 1 + 1) o (by omega) (d7 o)
  have hz3 : w.heap.size + 1 + 1 < w3.heap.size := by have := hb3.size; omega
  have hb'' := hb'.trans (hb3.mono hb'.size)
  clear d1 d2 d3 d4 d5 d6 d7 hz2
  go_wp2_with fail
  have e1 := fun m : Above w3 => above_at f1 (by omega) m
  have e2 := fun m : Above w3 => above_at f2 (by omega) m
  have e3 := fun m : Above w3 => above_at f3 (by omega) m
  have e4 := fun m : Above w3 => above_at f4 (by omega) m
  refine wp_region_T (by kernel_rfl) (by kernel_rfl) ?_
  repeat (go_big_quiet_step (exact quiet_T (runsigned_any _ _ _)))
  refine wpQuiet_nil ?_
  intro w4 h4
  obtain ⟨⟨x4, hb4⟩, hx4⟩ := h4
  dsimp only at hx4
  subst hx4
  have g1 := cell_up hb4 (w.heap.size) 0 (by omega) f1
  have g2 := cell_up hb4 (w.heap.size) 1 (by omega) f2
  have g3 := cell_up hb4 (w.heap.size + 1) 0 (by omega) f3
  have g4 := cell_up hb4 (w.heap.size + 1) 1 (by omega) f4
  have g5 := cell_up hb4 (w.heap.size + 1 + 1) 0 (by omega) f5
  have g6 := cell_up hb4 (w.heap.size + 1 + 1) 1 (by omega) f6
  have g7 : ∀ o, w4.frozen? ⟨w.heap.size + 1 + 1, o, none⟩ = false := fun o => froz_up hb4 (w.heap.size + 1 + 1) o (by omega) (f7 o)
  have hz4 : w.heap.size + 1 + 1 < w4.heap.size := by have := hb4.size; omega
  have hb3' := hb''.trans (hb4.mono hb''.size)
  clear f1 f2 f3 f4 f5 f6 f7 e1 e2 e3 e4 hz3
  have hL := low_nn (1, n')
  have hM := low_nn (1, n)
  go_wp2_with fail
  refine (rbits_any _ w4 (by omega)).mono ?_
  rintro e w5 ⟨rfl, rfl⟩
  go_wp2_with fail
  refine (refwrap_1 (wrap64 (IntKind.u64.wrap (low (1, n) * low (1, n')))) w4).mono ?_
  rintro e w6 ⟨rfl, hb6⟩
  rw [rm_1_108 n n' hn]
  have j1 := cell_up hb6 (w.heap.size) 0 (by omega) g1
  have j2 := cell_up hb6 (w.heap.size) 1 (by omega) g2
  have j3 := cell_up hb6 (w.heap.size + 1) 0 (by omega) g3
  have j4 := cell_up hb6 (w.heap.size + 1) 1 (by omega) g4
  have j5 := cell_up hb6 (w.heap.size + 1 + 1) 0 (by omega) g5
  have j6 := cell_up hb6 (w.heap.size + 1 + 1) 1 (by omega) g6
  have j7 : ∀ o, w6.frozen? ⟨w.heap.size + 1 + 1, o, none⟩ = false := fun o => froz_up hb6 (w.heap.size + 1 + 1) o (by omega) (g7 o)
  have hz6 : w.heap.size + 1 + 1 < w6.heap.size := by have := hb6.size; omega
  clear g1 g2 g3 g4 g5 g6 g7 hL hM
  have hbe := hb3'.trans (hb6.mono hb3'.size)
  go_wp2_with fail
  refine bodyPost_ret (v := .tuple #[.agg #[.int .i64 1, .int .i64 (wk 1 (reckV 1 108 n n'))], .int .i64 0]) (by simp [results, Tryd.results18, go_sem, j5, j6]) rfl ⟨rfl, ?_⟩
  exact (hbe.setCell (by simp; omega) _).setCell (by simp; omega) _

theorem rt_1_113 (op n n' : Int) (w : World) (hcl : Hid (clsV op = (113, 1))) (hrk : Hid (rkV 113 1 = (2, 1, 1, true))) (hp : Hid (mayB (1, n) = true)) (hq : Hid (mayB (1, n') = true)) (hn : RK 1 n) :
    Calls Tryd.prog 18 #[.int .i64 op, .agg #[.int .i64 1, .int .i64 n], .agg #[.int .i64 1, .int .i64 n']] w fun e w' => e = .returned (T2 1 (wk 1 (reckV 1 113 n n')) 0) ∧ Below w.heap.size w w' := by
  go_enter Tryd.func18, Tryd.ntmps18
  go_wp2_with fail
  obtain ⟨tA, tB, tC, c7, tS⟩ := three_blocks w #[.int .i64 1, .int .i64 n] #[.int .i64 1, .int .i64 n'] #[.int .i64 0, .int .i64 0] 23
  obtain ⟨w1, hW⟩ : ∃ W, W = ((w.alloc (.cells #[.int .i64 1, .int .i64 n] 23)).alloc (.cells #[.int .i64 1, .int .i64 n'] 23)).alloc (.cells #[.int .i64 0, .int .i64 0] 23) := ⟨_, rfl⟩
  have hb : Below w.heap.size w w1 := by rw [hW]; exact ((one_block _ _).alloc (by simp) _).alloc (by simp; omega) _
  rw [← hW] at tA tB tC c7 tS ⊢
  clear hW
  have c1 := tA 0
  have c2 := tA 1
  have c3 := tB 0
  have c4 := tB 1
  have c5 := tC 0
  have c6 := tC 1
  simp at c1 c2 c3 c4 c5 c6
  clear tA tB tC
  refine (class_any op w1).mono ?_
  rintro e w0 ⟨rfl, rfl⟩
  rw [hcl.out]
  go_wp2_with fail
  refine (rkinds_any op w1).mono ?_
  rintro e w0 ⟨rfl, rfl⟩
  rw [hcl.out, show rkV _ _ = _ from hrk.out]
  unfold K4
  go_wp2_with fail
  refine (rmay_any _ _ w1).mono ?_
  rintro e w2 ⟨rfl, hb2⟩
  rw [hp.out]
  have d1 := cell_up hb2 (w.heap.size) 0 (by omega) c1
  have d2 := cell_up hb2 (w.heap.size) 1 (by omega) c2
  have d3 := cell_up hb2 (w.heap.size + 1) 0 (by omega) c3
  have d4 := cell_up hb2 (w.heap.size + 1) 1 (by omega) c4
  have d5 := cell_up hb2 (w.heap.size + 1 + 1) 0 (by omega) c5
  have d6 := cell_up hb2 (w.heap.size + 1 + 1) 1 (by omega) c6
  have d7 : ∀ o, w2.frozen? ⟨w.heap.size + 1 + 1, o, none⟩ = false := fun o => froz_up hb2 (w.heap.size + 1 + 1) o (by omega) (c7 o)
  have hz2 : w.heap.size + 1 + 1 < w2.heap.size := by have := hb2.size; omega
  have hb' := hb.trans (hb2.mono hb.size)
  clear c1 c2 c3 c4 c5 c6 c7 tS
  go_wp2_with fail
  refine (rmay_any _ _ w2).mono ?_
  rintro e w3 ⟨rfl, hb3⟩
  rw [hq.out]
  have f1 := cell_up hb3 (w.heap.size) 0 (by omega) d1
  have f2 := cell_up hb3 (w.heap.size) 1 (by omega) d2
  have f3 := cell_up hb3 (w.heap.size + 1) 0 (by omega) d3
  have f4 := cell_up hb3 (w.heap.size + 1) 1 (by omega) d4
  have f5 := cell_up hb3 (w.heap.size + 1 + 1) 0 (by omega) d5
  have f6 := cell_up hb3 (w.heap.size + 1 + 1) 1 (by omega) d6
  have f7 : ∀ o, w3.frozen? ⟨w.heap.size + 1 + 1, o, none⟩ = false := fun o => froz_up hb3 (w.heap.size + 1 + 1) o (by omega) (d7 o)
  have hz3 : w.heap.size + 1 + 1 < w3.heap.size := by have := hb3.size; omega
  have hb'' := hb'.trans (hb3.mono hb'.size)
  clear d1 d2 d3 d4 d5 d6 d7 hz2
  go_wp2_with fail
  have e1 := fun m : Above w3 => above_at f1 (by omega) m
  have e2 := fun m : Above w3 => above_at f2 (by omega) m
  have e3 := fun m : Above w3 => above_at f3 (by omega) m
  have e4 := fun m : Above w3 => above_at f4 (by omega) m
  refine wp_region_T (by kernel_rfl) (by kernel_rfl) ?_
  repeat (go_big_quiet_step (exact quiet_T (runsigned_any _ _ _)))
  refine wpQuiet_nil ?_
  intro w4 h4
  obtain ⟨⟨x4, hb4⟩, hx4⟩ := h4
  dsimp only at hx4
  subst hx4
  have g1 := cell_up hb4 (w.heap.size) 0 (by omega) f1
  have g2 := cell_up hb4 (w.heap.size) 1 (by omega) f2
  have g3 := cell_up hb4 (w.heap.size + 1) 0 (by omega) f3
  have g4 := cell_up hb4 (w.heap.size + 1) 1 (by omega) f4
  have g5 := cell_up hb4 (w.heap.size + 1 + 1) 0 (by omega) f5
  have g6 := cell_up hb4 (w.heap.size + 1 + 1) 1 (by omega) f6
  have g7 : ∀ o, w4.frozen? ⟨w.heap.size + 1 + 1, o, none⟩ = false := fun o => froz_up hb4 (w.heap.size + 1 + 1) o (by omega) (f7 o)
  have hz4 : w.heap.size + 1 + 1 < w4.heap.size := by have := hb4.size; omega
  have hb3' := hb''.trans (hb4.mono hb''.size)
  clear f1 f2 f3 f4 f5 f6 f7 e1 e2 e3 e4 hz3
  have hL := low_nn (1, n')
  have hM := low_nn (1, n)
  go_wp2_with fail
  refine (rbits_any _ w4 (by omega)).mono ?_
  rintro e w5 ⟨rfl, rfl⟩
  go_wp2_with fail
  refine (refwrap_1 (wrap64 (bits .and .u64 (low (1, n)) (low (1, n')))) w4).mono ?_
  rintro e w6 ⟨rfl, hb6⟩
  rw [rm_1_113 n n' hn]
  have j1 := cell_up hb6 (w.heap.size) 0 (by omega) g1
  have j2 := cell_up hb6 (w.heap.size) 1 (by omega) g2
  have j3 := cell_up hb6 (w.heap.size + 1) 0 (by omega) g3
  have j4 := cell_up hb6 (w.heap.size + 1) 1 (by omega) g4
  have j5 := cell_up hb6 (w.heap.size + 1 + 1) 0 (by omega) g5
  have j6 := cell_up hb6 (w.heap.size + 1 + 1) 1 (by omega) g6
  have j7 : ∀ o, w6.frozen? ⟨w.heap.size + 1 + 1, o, none⟩ = false := fun o => froz_up hb6 (w.heap.size + 1 + 1) o (by omega) (g7 o)
  have hz6 : w.heap.size + 1 + 1 < w6.heap.size := by have := hb6.size; omega
  clear g1 g2 g3 g4 g5 g6 g7 hL hM
  have hbe := hb3'.trans (hb6.mono hb3'.size)
  go_wp2_with fail
  refine bodyPost_ret (v := .tuple #[.agg #[.int .i64 1, .int .i64 (wk 1 (reckV 1 113 n n'))], .int .i64 0]) (by simp [results, Tryd.results18, go_sem, j5, j6]) rfl ⟨rfl, ?_⟩
  exact (hbe.setCell (by simp; omega) _).setCell (by simp; omega) _

theorem rt_1_114 (op n n' : Int) (w : World) (hcl : Hid (clsV op = (114, 1))) (hrk : Hid (rkV 114 1 = (2, 1, 1, true))) (hp : Hid (mayB (1, n) = true)) (hq : Hid (mayB (1, n') = true)) (hn : RK 1 n) :
    Calls Tryd.prog 18 #[.int .i64 op, .agg #[.int .i64 1, .int .i64 n], .agg #[.int .i64 1, .int .i64 n']] w fun e w' => e = .returned (T2 1 (wk 1 (reckV 1 114 n n')) 0) ∧ Below w.heap.size w w' := by
  go_enter Tryd.func18, Tryd.ntmps18
  go_wp2_with fail
  obtain ⟨tA, tB, tC, c7, tS⟩ := three_blocks w #[.int .i64 1, .int .i64 n] #[.int .i64 1, .int .i64 n'] #[.int .i64 0, .int .i64 0] 23
  obtain ⟨w1, hW⟩ : ∃ W, W = ((w.alloc (.cells #[.int .i64 1, .int .i64 n] 23)).alloc (.cells #[.int .i64 1, .int .i64 n'] 23)).alloc (.cells #[.int .i64 0, .int .i64 0] 23) := ⟨_, rfl⟩
  have hb : Below w.heap.size w w1 := by rw [hW]; exact ((one_block _ _).alloc (by simp) _).alloc (by simp; omega) _
  rw [← hW] at tA tB tC c7 tS ⊢
  clear hW
  have c1 := tA 0
  have c2 := tA 1
  have c3 := tB 0
  have c4 := tB 1
  have c5 := tC 0
  have c6 := tC 1
  simp at c1 c2 c3 c4 c5 c6
  clear tA tB tC
  refine (class_any op w1).mono ?_
  rintro e w0 ⟨rfl, rfl⟩
  rw [hcl.out]
  go_wp2_with fail
  refine (rkinds_any op w1).mono ?_
  rintro e w0 ⟨rfl, rfl⟩
  rw [hcl.out, show rkV _ _ = _ from hrk.out]
  unfold K4
  go_wp2_with fail
  refine (rmay_any _ _ w1).mono ?_
  rintro e w2 ⟨rfl, hb2⟩
  rw [hp.out]
  have d1 := cell_up hb2 (w.heap.size) 0 (by omega) c1
  have d2 := cell_up hb2 (w.heap.size) 1 (by omega) c2
  have d3 := cell_up hb2 (w.heap.size + 1) 0 (by omega) c3
  have d4 := cell_up hb2 (w.heap.size + 1) 1 (by omega) c4
  have d5 := cell_up hb2 (w.heap.size + 1 + 1) 0 (by omega) c5
  have d6 := cell_up hb2 (w.heap.size + 1 + 1) 1 (by omega) c6
  have d7 : ∀ o, w2.frozen? ⟨w.heap.size + 1 + 1, o, none⟩ = false := fun o => froz_up hb2 (w.heap.size + 1 + 1) o (by omega) (c7 o)
  have hz2 : w.heap.size + 1 + 1 < w2.heap.size := by have := hb2.size; omega
  have hb' := hb.trans (hb2.mono hb.size)
  clear c1 c2 c3 c4 c5 c6 c7 tS
  go_wp2_with fail
  refine (rmay_any _ _ w2).mono ?_
  rintro e w3 ⟨rfl, hb3⟩
  rw [hq.out]
  have f1 := cell_up hb3 (w.heap.size) 0 (by omega) d1
  have f2 := cell_up hb3 (w.heap.size) 1 (by omega) d2
  have f3 := cell_up hb3 (w.heap.size + 1) 0 (by omega) d3
  have f4 := cell_up hb3 (w.heap.size + 1) 1 (by omega) d4
  have f5 := cell_up hb3 (w.heap.size + 1 + 1) 0 (by omega) d5
  have f6 := cell_up hb3 (w.heap.size + 1 + 1) 1 (by omega) d6
  have f7 : ∀ o, w3.frozen? ⟨w.heap.size + 1 + 1, o, none⟩ = false := fun o => froz_up hb3 (w.heap.size + 1 + 1) o (by omega) (d7 o)
  have hz3 : w.heap.size + 1 + 1 < w3.heap.size := by have := hb3.size; omega
  have hb'' := hb'.trans (hb3.mono hb'.size)
  clear d1 d2 d3 d4 d5 d6 d7 hz2
  go_wp2_with fail
  have e1 := fun m : Above w3 => above_at f1 (by omega) m
  have e2 := fun m : Above w3 => above_at f2 (by omega) m
  have e3 := fun m : Above w3 => above_at f3 (by omega) m
  have e4 := fun m : Above w3 => above_at f4 (by omega) m
  refine wp_region_T (by kernel_rfl) (by kernel_rfl) ?_
  repeat (go_big_quiet_step (exact quiet_T (runsigned_any _ _ _)))
  refine wpQuiet_nil ?_
  intro w4 h4
  obtain ⟨⟨x4, hb4⟩, hx4⟩ := h4
  dsimp only at hx4
  subst hx4
  have g1 := cell_up hb4 (w.heap.size) 0 (by omega) f1
  have g2 := cell_up hb4 (w.heap.size) 1 (by omega) f2
  have g3 := cell_up hb4 (w.heap.size + 1) 0 (by omega) f3
  have g4 := cell_up hb4 (w.heap.size + 1) 1 (by omega) f4
  have g5 := cell_up hb4 (w.heap.size + 1 + 1) 0 (by omega) f5
  have g6 := cell_up hb4 (w.heap.size + 1 + 1) 1 (by omega) f6
  have g7 : ∀ o, w4.frozen? ⟨w.heap.size + 1 + 1, o, none⟩ = false := fun o => froz_up hb4 (w.heap.size + 1 + 1) o (by omega) (f7 o)
  have hz4 : w.heap.size + 1 + 1 < w4.heap.size := by have := hb4.size; omega
  have hb3' := hb''.trans (hb4.mono hb''.size)
  clear f1 f2 f3 f4 f5 f6 f7 e1 e2 e3 e4 hz3
  have hL := low_nn (1, n')
  have hM := low_nn (1, n)
  go_wp2_with fail
  refine (rbits_any _ w4 (by omega)).mono ?_
  rintro e w5 ⟨rfl, rfl⟩
  go_wp2_with fail
  refine (refwrap_1 (wrap64 (bits .or .u64 (low (1, n)) (low (1, n')))) w4).mono ?_
  rintro e w6 ⟨rfl, hb6⟩
  rw [rm_1_114 n n' hn]
  have j1 := cell_up hb6 (w.heap.size) 0 (by omega) g1
  have j2 := cell_up hb6 (w.heap.size) 1 (by omega) g2
  have j3 := cell_up hb6 (w.heap.size + 1) 0 (by omega) g3
  have j4 := cell_up hb6 (w.heap.size + 1) 1 (by omega) g4
  have j5 := cell_up hb6 (w.heap.size + 1 + 1) 0 (by omega) g5
  have j6 := cell_up hb6 (w.heap.size + 1 + 1) 1 (by omega) g6
  have j7 : ∀ o, w6.frozen? ⟨w.heap.size + 1 + 1, o, none⟩ = false := fun o => froz_up hb6 (w.heap.size + 1 + 1) o (by omega) (g7 o)
  have hz6 : w.heap.size + 1 + 1 < w6.heap.size := by have := hb6.size; omega
  clear g1 g2 g3 g4 g5 g6 g7 hL hM
  have hbe := hb3'.trans (hb6.mono hb3'.size)
  go_wp2_with fail
  refine bodyPost_ret (v := .tuple #[.agg #[.int .i64 1, .int .i64 (wk 1 (reckV 1 114 n n'))], .int .i64 0]) (by simp [results, Tryd.results18, go_sem, j5, j6]) rfl ⟨rfl, ?_⟩
  exact (hbe.setCell (by simp; omega) _).setCell (by simp; omega) _

theorem rt_1_115 (op n n' : Int) (w : World) (hcl : Hid (clsV op = (115, 1))) (hrk : Hid (rkV 115 1 = (2, 1, 1, true))) (hp : Hid (mayB (1, n) = true)) (hq : Hid (mayB (1, n') = true)) (hn : RK 1 n) :
    Calls Tryd.prog 18 #[.int .i64 op, .agg #[.int .i64 1, .int .i64 n], .agg #[.int .i64 1, .int .i64 n']] w fun e w' => e = .returned (T2 1 (wk 1 (reckV 1 115 n n')) 0) ∧ Below w.heap.size w w' := by
  go_enter Tryd.func18, Tryd.ntmps18
  go_wp2_with fail
  obtain ⟨tA, tB, tC, c7, tS⟩ := three_blocks w #[.int .i64 1, .int .i64 n] #[.int .i64 1, .int .i64 n'] #[.int .i64 0, .int .i64 0] 23
  obtain ⟨w1, hW⟩ : ∃ W, W = ((w.alloc (.cells #[.int .i64 1, .int .i64 n] 23)).alloc (.cells #[.int .i64 1, .int .i64 n'] 23)).alloc (.cells #[.int .i64 0, .int .i64 0] 23) := ⟨_, rfl⟩
  have hb : Below w.heap.size w w1 := by rw [hW]; exact ((one_block _ _).alloc (by simp) _).alloc (by simp; omega) _
  rw [← hW] at tA tB tC c7 tS ⊢
  clear hW
  have c1 := tA 0
  have c2 := tA 1
  have c3 := tB 0
  have c4 := tB 1
  have c5 := tC 0
  have c6 := tC 1
  simp at c1 c2 c3 c4 c5 c6
  clear tA tB tC
  refine (class_any op w1).mono ?_
  rintro e w0 ⟨rfl, rfl⟩
  rw [hcl.out]
  go_wp2_with fail
  refine (rkinds_any op w1).mono ?_
  rintro e w0 ⟨rfl, rfl⟩
  rw [hcl.out, show rkV _ _ = _ from hrk.out]
  unfold K4
  go_wp2_with fail
  refine (rmay_any _ _ w1).mono ?_
  rintro e w2 ⟨rfl, hb2⟩
  rw [hp.out]
  have d1 := cell_up hb2 (w.heap.size) 0 (by omega) c1
  have d2 := cell_up hb2 (w.heap.size) 1 (by omega) c2
  have d3 := cell_up hb2 (w.heap.size + 1) 0 (by omega) c3
  have d4 := cell_up hb2 (w.heap.size + 1) 1 (by omega) c4
  have d5 := cell_up hb2 (w.heap.size + 1 + 1) 0 (by omega) c5
  have d6 := cell_up hb2 (w.heap.size + 1 + 1) 1 (by omega) c6
  have d7 : ∀ o, w2.frozen? ⟨w.heap.size + 1 + 1, o, none⟩ = false := fun o => froz_up hb2 (w.heap.size + 1 + 1) o (by omega) (c7 o)
  have hz2 : w.heap.size + 1 + 1 < w2.heap.size := by have := hb2.size; omega
  have hb' := hb.trans (hb2.mono hb.size)
  clear c1 c2 c3 c4 c5 c6 c7 tS
  go_wp2_with fail
  refine (rmay_any _ _ w2).mono ?_
  rintro e w3 ⟨rfl, hb3⟩
  rw [hq.out]
  have f1 := cell_up hb3 (w.heap.size) 0 (by omega) d1
  have f2 := cell_up hb3 (w.heap.size) 1 (by omega) d2
  have f3 := cell_up hb3 (w.heap.size + 1) 0 (by omega) d3
  have f4 := cell_up hb3 (w.heap.size + 1) 1 (by omega) d4
  have f5 := cell_up hb3 (w.heap.size + 1 + 1) 0 (by omega) d5
  have f6 := cell_up hb3 (w.heap.size + 1 + 1) 1 (by omega) d6
  have f7 : ∀ o, w3.frozen? ⟨w.heap.size + 1 + 1, o, none⟩ = false := fun o => froz_up hb3 (w.heap.size + 1 + 1) o (by omega) (d7 o)
  have hz3 : w.heap.size + 1 + 1 < w3.heap.size := by have := hb3.size; omega
  have hb'' := hb'.trans (hb3.mono hb'.size)
  clear d1 d2 d3 d4 d5 d6 d7 hz2
  go_wp2_with fail
  have e1 := fun m : Above w3 => above_at f1 (by omega) m
  have e2 := fun m : Above w3 => above_at f2 (by omega) m
  have e3 := fun m : Above w3 => above_at f3 (by omega) m
  have e4 := fun m : Above w3 => above_at f4 (by omega) m
  refine wp_region_T (by kernel_rfl) (by kernel_rfl) ?_
  repeat (go_big_quiet_step (exact quiet_T (runsigned_any _ _ _)))
  refine wpQuiet_nil ?_
  intro w4 h4
  obtain ⟨⟨x4, hb4⟩, hx4⟩ := h4
  dsimp only at hx4
  subst hx4
  have g1 := cell_up hb4 (w.heap.size) 0 (by omega) f1
  have g2 := cell_up hb4 (w.heap.size) 1 (by omega) f2
  have g3 := cell_up hb4 (w.heap.size + 1) 0 (by omega) f3
  have g4 := cell_up hb4 (w.heap.size + 1) 1 (by omega) f4
  have g5 := cell_up hb4 (w.heap.size + 1 + 1) 0 (by omega) f5
  have g6 := cell_up hb4 (w.heap.size + 1 + 1) 1 (by omega) f6
  have g7 : ∀ o, w4.frozen? ⟨w.heap.size + 1 + 1, o, none⟩ = false := fun o => froz_up hb4 (w.heap.size + 1 + 1) o (by omega) (f7 o)
  have hz4 : w.heap.size + 1 + 1 < w4.heap.size := by have := hb4.size; omega
  have hb3' := hb''.trans (hb4.mono hb''.size)
  clear f1 f2 f3 f4 f5 f6 f7 e1 e2 e3 e4 hz3
  have hL := low_nn (1, n')
  have hM := low_nn (1, n)
  go_wp2_with fail
  refine (rbits_any _ w4 (by omega)).mono ?_
  rintro e w5 ⟨rfl, rfl⟩
  go_wp2_with fail
  refine (refwrap_1 (wrap64 (bits .xor .u64 (low (1, n)) (low (1, n')))) w4).mono ?_
  rintro e w6 ⟨rfl, hb6⟩
  rw [rm_1_115 n n' hn]
  have j1 := cell_up hb6 (w.heap.size) 0 (by omega) g1
  have j2 := cell_up hb6 (w.heap.size) 1 (by omega) g2
  have j3 := cell_up hb6 (w.heap.size + 1) 0 (by omega) g3
  have j4 := cell_up hb6 (w.heap.size + 1) 1 (by omega) g4
  have j5 := cell_up hb6 (w.heap.size + 1 + 1) 0 (by omega) g5
  have j6 := cell_up hb6 (w.heap.size + 1 + 1) 1 (by omega) g6
  have j7 : ∀ o, w6.frozen? ⟨w.heap.size + 1 + 1, o, none⟩ = false := fun o => froz_up hb6 (w.heap.size + 1 + 1) o (by omega) (g7 o)
  have hz6 : w.heap.size + 1 + 1 < w6.heap.size := by have := hb6.size; omega
  clear g1 g2 g3 g4 g5 g6 g7 hL hM
  have hbe := hb3'.trans (hb6.mono hb3'.size)
  go_wp2_with fail
  refine bodyPost_ret (v := .tuple #[.agg #[.int .i64 1, .int .i64 (wk 1 (reckV 1 115 n n'))], .int .i64 0]) (by simp [results, Tryd.results18, go_sem, j5, j6]) rfl ⟨rfl, ?_⟩
  exact (hbe.setCell (by simp; omega) _).setCell (by simp; omega) _

theorem rt_1_116 (op n n' : Int) (w : World) (hcl : Hid (clsV op = (116, 1))) (hrk : Hid (rkV 116 1 = (2, 1, 1, true))) (hp : Hid (mayB (1, n) = true)) (hq : Hid (mayB (1, n') = true)) (hn : RK 1 n) :
    Calls Tryd.prog 18 #[.int .i64 op, .agg #[.int .i64 1, .int .i64 n], .agg #[.int .i64 1, .int .i64 n']] w fun e w' => e = .returned (T2 1 (wk 1 (reckV 1 116 n n')) 0) ∧ Below w.heap.size w w' := by
  go_enter Tryd.func18, Tryd.ntmps18
  go_wp2_with fail
  obtain ⟨tA, tB, tC, c7, tS⟩ := three_blocks w #[.int .i64 1, .int .i64 n] #[.int .i64 1, .int .i64 n'] #[.int .i64 0, .int .i64 0] 23
  obtain ⟨w1, hW⟩ : ∃ W, W = ((w.alloc (.cells #[.int .i64 1, .int .i64 n] 23)).alloc (.cells #[.int .i64 1, .int .i64 n'] 23)).alloc (.cells #[.int .i64 0, .int .i64 0] 23) := ⟨_, rfl⟩
  have hb : Below w.heap.size w w1 := by rw [hW]; exact ((one_block _ _).alloc (by simp) _).alloc (by simp; omega) _
  rw [← hW] at tA tB tC c7 tS ⊢
  clear hW
  have c1 := tA 0
  have c2 := tA 1
  have c3 := tB 0
  have c4 := tB 1
  have c5 := tC 0
  have c6 := tC 1
  simp at c1 c2 c3 c4 c5 c6
  clear tA tB tC
  refine (class_any op w1).mono ?_
  rintro e w0 ⟨rfl, rfl⟩
  rw [hcl.out]
  go_wp2_with fail
  refine (rkinds_any op w1).mono ?_
  rintro e w0 ⟨rfl, rfl⟩
  rw [hcl.out, show rkV _ _ = _ from hrk.out]
  unfold K4
  go_wp2_with fail
  refine (rmay_any _ _ w1).mono ?_
  rintro e w2 ⟨rfl, hb2⟩
  rw [hp.out]
  have d1 := cell_up hb2 (w.heap.size) 0 (by omega) c1
  have d2 := cell_up hb2 (w.heap.size) 1 (by omega) c2
  have d3 := cell_up hb2 (w.heap.size + 1) 0 (by omega) c3
  have d4 := cell_up hb2 (w.heap.size + 1) 1 (by omega) c4
  have d5 := cell_up hb2 (w.heap.size + 1 + 1) 0 (by omega) c5
  have d6 := cell_up hb2 (w.heap.size + 1 + 1) 1 (by omega) c6
  have d7 : ∀ o, w2.frozen? ⟨w.heap.size + 1 + 1, o, none⟩ = false := fun o => froz_up hb2 (w.heap.size + 1 + 1) o (by omega) (c7 o)
  have hz2 : w.heap.size + 1 + 1 < w2.heap.size := by have := hb2.size; omega
  have hb' := hb.trans (hb2.mono hb.size)
  clear c1 c2 c3 c4 c5 c6 c7 tS
  go_wp2_with fail
  refine (rmay_any _ _ w2).mono ?_
  rintro e w3 ⟨rfl, hb3⟩
  rw [hq.out]
  have f1 := cell_up hb3 (w.heap.size) 0 (by omega) d1
  have f2 := cell_up hb3 (w.heap.size) 1 (by omega) d2
  have f3 := cell_up hb3 (w.heap.size + 1) 0 (by omega) d3
  have f4 := cell_up hb3 (w.heap.size + 1) 1 (by omega) d4
  have f5 := cell_up hb3 (w.heap.size + 1 + 1) 0 (by omega) d5
  have f6 := cell_up hb3 (w.heap.size + 1 + 1) 1 (by omega) d6
  have f7 : ∀ o, w3.frozen? ⟨w.heap.size + 1 + 1, o, none⟩ = false := fun o => froz_up hb3 (w.heap.size + 1 + 1) o (by omega) (d7 o)
  have hz3 : w.heap.size + 1 + 1 < w3.heap.size := by have := hb3.size; omega
  have hb'' := hb'.trans (hb3.mono hb'.size)
  clear d1 d2 d3 d4 d5 d6 d7 hz2
  go_wp2_with fail
  have e1 := fun m : Above w3 => above_at f1 (by omega) m
  have e2 := fun m : Above w3 => above_at f2 (by omega) m
  have e3 := fun m : Above w3 => above_at f3 (by omega) m
  have e4 := fun m : Above w3 => above_at f4 (by omega) m
  refine wp_region_T (by kernel_rfl) (by kernel_rfl) ?_
  repeat (go_big_quiet_step (exact quiet_T (runsigned_any _ _ _)))
  refine wpQuiet_nil ?_
  intro w4 h4
  obtain ⟨⟨x4, hb4⟩, hx4⟩ := h4
  dsimp only at hx4
  subst hx4
  have g1 := cell_up hb4 (w.heap.size) 0 (by omega) f1
  have g2 := cell_up hb4 (w.heap.size) 1 (by omega) f2
  have g3 := cell_up hb4 (w.heap.size + 1) 0 (by omega) f3
  have g4 := cell_up hb4 (w.heap.size + 1) 1 (by omega) f4
  have g5 := cell_up hb4 (w.heap.size + 1 + 1) 0 (by omega) f5
  have g6 := cell_up hb4 (w.heap.size + 1 + 1) 1 (by omega) f6
  have g7 : ∀ o, w4.frozen? ⟨w.heap.size + 1 + 1, o, none⟩ = false := fun o => froz_up hb4 (w.heap.size + 1 + 1) o (by omega) (f7 o)
  have hz4 : w.heap.size + 1 + 1 < w4.heap.size := by have := hb4.size; omega
  have hb3' := hb''.trans (hb4.mono hb''.size)
  clear f1 f2 f3 f4 f5 f6 f7 e1 e2 e3 e4 hz3
  have hL := low_nn (1, n')
  have hM := low_nn (1, n)
  go_wp2_with fail
  refine (rbits_any _ w4 (by omega)).mono ?_
  rintro e w5 ⟨rfl, rfl⟩
  go_wp2_with fail
  refine (refwrap_1 (wrap64 (IntKind.u64.wrap (low (1, n) * 2 ^ (low (1, n') % 32).toNat))) w4).mono ?_
  rintro e w6 ⟨rfl, hb6⟩
  rw [rm_1_116 n n' hn]
  have j1 := cell_up hb6 (w.heap.size) 0 (by omega) g1
  have j2 := cell_up hb6 (w.heap.size) 1 (by omega) g2
  have j3 := cell_up hb6 (w.heap.size + 1) 0 (by omega) g3
  have j4 := cell_up hb6 (w.heap.size + 1) 1 (by omega) g4
  have j5 := cell_up hb6 (w.heap.size + 1 + 1) 0 (by omega) g5
  have j6 := cell_up hb6 (w.heap.size + 1 + 1) 1 (by omega) g6
  have j7 : ∀ o, w6.frozen? ⟨w.heap.size + 1 + 1, o, none⟩ = false := fun o => froz_up hb6 (w.heap.size + 1 + 1) o (by omega) (g7 o)
  have hz6 : w.heap.size + 1 + 1 < w6.heap.size := by have := hb6.size; omega
  clear g1 g2 g3 g4 g5 g6 g7 hL hM
  have hbe := hb3'.trans (hb6.mono hb3'.size)
  go_wp2_with fail
  refine bodyPost_ret (v := .tuple #[.agg #[.int .i64 1, .int .i64 (wk 1 (reckV 1 116 n n'))], .int .i64 0]) (by simp [results, Tryd.results18, go_sem, j5, j6]) rfl ⟨rfl, ?_⟩
  exact (hbe.setCell (by simp; omega) _).setCell (by simp; omega) _

theorem rt_1_117 (op n n' : Int) (w : World) (hcl : Hid (clsV op = (117, 1))) (hrk : Hid (rkV 117 1 = (2, 1, 1, true))) (hp : Hid (mayB (1, n) = true)) (hq : Hid (mayB (1, n') = true)) (hn : RK 1 n) :
    Calls Tryd.prog 18 #[.int .i64 op, .agg #[.int .i64 1, .int .i64 n], .agg #[.int .i64 1, .int .i64 n']] w fun e w' => e = .returned (T2 1 (wk 1 (reckV 1 117 n n')) 0) ∧ Below w.heap.size w w' := by
  go_enter Tryd.func18, Tryd.ntmps18
  go_wp2_with fail
  obtain ⟨tA, tB, tC, c7, tS⟩ := three_blocks w #[.int .i64 1, .int .i64 n] #[.int .i64 1, .int .i64 n'] #[.int .i64 0, .int .i64 0] 23
  obtain ⟨w1, hW⟩ : ∃ W, W = ((w.alloc (.cells #[.int .i64 1, .int .i64 n] 23)).alloc (.cells #[.int .i64 1, .int .i64 n'] 23)).alloc (.cells #[.int .i64 0, .int .i64 0] 23) := ⟨_, rfl⟩
  have hb : Below w.heap.size w w1 := by rw [hW]; exact ((one_block _ _).alloc (by simp) _).alloc (by simp; omega) _
  rw [← hW] at tA tB tC c7 tS ⊢
  clear hW
  have c1 := tA 0
  have c2 := tA 1
  have c3 := tB 0
  have c4 := tB 1
  have c5 := tC 0
  have c6 := tC 1
  simp at c1 c2 c3 c4 c5 c6
  clear tA tB tC
  refine (class_any op w1).mono ?_
  rintro e w0 ⟨rfl, rfl⟩
  rw [hcl.out]
  go_wp2_with fail
  refine (rkinds_any op w1).mono ?_
  rintro e w0 ⟨rfl, rfl⟩
  rw [hcl.out, show rkV _ _ = _ from hrk.out]
  unfold K4
  go_wp2_with fail
  refine (rmay_any _ _ w1).mono ?_
  rintro e w2 ⟨rfl, hb2⟩
  rw [hp.out]
  have d1 := cell_up hb2 (w.heap.size) 0 (by omega) c1
  have d2 := cell_up hb2 (w.heap.size) 1 (by omega) c2
  have d3 := cell_up hb2 (w.heap.size + 1) 0 (by omega) c3
  have d4 := cell_up hb2 (w.heap.size + 1) 1 (by omega) c4
  have d5 := cell_up hb2 (w.heap.size + 1 + 1) 0 (by omega) c5
  have d6 := cell_up hb2 (w.heap.size + 1 + 1) 1 (by omega) c6
  have d7 : ∀ o, w2.frozen? ⟨w.heap.size + 1 + 1, o, none⟩ = false := fun o => froz_up hb2 (w.heap.size + 1 + 1) o (by omega) (c7 o)
  have hz2 : w.heap.size + 1 + 1 < w2.heap.size := by have := hb2.size; omega
  have hb' := hb.trans (hb2.mono hb.size)
  clear c1 c2 c3 c4 c5 c6 c7 tS
  go_wp2_with fail
  refine (rmay_any _ _ w2).mono ?_
  rintro e w3 ⟨rfl, hb3⟩
  rw [hq.out]
  have f1 := cell_up hb3 (w.heap.size) 0 (by omega) d1
  have f2 := cell_up hb3 (w.heap.size) 1 (by omega) d2
  have f3 := cell_up hb3 (w.heap.size + 1) 0 (by omega) d3
  have f4 := cell_up hb3 (w.heap.size + 1) 1 (by omega) d4
  have f5 := cell_up hb3 (w.heap.size + 1 + 1) 0 (by omega) d5
  have f6 := cell_up hb3 (w.heap.size + 1 + 1) 1 (by omega) d6
  have f7 : ∀ o, w3.frozen? ⟨w.heap.size + 1 + 1, o, none⟩ = false := fun o => froz_up hb3 (w.heap.size + 1 + 1) o (by omega) (d7 o)
  have hz3 : w.heap.size + 1 + 1 < w3.heap.size := by have := hb3.size; omega
  have hb'' := hb'.trans (hb3.mono hb'.size)
  clear d1 d2 d3 d4 d5 d6 d7 hz2
  go_wp2_with fail
  have e1 := fun m : Above w3 => above_at f1 (by omega) m
  have e2 := fun m : Above w3 => above_at f2 (by omega) m
  have e3 := fun m : Above w3 => above_at f3 (by omega) m
  have e4 := fun m : Above w3 => above_at f4 (by omega) m
  refine wp_region_T (by kernel_rfl) (by kernel_rfl) ?_
  repeat (go_big_quiet_step (exact quiet_T (runsigned_any _ _ _)))
  refine wpQuiet_nil ?_
  intro w4 h4
  obtain ⟨⟨x4, hb4⟩, hx4⟩ := h4
  dsimp only at hx4
  subst hx4
  have g1 := cell_up hb4 (w.heap.size) 0 (by omega) f1
  have g2 := cell_up hb4 (w.heap.size) 1 (by omega) f2
  have g3 := cell_up hb4 (w.heap.size + 1) 0 (by omega) f3
  have g4 := cell_up hb4 (w.heap.size + 1) 1 (by omega) f4
  have g5 := cell_up hb4 (w.heap.size + 1 + 1) 0 (by omega) f5
  have g6 := cell_up hb4 (w.heap.size + 1 + 1) 1 (by omega) f6
  have g7 : ∀ o, w4.frozen? ⟨w.heap.size + 1 + 1, o, none⟩ = false := fun o => froz_up hb4 (w.heap.size + 1 + 1) o (by omega) (f7 o)
  have hz4 : w.heap.size + 1 + 1 < w4.heap.size := by have := hb4.size; omega
  have hb3' := hb''.trans (hb4.mono hb''.size)
  clear f1 f2 f3 f4 f5 f6 f7 e1 e2 e3 e4 hz3
  have hL := low_nn (1, n')
  have hM := low_nn (1, n)
  go_wp2_with fail
  refine (rbits_any _ w4 (by omega)).mono ?_
  rintro e w5 ⟨rfl, rfl⟩
  go_wp2_with fail
  refine (refwrap_1 (wrap64 (IntKind.u64.wrap (n / 2 ^ (low (1, n') % 32).toNat))) w4).mono ?_
  rintro e w6 ⟨rfl, hb6⟩
  rw [rm_1_117 n n' hn]
  have j1 := cell_up hb6 (w.heap.size) 0 (by omega) g1
  have j2 := cell_up hb6 (w.heap.size) 1 (by omega) g2
  have j3 := cell_up hb6 (w.heap.size + 1) 0 (by omega) g3
  have j4 := cell_up hb6 (w.heap.size + 1) 1 (by omega) g4
  have j5 := cell_up hb6 (w.heap.size + 1 + 1) 0 (by omega) g5
  have j6 := cell_up hb6 (w.heap.size + 1 + 1) 1 (by omega) g6
  have j7 : ∀ o, w6.frozen? ⟨w.heap.size + 1 + 1, o, none⟩ = false := fun o => froz_up hb6 (w.heap.size + 1 + 1) o (by omega) (g7 o)
  have hz6 : w.heap.size + 1 + 1 < w6.heap.size := by have := hb6.size; omega
  clear g1 g2 g3 g4 g5 g6 g7 hL hM
  have hbe := hb3'.trans (hb6.mono hb3'.size)
  go_wp2_with fail
  refine bodyPost_ret (v := .tuple #[.agg #[.int .i64 1, .int .i64 (wk 1 (reckV 1 117 n n'))], .int .i64 0]) (by simp [results, Tryd.results18, go_sem, j5, j6]) rfl ⟨rfl, ?_⟩
  exact (hbe.setCell (by simp; omega) _).setCell (by simp; omega) _

theorem rt_1_118 (op n n' : Int) (w : World) (hcl : Hid (clsV op = (118, 1))) (hrk : Hid (rkV 118 1 = (2, 1, 1, true))) (hp : Hid (mayB (1, n) = true)) (hq : Hid (mayB (1, n') = true)) (hn : RK 1 n) :
    Calls Tryd.prog 18 #[.int .i64 op, .agg #[.int .i64 1, .int .i64 n], .agg #[.int .i64 1, .int .i64 n']] w fun e w' => e = .returned (T2 1 (wk 1 (reckV 1 118 n n')) 0) ∧ Below w.heap.size w w' := by
  go_enter Tryd.func18, Tryd.ntmps18
  go_wp2_with fail
  obtain ⟨tA, tB, tC, c7, tS⟩ := three_blocks w #[.int .i64 1, .int .i64 n] #[.int .i64 1, .int .i64 n'] #[.int .i64 0, .int .i64 0] 23
  obtain ⟨w1, hW⟩ : ∃ W, W = ((w.alloc (.cells #[.int .i64 1, .int .i64 n] 23)).alloc (.cells #[.int .i64 1, .int .i64 n'] 23)).alloc (.cells #[.int .i64 0, .int .i64 0] 23) := ⟨_, rfl⟩
  have hb : Below w.heap.size w w1 := by rw [hW]; exact ((one_block _ _).alloc (by simp) _).alloc (by simp; omega) _
  rw [← hW] at tA tB tC c7 tS ⊢
  clear hW
  have c1 := tA 0
  have c2 := tA 1
  have c3 := tB 0
  have c4 := tB 1
  have c5 := tC 0
  have c6 := tC 1
  simp at c1 c2 c3 c4 c5 c6
  clear tA tB tC
  refine (class_any op w1).mono ?_
  rintro e w0 ⟨rfl, rfl⟩
  rw [hcl.out]
  go_wp2_with fail
  refine (rkinds_any op w1).mono ?_
  rintro e w0 ⟨rfl, rfl⟩
  rw [hcl.out, show rkV _ _ = _ from hrk.out]
  unfold K4
  go_wp2_with fail
  refine (rmay_any _ _ w1).mono ?_
  rintro e w2 ⟨rfl, hb2⟩
  rw [hp.out]
  have d1 := cell_up hb2 (w.heap.size) 0 (by omega) c1
  have d2 := cell_up hb2 (w.heap.size) 1 (by omega) c2
  have d3 := cell_up hb2 (w.heap.size + 1) 0 (by omega) c3
  have d4 := cell_up hb2 (w.heap.size + 1) 1 (by omega) c4
  have d5 := cell_up hb2 (w.heap.size + 1 + 1) 0 (by omega) c5
  have d6 := cell_up hb2 (w.heap.size + 1 + 1) 1 (by omega) c6
  have d7 : ∀ o, w2.frozen? ⟨w.heap.size + 1 + 1, o, none⟩ = false := fun o => froz_up hb2 (w.heap.size + 1 + 1) o (by omega) (c7 o)
  have hz2 : w.heap.size + 1 + 1 < w2.heap.size := by have := hb2.size; omega
  have hb' := hb.trans (hb2.mono hb.size)
  clear c1 c2 c3 c4 c5 c6 c7 tS
  go_wp2_with fail
  refine (rmay_any _ _ w2).mono ?_
  rintro e w3 ⟨rfl, hb3⟩
  rw [hq.out]
  have f1 := cell_up hb3 (w.heap.size) 0 (by omega) d1
  have f2 := cell_up hb3 (w.heap.size) 1 (by omega) d2
  have f3 := cell_up hb3 (w.heap.size + 1) 0 (by omega) d3
  have f4 := cell_up hb3 (w.heap.size + 1) 1 (by omega) d4
  have f5 := cell_up hb3 (w.heap.size + 1 + 1) 0 (by omega) d5
  have f6 := cell_up hb3 (w.heap.size + 1 + 1) 1 (by omega) d6
  have f7 : ∀ o, w3.frozen? ⟨w.heap.size + 1 + 1, o, none⟩ = false := fun o => froz_up hb3 (w.heap.size + 1 + 1) o (by omega) (d7 o)
  have hz3 : w.heap.size + 1 + 1 < w3.heap.size := by have := hb3.size; omega
  have hb'' := hb'.trans (hb3.mono hb'.size)
  clear d1 d2 d3 d4 d5 d6 d7 hz2
  go_wp2_with fail
  have e1 := fun m : Above w3 => above_at f1 (by omega) m
  have e2 := fun m : Above w3 => above_at f2 (by omega) m
  have e3 := fun m : Above w3 => above_at f3 (by omega) m
  have e4 := fun m : Above w3 => above_at f4 (by omega) m
  refine wp_region_T (by kernel_rfl) (by kernel_rfl) ?_
  repeat (go_big_quiet_step (exact quiet_T (runsigned_any _ _ _)))
  refine wpQuiet_nil ?_
  intro w4 h4
  obtain ⟨⟨x4, hb4⟩, hx4⟩ := h4
  dsimp only at hx4
  subst hx4
  have g1 := cell_up hb4 (w.heap.size) 0 (by omega) f1
  have g2 := cell_up hb4 (w.heap.size) 1 (by omega) f2
  have g3 := cell_up hb4 (w.heap.size + 1) 0 (by omega) f3
  have g4 := cell_up hb4 (w.heap.size + 1) 1 (by omega) f4
  have g5 := cell_up hb4 (w.heap.size + 1 + 1) 0 (by omega) f5
  have g6 := cell_up hb4 (w.heap.size + 1 + 1) 1 (by omega) f6
  have g7 : ∀ o, w4.frozen? ⟨w.heap.size + 1 + 1, o, none⟩ = false := fun o => froz_up hb4 (w.heap.size + 1 + 1) o (by omega) (f7 o)
  have hz4 : w.heap.size + 1 + 1 < w4.heap.size := by have := hb4.size; omega
  have hb3' := hb''.trans (hb4.mono hb''.size)
  clear f1 f2 f3 f4 f5 f6 f7 e1 e2 e3 e4 hz3
  have hL := low_nn (1, n')
  have hM := low_nn (1, n)
  go_wp2_with fail
  refine (rbits_any _ w4 (by omega)).mono ?_
  rintro e w5 ⟨rfl, rfl⟩
  go_wp2_with fail
  refine (refwrap_1 (wrap64 (low (1, n) / 2 ^ (low (1, n') % 32).toNat)) w4).mono ?_
  rintro e w6 ⟨rfl, hb6⟩
  rw [rm_1_118 n n' hn]
  have j1 := cell_up hb6 (w.heap.size) 0 (by omega) g1
  have j2 := cell_up hb6 (w.heap.size) 1 (by omega) g2
  have j3 := cell_up hb6 (w.heap.size + 1) 0 (by omega) g3
  have j4 := cell_up hb6 (w.heap.size + 1) 1 (by omega) g4
  have j5 := cell_up hb6 (w.heap.size + 1 + 1) 0 (by omega) g5
  have j6 := cell_up hb6 (w.heap.size + 1 + 1) 1 (by omega) g6
  have j7 : ∀ o, w6.frozen? ⟨w.heap.size + 1 + 1, o, none⟩ = false := fun o => froz_up hb6 (w.heap.size + 1 + 1) o (by omega) (g7 o)
  have hz6 : w.heap.size + 1 + 1 < w6.heap.size := by have := hb6.size; omega
  clear g1 g2 g3 g4 g5 g6 g7 hL hM
  have hbe := hb3'.trans (hb6.mono hb3'.size)
  go_wp2_with fail
  refine bodyPost_ret (v := .tuple #[.agg #[.int .i64 1, .int .i64 (wk 1 (reckV 1 118 n n'))], .int .i64 0]) (by simp [results, Tryd.results18, go_sem, j5, j6]) rfl ⟨rfl, ?_⟩
  exact (hbe.setCell (by simp; omega) _).setCell (by simp; omega) _

theorem rt_1_119 (op n n' : Int) (w : World) (hcl : Hid (clsV op = (119, 1))) (hrk : Hid (rkV 119 1 = (2, 1, 1, true))) (hp : Hid (mayB (1, n) = true)) (hq : Hid (mayB (1, n') = true)) (hn : RK 1 n) :
    Calls Tryd.prog 18 #[.int .i64 op, .agg #[.int .i64 1, .int .i64 n], .agg #[.int .i64 1, .int .i64 n']] w fun e w' => e = .returned (T2 1 (wk 1 (reckV 1 119 n n')) 0) ∧ Below w.heap.size w w' := by
  go_enter Tryd.func18, Tryd.ntmps18
  go_wp2_with fail
  obtain ⟨tA, tB, tC, c7, tS⟩ := three_blocks w #[.int .i64 1, .int .i64 n] #[.int .i64 1, .int .i64 n'] #[.int .i64 0, .int .i64 0] 23
  obtain ⟨w1, hW⟩ : ∃ W, W = ((w.alloc (.cells #[.int .i64 1, .int .i64 n] 23)).alloc (.cells #[.int .i64 1, .int .i64 n'] 23)).alloc (.cells #[.int .i64 0, .int .i64 0] 23) := ⟨_, rfl⟩
  have hb : Below w.heap.size w w1 := by rw [hW]; exact ((one_block _ _).alloc (by simp) _).alloc (by simp; omega) _
  rw [← hW] at tA tB tC c7 tS ⊢
  clear hW
  have c1 := tA 0
  have c2 := tA 1
  have c3 := tB 0
  have c4 := tB 1
  have c5 := tC 0
  have c6 := tC 1
  simp at c1 c2 c3 c4 c5 c6
  clear tA tB tC
  refine (class_any op w1).mono ?_
  rintro e w0 ⟨rfl, rfl⟩
  rw [hcl.out]
  go_wp2_with fail
  refine (rkinds_any op w1).mono ?_
  rintro e w0 ⟨rfl, rfl⟩
  rw [hcl.out, show rkV _ _ = _ from hrk.out]
  unfold K4
  go_wp2_with fail
  refine (rmay_any _ _ w1).mono ?_
  rintro e w2 ⟨rfl, hb2⟩
  rw [hp.out]
  have d1 := cell_up hb2 (w.heap.size) 0 (by omega) c1
  have d2 := cell_up hb2 (w.heap.size) 1 (by omega) c2
  have d3 := cell_up hb2 (w.heap.size + 1) 0 (by omega) c3
  have d4 := cell_up hb2 (w.heap.size + 1) 1 (by omega) c4
  have d5 := cell_up hb2 (w.heap.size + 1 + 1) 0 (by omega) c5
  have d6 := cell_up hb2 (w.heap.size + 1 + 1) 1 (by omega) c6
  have d7 : ∀ o, w2.frozen? ⟨w.heap.size + 1 + 1, o, none⟩ = false := fun o => froz_up hb2 (w.heap.size + 1 + 1) o (by omega) (c7 o)
  have hz2 : w.heap.size + 1 + 1 < w2.heap.size := by have := hb2.size; omega
  have hb' := hb.trans (hb2.mono hb.size)
  clear c1 c2 c3 c4 c5 c6 c7 tS
  go_wp2_with fail
  refine (rmay_any _ _ w2).mono ?_
  rintro e w3 ⟨rfl, hb3⟩
  rw [hq.out]
  have f1 := cell_up hb3 (w.heap.size) 0 (by omega) d1
  have f2 := cell_up hb3 (w.heap.size) 1 (by omega) d2
  have f3 := cell_up hb3 (w.heap.size + 1) 0 (by omega) d3
  have f4 := cell_up hb3 (w.heap.size + 1) 1 (by omega) d4
  have f5 := cell_up hb3 (w.heap.size + 1 + 1) 0 (by omega) d5
  have f6 := cell_up hb3 (w.heap.size + 1 + 1) 1 (by omega) d6
  have f7 : ∀ o, w3.frozen? ⟨w.heap.size + 1 + 1, o, none⟩ = false := fun o => froz_up hb3 (w.heap.size + 1 + 1) o (by omega) (d7 o)
  have hz3 : w.heap.size + 1 + 1 < w3.heap.size := by have := hb3.size; omega
  have hb'' := hb'.trans (hb3.mono hb'.size)
  clear d1 d2 d3 d4 d5 d6 d7 hz2
  go_wp2_with fail
  have e1 := fun m : Above w3 => above_at f1 (by omega) m
  have e2 := fun m : Above w3 => above_at f2 (by omega) m
  have e3 := fun m : Above w3 => above_at f3 (by omega) m
  have e4 := fun m : Above w3 => above_at f4 (by omega) m
  refine wp_region_T (by kernel_rfl) (by kernel_rfl) ?_
  repeat (go_big_quiet_step (exact quiet_T (runsigned_any _ _ _)))
  refine wpQuiet_nil ?_
  intro w4 h4
  obtain ⟨⟨x4, hb4⟩, hx4⟩ := h4
  dsimp only at hx4
  subst hx4
  have g1 := cell_up hb4 (w.heap.size) 0 (by omega) f1
  have g2 := cell_up hb4 (w.heap.size) 1 (by omega) f2
  have g3 := cell_up hb4 (w.heap.size + 1) 0 (by omega) f3
  have g4 := cell_up hb4 (w.heap.size + 1) 1 (by omega) f4
  have g5 := cell_up hb4 (w.heap.size + 1 + 1) 0 (by omega) f5
  have g6 := cell_up hb4 (w.heap.size + 1 + 1) 1 (by omega) f6
  have g7 : ∀ o, w4.frozen? ⟨w.heap.size + 1 + 1, o, none⟩ = false := fun o => froz_up hb4 (w.heap.size + 1 + 1) o (by omega) (f7 o)
  have hz4 : w.heap.size + 1 + 1 < w4.heap.size := by have := hb4.size; omega
  have hb3' := hb''.trans (hb4.mono hb''.size)
  clear f1 f2 f3 f4 f5 f6 f7 e1 e2 e3 e4 hz3
  have hL := low_nn (1, n')
  have hM := low_nn (1, n)
  go_wp2_with fail
  refine (rbits_any _ w4 (by omega)).mono ?_
  rintro e w5 ⟨rfl, rfl⟩
  go_wp2_with fail
  refine (refwrap_1 (wrap64 (bits .or .u64 (IntKind.u64.wrap (low (1, n) * 2 ^ (low (1, n') % 32).toNat)) (low (1, n) / 2 ^ (32 - (low (1, n') % 32)).toNat))) w4).mono ?_
  rintro e w6 ⟨rfl, hb6⟩
  rw [rm_1_119 n n' hn]
  have j1 := cell_up hb6 (w.heap.size) 0 (by omega) g1
  have j2 := cell_up hb6 (w.heap.size) 1 (by omega) g2
  have j3 := cell_up hb6 (w.heap.size + 1) 0 (by omega) g3
  have j4 := cell_up hb6 (w.heap.size + 1) 1 (by omega) g4
  have j5 := cell_up hb6 (w.heap.size + 1 + 1) 0 (by omega) g5
  have j6 := cell_up hb6 (w.heap.size + 1 + 1) 1 (by omega) g6
  have j7 : ∀ o, w6.frozen? ⟨w.heap.size + 1 + 1, o, none⟩ = false := fun o => froz_up hb6 (w.heap.size + 1 + 1) o (by omega) (g7 o)
  have hz6 : w.heap.size + 1 + 1 < w6.heap.size := by have := hb6.size; omega
  clear g1 g2 g3 g4 g5 g6 g7 hL hM
  have hbe := hb3'.trans (hb6.mono hb3'.size)
  go_wp2_with fail
  refine bodyPost_ret (v := .tuple #[.agg #[.int .i64 1, .int .i64 (wk 1 (reckV 1 119 n n'))], .int .i64 0]) (by simp [results, Tryd.results18, go_sem, j5, j6]) rfl ⟨rfl, ?_⟩
  exact (hbe.setCell (by simp; omega) _).setCell (by simp; omega) _

theorem rt_1_120 (op n n' : Int) (w : World) (hcl : Hid (clsV op = (120, 1))) (hrk : Hid (rkV 120 1 = (2, 1, 1, true))) (hp : Hid (mayB (1, n) = true)) (hq : Hid (mayB (1, n') = true)) (hn : RK 1 n) :
    Calls Tryd.prog 18 #[.int .i64 op, .agg #[.int .i64 1, .int .i64 n], .agg #[.int .i64 1, .int .i64 n']] w fun e w' => e = .returned (T2 1 (wk 1 (reckV 1 120 n n')) 0) ∧ Below w.heap.size w w' := by
  go_enter Tryd.func18, Tryd.ntmps18
  go_wp2_with fail
  obtain ⟨tA, tB, tC, c7, tS⟩ := three_blocks w #[.int .i64 1, .int .i64 n] #[.int .i64 1, .int .i64 n'] #[.int .i64 0, .int .i64 0] 23
  obtain ⟨w1, hW⟩ : ∃ W, W = ((w.alloc (.cells #[.int .i64 1, .int .i64 n] 23)).alloc (.cells #[.int .i64 1, .int .i64 n'] 23)).alloc (.cells #[.int .i64 0, .int .i64 0] 23) := ⟨_, rfl⟩
  have hb : Below w.heap.size w w1 := by rw [hW]; exact ((one_block _ _).alloc (by simp) _).alloc (by simp; omega) _
  rw [← hW] at tA tB tC c7 tS ⊢
  clear hW
  have c1 := tA 0
  have c2 := tA 1
  have c3 := tB 0
  have c4 := tB 1
  have c5 := tC 0
  have c6 := tC 1
  simp at c1 c2 c3 c4 c5 c6
  clear tA tB tC
  refine (class_any op w1).mono ?_
  rintro e w0 ⟨rfl, rfl⟩
  rw [hcl.out]
  go_wp2_with fail
  refine (rkinds_any op w1).mono ?_
  rintro e w0 ⟨rfl, rfl⟩
  rw [hcl.out, show rkV _ _ = _ from hrk.out]
  unfold K4
  go_wp2_with fail
  refine (rmay_any _ _ w1).mono ?_
  rintro e w2 ⟨rfl, hb2⟩
  rw [hp.out]
  have d1 := cell_up hb2 (w.heap.size) 0 (by omega) c1
  have d2 := cell_up hb2 (w.heap.size) 1 (by omega) c2
  have d3 := cell_up hb2 (w.heap.size + 1) 0 (by omega) c3
  have d4 := cell_up hb2 (w.heap.size + 1) 1 (by omega) c4
  have d5 := cell_up hb2 (w.heap.size + 1 + 1) 0 (by omega) c5
  have d6 := cell_up hb2 (w.heap.size + 1 + 1) 1 (by omega) c6
  have d7 : ∀ o, w2.frozen? ⟨w.heap.size + 1 + 1, o, none⟩ = false := fun o => froz_up hb2 (w.heap.size + 1 + 1) o (by omega) (c7 o)
  have hz2 : w.heap.size + 1 + 1 < w2.heap.size := by have := hb2.size; omega
  have hb' := hb.trans (hb2.mono hb.size)
  clear c1 c2 c3 c4 c5 c6 c7 tS
  go_wp2_with fail
  refine (rmay_any _ _ w2).mono ?_
  rintro e w3 ⟨rfl, hb3⟩
  rw [hq.out]
  have f1 := cell_up hb3 (w.heap.size) 0 (by omega) d1
  have f2 := cell_up hb3 (w.heap.size) 1 (by omega) d2
  have f3 := cell_up hb3 (w.heap.size + 1) 0 (by omega) d3
  have f4 := cell_up hb3 (w.heap.size + 1) 1 (by omega) d4
  have f5 := cell_up hb3 (w.heap.size + 1 + 1) 0 (by omega) d5
  have f6 := cell_up hb3 (w.heap.size + 1 + 1) 1 (by omega) d6
  have f7 : ∀ o, w3.frozen? ⟨w.heap.size + 1 + 1, o, none⟩ = false := fun o => froz_up hb3 (w.heap.size + 1 + 1) o (by omega) (d7 o)
  have hz3 : w.heap.size + 1 + 1 < w3.heap.size := by have := hb3.size; omega
  have hb'' := hb'.trans (hb3.mono hb'.size)
  clear d1 d2 d3 d4 d5 d6 d7 hz2
  go_wp2_with fail
  have e1 := fun m : Above w3 => above_at f1 (by omega) m
  have e2 := fun m : Above w3 => above_at f2 (by omega) m
  have e3 := fun m : Above w3 => above_at f3 (by omega) m
  have e4 := fun m : Above w3 => above_at f4 (by omega) m
  refine wp_region_T (by kernel_rfl) (by kernel_rfl) ?_
  repeat (go_big_quiet_step (exact quiet_T (runsigned_any _ _ _)))
  refine wpQuiet_nil ?_
  intro w4 h4
  obtain ⟨⟨x4, hb4⟩, hx4⟩ := h4
  dsimp only at hx4
  subst hx4
  have g1 := cell_up hb4 (w.heap.size) 0 (by omega) f1
  have g2 := cell_up hb4 (w.heap.size) 1 (by omega) f2
  have g3 := cell_up hb4 (w.heap.size + 1) 0 (by omega) f3
  have g4 := cell_up hb4 (w.heap.size + 1) 1 (by omega) f4
  have g5 := cell_up hb4 (w.heap.size + 1 + 1) 0 (by omega) f5
  have g6 := cell_up hb4 (w.heap.size + 1 + 1) 1 (by omega) f6
  have g7 : ∀ o, w4.frozen? ⟨w.heap.size + 1 + 1, o, none⟩ = false := fun o => froz_up hb4 (w.heap.size + 1 + 1) o (by omega) (f7 o)
  have hz4 : w.heap.size + 1 + 1 < w4.heap.size := by have := hb4.size; omega
  have hb3' := hb''.trans (hb4.mono hb''.size)
  clear f1 f2 f3 f4 f5 f6 f7 e1 e2 e3 e4 hz3
  have hL := low_nn (1, n')
  have hM := low_nn (1, n)
  go_wp2_with fail
  refine (rbits_any _ w4 (by omega)).mono ?_
  rintro e w5 ⟨rfl, rfl⟩
  go_wp2_with fail
  refine (refwrap_1 (wrap64 (bits .or .u64 (low (1, n) / 2 ^ (low (1, n') % 32).toNat) (IntKind.u64.wrap (low (1, n) * 2 ^ (32 - (low (1, n') % 32)).toNat)))) w4).mono ?_
  rintro e w6 ⟨rfl, hb6⟩
  rw [rm_1_120 n n' hn]
  have j1 := cell_up hb6 (w.heap.size) 0 (by omega) g1
  have j2 := cell_up hb6 (w.heap.size) 1 (by omega) g2
  have j3 := cell_up hb6 (w.heap.size + 1) 0 (by omega) g3
  have j4 := cell_up hb6 (w.heap.size + 1) 1 (by omega) g4
  have j5 := cell_up hb6 (w.heap.size + 1 + 1) 0 (by omega) g5
  have j6 := cell_up hb6 (w.heap.size + 1 + 1) 1 (by omega) g6
  have j7 : ∀ o, w6.frozen? ⟨w.heap.size + 1 + 1, o, none⟩ = false := fun o => froz_up hb6 (w.heap.size + 1 + 1) o (by omega) (g7 o)
  have hz6 : w.heap.size + 1 + 1 < w6.heap.size := by have := hb6.size; omega
  clear g1 g2 g3 g4 g5 g6 g7 hL hM
  have hbe := hb3'.trans (hb6.mono hb3'.size)
  go_wp2_with fail
  refine bodyPost_ret (v := .tuple #[.agg #[.int .i64 1, .int .i64 (wk 1 (reckV 1 120 n n'))], .int .i64 0]) (by simp [results, Tryd.results18, go_sem, j5, j6]) rfl ⟨rfl, ?_⟩
  exact (hbe.setCell (by simp; omega) _).setCell (by simp; omega) _

theorem rtd_1 (op c n n' : Int) (w : World) (hc : c = 109 ∨ c = 110 ∨ c = 111 ∨ c = 112) (hcl : Hid (clsV op = (c, 1))) (hrk : Hid (rkV c 1 = (2, 1, 1, true))) (hp : Hid (mayB (1, n) = true)) (hq : Hid (mayB (1, n') = true)) (hn : RK 1 n) (hm : RK 1 n') :
    Calls Tryd.prog 18 #[.int .i64 op, .agg #[.int .i64 1, .int .i64 n], .agg #[.int .i64 1, .int .i64 n']] w fun e w' => e = .returned (T2 (divV 1 c n n').1 (divV 1 c n n').2.1 (divV 1 c n n').2.2) ∧ Below w.heap.size w w' := by
  have q1 : decide (c ≤ 79) = false := decide_eq_false (by omega)
  have q2 : decide (109 ≤ c) = true := decide_eq_true (by omega)
  have q3 : decide (c ≤ 112) = true := decide_eq_true (by omega)
  go_enter Tryd.func18, Tryd.ntmps18
  go_wp2_with fail
  obtain ⟨tA, tB, tC, c7, tS⟩ := three_blocks w #[.int .i64 1, .int .i64 n] #[.int .i64 1, .int .i64 n'] #[.int .i64 0, .int .i64 0] 23
  obtain ⟨w1, hW⟩ : ∃ W, W = ((w.alloc (.cells #[.int .i64 1, .int .i64 n] 23)).alloc (.cells #[.int .i64 1, .int .i64 n'] 23)).alloc (.cells #[.int .i64 0, .int .i64 0] 23) := ⟨_, rfl⟩
  have hb : Below w.heap.size w w1 := by rw [hW]; exact ((one_block _ _).alloc (by simp) _).alloc (by simp; omega) _
  rw [← hW] at tA tB tC c7 tS ⊢
  clear hW
  have c1 := tA 0
  have c2 := tA 1
  have c3 := tB 0
  have c4 := tB 1
  have c5 := tC 0
  have c6 := tC 1
  simp at c1 c2 c3 c4 c5 c6
  clear tA tB tC
  refine (class_any op w1).mono ?_
  rintro e w0 ⟨rfl, rfl⟩
  rw [hcl.out]
  go_wp2_with fail
  refine (rkinds_any op w1).mono ?_
  rintro e w0 ⟨rfl, rfl⟩
  rw [hcl.out, show rkV _ _ = _ from hrk.out]
  unfold K4
  go_wp2_with fail
  refine (rmay_any _ _ w1).mono ?_
  rintro e w2 ⟨rfl, hb2⟩
  rw [hp.out]
  have d1 := cell_up hb2 (w.heap.size) 0 (by omega) c1
  have d2 := cell_up hb2 (w.heap.size) 1 (by omega) c2
  have d3 := cell_up hb2 (w.heap.size + 1) 0 (by omega) c3
  have d4 := cell_up hb2 (w.heap.size + 1) 1 (by omega) c4
  have d5 := cell_up hb2 (w.heap.size + 1 + 1) 0 (by omega) c5
  have d6 := cell_up hb2 (w.heap.size + 1 + 1) 1 (by omega) c6
  have d7 : ∀ o, w2.frozen? ⟨w.heap.size + 1 + 1, o, none⟩ = false := fun o => froz_up hb2 (w.heap.size + 1 + 1) o (by omega) (c7 o)
  have hz2 : w.heap.size + 1 + 1 < w2.heap.size := by have := hb2.size; omega
  have hb' := hb.trans (hb2.mono hb.size)
  clear c1 c2 c3 c4 c5 c6 c7 tS
  go_wp2_with fail
  refine (rmay_any _ _ w2).mono ?_
  rintro e w3 ⟨rfl, hb3⟩
  rw [hq.out]
  have f1 := cell_up hb3 (w.heap.size) 0 (by omega) d1
  have f2 := cell_up hb3 (w.heap.size) 1 (by omega) d2
  have f3 := cell_up hb3 (w.heap.size + 1) 0 (by omega) d3
  have f4 := cell_up hb3 (w.heap.size + 1) 1 (by omega) d4
  have f5 := cell_up hb3 (w.heap.size + 1 + 1) 0 (by omega) d5
  have f6 := cell_up hb3 (w.heap.size + 1 + 1) 1 (by omega) d6
  have f7 : ∀ o, w3.frozen? ⟨w.heap.size + 1 + 1, o, none⟩ = false := fun o => froz_up hb3 (w.heap.size + 1 + 1) o (by omega) (d7 o)
  have hz3 : w.heap.size + 1 + 1 < w3.heap.size := by have := hb3.size; omega
  have hb'' := hb'.trans (hb3.mono hb'.size)
  clear d1 d2 d3 d4 d5 d6 d7 hz2
  go_wp2_with fail
  have e1 := fun m : Above w3 => above_at f1 (by omega) m
  have e2 := fun m : Above w3 => above_at f2 (by omega) m
  have e3 := fun m : Above w3 => above_at f3 (by omega) m
  have e4 := fun m : Above w3 => above_at f4 (by omega) m
  refine wp_region_T (by kernel_rfl) (by kernel_rfl) ?_
  repeat (go_big_quiet_step (exact quiet_T (runsigned_any _ _ _)))
  refine wpQuiet_nil ?_
  intro w4 h4
  obtain ⟨⟨x4, hb4⟩, hx4⟩ := h4
  dsimp only at hx4
  subst hx4
  have g1 := cell_up hb4 (w.heap.size) 0 (by omega) f1
  have g2 := cell_up hb4 (w.heap.size) 1 (by omega) f2
  have g3 := cell_up hb4 (w.heap.size + 1) 0 (by omega) f3
  have g4 := cell_up hb4 (w.heap.size + 1) 1 (by omega) f4
  have g5 := cell_up hb4 (w.heap.size + 1 + 1) 0 (by omega) f5
  have g6 := cell_up hb4 (w.heap.size + 1 + 1) 1 (by omega) f6
  have g7 : ∀ o, w4.frozen? ⟨w.heap.size + 1 + 1, o, none⟩ = false := fun o => froz_up hb4 (w.heap.size + 1 + 1) o (by omega) (f7 o)
  have hz4 : w.heap.size + 1 + 1 < w4.heap.size := by have := hb4.size; omega
  have hb3' := hb''.trans (hb4.mono hb''.size)
  clear f1 f2 f3 f4 f5 f6 f7 e1 e2 e3 e4 hz3
  go_wp2_with fail
  refine (rdiv_any c 1 n n' w4 (by omega) hc hn hm).mono ?_
  rintro e w6 ⟨rfl, hb6⟩
  have j1 := cell_up hb6 (w.heap.size) 0 (by omega) g1
  have j2 := cell_up hb6 (w.heap.size) 1 (by omega) g2
  have j3 := cell_up hb6 (w.heap.size + 1) 0 (by omega) g3
  have j4 := cell_up hb6 (w.heap.size + 1) 1 (by omega) g4
  have j5 := cell_up hb6 (w.heap.size + 1 + 1) 0 (by omega) g5
  have j6 := cell_up hb6 (w.heap.size + 1 + 1) 1 (by omega) g6
  have j7 : ∀ o, w6.frozen? ⟨w.heap.size + 1 + 1, o, none⟩ = false := fun o => froz_up hb6 (w.heap.size + 1 + 1) o (by omega) (g7 o)
  have hz6 : w.heap.size + 1 + 1 < w6.heap.size := by have := hb6.size; omega
  clear g1 g2 g3 g4 g5 g6 g7
  unfold T2
  have hbe := hb3'.trans (hb6.mono hb3'.size)
  go_wp2_with fail
  refine bodyPost_ret (v := .tuple #[.agg #[.int .i64 (divV 1 c n n').1, .int .i64 (divV 1 c n n').2.1], .int .i64 (divV 1 c n n').2.2]) (by simp [results, Tryd.results18, go_sem, j5, j6]) rfl ⟨rfl, ?_⟩
  exact (hbe.setCell (by simp; omega) _).setCell (by simp; omega) _

theorem rtc_1 (op c n n' : Int) (b : Bool) (w : World) (hc : c ≤ 79) (hcmp : ∀ w, Calls Tryd.prog 43 #[.int .i64 c, .int .i64 n, .int .i64 n', .int .u64 (low (1, n)), .int .u64 (low (1, n'))] w fun e w' => e = .returned (.bool b) ∧ w = w') (hcl : Hid (clsV op = (c, 1))) (hrk : Hid (rkV c 1 = (2, 1, 1, true))) (hp : Hid (mayB (1, n) = true)) (hq : Hid (mayB (1, n') = true)) :
    Calls Tryd.prog 18 #[.int .i64 op, .agg #[.int .i64 1, .int .i64 n], .agg #[.int .i64 1, .int .i64 n']] w fun e w' => e = .returned (T2 1 (b2i b) 0) ∧ Below w.heap.size w w' := by
  have q1 : decide (c ≤ 79) = true := decide_eq_true hc
  have HCM := Lib.hid hcmp
  clear hcmp hc
  go_enter Tryd.func18, Tryd.ntmps18
  go_wp2_with fail
  obtain ⟨tA, tB, tC, c7, tS⟩ := three_blocks w #[.int .i64 1, .int .i64 n] #[.int .i64 1, .int .i64 n'] #[.int .i64 0, .int .i64 0] 23
  obtain ⟨w1, hW⟩ : ∃ W, W = ((w.alloc (.cells #[.int .i64 1, .int .i64 n] 23)).alloc (.cells #[.int .i64 1, .int .i64 n'] 23)).alloc (.cells #[.int .i64 0, .int .i64 0] 23) := ⟨_, rfl⟩
  have hb : Below w.heap.size w w1 := by rw [hW]; exact ((one_block _ _).alloc (by simp) _).alloc (by simp; omega) _
  rw [← hW] at tA tB tC c7 tS ⊢
  clear hW
  have c1 := tA 0
  have c2 := tA 1
  have c3 := tB 0
  have c4 := tB 1
  have c5 := tC 0
  have c6 := tC 1
  simp at c1 c2 c3 c4 c5 c6
  clear tA tB tC
  refine (class_any op w1).mono ?_
  rintro e w0 ⟨rfl, rfl⟩
  rw [hcl.out]
  go_wp2_with fail
  refine (rkinds_any op w1).mono ?_
  rintro e w0 ⟨rfl, rfl⟩
  rw [hcl.out, show rkV _ _ = _ from hrk.out]
  unfold K4
  go_wp2_with fail
  refine (rmay_any _ _ w1).mono ?_
  rintro e w2 ⟨rfl, hb2⟩
  rw [hp.out]
  have d1 := cell_up hb2 (w.heap.size) 0 (by omega) c1
  have d2 := cell_up hb2 (w.heap.size) 1 (by omega) c2
  have d3 := cell_up hb2 (w.heap.size + 1) 0 (by omega) c3
  have d4 := cell_up hb2 (w.heap.size + 1) 1 (by omega) c4
  have d5 := cell_up hb2 (w.heap.size + 1 + 1) 0 (by omega) c5
  have d6 := cell_up hb2 (w.heap.size + 1 + 1) 1 (by omega) c6
  have d7 : ∀ o, w2.frozen? ⟨w.heap.size + 1 + 1, o, none⟩ = false := fun o => froz_up hb2 (w.heap.size + 1 + 1) o (by omega) (c7 o)
  have hz2 : w.heap.size + 1 + 1 < w2.heap.size := by have := hb2.size; omega
  have hb' := hb.trans (hb2.mono hb.size)
  clear c1 c2 c3 c4 c5 c6 c7 tS
  go_wp2_with fail
  refine (rmay_any _ _ w2).mono ?_
  rintro e w3 ⟨rfl, hb3⟩
  rw [hq.out]
  have f1 := cell_up hb3 (w.heap.size) 0 (by omega) d1
  have f2 := cell_up hb3 (w.heap.size) 1 (by omega) d2
  have f3 := cell_up hb3 (w.heap.size + 1) 0 (by omega) d3
  have f4 := cell_up hb3 (w.heap.size + 1) 1 (by omega) d4
  have f5 := cell_up hb3 (w.heap.size + 1 + 1) 0 (by omega) d5
  have f6 := cell_up hb3 (w.heap.size + 1 + 1) 1 (by omega) d6
  have f7 : ∀ o, w3.frozen? ⟨w.heap.size + 1 + 1, o, none⟩ = false := fun o => froz_up hb3 (w.heap.size + 1 + 1) o (by omega) (d7 o)
  have hz3 : w.heap.size + 1 + 1 < w3.heap.size := by have := hb3.size; omega
  have hb'' := hb'.trans (hb3.mono hb'.size)
  clear d1 d2 d3 d4 d5 d6 d7 hz2
  go_wp2_with fail
  have e1 := fun m : Above w3 => above_at f1 (by omega) m
  have e2 := fun m : Above w3 => above_at f2 (by omega) m
  have e3 := fun m : Above w3 => above_at f3 (by omega) m
  have e4 := fun m : Above w3 => above_at f4 (by omega) m
  refine wp_region_T (by kernel_rfl) (by kernel_rfl) ?_
  repeat (go_big_quiet_step (exact quiet_T (runsigned_any _ _ _)))
  refine wpQuiet_nil ?_
  intro w4 h4
  obtain ⟨⟨x4, hb4⟩, hx4⟩ := h4
  dsimp only at hx4
  subst hx4
  have g1 := cell_up hb4 (w.heap.size) 0 (by omega) f1
  have g2 := cell_up hb4 (w.heap.size) 1 (by omega) f2
  have g3 := cell_up hb4 (w.heap.size + 1) 0 (by omega) f3
  have g4 := cell_up hb4 (w.heap.size + 1) 1 (by omega) f4
  have g5 := cell_up hb4 (w.heap.size + 1 + 1) 0 (by omega) f5
  have g6 := cell_up hb4 (w.heap.size + 1 + 1) 1 (by omega) f6
  have g7 : ∀ o, w4.frozen? ⟨w.heap.size + 1 + 1, o, none⟩ = false := fun o => froz_up hb4 (w.heap.size + 1 + 1) o (by omega) (f7 o)
  have hz4 : w.heap.size + 1 + 1 < w4.heap.size := by have := hb4.size; omega
  have hb3' := hb''.trans (hb4.mono hb''.size)
  clear f1 f2 f3 f4 f5 f6 f7 e1 e2 e3 e4 hz3
  go_wp2_with fail
  refine (HCM.out w4).mono ?_
  rintro e w5 ⟨rfl, rfl⟩
  go_wp2_with fail
  refine (truth_any b w4).mono ?_
  rintro e w6 ⟨rfl, hb6⟩
  have j1 := cell_up hb6 (w.heap.size) 0 (by omega) g1
  have j2 := cell_up hb6 (w.heap.size) 1 (by omega) g2
  have j3 := cell_up hb6 (w.heap.size + 1) 0 (by omega) g3
  have j4 := cell_up hb6 (w.heap.size + 1) 1 (by omega) g4
  have j5 := cell_up hb6 (w.heap.size + 1 + 1) 0 (by omega) g5
  have j6 := cell_up hb6 (w.heap.size + 1 + 1) 1 (by omega) g6
  have j7 : ∀ o, w6.frozen? ⟨w.heap.size + 1 + 1, o, none⟩ = false := fun o => froz_up hb6 (w.heap.size + 1 + 1) o (by omega) (g7 o)
  have hz6 : w.heap.size + 1 + 1 < w6.heap.size := by have := hb6.size; omega
  clear g1 g2 g3 g4 g5 g6 g7
  have hbe := hb3'.trans (hb6.mono hb3'.size)
  go_wp2_with fail
  refine bodyPost_ret (v := .tuple #[.agg #[.int .i64 1, .int .i64 (b2i b)], .int .i64 0]) (by simp [results, Tryd.results18, go_sem, j5, j6]) rfl ⟨rfl, ?_⟩
  exact (hbe.setCell (by simp; omega) _).setCell (by simp; omega) _

theorem rt_2_106 (op n n' : Int) (w : World) (hcl : Hid (clsV op = (106, 2))) (hrk : Hid (rkV 106 2 = (2, 2, 2, true))) (hp : Hid (mayB (2, n) = true)) (hq : Hid (mayB (2, n') = true)) (hn : RK 2 n) :
    Calls Tryd.prog 18 #[.int .i64 op, .agg #[.int .i64 2, .int .i64 n], .agg #[.int .i64 2, .int .i64 n']] w fun e w' => e = .returned (T2 2 (wk 2 (reckV 2 106 n n')) 0) ∧ Below w.heap.size w w' := by
  go_enter Tryd.func18, Tryd.ntmps18
  go_wp2_with fail
  obtain ⟨tA, tB, tC, c7, tS⟩ := three_blocks w #[.int .i64 2, .int .i64 n] #[.int .i64 2, .int .i64 n'] #[.int .i64 0, .int .i64 0] 23
  obtain ⟨w1, hW⟩ : ∃ W, W = ((w.alloc (.cells #[.int .i64 2, .int .i64 n] 23)).alloc (.cells #[.int .i64 2, .int .i64 n'] 23)).alloc (.cells #[.int .i64 0, .int .i64 0] 23) := ⟨_, rfl⟩
  have hb : Below w.heap.size w w1 := by rw [hW]; exact ((one_block _ _).alloc (by simp) _).alloc (by simp; omega) _
  rw [← hW] at tA tB tC c7 tS ⊢
  clear hW
  have c1 := tA 0
  have c2 := tA 1
  have c3 := tB 0
  have c4 := tB 1
  have c5 := tC 0
  have c6 := tC 1
  simp at c1 c2 c3 c4 c5 c6
  clear tA tB tC
  refine (class_any op w1).mono ?_
  rintro e w0 ⟨rfl, rfl⟩
  rw [hcl.out]
  go_wp2_with fail
  refine (rkinds_any op w1).mono ?_
  rintro e w0 ⟨rfl, rfl⟩
  rw [hcl.out, show rkV _ _ = _ from hrk.out]
  unfold K4
  go_wp2_with fail
  refine (rmay_any _ _ w1).mono ?_
  rintro e w2 ⟨rfl, hb2⟩
  rw [hp.out]
  have d1 := cell_up hb2 (w.heap.size) 0 (by omega) c1
  have d2 := cell_up hb2 (w.heap.size) 1 (by omega) c2
  have d3 := cell_up hb2 (w.heap.size + 1) 0 (by omega) c3
  have d4 := cell_up hb2 (w.heap.size + 1) 1 (by omega) c4
  have d5 := cell_up hb2 (w.heap.size + 1 + 1) 0 (by omega) c5
  have d6 := cell_up hb2 (w.heap.size + 1 + 1) 1 (by omega) c6
  have d7 : ∀ o, w2.frozen? ⟨w.heap.size + 1 + 1, o, none⟩ = false := fun o => froz_up hb2 (w.heap.size + 1 + 1) o (by omega) (c7 o)
  have hz2 : w.heap.size + 1 + 1 < w2.heap.size := by have := hb2.size; omega
  have hb' := hb.trans (hb2.mono hb.size)
  clear c1 c2 c3 c4 c5 c6 c7 tS
  go_wp2_with fail
  refine (rmay_any _ _ w2).mono ?_
  rintro e w3 ⟨rfl, hb3⟩
  rw [hq.out]
  have f1 := cell_up hb3 (w.heap.size) 0 (by omega) d1
  have f2 := cell_up hb3 (w.heap.size) 1 (by omega) d2
  have f3 := cell_up hb3 (w.heap.size + 1) 0 (by omega) d3
  have f4 := cell_up hb3 (w.heap.size + 1) 1 (by omega) d4
  have f5 := cell_up hb3 (w.heap.size + 1 + 1) 0 (by omega) d5
  have f6 := cell_up hb3 (w.heap.size + 1 + 1) 1 (by omega) d6
  have f7 : ∀ o, w3.frozen? ⟨w.heap.size + 1 + 1, o, none⟩ = false := fun o => froz_up hb3 (w.heap.size + 1 + 1) o (by omega) (d7 o)
  have hz3 : w.heap.size + 1 + 1 < w3.heap.size := by have := hb3.size; omega
  have hb'' := hb'.trans (hb3.mono hb'.size)
  clear d1 d2 d3 d4 d5 d6 d7 hz2
  go_wp2_with fail
  have e1 := fun m : Above w3 => above_at f1 (by omega) m
  have e2 := fun m : Above w3 => above_at f2 (by omega) m
  have e3 := fun m : Above w3 => above_at f3 (by omega) m
  have e4 := fun m : Above w3 => above_at f4 (by omega) m
  refine wp_region_T (by kernel_rfl) (by kernel_rfl) ?_
  repeat (go_big_quiet_step (exact quiet_T (runsigned_any _ _ _)))
  refine wpQuiet_nil ?_
  intro w4 h4
  obtain ⟨⟨x4, hb4⟩, hx4⟩ := h4
  dsimp only at hx4
  subst hx4
  have g1 := cell_up hb4 (w.heap.size) 0 (by omega) f1
  have g2 := cell_up hb4 (w.heap.size) 1 (by omega) f2
  have g3 := cell_up hb4 (w.heap.size + 1) 0 (by omega) f3
  have g4 := cell_up hb4 (w.heap.size + 1) 1 (by omega) f4
  have g5 := cell_up hb4 (w.heap.size + 1 + 1) 0 (by omega) f5
  have g6 := cell_up hb4 (w.heap.size + 1 + 1) 1 (by omega) f6
  have g7 : ∀ o, w4.frozen? ⟨w.heap.size + 1 + 1, o, none⟩ = false := fun o => froz_up hb4 (w.heap.size + 1 + 1) o (by omega) (f7 o)
  have hz4 : w.heap.size + 1 + 1 < w4.heap.size := by have := hb4.size; omega
  have hb3' := hb''.trans (hb4.mono hb''.size)
  clear f1 f2 f3 f4 f5 f6 f7 e1 e2 e3 e4 hz3
  have hL := low_nn (2, n')
  have hM := low_nn (2, n)
  go_wp2_with fail
  refine (rbits_any _ w4 (by omega)).mono ?_
  rintro e w5 ⟨rfl, rfl⟩
  go_wp2_with fail
  refine (refwrap_2 (wrap64 (IntKind.u64.wrap (low (2, n) + low (2, n')))) w4).mono ?_
  rintro e w6 ⟨rfl, hb6⟩
  rw [rm_2_106 n n' hn]
  have j1 := cell_up hb6 (w.heap.size) 0 (by omega) g1
  have j2 := cell_up hb6 (w.heap.size) 1 (by omega) g2
  have j3 := cell_up hb6 (w.heap.size + 1) 0 (by omega) g3
  have j4 := cell_up hb6 (w.heap.size + 1) 1 (by omega) g4
  have j5 := cell_up hb6 (w.heap.size + 1 + 1) 0 (by omega) g5
  have j6 := cell_up hb6 (w.heap.size + 1 + 1) 1 (by omega) g6
  have j7 : ∀ o, w6.frozen? ⟨w.heap.size + 1 + 1, o, none⟩ = false := fun o => froz_up hb6 (w.heap.size + 1 + 1) o (by omega) (g7 o)
  have hz6 : w.heap.size + 1 + 1 < w6.heap.size := by have := hb6.size; omega
  clear g1 g2 g3 g4 g5 g6 g7 hL hM
  have hbe := hb3'.trans (hb6.mono hb3'.size)
  go_wp2_with fail
  refine bodyPost_ret (v := .tuple #[.agg #[.int .i64 2, .int .i64 (wk 2 (reckV 2 106 n n'))], .int .i64 0]) (by simp [results, Tryd.results18, go_sem, j5, j6]) rfl ⟨rfl, ?_⟩
  exact (hbe.setCell (by simp; omega) _).setCell (by simp; omega) _

theorem rt_2_107 (op n n' : Int) (w : World) (hcl : Hid (clsV op = (107, 2))) (hrk : Hid (rkV 107 2 = (2, 2, 2, true))) (hp : Hid (mayB (2, n) = true)) (hq : Hid (mayB (2, n') = true)) (hn : RK 2 n) :
    Calls Tryd.prog 18 #[.int .i64 op, .agg #[.int .i64 2, .int .i64 n], .agg #[.int .i64 2, .int .i64 n']] w fun e w' => e = .returned (T2 2 (wk 2 (reckV 2 107 n n')) 0) ∧ Below w.heap.size w w' := by
  go_enter Tryd.func18, Tryd.ntmps18
  go_wp2_with fail
  obtain ⟨tA, tB, tC, c7, tS⟩ := three_blocks w #[.int .i64 2, .int .i64 n] #[.int .i64 2, .int .i64 n'] #[.int .i64 0, .int .i64 0] 23
  obtain ⟨w1, hW⟩ : ∃ W, W = ((w.alloc (.cells #[.int .i64 2, .int .i64 n] 23)).alloc (.cells #[.int .i64 2, .int .i64 n'] 23)).alloc (.cells #[.int .i64 0, .int .i64 0] 23) := ⟨_, rfl⟩
  have hb : Below w.heap.size w w1 := by rw [hW]; exact ((one_block _ _).alloc (by simp) _).alloc (by simp; omega) _
  rw [← hW] at tA tB tC c7 tS ⊢
  clear hW
  have c1 := tA 0
  have c2 := tA 1
  have c3 := tB 0
  have c4 := tB 1
  have c5 := tC 0
  have c6 := tC 1
  simp at c1 c2 c3 c4 c5 c6
  clear tA tB tC
  refine (class_any op w1).mono ?_
  rintro e w0 ⟨rfl, rfl⟩
  rw [hcl.out]
  go_wp2_with fail
  refine (rkinds_any op w1).mono ?_
  rintro e w0 ⟨rfl, rfl⟩
  rw [hcl.out, show rkV _ _ = _ from hrk.out]
  unfold K4
  go_wp2_with fail
  refine (rmay_any _ _ w1).mono ?_
  rintro e w2 ⟨rfl, hb2⟩
  rw [hp.out]
  have d1 := cell_up hb2 (w.heap.size) 0 (by omega) c1
  have d2 := cell_up hb2 (w.heap.size) 1 (by omega) c2
  have d3 := cell_up hb2 (w.heap.size + 1) 0 (by omega) c3
  have d4 := cell_up hb2 (w.heap.size + 1) 1 (by omega) c4
  have d5 := cell_up hb2 (w.heap.size + 1 + 1) 0 (by omega) c5
  have d6 := cell_up hb2 (w.heap.size + 1 + 1) 1 (by omega) c6
  have d7 : ∀ o, w2.frozen? ⟨w.heap.size + 1 + 1, o, none⟩ = false := fun o => froz_up hb2 (w.heap.size + 1 + 1) o (by omega) (c7 o)
  have hz2 : w.heap.size + 1 + 1 < w2.heap.size := by have := hb2.size; omega
  have hb' := hb.trans (hb2.mono hb.size)
  clear c1 c2 c3 c4 c5 c6 c7 tS
  go_wp2_with fail
  refine (rmay_any _ _ w2).mono ?_
  rintro e w3 ⟨rfl, hb3⟩
  rw [hq.out]
  have f1 := cell_up hb3 (w.heap.size) 0 (by omega) d1
  have f2 := cell_up hb3 (w.heap.size) 1 (by omega) d2
  have f3 := cell_up hb3 (w.heap.size + 1) 0 (by omega) d3
  have f4 := cell_up hb3 (w.heap.size + 1) 1 (by omega) d4
  have f5 := cell_up hb3 (w.heap.size + 1 + 1) 0 (by omega) d5
  have f6 := cell_up hb3 (w.heap.size + 1 + 1) 1 (by omega) d6
  have f7 : ∀ o, w3.frozen? ⟨w.heap.size + 1 + 1, o, none⟩ = false := fun o => froz_up hb3 (w.heap.size + 1 + 1) o (by omega) (d7 o)
  have hz3 : w.heap.size + 1 + 1 < w3.heap.size := by have := hb3.size; omega
  have hb'' := hb'.trans (hb3.mono hb'.size)
  clear d1 d2 d3 d4 d5 d6 d7 hz2
  go_wp2_with fail
  have e1 := fun m : Above w3 => above_at f1 (by omega) m
  have e2 := fun m : Above w3 => above_at f2 (by omega) m
  have e3 := fun m : Above w3 => above_at f3 (by omega) m
  have e4 := fun m : Above w3 => above_at f4 (by omega) m
  refine wp_region_T (by kernel_rfl) (by kernel_rfl) ?_
  repeat (go_big_quiet_step (exact quiet_T (runsigned_any _ _ _)))
  refine wpQuiet_nil ?_
  intro w4 h4
  obtain ⟨⟨x4, hb4⟩, hx4⟩ := h4
  dsimp only at hx4
  subst hx4
  have g1 := cell_up hb4 (w.heap.size) 0 (by omega) f1
  have g2 := cell_up hb4 (w.heap.size) 1 (by omega) f2
  have g3 := cell_up hb4 (w.heap.size + 1) 0 (by omega) f3
  have g4 := cell_up hb4 (w.heap.size + 1) 1 (by omega) f4
  have g5 := cell_up hb4 (w.heap.size + 1 + 1) 0 (by omega) f5
  have g6 := cell_up hb4 (w.heap.size + 1 + 1) 1 (by omega) f6
  have g7 : ∀ o, w4.frozen? ⟨w.heap.size + 1 + 1, o, none⟩ = false := fun o => froz_up hb4 (w.heap.size + 1 + 1) o (by omega) (f7 o)
  have hz4 : w.heap.size + 1 + 1 < w4.heap.size := by have := hb4.size; omega
  have hb3' := hb''.trans (hb4.mono hb''.size)
  clear f1 f2 f3 f4 f5 f6 f7 e1 e2 e3 e4 hz3
  have hL := low_nn (2, n')
  have hM := low_nn (2, n)
  go_wp2_with fail
  refine (rbits_any _ w4 (by omega)).mono ?_
  rintro e w5 ⟨rfl, rfl⟩
  go_wp2_with fail
  refine (refwrap_2 (wrap64 (IntKind.u64.wrap (low (2, n) - low (2, n')))) w4).mono ?_
  rintro e w6 ⟨rfl, hb6⟩
  rw [rm_2_107 n n' hn]
  have j1 := cell_up hb6 (w.heap.size) 0 (by omega) g1
  have j2 := cell_up hb6 (w.heap.size) 1 (by omega) g2
  have j3 := cell_up hb6 (w.heap.size + 1) 0 (by omega) g3
  have j4 := cell_up hb6 (w.heap.size + 1) 1 (by omega) g4
  have j5 := cell_up hb6 (w.heap.size + 1 + 1) 0 (by omega) g5
  have j6 := cell_up hb6 (w.heap.size + 1 + 1) 1 (by omega) g6
  have j7 : ∀ o, w6.frozen? ⟨w.heap.size + 1 + 1, o, none⟩ = false := fun o => froz_up hb6 (w.heap.size + 1 + 1) o (by omega) (g7 o)
  have hz6 : w.heap.size + 1 + 1 < w6.heap.size := by have := hb6.size; omega
  clear g1 g2 g3 g4 g5 g6 g7 hL hM
  have hbe := hb3'.trans (hb6.mono hb3'.size)
  go_wp2_with fail
  refine bodyPost_ret (v := .tuple #[.agg #[.int .i64 2, .int .i64 (wk 2 (reckV 2 107 n n'))], .int .i64 0]) (by simp [results, Tryd.results18, go_sem, j5, j6]) rfl ⟨rfl, ?_⟩
  exact (hbe.setCell (by simp; omega) _).setCell (by simp; omega) _

theorem rt_2_108 (op n n' : Int) (w : World) (hcl : Hid (clsV op = (108, 2))) (hrk : Hid (rkV 108 2 = (2, 2, 2, true))) (hp : Hid (mayB (2, n) = true)) (hq : Hid (mayB (2, n') = true)) (hn : RK 2 n) :
    Calls Tryd.prog 18 #[.int .i64 op, .agg #[.int .i64 2, .int .i64 n], .agg #[.int .i64 2, .int .i64 n']] w fun e w' => e = .returned (T2 2 (wk 2 (reckV 2 108 n n')) 0) ∧ Below w.heap.size w w' := by
  go_enter Tryd.func18, Tryd.ntmps18
  go_wp2_with fail
  obtain ⟨tA, tB, tC, c7, tS⟩ := three_blocks w #[.int .i64 2, .int .i64 n] #[.int .i64 2, .int .i64 n'] #[.int .i64 0, .int .i64 0] 23
  obtain ⟨w1, hW⟩ : ∃ W, W = ((w.alloc (.cells #[.int .i64 2, .int .i64 n] 23)).alloc (.cells #[.int .i64 2, .int .i64 n'] 23)).alloc (.cells #[.int .i64 0, .int .i64 0] 23) := ⟨_, rfl⟩
  have hb : Below w.heap.size w w1 := by rw [hW]; exact ((one_block _ _).alloc (by simp) _).alloc (by simp; omega) _
  rw [← hW] at tA tB tC c7 tS ⊢
  clear hW
  have c1 := tA 0
  have c2 := tA 1
  have c3 := tB 0
  have c4 := tB 1
  have c5 := tC 0
  have c6 := tC 1
  simp at c1 c2 c3 c4 c5 c6
  clear tA tB tC
  refine (class_any op w1).mono ?_
  rintro e w0 ⟨rfl, rfl⟩
  rw [hcl.out]
  go_wp2_with fail
  refine (rkinds_any op w1).mono ?_
  rintro e w0 ⟨rfl, rfl⟩
  rw [hcl.out, show rkV _ _ = _ from hrk.out]
  unfold K4
  go_wp2_with fail
  refine (rmay_any _ _ w1).mono ?_
  rintro e w2 ⟨rfl, hb2⟩
  rw [hp.out]
  have d1 := cell_up hb2 (w.heap.size) 0 (by omega) c1
  have d2 := cell_up hb2 (w.heap.size) 1 (by omega) c2
  have d3 := cell_up hb2 (w.heap.size + 1) 0 (by omega) c3
  have d4 := cell_up hb2 (w.heap.size + 1) 1 (by omega) c4
  have d5 := cell_up hb2 (w.heap.size + 1 + 1) 0 (by omega) c5
  have d6 := cell_up hb2 (w.heap.size + 1 + 1) 1 (by omega) c6
  have d7 : ∀ o, w2.frozen? ⟨w.heap.size + 1 + 1, o, none⟩ = false := fun o => froz_up hb2 (w.heap.size + 1 + 1) o (by omega) (c7 o)
  have hz2 : w.heap.size + 1 + 1 < w2.heap.size := by have := hb2.size; omega
  have hb' := hb.trans (hb2.mono hb.size)
  clear c1 c2 c3 c4 c5 c6 c7 tS
  go_wp2_with fail
  refine (rmay_any _ _ w2).mono ?_
  rintro e w3 ⟨rfl, hb3⟩
  rw [hq.out]
  have f1 := cell_up hb3 (w.heap.size) 0 (by omega) d1
  have f2 := cell_up hb3 (w.heap.size) 1 (by omega) d2
  have f3 := cell_up hb3 (w.heap.size + 1) 0 (by omega) d3
  have f4 := cell_up hb3 (w.heap.size + 1) 1 (by omega) d4
  have f5 := cell_up hb3 (w.heap.size + 1 + 1) 0 (by omega) d5
  have f6 := cell_up hb3 (w.heap.size + 1 + 1) 1 (by omega) d6
  have f7 : ∀ o, w3.frozen? ⟨w.heap.size + 1 + 1, o, none⟩ = false := fun o => froz_up hb3 (w.heap.size + 1 + 1) o (by omega) (d7 o)
  have hz3 : w.heap.size + 1 + 1 < w3.heap.size := by have := hb3.size; omega
  have hb'' := hb'.trans (hb3.mono hb'.size)
  clear d1 d2 d3 d4 d5 d6 d7 hz2
  go_wp2_with fail
  have e1 := fun m : Above w3 => above_at f1 (by omega) m
  have e2 := fun m : Above w3 => above_at f2 (by omega) m
  have e3 := fun m : Above w3 => above_at f3 (by omega) m
  have e4 := fun m : Above w3 => above_at f4 (by omega) m
  refine wp_region_T (by kernel_rfl) (by kernel_rfl) ?_
  repeat (go_big_quiet_step (exact quiet_T (runsigned_any _ _ _)))
  refine wpQuiet_nil ?_
  intro w4 h4
  obtain ⟨⟨x4, hb4⟩, hx4⟩ := h4
  dsimp only at hx4
  subst hx4
  have g1 := cell_up hb4 (w.heap.size) 0 (by omega) f1
  have g2 := cell_up hb4 (w.heap.size) 1 (by omega) f2
  have g3 := cell_up hb4 (w.heap.size + 1) 0 (by omega) f3
  have g4 := cell_up hb4 (w.heap.size + 1) 1 (by omega) f4
  have g5 := cell_up hb4 (w.heap.size + 1 + 1) 0 (by omega) f5
  have g6 := cell_up hb4 (w.heap.size + 1 + 1) 1 (by omega) f6
  have g7 : ∀ o, w4.frozen? ⟨w.heap.size + 1 + 1, o, none⟩ = false := fun o => froz_up hb4 (w.heap.size + 1 + 1) o (by omega) (f7 o)
  have hz4 : w.heap.size + 1 + 1 < w4.heap.size := by have := hb4.size; omega
  have hb3' := hb''.trans (hb4.mono hb''.size)
  clear f1 f2 f3 f4 f5 f6 f7 e1 e2 e3 e4 hz3
  have hL := low_nn (2, n')
  have hM := low_nn (2, n)
  go_wp2_with fail
  refine (rbits_any _ w4 (by omega)).mono ?_
  rintro e w5 ⟨rfl, rfl⟩
  go_wp2_with fail
  refine (refwrap_2 (wrap64 (IntKind.u64.wrap (low (2, n) * low (2, n')))) w4).mono ?_
  rintro e w6 ⟨rfl, hb6⟩
  rw [rm_2_108 n n' hn]
  have j1 := cell_up hb6 (w.heap.size) 0 (by omega) g1
  have j2 := cell_up hb6 (w.heap.size) 1 (by omega) g2
  have j3 := cell_up hb6 (w.heap.size + 1) 0 (by omega) g3
  have j4 := cell_up hb6 (w.heap.size + 1) 1 (by omega) g4
  have j5 := cell_up hb6 (w.heap.size + 1 + 1) 0 (by omega) g5
  have j6 := cell_up hb6 (w.heap.size + 1 + 1) 1 (by omega) g6
  have j7 : ∀ o, w6.frozen? ⟨w.heap.size + 1 + 1, o, none⟩ = false := fun o => froz_up hb6 (w.heap.size + 1 + 1) o (by omega) (g7 o)
  have hz6 : w.heap.size + 1 + 1 < w6.heap.size := by have := hb6.size; omega
  clear g1 g2 g3 g4 g5 g6 g7 hL hM
  have hbe := hb3'.trans (hb6.mono hb3'.size)
  go_wp2_with fail
  refine bodyPost_ret (v := .tuple #[.agg #[.int .i64 2, .int .i64 (wk 2 (reckV 2 108 n n'))], .int .i64 0]) (by simp [results, Tryd.results18, go_sem, j5, j6]) rfl ⟨rfl, ?_⟩
  exact (hbe.setCell (by simp; omega) _).setCell (by simp; omega) _

theorem rt_2_113 (op n n' : Int) (w : World) (hcl : Hid (clsV op = (113, 2))) (hrk : Hid (rkV 113 2 = (2, 2, 2, true))) (hp : Hid (mayB (2, n) = true)) (hq : Hid (mayB (2, n') = true)) (hn : RK 2 n) :
    Calls Tryd.prog 18 #[.int .i64 op, .agg #[.int .i64 2, .int .i64 n], .agg #[.int .i64 2, .int .i64 n']] w fun e w' => e = .returned (T2 2 (wk 2 (reckV 2 113 n n')) 0) ∧ Below w.heap.size w w' := by
  go_enter Tryd.func18, Tryd.ntmps18
  go_wp2_with fail
  obtain ⟨tA, tB, tC, c7, tS⟩ := three_blocks w #[.int .i64 2, .int .i64 n] #[.int .i64 2, .int .i64 n'] #[.int .i64 0, .int .i64 0] 23
  obtain ⟨w1, hW⟩ : ∃ W, W = ((w.alloc (.cells #[.int .i64 2, .int .i64 n] 23)).alloc (.cells #[.int .i64 2, .int .i64 n'] 23)).alloc (.cells #[.int .i64 0, .int .i64 0] 23) := ⟨_, rfl⟩
  have hb : Below w.heap.size w w1 := by rw [hW]; exact ((one_block _ _).alloc (by simp) _).alloc (by simp; omega) _
  rw [← hW] at tA tB tC c7 tS ⊢
  clear hW
  have c1 := tA 0
  have c2 := tA 1
  have c3 := tB 0
  have c4 := tB 1
  have c5 := tC 0
  have c6 := tC 1
  simp at c1 c2 c3 c4 c5 c6
  clear tA tB tC
  refine (class_any op w1).mono ?_
  rintro e w0 ⟨rfl, rfl⟩
  rw [hcl.out]
  go_wp2_with fail
  refine (rkinds_any op w1).mono ?_
  rintro e w0 ⟨rfl, rfl⟩
  rw [hcl.out, show rkV _ _ = _ from hrk.out]
  unfold K4
  go_wp2_with fail
  refine (rmay_any _ _ w1).mono ?_
  rintro e w2 ⟨rfl, hb2⟩
  rw [hp.out]
  have d1 := cell_up hb2 (w.heap.size) 0 (by omega) c1
  have d2 := cell_up hb2 (w.heap.size) 1 (by omega) c2
  have d3 := cell_up hb2 (w.heap.size + 1) 0 (by omega) c3
  have d4 := cell_up hb2 (w.heap.size + 1) 1 (by omega) c4
  have d5 := cell_up hb2 (w.heap.size + 1 + 1) 0 (by omega) c5
  have d6 := cell_up hb2 (w.heap.size + 1 + 1) 1 (by omega) c6
  have d7 : ∀ o, w2.frozen? ⟨w.heap.size + 1 + 1, o, none⟩ = false := fun o => froz_up hb2 (w.heap.size + 1 + 1) o (by omega) (c7 o)
  have hz2 : w.heap.size + 1 + 1 < w2.heap.size := by have := hb2.size; omega
  have hb' := hb.trans (hb2.mono hb.size)
  clear c1 c2 c3 c4 c5 c6 c7 tS
  go_wp2_with fail
  refine (rmay_any _ _ w2).mono ?_
  rintro e w3 ⟨rfl, hb3⟩
  rw [hq.out]
  have f1 := cell_up hb3 (w.heap.size) 0 (by omega) d1
  have f2 := cell_up hb3 (w.heap.size) 1 (by omega) d2
  have f3 := cell_up hb3 (w.heap.size + 1) 0 (by omega) d3
  have f4 := cell_up hb3 (w.heap.size + 1) 1 (by omega) d4
  have f5 := cell_up hb3 (w.heap.size + 1 + 1) 0 (by omega) d5
  have f6 := cell_up hb3 (w.heap.size + 1 + 1) 1 (by omega) d6
  have f7 : ∀ o, w3.frozen? ⟨w.heap.size + 1 + 1, o, none⟩ = false := fun o => froz_up hb3 (w.heap.size + 1 + 1) o (by omega) (d7 o)
  have hz3 : w.heap.size + 1 + 1 < w3.heap.size := by have := hb3.size; omega
  have hb'' := hb'.trans (hb3.mono hb'.size)
  clear d1 d2 d3 d4 d5 d6 d7 hz2
  go_wp2_with fail
  have e1 := fun m : Above w3 => above_at f1 (by omega) m
  have e2 := fun m : Above w3 => above_at f2 (by omega) m
  have e3 := fun m : Above w3 => above_at f3 (by omega) m
  have e4 := fun m : Above w3 => above_at f4 (by omega) m
  refine wp_region_T (by kernel_rfl) (by kernel_rfl) ?_
  repeat (go_big_quiet_step (exact quiet_T (runsigned_any _ _ _)))
  refine wpQuiet_nil ?_
  intro w4 h4
  obtain ⟨⟨x4, hb4⟩, hx4⟩ := h4
  dsimp only at hx4
  subst hx4
  have g1 := cell_up hb4 (w.heap.size) 0 (by omega) f1
  have g2 := cell_up hb4 (w.heap.size) 1 (by omega) f2
  have g3 := cell_up hb4 (w.heap.size + 1) 0 (by omega) f3
  have g4 := cell_up hb4 (w.heap.size + 1) 1 (by omega) f4
  have g5 := cell_up hb4 (w.heap.size + 1 + 1) 0 (by omega) f5
  have g6 := cell_up hb4 (w.heap.size + 1 + 1) 1 (by omega) f6
  have g7 : ∀ o, w4.frozen? ⟨w.heap.size + 1 + 1, o, none⟩ = false := fun o => froz_up hb4 (w.heap.size + 1 + 1) o (by omega) (f7 o)
  have hz4 : w.heap.size + 1 + 1 < w4.heap.size := by have := hb4.size; omega
  have hb3' := hb''.trans (hb4.mono hb''.size)
  clear f1 f2 f3 f4 f5 f6 f7 e1 e2 e3 e4 hz3
  have hL := low_nn (2, n')
  have hM := low_nn (2, n)
  go_wp2_with fail
  refine (rbits_any _ w4 (by omega)).mono ?_
  rintro e w5 ⟨rfl, rfl⟩
  go_wp2_with fail
  refine (refwrap_2 (wrap64 (bits .and .u64 (low (2, n)) (low (2, n')))) w4).mono ?_
  rintro e w6 ⟨rfl, hb6⟩
  rw [rm_2_113 n n' hn]
  have j1 := cell_up hb6 (w.heap.size) 0 (by omega) g1
  have j2 := cell_up hb6 (w.heap.size) 1 (by omega) g2
  have j3 := cell_up hb6 (w.heap.size + 1) 0 (by omega) g3
  have j4 := cell_up hb6 (w.heap.size + 1) 1 (by omega) g4
  have j5 := cell_up hb6 (w.heap.size + 1 + 1) 0 (by omega) g5
  have j6 := cell_up hb6 (w.heap.size + 1 + 1) 1 (by omega) g6
  have j7 : ∀ o, w6.frozen? ⟨w.heap.size + 1 + 1, o, none⟩ = false := fun o => froz_up hb6 (w.heap.size + 1 + 1) o (by omega) (g7 o)
  have hz6 : w.heap.size + 1 + 1 < w6.heap.size := by have := hb6.size; omega
  clear g1 g2 g3 g4 g5 g6 g7 hL hM
  have hbe := hb3'.trans (hb6.mono hb3'.size)
  go_wp2_with fail
  refine bodyPost_ret (v := .tuple #[.agg #[.int .i64 2, .int .i64 (wk 2 (reckV 2 113 n n'))], .int .i64 0]) (by simp [results, Tryd.results18, go_sem, j5, j6]) rfl ⟨rfl, ?_⟩
  exact (hbe.setCell (by simp; omega) _).setCell (by simp; omega) _

theorem rt_2_114 (op n n' : Int) (w : World) (hcl : Hid (clsV op = (114, 2))) (hrk : Hid (rkV 114 2 = (2, 2, 2, true))) (hp : Hid (mayB (2, n) = true)) (hq : Hid (mayB (2, n') = true)) (hn : RK 2 n) :
    Calls Tryd.prog 18 #[.int .i64 op, .agg #[.int .i64 2, .int .i64 n], .agg #[.int .i64 2, .int .i64 n']] w fun e w' => e = .returned (T2 2 (wk 2 (reckV 2 114 n n')) 0) ∧ Below w.heap.size w w' := by
  go_enter Tryd.func18, Tryd.ntmps18
  go_wp2_with fail
  obtain ⟨tA, tB, tC, c7, tS⟩ := three_blocks w #[.int .i64 2, .int .i64 n] #[.int .i64 2, .int .i64 n'] #[.int .i64 0, .int .i64 0] 23
  obtain ⟨w1, hW⟩ : ∃ W, W = ((w.alloc (.cells #[.int .i64 2, .int .i64 n] 23)).alloc (.cells #[.int .i64 2, .int .i64 n'] 23)).alloc (.cells #[.int .i64 0, .int .i64 0] 23) := ⟨_, rfl⟩
  have hb : Below w.heap.size w w1 := by rw [hW]; exact ((one_block _ _).alloc (by simp) _).alloc (by simp; omega) _
  rw [← hW] at tA tB tC c7 tS ⊢
  clear hW
  have c1 := tA 0
  have c2 := tA 1
  have c3 := tB 0
  have c4 := tB 1
  have c5 := tC 0
  have c6 := tC 1
  simp at c1 c2 c3 c4 c5 c6
  clear tA tB tC
  refine (class_any op w1).mono ?_
  rintro e w0 ⟨rfl, rfl⟩
  rw [hcl.out]
  go_wp2_with fail
  refine (rkinds_any op w1).mono ?_
  rintro e w0 ⟨rfl, rfl⟩
  rw [hcl.out, show rkV _ _ = _ from hrk.out]
  unfold K4
  go_wp2_with fail
  refine (rmay_any _ _ w1).mono ?_
  rintro e w2 ⟨rfl, hb2⟩
  rw [hp.out]
  have d1 := cell_up hb2 (w.heap.size) 0 (by omega) c1
  have d2 := cell_up hb2 (w.heap.size) 1 (by omega) c2
  have d3 := cell_up hb2 (w.heap.size + 1) 0 (by omega) c3
  have d4 := cell_up hb2 (w.heap.size + 1) 1 (by omega) c4
  have d5 := cell_up hb2 (w.heap.size + 1 + 1) 0 (by omega) c5
  have d6 := cell_up hb2 (w.heap.size + 1 + 1) 1 (by omega) c6
  have d7 : ∀ o, w2.frozen? ⟨w.heap.size + 1 + 1, o, none⟩ = false := fun o => froz_up hb2 (w.heap.size + 1 + 1) o (by omega) (c7 o)
  have hz2 : w.heap.size + 1 + 1 < w2.heap.size := by have := hb2.size; omega
  have hb' := hb.trans (hb2.mono hb.size)
  clear c1 c2 c3 c4 c5 c6 c7 tS
  go_wp2_with fail
  refine (rmay_any _ _ w2).mono ?_
  rintro e w3 ⟨rfl, hb3⟩
  rw [hq.out]
  have f1 := cell_up hb3 (w.heap.size) 0 (by omega) d1
  have f2 := cell_up hb3 (w.heap.size) 1 (by omega) d2
  have f3 := cell_up hb3 (w.heap.size + 1) 0 (by omega) d3
  have f4 := cell_up hb3 (w.heap.size + 1) 1 (by omega) d4
  have f5 := cell_up hb3 (w.heap.size + 1 + 1) 0 (by omega) d5
  have f6 := cell_up hb3 (w.heap.size + 1 + 1) 1 (by omega) d6
  have f7 : ∀ o, w3.frozen? ⟨w.heap.size + 1 + 1, o, none⟩ = false := fun o => froz_up hb3 (w.heap.size + 1 + 1) o (by omega) (d7 o)
  have hz3 : w.heap.size + 1 + 1 < w3.heap.size := by have := hb3.size; omega
  have hb'' := hb'.trans (hb3.mono hb'.size)
  clear d1 d2 d3 d4 d5 d6 d7 hz2
  go_wp2_with fail
  have e1 := fun m : Above w3 => above_at f1 (by omega) m
  have e2 := fun m : Above w3 => above_at f2 (by omega) m
  have e3 := fun m : Above w3 => above_at f3 (by omega) m
  have e4 := fun m : Above w3 => above_at f4 (by omega) m
  refine wp_region_T (by kernel_rfl) (by kernel_rfl) ?_
  repeat (go_big_quiet_step (exact quiet_T (runsigned_any _ _ _)))
  refine wpQuiet_nil ?_
  intro w4 h4
  obtain ⟨⟨x4, hb4⟩, hx4⟩ := h4
  dsimp only at hx4
  subst hx4
  have g1 := cell_up hb4 (w.heap.size) 0 (by omega) f1
  have g2 := cell_up hb4 (w.heap.size) 1 (by omega) f2
  have g3 := cell_up hb4 (w.heap.size + 1) 0 (by omega) f3
  have g4 := cell_up hb4 (w.heap.size + 1) 1 (by omega) f4
  have g5 := cell_up hb4 (w.heap.size + 1 + 1) 0 (by omega) f5
  have g6 := cell_up hb4 (w.heap.size + 1 + 1) 1 (by omega) f6
  have g7 : ∀ o, w4.frozen? ⟨w.heap.size + 1 + 1, o, none⟩ = false := fun o => froz_up hb4 (w.heap.size + 1 + 1) o (by omega) (f7 o)
  have hz4 : w.heap.size + 1 + 1 < w4.heap.size := by have := hb4.size; omega
  have hb3' := hb''.trans (hb4.mono hb''.size)
  clear f1 f2 f3 f4 f5 f6 f7 e1 e2 e3 e4 hz3
  have hL := low_nn (2, n')
  have hM := low_nn (2, n)
  go_wp2_with fail
  refine (rbits_any _ w4 (by omega)).mono ?_
  rintro e w5 ⟨rfl, rfl⟩
  go_wp2_with fail
  refine (refwrap_2 (wrap64 (bits .or .u64 (low (2, n)) (low (2, n')))) w4).mono ?_
  rintro e w6 ⟨rfl, hb6⟩
  rw [rm_2_114 n n' hn]
  have j1 := cell_up hb6 (w.heap.size) 0 (by omega) g1
  have j2 := cell_up hb6 (w.heap.size) 1 (by omega) g2
  have j3 := cell_up hb6 (w.heap.size + 1) 0 (by omega) g3
  have j4 := cell_up hb6 (w.heap.size + 1) 1 (by omega) g4
  have j5 := cell_up hb6 (w.heap.size + 1 + 1) 0 (by omega) g5
  have j6 := cell_up hb6 (w.heap.size + 1 + 1) 1 (by omega) g6
  have j7 : ∀ o, w6.frozen? ⟨w.heap.size + 1 + 1, o, none⟩ = false := fun o => froz_up hb6 (w.heap.size + 1 + 1) o (by omega) (g7 o)
  have hz6 : w.heap.size + 1 + 1 < w6.heap.size := by have := hb6.size; omega
  clear g1 g2 g3 g4 g5 g6 g7 hL hM
  have hbe := hb3'.trans (hb6.mono hb3'.size)
  go_wp2_with fail
  refine bodyPost_ret (v := .tuple #[.agg #[.int .i64 2, .int .i64 (wk 2 (reckV 2 114 n n'))], .int .i64 0]) (by simp [results, Tryd.results18, go_sem, j5, j6]) rfl ⟨rfl, ?_⟩
  exact (hbe.setCell (by simp; omega) _).setCell (by simp; omega) _

theorem rt_2_115 (op n n' : Int) (w : World) (hcl : Hid (clsV op = (115, 2))) (hrk : Hid (rkV 115 2 = (2, 2, 2, true))) (hp : Hid (mayB (2, n) = true)) (hq : Hid (mayB (2, n') = true)) (hn : RK 2 n) :
    Calls Tryd.prog 18 #[.int .i64 op, .agg #[.int .i64 2, .int .i64 n], .agg #[.int .i64 2, .int .i64 n']] w fun e w' => e = .returned (T2 2 (wk 2 (reckV 2 115 n n')) 0) ∧ Below w.heap.size w w' := by
  go_enter Tryd.func18, Tryd.ntmps18
  go_wp2_with fail
  obtain ⟨tA, tB, tC, c7, tS⟩ := three_blocks w #[.int .i64 2, .int .i64 n] #[.int .i64 2, .int .i64 n'] #[.int .i64 0, .int .i64 0] 23
  obtain ⟨w1, hW⟩ : ∃ W, W = ((w.alloc (.cells #[.int .i64 2, .int .i64 n] 23)).alloc (.cells #[.int .i64 2, .int .i64 n'] 23)).alloc (.cells #[.int .i64 0, .int .i64 0] 23) := ⟨_, rfl⟩
  have hb : Below w.heap.size w w1 := by rw [hW]; exact ((one_block _ _).alloc (by simp) _).alloc (by simp; omega) _
  rw [← hW] at tA tB tC c7 tS ⊢
  clear hW
  have c1 := tA 0
  have c2 := tA 1
  have c3 := tB 0
  have c4 := tB 1
  have c5 := tC 0
  have c6 := tC 1
  simp at c1 c2 c3 c4 c5 c6
  clear tA tB tC
  refine (class_any op w1).mono ?_
  rintro e w0 ⟨rfl, rfl⟩
  rw [hcl.out]
  go_wp2_with fail
  refine (rkinds_any op w1).mono ?_
  rintro e w0 ⟨rfl, rfl⟩
  rw [hcl.out, show rkV _ _ = _ from hrk.out]
  unfold K4
  go_wp2_with fail
  refine (rmay_any _ _ w1).mono ?_
  rintro e w2 ⟨rfl, hb2⟩
  rw [hp.out]
  have d1 := cell_up hb2 (w.heap.size) 0 (by omega) c1
  have d2 := cell_up hb2 (w.heap.size) 1 (by omega) c2
  have d3 := cell_up hb2 (w.heap.size + 1) 0 (by omega) c3
  have d4 := cell_up hb2 (w.heap.size + 1) 1 (by omega) c4
  have d5 := cell_up hb2 (w.heap.size + 1 + 1) 0 (by omega) c5
  have d6 := cell_up hb2 (w.heap.size + 1 + 1) 1 (by omega) c6
  have d7 : ∀ o, w2.frozen? ⟨w.heap.size + 1 + 1, o, none⟩ = false := fun o => froz_up hb2 (w.heap.size + 1 + 1) o (by omega) (c7 o)
  have hz2 : w.heap.size + 1 + 1 < w2.heap.size := by have := hb2.size; omega
  have hb' := hb.trans (hb2.mono hb.size)
  clear c1 c2 c3 c4 c5 c6 c7 tS
  go_wp2_with fail
  refine (rmay_any _ _ w2).mono ?_
  rintro e w3 ⟨rfl, hb3⟩
  rw [hq.out]
  have f1 := cell_up hb3 (w.heap.size) 0 (by omega) d1
  have f2 := cell_up hb3 (w.heap.size) 1 (by omega) d2
  have f3 := cell_up hb3 (w.heap.size + 1) 0 (by omega) d3
  have f4 := cell_up hb3 (w.heap.size + 1) 1 (by omega) d4
  have f5 := cell_up hb3 (w.heap.size + 1 + 1) 0 (by omega) d5
  have f6 := cell_up hb3 (w.heap.size + 1 + 1) 1 (by omega) d6
  have f7 : ∀ o, w3.frozen? ⟨w.heap.size + 1 + 1, o, none⟩ = false := fun o => froz_up hb3 (w.heap.size + 1 + 1) o (by omega) (d7 o)
  have hz3 : w.heap.size + 1 + 1 < w3.heap.size := by have := hb3.size; omega
  have hb'' := hb'.trans (hb3.mono hb'.size)
  clear d1 d2 d3 d4 d5 d6 d7 hz2
  go_wp2_with fail
  have e1 := fun m : Above w3 => above_at f1 (by omega) m
  have e2 := fun m : Above w3 => above_at f2 (by omega) m
  have e3 := fun m : Above w3 => above_at f3 (by omega) m
  have e4 := fun m : Above w3 => above_at f4 (by omega) m
  refine wp_region_T (by kernel_rfl) (by kernel_rfl) ?_
  repeat (go_big_quiet_step (exact quiet_T (runsigned_any _ _ _)))
  refine wpQuiet_nil ?_
  intro w4 h4
  obtain ⟨⟨x4, hb4⟩, hx4⟩ := h4
  dsimp only at hx4
  subst hx4
  have g1 := cell_up hb4 (w.heap.size) 0 (by omega) f1
  have g2 := cell_up hb4 (w.heap.size) 1 (by omega) f2
  have g3 := cell_up hb4 (w.heap.size + 1) 0 (by omega) f3
  have g4 := cell_up hb4 (w.heap.size + 1) 1 (by omega) f4
  have g5 := cell_up hb4 (w.heap.size + 1 + 1) 0 (by omega) f5
  have g6 := cell_up hb4 (w.heap.size + 1 + 1) 1 (by omega) f6
  have g7 : ∀ o, w4.frozen? ⟨w.heap.size + 1 + 1, o, none⟩ = false := fun o => froz_up hb4 (w.heap.size + 1 + 1) o (by omega) (f7 o)
  have hz4 : w.heap.size + 1 + 1 < w4.heap.size := by have := hb4.size; omega
  have hb3' := hb''.trans (hb4.mono hb''.size)
  clear f1 f2 f3 f4 f5 f6 f7 e1 e2 e3 e4 hz3
  have hL := low_nn (2, n')
  have hM := low_nn (2, n)
  go_wp2_with fail
  refine (rbits_any _ w4 (by omega)).mono ?_
  rintro e w5 ⟨rfl, rfl⟩
  go_wp2_with fail
  refine (refwrap_2 (wrap64 (bits .xor .u64 (low (2, n)) (low (2, n')))) w4).mono ?_
  rintro e w6 ⟨rfl, hb6⟩
  rw [rm_2_115 n n' hn]
  have j1 := cell_up hb6 (w.heap.size) 0 (by omega) g1
  have j2 := cell_up hb6 (w.heap.size) 1 (by omega) g2
  have j3 := cell_up hb6 (w.heap.size + 1) 0 (by omega) g3
  have j4 := cell_up hb6 (w.heap.size + 1) 1 (by omega) g4
  have j5 := cell_up hb6 (w.heap.size + 1 + 1) 0 (by omega) g5
  have j6 := cell_up hb6 (w.heap.size + 1 + 1) 1 (by omega) g6
  have j7 : ∀ o, w6.frozen? ⟨w.heap.size + 1 + 1, o, none⟩ = false := fun o => froz_up hb6 (w.heap.size + 1 + 1) o (by omega) (g7 o)
  have hz6 : w.heap.size + 1 + 1 < w6.heap.size := by have := hb6.size; omega
  clear g1 g2 g3 g4 g5 g6 g7 hL hM
  have hbe := hb3'.trans (hb6.mono hb3'.size)
  go_wp2_with fail
  refine bodyPost_ret (v := .tuple #[.agg #[.int .i64 2, .int .i64 (wk 2 (reckV 2 115 n n'))], .int .i64 0]) (by simp [results, Tryd.results18, go_sem, j5, j6]) rfl ⟨rfl, ?_⟩
  exact (hbe.setCell (by simp; omega) _).setCell (by simp; omega) _

theorem rt_2_116 (op n n' : Int) (w : World) (hcl : Hid (clsV op = (116, 2))) (hrk : Hid (rkV 116 2 = (2, 2, 2, true))) (hp : Hid (mayB (2, n) = true)) (hq : Hid (mayB (2, n') = true)) (hn : RK 2 n) :
    Calls Tryd.prog 18 #[.int .i64 op, .agg #[.int .i64 2, .int .i64 n], .agg #[.int .i64 2, .int .i64 n']] w fun e w' => e = .returned (T2 2 (wk 2 (reckV 2 116 n n')) 0) ∧ Below w.heap.size w w' := by
  go_enter Tryd.func18, Tryd.ntmps18
  go_wp2_with fail
  obtain ⟨tA, tB, tC, c7, tS⟩ := three_blocks w #[.int .i64 2, .int .i64 n] #[.int .i64 2, .int .i64 n'] #[.int .i64 0, .int .i64 0] 23
  obtain ⟨w1, hW⟩ : ∃ W, W = ((w.alloc (.cells #[.int .i64 2, .int .i64 n] 23)).alloc (.cells #[.int .i64 2, .int .i64 n'] 23)).alloc (.cells #[.int .i64 0, .int .i64 0] 23) := ⟨_, rfl⟩
  have hb : Below w.heap.size w w1 := by rw [hW]; exact ((one_block _ _).alloc (by simp) _).alloc (by simp; omega) _
  rw [← hW] at tA tB tC c7 tS ⊢
  clear hW
  have c1 := tA 0
  have c2 := tA 1
  have c3 := tB 0
  have c4 := tB 1
  have c5 := tC 0
  have c6 := tC 1
  simp at c1 c2 c3 c4 c5 c6
  clear tA tB tC
  refine (class_any op w1).mono ?_
  rintro e w0 ⟨rfl, rfl⟩
  rw [hcl.out]
  go_wp2_with fail
  refine (rkinds_any op w1).mono ?_
  rintro e w0 ⟨rfl, rfl⟩
  rw [hcl.out, show rkV _ _ = _ from hrk.out]
  unfold K4
  go_wp2_with fail
  refine (rmay_any _ _ w1).mono ?_
  rintro e w2 ⟨rfl, hb2⟩
  rw [hp.out]
  have d1 := cell_up hb2 (w.heap.size) 0 (by omega) c1
  have d2 := cell_up hb2 (w.heap.size) 1 (by omega) c2
  have d3 := cell_up hb2 (w.heap.size + 1) 0 (by omega) c3
  have d4 := cell_up hb2 (w.heap.size + 1) 1 (by omega) c4
  have d5 := cell_up hb2 (w.heap.size + 1 + 1) 0 (by omega) c5
  have d6 := cell_up hb2 (w.heap.size + 1 + 1) 1 (by omega) c6
  have d7 : ∀ o, w2.frozen? ⟨w.heap.size + 1 + 1, o, none⟩ = false := fun o => froz_up hb2 (w.heap.size + 1 + 1) o (by omega) (c7 o)
  have hz2 : w.heap.size + 1 + 1 < w2.heap.size := by have := hb2.size; omega
  have hb' := hb.trans (hb2.mono hb.size)
  clear c1 c2 c3 c4 c5 c6 c7 tS
  go_wp2_with fail
  refine (rmay_any _ _ w2).mono ?_
  rintro e w3 ⟨rfl, hb3⟩
  rw [hq.out]
  have f1 := cell_up hb3 (w.heap.size) 0 (by omega) d1
  have f2 := cell_up hb3 (w.heap.size) 1 (by omega) d2
  have f3 := cell_up hb3 (w.heap.size + 1) 0 (by omega) d3
  have f4 := cell_up hb3 (w.heap.size + 1) 1 (by omega) d4
  have f5 := cell_up hb3 (w.heap.size + 1 + 1) 0 (by omega) d5
  have f6 := cell_up hb3 (w.heap.size + 1 + 1) 1 (by omega) d6
  have f7 : ∀ o, w3.frozen? ⟨w.heap.size + 1 + 1, o, none⟩ = false := fun o => froz_up hb3 (w.heap.size + 1 + 1) o (by omega) (d7 o)
  have hz3 : w.heap.size + 1 + 1 < w3.heap.size := by have := hb3.size; omega
  have hb'' := hb'.trans (hb3.mono hb'.size)
  clear d1 d2 d3 d4 d5 d6 d7 hz2
  go_wp2_with fail
  have e1 := fun m : Above w3 => above_at f1 (by omega) m
  have e2 := fun m : Above w3 => above_at f2 (by omega) m
  have e3 := fun m : Above w3 => above_at f3 (by omega) m
  have e4 := fun m : Above w3 => above_at f4 (by omega) m
  refine wp_region_T (by kernel_rfl) (by kernel_rfl) ?_
  repeat (go_big_quiet_step (exact quiet_T (runsigned_any _ _ _)))
  refine wpQuiet_nil ?_
  intro w4 h4
  obtain ⟨⟨x4, hb4⟩, hx4⟩ := h4
  dsimp only at hx4
  subst hx4
  have g1 := cell_up hb4 (w.heap.size) 0 (by omega) f1
  have g2 := cell_up hb4 (w.heap.size) 1 (by omega) f2
  have g3 := cell_up hb4 (w.heap.size + 1) 0 (by omega) f3
  have g4 := cell_up hb4 (w.heap.size + 1) 1 (by omega) f4
  have g5 := cell_up hb4 (w.heap.size + 1 + 1) 0 (by omega) f5
  have g6 := cell_up hb4 (w.heap.size + 1 + 1) 1 (by omega) f6
  have g7 : ∀ o, w4.frozen? ⟨w.heap.size + 1 + 1, o, none⟩ = false := fun o => froz_up hb4 (w.heap.size + 1 + 1) o (by omega) (f7 o)
  have hz4 : w.heap.size + 1 + 1 < w4.heap.size := by have := hb4.size; omega
  have hb3' := hb''.trans (hb4.mono hb''.size)
  clear f1 f2 f3 f4 f5 f6 f7 e1 e2 e3 e4 hz3
  have hL := low_nn (2, n')
  have hM := low_nn (2, n)
  go_wp2_with fail
  refine (rbits_any _ w4 (by omega)).mono ?_
  rintro e w5 ⟨rfl, rfl⟩
  go_wp2_with fail
  refine (refwrap_2 (wrap64 (IntKind.u64.wrap (low (2, n) * 2 ^ (low (2, n') % 64).toNat))) w4).mono ?_
  rintro e w6 ⟨rfl, hb6⟩
  rw [rm_2_116 n n' hn]
  have j1 := cell_up hb6 (w.heap.size) 0 (by omega) g1
  have j2 := cell_up hb6 (w.heap.size) 1 (by omega) g2
  have j3 := cell_up hb6 (w.heap.size + 1) 0 (by omega) g3
  have j4 := cell_up hb6 (w.heap.size + 1) 1 (by omega) g4
  have j5 := cell_up hb6 (w.heap.size + 1 + 1) 0 (by omega) g5
  have j6 := cell_up hb6 (w.heap.size + 1 + 1) 1 (by omega) g6
  have j7 : ∀ o, w6.frozen? ⟨w.heap.size + 1 + 1, o, none⟩ = false := fun o => froz_up hb6 (w.heap.size + 1 + 1) o (by omega) (g7 o)
  have hz6 : w.heap.size + 1 + 1 < w6.heap.size := by have := hb6.size; omega
  clear g1 g2 g3 g4 g5 g6 g7 hL hM
  have hbe := hb3'.trans (hb6.mono hb3'.size)
  go_wp2_with fail
  refine bodyPost_ret (v := .tuple #[.agg #[.int .i64 2, .int .i64 (wk 2 (reckV 2 116 n n'))], .int .i64 0]) (by simp [results, Tryd.results18, go_sem, j5, j6]) rfl ⟨rfl, ?_⟩
  exact (hbe.setCell (by simp; omega) _).setCell (by simp; omega) _

theorem rt_2_117 (op n n' : Int) (w : World) (hcl : Hid (clsV op = (117, 2))) (hrk : Hid (rkV 117 2 = (2, 2, 2, true))) (hp : Hid (mayB (2, n) = true)) (hq : Hid (mayB (2, n') = true)) (hn : RK 2 n) :
    Calls Tryd.prog 18 #[.int .i64 op, .agg #[.int .i64 2, .int .i64 n], .agg #[.int .i64 2, .int .i64 n']] w fun e w' => e = .returned (T2 2 (wk 2 (reckV 2 117 n n')) 0) ∧ Below w.heap.size w w' := by
  go_enter Tryd.func18, Tryd.ntmps18
  go_wp2_with fail
  obtain ⟨tA, tB, tC, c7, tS⟩ := three_blocks w #[.int .i64 2, .int .i64 n] #[.int .i64 2, .int .i64 n'] #[.int .i64 0, .int .i64 0] 23
  obtain ⟨w1, hW⟩ : ∃ W, W = ((w.alloc (.cells #[.int .i64 2, .int .i64 n] 23)).alloc (.cells #[.int .i64 2, .int .i64 n'] 23)).alloc (.cells #[.int .i64 0, .int .i64 0] 23) := ⟨_, rfl⟩
  have hb : Below w.heap.size w w1 := by rw [hW]; exact ((one_block _ _).alloc (by simp) _).alloc (by simp; omega) _
  rw [← hW] at tA tB tC c7 tS ⊢
  clear hW
  have c1 := tA 0
  have c2 := tA 1
  have c3 := tB 0
  have c4 := tB 1
  have c5 := tC 0
  have c6 := tC 1
  simp at c1 c2 c3 c4 c5 c6
  clear tA tB tC
  refine (class_any op w1).mono ?_
  rintro e w0 ⟨rfl, rfl⟩
  rw [hcl.out]
  go_wp2_with fail
  refine (rkinds_any op w1).mono ?_
  rintro e w0 ⟨rfl, rfl⟩
  rw [hcl.out, show rkV _ _ = _ from hrk.out]
  unfold K4
  go_wp2_with fail
  refine (rmay_any _ _ w1).mono ?_
  rintro e w2 ⟨rfl, hb2⟩
  rw [hp.out]
  have d1 := cell_up hb2 (w.heap.size) 0 (by omega) c1
  have d2 := cell_up hb2 (w.heap.size) 1 (by omega) c2
  have d3 := cell_up hb2 (w.heap.size + 1) 0 (by omega) c3
  have d4 := cell_up hb2 (w.heap.size + 1) 1 (by omega) c4
  have d5 := cell_up hb2 (w.heap.size + 1 + 1) 0 (by omega) c5
  have d6 := cell_up hb2 (w.heap.size + 1 + 1) 1 (by omega) c6
  have d7 : ∀ o, w2.frozen? ⟨w.heap.size + 1 + 1, o, none⟩ = false := fun o => froz_up hb2 (w.heap.size + 1 + 1) o (by omega) (c7 o)
  have hz2 : w.heap.size + 1 + 1 < w2.heap.size := by have := hb2.size; omega
  have hb' := hb.trans (hb2.mono hb.size)
  clear c1 c2 c3 c4 c5 c6 c7 tS
  go_wp2_with fail
  refine (rmay_any _ _ w2).mono ?_
  rintro e w3 ⟨rfl, hb3⟩
  rw [hq.out]
  have f1 := cell_up hb3 (w.heap.size) 0 (by omega) d1
  have f2 := cell_up hb3 (w.heap.size) 1 (by omega) d2
  have f3 := cell_up hb3 (w.heap.size + 1) 0 (by omega) d3
  have f4 := cell_up hb3 (w.heap.size + 1) 1 (by omega) d4
  have f5 := cell_up hb3 (w.heap.size + 1 + 1) 0 (by omega) d5
  have f6 := cell_up hb3 (w.heap.size + 1 + 1) 1 (by omega) d6
  have f7 : ∀ o, w3.frozen? ⟨w.heap.size + 1 + 1, o, none⟩ = false := fun o => froz_up hb3 (w.heap.size + 1 + 1) o (by omega) (d7 o)
  have hz3 : w.heap.size + 1 + 1 < w3.heap.size := by have := hb3.size; omega
  have hb'' := hb'.trans (hb3.mono hb'.size)
  clear d1 d2 d3 d4 d5 d6 d7 hz2
  go_wp2_with fail
  have e1 := fun m : Above w3 => above_at f1 (by omega) m
  have e2 := fun m : Above w3 => above_at f2 (by omega) m
  have e3 := fun m : Above w3 => above_at f3 (by omega) m
  have e4 := fun m : Above w3 => above_at f4 (by omega) m
  refine wp_region_T (by kernel_rfl) (by kernel_rfl) ?_
  repeat (go_big_quiet_step (exact quiet_T (runsigned_any _ _ _)))
  refine wpQuiet_nil ?_
  intro w4 h4
  obtain ⟨⟨x4, hb4⟩, hx4⟩ := h4
  dsimp only at hx4
  subst hx4
  have g1 := cell_up hb4 (w.heap.size) 0 (by omega) f1
  have g2 := cell_up hb4 (w.heap.size) 1 (by omega) f2
  have g3 := cell_up hb4 (w.heap.size + 1) 0 (by omega) f3
  have g4 := cell_up hb4 (w.heap.size + 1) 1 (by omega) f4
  have g5 := cell_up hb4 (w.heap.size + 1 + 1) 0 (by omega) f5
  have g6 := cell_up hb4 (w.heap.size + 1 + 1) 1 (by omega) f6
  have g7 : ∀ o, w4.frozen? ⟨w.heap.size + 1 + 1, o, none⟩ = false := fun o => froz_up hb4 (w.heap.size + 1 + 1) o (by omega) (f7 o)
  have hz4 : w.heap.size + 1 + 1 < w4.heap.size := by have := hb4.size; omega
  have hb3' := hb''.trans (hb4.mono hb''.size)
  clear f1 f2 f3 f4 f5 f6 f7 e1 e2 e3 e4 hz3
  have hL := low_nn (2, n')
  have hM := low_nn (2, n)
  go_wp2_with fail
  refine (rbits_any _ w4 (by omega)).mono ?_
  rintro e w5 ⟨rfl, rfl⟩
  go_wp2_with fail
  refine (refwrap_2 (wrap64 (IntKind.u64.wrap (n / 2 ^ (low (2, n') % 64).toNat))) w4).mono ?_
  rintro e w6 ⟨rfl, hb6⟩
  rw [rm_2_117 n n' hn]
  have j1 := cell_up hb6 (w.heap.size) 0 (by omega) g1
  have j2 := cell_up hb6 (w.heap.size) 1 (by omega) g2
  have j3 := cell_up hb6 (w.heap.size + 1) 0 (by omega) g3
  have j4 := cell_up hb6 (w.heap.size + 1) 1 (by omega) g4
  have j5 := cell_up hb6 (w.heap.size + 1 + 1) 0 (by omega) g5
  have j6 := cell_up hb6 (w.heap.size + 1 + 1) 1 (by omega) g6
  have j7 : ∀ o, w6.frozen? ⟨w.heap.size + 1 + 1, o, none⟩ = false := fun o => froz_up hb6 (w.heap.size + 1 + 1) o (by omega) (g7 o)
  have hz6 : w.heap.size + 1 + 1 < w6.heap.size := by have := hb6.size; omega
  clear g1 g2 g3 g4 g5 g6 g7 hL hM
  have hbe := hb3'.trans (hb6.mono hb3'.size)
  go_wp2_with fail
  refine bodyPost_ret (v := .tuple #[.agg #[.int .i64 2, .int .i64 (wk 2 (reckV 2 117 n n'))], .int .i64 0]) (by simp [results, Tryd.results18, go_sem, j5, j6]) rfl ⟨rfl, ?_⟩
  exact (hbe.setCell (by simp; omega) _).setCell (by simp; omega) _

theorem rt_2_118 (op n n' : Int) (w : World) (hcl : Hid (clsV op = (118, 2))) (hrk : Hid (rkV 118 2 = (2, 2, 2, true))) (hp : Hid (mayB (2, n) = true)) (hq : Hid (mayB (2, n') = true)) (hn : RK 2 n) :
    Calls Tryd.prog 18 #[.int .i64 op, .agg #[.int .i64 2, .int .i64 n], .agg #[.int .i64 2, .int .i64 n']] w fun e w' => e = .returned (T2 2 (wk 2 (reckV 2 118 n n')) 0) ∧ Below w.heap.size w w' := by
  go_enter Tryd.func18, Tryd.ntmps18
  go_wp2_with fail
  obtain ⟨tA, tB, tC, c7, tS⟩ := three_blocks w #[.int .i64 2, .int .i64 n] #[.int .i64 2, .int .i64 n'] #[.int .i64 0, .int .i64 0] 23
  obtain ⟨w1, hW⟩ : ∃ W, W = ((w.alloc (.cells #[.int .i64 2, .int .i64 n] 23)).alloc (.cells #[.int .i64 2, .int .i64 n'] 23)).alloc (.cells #[.int .i64 0, .int .i64 0] 23) := ⟨_, rfl⟩
  have hb : Below w.heap.size w w1 := by rw [hW]; exact ((one_block _ _).alloc (by simp) _).alloc (by simp; omega) _
  rw [← hW] at tA tB tC c7 tS ⊢
  clear hW
  have c1 := tA 0
  have c2 := tA 1
  have c3 := tB 0
  have c4 := tB 1
  have c5 := tC 0
  have c6 := tC 1
  simp at c1 c2 c3 c4 c5 c6
  clear tA tB tC
  refine (class_any op w1).mono ?_
  rintro e w0 ⟨rfl, rfl⟩
  rw [hcl.out]
  go_wp2_with fail
  refine (rkinds_any op w1).mono ?_
  rintro e w0 ⟨rfl, rfl⟩
  rw [hcl.out, show rkV _ _ = _ from hrk.out]
  unfold K4
  go_wp2_with fail
  refine (rmay_any _ _ w1).mono ?_
  rintro e w2 ⟨rfl, hb2⟩
  rw [hp.out]
  have d1 := cell_up hb2 (w.heap.size) 0 (by omega) c1
  have d2 := cell_up hb2 (w.heap.size) 1 (by omega) c2
  have d3 := cell_up hb2 (w.heap.size + 1) 0 (by omega) c3
  have d4 := cell_up hb2 (w.heap.size + 1) 1 (by omega) c4
  have d5 := cell_up hb2 (w.heap.size + 1 + 1) 0 (by omega) c5
  have d6 := cell_up hb2 (w.heap.size + 1 + 1) 1 (by omega) c6
  have d7 : ∀ o, w2.frozen? ⟨w.heap.size + 1 + 1, o, none⟩ = false := fun o => froz_up hb2 (w.heap.size + 1 + 1) o (by omega) (c7 o)
  have hz2 : w.heap.size + 1 + 1 < w2.heap.size := by have := hb2.size; omega
  have hb' := hb.trans (hb2.mono hb.size)
  clear c1 c2 c3 c4 c5 c6 c7 tS
  go_wp2_with fail
  refine (rmay_any _ _ w2).mono ?_
  rintro e w3 ⟨rfl, hb3⟩
  rw [hq.out]
  have f1 := cell_up hb3 (w.heap.size) 0 (by omega) d1
  have f2 := cell_up hb3 (w.heap.size) 1 (by omega) d2
  have f3 := cell_up hb3 (w.heap.size + 1) 0 (by omega) d3
  have f4 := cell_up hb3 (w.heap.size + 1) 1 (by omega) d4
  have f5 := cell_up hb3 (w.heap.size + 1 + 1) 0 (by omega) d5
  have f6 := cell_up hb3 (w.heap.size + 1 + 1) 1 (by omega) d6
  have f7 : ∀ o, w3.frozen? ⟨w.heap.size + 1 + 1, o, none⟩ = false := fun o => froz_up hb3 (w.heap.size + 1 + 1) o (by omega) (d7 o)
  have hz3 : w.heap.size + 1 + 1 < w3.heap.size := by have := hb3.size; omega
  have hb'' := hb'.trans (hb3.mono hb'.size)
  clear d1 d2 d3 d4 d5 d6 d7 hz2
  go_wp2_with fail
  have e1 := fun m : Above w3 => above_at f1 (by omega) m
  have e2 := fun m : Above w3 => above_at f2 (by omega) m
  have e3 := fun m : Above w3 => above_at f3 (by omega) m
  have e4 := fun m : Above w3 => above_at f4 (by omega) m
  refine wp_region_T (by kernel_rfl) (by kernel_rfl) ?_
  repeat (go_big_quiet_step (exact quiet_T (runsigned_any _ _ _)))
  refine wpQuiet_nil ?_
  intro w4 h4
  obtain ⟨⟨x4, hb4⟩, hx4⟩ := h4
  dsimp only at hx4
  subst hx4
  have g1 := cell_up hb4 (w.heap.size) 0 (by omega) f1
  have g2 := cell_up hb4 (w.heap.size) 1 (by omega) f2
  have g3 := cell_up hb4 (w.heap.size + 1) 0 (by omega) f3
  have g4 := cell_up hb4 (w.heap.size + 1) 1 (by omega) f4
  have g5 := cell_up hb4 (w.heap.size + 1 + 1) 0 (by omega) f5
  have g6 := cell_up hb4 (w.heap.size + 1 + 1) 1 (by omega) f6
  have g7 : ∀ o, w4.frozen? ⟨w.heap.size + 1 + 1, o, none⟩ = false := fun o => froz_up hb4 (w.heap.size + 1 + 1) o (by omega) (f7 o)
  have hz4 : w.heap.size + 1 + 1 < w4.heap.size := by have := hb4.size; omega
  have hb3' := hb''.trans (hb4.mono hb''.size)
  clear f1 f2 f3 f4 f5 f6 f7 e1 e2 e3 e4 hz3
  have hL := low_nn (2, n')
  have hM := low_nn (2, n)
  go_wp2_with fail
  refine (rbits_any _ w4 (by omega)).mono ?_
  rintro e w5 ⟨rfl, rfl⟩
  go_wp2_with fail
  refine (refwrap_2 (wrap64 (low (2, n) / 2 ^ (low (2, n') % 64).toNat)) w4).mono ?_
  rintro e w6 ⟨rfl, hb6⟩
  rw [rm_2_118 n n' hn]
  have j1 := cell_up hb6 (w.heap.size) 0 (by omega) g1
  have j2 := cell_up hb6 (w.heap.size) 1 (by omega) g2
  have j3 := cell_up hb6 (w.heap.size + 1) 0 (by omega) g3
  have j4 := cell_up hb6 (w.heap.size + 1) 1 (by omega) g4
  have j5 := cell_up hb6 (w.heap.size + 1 + 1) 0 (by omega) g5
  have j6 := cell_up hb6 (w.heap.size + 1 + 1) 1 (by omega) g6
  have j7 : ∀ o, w6.frozen? ⟨w.heap.size + 1 + 1, o, none⟩ = false := fun o => froz_up hb6 (w.heap.size + 1 + 1) o (by omega) (g7 o)
  have hz6 : w.heap.size + 1 + 1 < w6.heap.size := by have := hb6.size; omega
  clear g1 g2 g3 g4 g5 g6 g7 hL hM
  have hbe := hb3'.trans (hb6.mono hb3'.size)
  go_wp2_with fail
  refine bodyPost_ret (v := .tuple #[.agg #[.int .i64 2, .int .i64 (wk 2 (reckV 2 118 n n'))], .int .i64 0]) (by simp [results, Tryd.results18, go_sem, j5, j6]) rfl ⟨rfl, ?_⟩
  exact (hbe.setCell (by simp; omega) _).setCell (by simp; omega) _

theorem rt_2_119 (op n n' : Int) (w : World) (hcl : Hid (clsV op = (119, 2))) (hrk : Hid (rkV 119 2 = (2, 2, 2, true))) (hp : Hid (mayB (2, n) = true)) (hq : Hid (mayB (2, n') = true)) (hn : RK 2 n) :
    Calls Tryd.prog 18 #[.int .i64 op, .agg #[.int .i64 2, .int .i64 n], .agg #[.int .i64 2, .int .i64 n']] w fun e w' => e = .returned (T2 2 (wk 2 (reckV 2 119 n n')) 0) ∧ Below w.heap.size w w' := by
  go_enter Tryd.func18, Tryd.ntmps18
  go_wp2_with fail
  obtain ⟨tA, tB, tC, c7, tS⟩ := three_blocks w #[.int .i64 2, .int .i64 n] #[.int .i64 2, .int .i64 n'] #[.int .i64 0, .int .i64 0] 23
  obtain ⟨w1, hW⟩ : ∃ W, W = ((w.alloc (.cells #[.int .i64 2, .int .i64 n] 23)).alloc (.cells #[.int .i64 2, .int .i64 n'] 23)).alloc (.cells #[.int .i64 0, .int .i64 0] 23) := ⟨_, rfl⟩
  have hb : Below w.heap.size w w1 := by rw [hW]; exact ((one_block _ _).alloc (by simp) _).alloc (by simp; omega) _
  rw [← hW] at tA tB tC c7 tS ⊢
  clear hW
  have c1 := tA 0
  have c2 := tA 1
  have c3 := tB 0
  have c4 := tB 1
  have c5 := tC 0
  have c6 := tC 1
  simp at c1 c2 c3 c4 c5 c6
  clear tA tB tC
  refine (class_any op w1).mono ?_
  rintro e w0 ⟨rfl, rfl⟩
  rw [hcl.out]
  go_wp2_with fail
  refine (rkinds_any op w1).mono ?_
  rintro e w0 ⟨rfl, rfl⟩
  rw [hcl.out, show rkV _ _ = _ from hrk.out]
  unfold K4
  go_wp2_with fail
  refine (rmay_any _ _ w1).mono ?_
  rintro e w2 ⟨rfl, hb2⟩
  rw [hp.out]
  have d1 := cell_up hb2 (w.heap.size) 0 (by omega) c1
  have d2 := cell_up hb2 (w.heap.size) 1 (by omega) c2
  have d3 := cell_up hb2 (w.heap.size + 1) 0 (by omega) c3
  have d4 := cell_up hb2 (w.heap.size + 1) 1 (by omega) c4
  have d5 := cell_up hb2 (w.heap.size + 1 + 1) 0 (by omega) c5
  have d6 := cell_up hb2 (w.heap.size + 1 + 1) 1 (by omega) c6
  have d7 : ∀ o, w2.frozen? ⟨w.heap.size + 1 + 1, o, none⟩ = false := fun o => froz_up hb2 (w.heap.size + 1 + 1) o (by omega) (c7 o)
  have hz2 : w.heap.size + 1 + 1 < w2.heap.size := by have := hb2.size; omega
  have hb' := hb.trans (hb2.mono hb.size)
  clear c1 c2 c3 c4 c5 c6 c7 tS
  go_wp2_with fail
  refine (rmay_any _ _ w2).mono ?_
  rintro e w3 ⟨rfl, hb3⟩
  rw [hq.out]
  have f1 := cell_up hb3 (w.heap.size) 0 (by omega) d1
  have f2 := cell_up hb3 (w.heap.size) 1 (by omega) d2
  have f3 := cell_up hb3 (w.heap.size + 1) 0 (by omega) d3
  have f4 := cell_up hb3 (w.heap.size + 1) 1 (by omega) d4
  have f5 := cell_up hb3 (w.heap.size + 1 + 1) 0 (by omega) d5
  have f6 := cell_up hb3 (w.heap.size + 1 + 1) 1 (by omega) d6
  have f7 : ∀ o, w3.frozen? ⟨w.heap.size + 1 + 1, o, none⟩ = false := fun o => froz_up hb3 (w.heap.size + 1 + 1) o (by omega) (d7 o)
  have hz3 : w.heap.size + 1 + 1 < w3.heap.size := by have := hb3.size; omega
  have hb'' := hb'.trans (hb3.mono hb'.size)
  clear d1 d2 d3 d4 d5 d6 d7 hz2
  go_wp2_with fail
  have e1 := fun m : Above w3 => above_at f1 (by omega) m
  have e2 := fun m : Above w3 => above_at f2 (by omega) m
  have e3 := fun m : Above w3 => above_at f3 (by omega) m
  have e4 := fun m : Above w3 => above_at f4 (by omega) m
  refine wp_region_T (by kernel_rfl) (by kernel_rfl) ?_
  repeat (go_big_quiet_step (exact quiet_T (runsigned_any _ _ _)))
  refine wpQuiet_nil ?_
  intro w4 h4
  obtain ⟨⟨x4, hb4⟩, hx4⟩ := h4
  dsimp only at hx4
  subst hx4
  have g1 := cell_up hb4 (w.heap.size) 0 (by omega) f1
  have g2 := cell_up hb4 (w.heap.size) 1 (by omega) f2
  have g3 := cell_up hb4 (w.heap.size + 1) 0 (by omega) f3
  have g4 := cell_up hb4 (w.heap.size + 1) 1 (by omega) f4
  have g5 := cell_up hb4 (w.heap.size + 1 + 1) 0 (by omega) f5
  have g6 := cell_up hb4 (w.heap.size + 1 + 1) 1 (by omega) f6
  have g7 : ∀ o, w4.frozen? ⟨w.heap.size + 1 + 1, o, none⟩ = false := fun o => froz_up hb4 (w.heap.size + 1 + 1) o (by omega) (f7 o)
  have hz4 : w.heap.size + 1 + 1 < w4.heap.size := by have := hb4.size; omega
  have hb3' := hb''.trans (hb4.mono hb''.size)
  clear f1 f2 f3 f4 f5 f6 f7 e1 e2 e3 e4 hz3
  have hL := low_nn (2, n')
  have hM := low_nn (2, n)
  go_wp2_with fail
  refine (rbits_any _ w4 (by omega)).mono ?_
  rintro e w5 ⟨rfl, rfl⟩
  go_wp2_with fail
  refine (refwrap_2 (wrap64 (bits .or .u64 (IntKind.u64.wrap (low (2, n) * 2 ^ (low (2, n') % 64).toNat)) (low (2, n) / 2 ^ (64 - (low (2, n') % 64)).toNat))) w4).mono ?_
  rintro e w6 ⟨rfl, hb6⟩
  rw [rm_2_119 n n' hn]
  have j1 := cell_up hb6 (w.heap.size) 0 (by omega) g1
  have j2 := cell_up hb6 (w.heap.size) 1 (by omega) g2
  have j3 := cell_up hb6 (w.heap.size + 1) 0 (by omega) g3
  have j4 := cell_up hb6 (w.heap.size + 1) 1 (by omega) g4
  have j5 := cell_up hb6 (w.heap.size + 1 + 1) 0 (by omega) g5
  have j6 := cell_up hb6 (w.heap.size + 1 + 1) 1 (by omega) g6
  have j7 : ∀ o, w6.frozen? ⟨w.heap.size + 1 + 1, o, none⟩ = false := fun o => froz_up hb6 (w.heap.size + 1 + 1) o (by omega) (g7 o)
  have hz6 : w.heap.size + 1 + 1 < w6.heap.size := by have := hb6.size; omega
  clear g1 g2 g3 g4 g5 g6 g7 hL hM
  have hbe := hb3'.trans (hb6.mono hb3'.size)
  go_wp2_with fail
  refine bodyPost_ret (v := .tuple #[.agg #[.int .i64 2, .int .i64 (wk 2 (reckV 2 119 n n'))], .int .i64 0]) (by simp [results, Tryd.results18, go_sem, j5, j6]) rfl ⟨rfl, ?_⟩
  exact (hbe.setCell (by simp; omega) _).setCell (by simp; omega) _

theorem rt_2_120 (op n n' : Int) (w : World) (hcl : Hid (clsV op = (120, 2))) (hrk : Hid (rkV 120 2 = (2, 2, 2, true))) (hp : Hid (mayB (2, n) = true)) (hq : Hid (mayB (2, n') = true)) (hn : RK 2 n) :
    Calls Tryd.prog 18 #[.int .i64 op, .agg #[.int .i64 2, .int .i64 n], .agg #[.int .i64 2, .int .i64 n']] w fun e w' => e = .returned (T2 2 (wk 2 (reckV 2 120 n n')) 0) ∧ Below w.heap.size w w' := by
  go_enter Tryd.func18, Tryd.ntmps18
  go_wp2_with fail
  obtain ⟨tA, tB, tC, c7, tS⟩ := three_blocks w #[.int .i64 2, .int .i64 n] #[.int .i64 2, .int .i64 n'] #[.int .i64 0, .int .i64 0] 23
  obtain ⟨w1, hW⟩ : ∃ W, W = ((w.alloc (.cells #[.int .i64 2, .int .i64 n] 23)).alloc (.cells #[.int .i64 2, .int .i64 n'] 23)).alloc (.cells #[.int .i64 0, .int .i64 0] 23) := ⟨_, rfl⟩
  have hb : Below w.heap.size w w1 := by rw [hW]; exact ((one_block _ _).alloc (by simp) _).alloc (by simp; omega) _
  rw [← hW] at tA tB tC c7 tS ⊢
  clear hW
  have c1 := tA 0
  have c2 := tA 1
  have c3 := tB 0
  have c4 := tB 1
  have c5 := tC 0
  have c6 := tC 1
  simp at c1 c2 c3 c4 c5 c6
  clear tA tB tC
  refine (class_any op w1).mono ?_
  rintro e w0 ⟨rfl, rfl⟩
  rw [hcl.out]
  go_wp2_with fail
  refine (rkinds_any op w1).mono ?_
  rintro e w0 ⟨rfl, rfl⟩
  rw [hcl.out, show rkV _ _ = _ from hrk.out]
  unfold K4
  go_wp2_with fail
  refine (rmay_any _ _ w1).mono ?_
  rintro e w2 ⟨rfl, hb2⟩
  rw [hp.out]
  have d1 := cell_up hb2 (w.heap.size) 0 (by omega) c1
  have d2 := cell_up hb2 (w.heap.size) 1 (by omega) c2
  have d3 := cell_up hb2 (w.heap.size + 1) 0 (by omega) c3
  have d4 := cell_up hb2 (w.heap.size + 1) 1 (by omega) c4
  have d5 := cell_up hb2 (w.heap.size + 1 + 1) 0 (by omega) c5
  have d6 := cell_up hb2 (w.heap.size + 1 + 1) 1 (by omega) c6
  have d7 : ∀ o, w2.frozen? ⟨w.heap.size + 1 + 1, o, none⟩ = false := fun o => froz_up hb2 (w.heap.size + 1 + 1) o (by omega) (c7 o)
  have hz2 : w.heap.size + 1 + 1 < w2.heap.size := by have := hb2.size; omega
  have hb' := hb.trans (hb2.mono hb.size)
  clear c1 c2 c3 c4 c5 c6 c7 tS
  go_wp2_with fail
  refine (rmay_any _ _ w2).mono ?_
  rintro e w3 ⟨rfl, hb3⟩
  rw [hq.out]
  have f1 := cell_up hb3 (w.heap.size) 0 (by omega) d1
  have f2 := cell_up hb3 (w.heap.size) 1 (by omega) d2
  have f3 := cell_up hb3 (w.heap.size + 1) 0 (by omega) d3
  have f4 := cell_up hb3 (w.heap.size + 1) 1 (by omega) d4
  have f5 := cell_up hb3 (w.heap.size + 1 + 1) 0 (by omega) d5
  have f6 := cell_up hb3 (w.heap.size + 1 + 1) 1 (by omega) d6
  have f7 : ∀ o, w3.frozen? ⟨w.heap.size + 1 + 1, o, none⟩ = false := fun o => froz_up hb3 (w.heap.size + 1 + 1) o (by omega) (d7 o)
  have hz3 : w.heap.size + 1 + 1 < w3.heap.size := by have := hb3.size; omega
  have hb'' := hb'.trans (hb3.mono hb'.size)
  clear d1 d2 d3 d4 d5 d6 d7 hz2
  go_wp2_with fail
  have e1 := fun m : Above w3 => above_at f1 (by omega) m
  have e2 := fun m : Above w3 => above_at f2 (by omega) m
  have e3 := fun m : Above w3 => above_at f3 (by omega) m
  have e4 := fun m : Above w3 => above_at f4 (by omega) m
  refine wp_region_T (by kernel_rfl) (by kernel_rfl) ?_
  repeat (go_big_quiet_step (exact quiet_T (runsigned_any _ _ _)))
  refine wpQuiet_nil ?_
  intro w4 h4
  obtain ⟨⟨x4, hb4⟩, hx4⟩ := h4
  dsimp only at hx4
  subst hx4
  have g1 := cell_up hb4 (w.heap.size) 0 (by omega) f1
  have g2 := cell_up hb4 (w.heap.size) 1 (by omega) f2
  have g3 := cell_up hb4 (w.heap.size + 1) 0 (by omega) f3
  have g4 := cell_up hb4 (w.heap.size + 1) 1 (by omega) f4
  have g5 := cell_up hb4 (w.heap.size + 1 + 1) 0 (by omega) f5
  have g6 := cell_up hb4 (w.heap.size + 1 + 1) 1 (by omega) f6
  have g7 : ∀ o, w4.frozen? ⟨w.heap.size + 1 + 1, o, none⟩ = false := fun o => froz_up hb4 (w.heap.size + 1 + 1) o (by omega) (f7 o)
  have hz4 : w.heap.size + 1 + 1 < w4.heap.size := by have := hb4.size; omega
  have hb3' := hb''.trans (hb4.mono hb''.size)
  clear f1 f2 f3 f4 f5 f6 f7 e1 e2 e3 e4 hz3
  have hL := low_nn (2, n')
  have hM := low_nn (2, n)
  go_wp2_with fail
  refine (rbits_any _ w4 (by omega)).mono ?_
  rintro e w5 ⟨rfl, rfl⟩
  go_wp2_with fail
  refine (refwrap_2 (wrap64 (bits .or .u64 (low (2, n) / 2 ^ (low (2, n') % 64).toNat) (IntKind.u64.wrap (low (2, n) * 2 ^ (64 - (low (2, n') % 64)).toNat)))) w4).mono ?_
  rintro e w6 ⟨rfl, hb6⟩
  rw [rm_2_120 n n' hn]
  have j1 := cell_up hb6 (w.heap.size) 0 (by omega) g1
  have j2 := cell_up hb6 (w.heap.size) 1 (by omega) g2
  have j3 := cell_up hb6 (w.heap.size + 1) 0 (by omega) g3
  have j4 := cell_up hb6 (w.heap.size + 1) 1 (by omega) g4
  have j5 := cell_up hb6 (w.heap.size + 1 + 1) 0 (by omega) g5
  have j6 := cell_up hb6 (w.heap.size + 1 + 1) 1 (by omega) g6
  have j7 : ∀ o, w6.frozen? ⟨w.heap.size + 1 + 1, o, none⟩ = false := fun o => froz_up hb6 (w.heap.size + 1 + 1) o (by omega) (g7 o)
  have hz6 : w.heap.size + 1 + 1 < w6.heap.size := by have := hb6.size; omega
  clear g1 g2 g3 g4 g5 g6 g7 hL hM
  have hbe := hb3'.trans (hb6.mono hb3'.size)
  go_wp2_with fail
  refine bodyPost_ret (v := .tuple #[.agg #[.int .i64 2, .int .i64 (wk 2 (reckV 2 120 n n'))], .int .i64 0]) (by simp [results, Tryd.results18, go_sem, j5, j6]) rfl ⟨rfl, ?_⟩
  exact (hbe.setCell (by simp; omega) _).setCell (by simp; omega) _

theorem rtd_2 (op c n n' : Int) (w : World) (hc : c = 109 ∨ c = 110 ∨ c = 111 ∨ c = 112) (hcl : Hid (clsV op = (c, 2))) (hrk : Hid (rkV c 2 = (2, 2, 2, true))) (hp : Hid (mayB (2, n) = true)) (hq : Hid (mayB (2, n') = true)) (hn : RK 2 n) (hm : RK 2 n') :
    Calls Tryd.prog 18 #[.int .i64 op, .agg #[.int .i64 2, .int .i64 n], .agg #[.int .i64 2, .int .i64 n']] w fun e w' => e = .returned (T2 (divV 2 c n n').1 (divV 2 c n n').2.1 (divV 2 c n n').2.2) ∧ Below w.heap.size w w' := by
  have q1 : decide (c ≤ 79) = false := decide_eq_false (by omega)
  have q2 : decide (109 ≤ c) = true := decide_eq_true (by omega)
  have q3 : decide (c ≤ 112) = true := decide_eq_true (by omega)
  go_enter Tryd.func18, Tryd.ntmps18
  go_wp2_with fail
  obtain ⟨tA, tB, tC, c7, tS⟩ := three_blocks w #[.int .i64 2, .int .i64 n] #[.int .i64 2, .int .i64 n'] #[.int .i64 0, .int .i64 0] 23
  obtain ⟨w1, hW⟩ : ∃ W, W = ((w.alloc (.cells #[.int .i64 2, .int .i64 n] 23)).alloc (.cells #[.int .i64 2, .int .i64 n'] 23)).alloc (.cells #[.int .i64 0, .int .i64 0] 23) := ⟨_, rfl⟩
  have hb : Below w.heap.size w w1 := by rw [hW]; exact ((one_block _ _).alloc (by simp) _).alloc (by simp; omega) _
  rw [← hW] at tA tB tC c7 tS ⊢
  clear hW
  have c1 := tA 0
  have c2 := tA 1
  have c3 := tB 0
  have c4 := tB 1
  have c5 := tC 0
  have c6 := tC 1
  simp at c1 c2 c3 c4 c5 c6
  clear tA tB tC
  refine (class_any op w1).mono ?_
  rintro e w0 ⟨rfl, rfl⟩
  rw [hcl.out]
  go_wp2_with fail
  refine (rkinds_any op w1).mono ?_
  rintro e w0 ⟨rfl, rfl⟩
  rw [hcl.out, show rkV _ _ = _ from hrk.out]
  unfold K4
  go_wp2_with fail
  refine (rmay_any _ _ w1).mono ?_
  rintro e w2 ⟨rfl, hb2⟩
  rw [hp.out]
  have d1 := cell_up hb2 (w.heap.size) 0 (by omega) c1
  have d2 := cell_up hb2 (w.heap.size) 1 (by omega) c2
  have d3 := cell_up hb2 (w.heap.size + 1) 0 (by omega) c3
  have d4 := cell_up hb2 (w.heap.size + 1) 1 (by omega) c4
  have d5 := cell_up hb2 (w.heap.size + 1 + 1) 0 (by omega) c5
  have d6 := cell_up hb2 (w.heap.size + 1 + 1) 1 (by omega) c6
  have d7 : ∀ o, w2.frozen? ⟨w.heap.size + 1 + 1, o, none⟩ = false := fun o => froz_up hb2 (w.heap.size + 1 + 1) o (by omega) (c7 o)
  have hz2 : w.heap.size + 1 + 1 < w2.heap.size := by have := hb2.size; omega
  have hb' := hb.trans (hb2.mono hb.size)
  clear c1 c2 c3 c4 c5 c6 c7 tS
  go_wp2_with fail
  refine (rmay_any _ _ w2).mono ?_
  rintro e w3 ⟨rfl, hb3⟩
  rw [hq.out]
  have f1 := cell_up hb3 (w.heap.size) 0 (by omega) d1
  have f2 := cell_up hb3 (w.heap.size) 1 (by omega) d2
  have f3 := cell_up hb3 (w.heap.size + 1) 0 (by omega) d3
  have f4 := cell_up hb3 (w.heap.size + 1) 1 (by omega) d4
  have f5 := cell_up hb3 (w.heap.size + 1 + 1) 0 (by omega) d5
  have f6 := cell_up hb3 (w.heap.size + 1 + 1) 1 (by omega) d6
  have f7 : ∀ o, w3.frozen? ⟨w.heap.size + 1 + 1, o, none⟩ = false := fun o => froz_up hb3 (w.heap.size + 1 + 1) o (by omega) (d7 o)
  have hz3 : w.heap.size + 1 + 1 < w3.heap.size := by have := hb3.size; omega
  have hb'' := hb'.trans (hb3.mono hb'.size)
  clear d1 d2 d3 d4 d5 d6 d7 hz2
  go_wp2_with fail
  have e1 := fun m : Above w3 => above_at f1 (by omega) m
  have e2 := fun m : Above w3 => above_at f2 (by omega) m
  have e3 := fun m : Above w3 => above_at f3 (by omega) m
  have e4 := fun m : Above w3 => above_at f4 (by omega) m
  refine wp_region_T (by kernel_rfl) (by kernel_rfl) ?_
  repeat (go_big_quiet_step (exact quiet_T (runsigned_any _ _ _)))
  refine wpQuiet_nil ?_
  intro w4 h4
  obtain ⟨⟨x4, hb4⟩, hx4⟩ := h4
  dsimp only at hx4
  subst hx4
  have g1 := cell_up hb4 (w.heap.size) 0 (by omega) f1
  have g2 := cell_up hb4 (w.heap.size) 1 (by omega) f2
  have g3 := cell_up hb4 (w.heap.size + 1) 0 (by omega) f3
  have g4 := cell_up hb4 (w.heap.size + 1) 1 (by omega) f4
  have g5 := cell_up hb4 (w.heap.size + 1 + 1) 0 (by omega) f5
  have g6 := cell_up hb4 (w.heap.size + 1 + 1) 1 (by omega) f6
  have g7 : ∀ o, w4.frozen? ⟨w.heap.size + 1 + 1, o, none⟩ = false := fun o => froz_up hb4 (w.heap.size + 1 + 1) o (by omega) (f7 o)
  have hz4 : w.heap.size + 1 + 1 < w4.heap.size := by have := hb4.size; omega
  have hb3' := hb''.trans (hb4.mono hb''.size)
  clear f1 f2 f3 f4 f5 f6 f7 e1 e2 e3 e4 hz3
  go_wp2_with fail
  refine (rdiv_any c 2 n n' w4 (by omega) hc hn hm).mono ?_
  rintro e w6 ⟨rfl, hb6⟩
  have j1 := cell_up hb6 (w.heap.size) 0 (by omega) g1
  have j2 := cell_up hb6 (w.heap.size) 1 (by omega) g2
  have j3 := cell_up hb6 (w.heap.size + 1) 0 (by omega) g3
  have j4 := cell_up hb6 (w.heap.size + 1) 1 (by omega) g4
  have j5 := cell_up hb6 (w.heap.size + 1 + 1) 0 (by omega) g5
  have j6 := cell_up hb6 (w.heap.size + 1 + 1) 1 (by omega) g6
  have j7 : ∀ o, w6.frozen? ⟨w.heap.size + 1 + 1, o, none⟩ = false := fun o => froz_up hb6 (w.heap.size + 1 + 1) o (by omega) (g7 o)
  have hz6 : w.heap.size + 1 + 1 < w6.heap.size := by have := hb6.size; omega
  clear g1 g2 g3 g4 g5 g6 g7
  unfold T2
  have hbe := hb3'.trans (hb6.mono hb3'.size)
  go_wp2_with fail
  refine bodyPost_ret (v := .tuple #[.agg #[.int .i64 (divV 2 c n n').1, .int .i64 (divV 2 c n n').2.1], .int .i64 (divV 2 c n n').2.2]) (by simp [results, Tryd.results18, go_sem, j5, j6]) rfl ⟨rfl, ?_⟩
  exact (hbe.setCell (by simp; omega) _).setCell (by simp; omega) _

theorem rtc_2 (op c n n' : Int) (b : Bool) (w : World) (hc : c ≤ 79) (hcmp : ∀ w, Calls Tryd.prog 43 #[.int .i64 c, .int .i64 n, .int .i64 n', .int .u64 (low (2, n)), .int .u64 (low (2, n'))] w fun e w' => e = .returned (.bool b) ∧ w = w') (hcl : Hid (clsV op = (c, 2))) (hrk : Hid (rkV c 2 = (2, 2, 1, true))) (hp : Hid (mayB (2, n) = true)) (hq : Hid (mayB (2, n') = true)) :
    Calls Tryd.prog 18 #[.int .i64 op, .agg #[.int .i64 2, .int .i64 n], .agg #[.int .i64 2, .int .i64 n']] w fun e w' => e = .returned (T2 1 (b2i b) 0) ∧ Below w.heap.size w w' := by
  have q1 : decide (c ≤ 79) = true := decide_eq_true hc
  have HCM := Lib.hid hcmp
  clear hcmp hc
  go_enter Tryd.func18, Tryd.ntmps18
  go_wp2_with fail
  obtain ⟨tA, tB, tC, c7, tS⟩ := three_blocks w #[.int .i64 2, .int .i64 n] #[.int .i64 2, .int .i64 n'] #[.int .i64 0, .int .i64 0] 23
  obtain ⟨w1, hW⟩ : ∃ W, W = ((w.alloc (.cells #[.int .i64 2, .int .i64 n] 23)).alloc (.cells #[.int .i64 2, .int .i64 n'] 23)).alloc (.cells #[.int .i64 0, .int .i64 0] 23) := ⟨_, rfl⟩
  have hb : Below w.heap.size w w1 := by rw [hW]; exact ((one_block _ _).alloc (by simp) _).alloc (by simp; omega) _
  rw [← hW] at tA tB tC c7 tS ⊢
  clear hW
  have c1 := tA 0
  have c2 := tA 1
  have c3 := tB 0
  have c4 := tB 1
  have c5 := tC 0
  have c6 := tC 1
  simp at c1 c2 c3 c4 c5 c6
  clear tA tB tC
  refine (class_any op w1).mono ?_
  rintro e w0 ⟨rfl, rfl⟩
  rw [hcl.out]
  go_wp2_with fail
  refine (rkinds_any op w1).mono ?_
  rintro e w0 ⟨rfl, rfl⟩
  rw [hcl.out, show rkV _ _ = _ from hrk.out]
  unfold K4
  go_wp2_with fail
  refine (rmay_any _ _ w1).mono ?_
  rintro e w2 ⟨rfl, hb2⟩
  rw [hp.out]
  have d1 := cell_up hb2 (w.heap.size) 0 (by omega) c1
  have d2 := cell_up hb2 (w.heap.size) 1 (by omega) c2
  have d3 := cell_up hb2 (w.heap.size + 1) 0 (by omega) c3
  have d4 := cell_up hb2 (w.heap.size + 1) 1 (by omega) c4
  have d5 := cell_up hb2 (w.heap.size + 1 + 1) 0 (by omega) c5
  have d6 := cell_up hb2 (w.heap.size + 1 + 1) 1 (by omega) c6
  have d7 : ∀ o, w2.frozen? ⟨w.heap.size + 1 + 1, o, none⟩ = false := fun o => froz_up hb2 (w.heap.size + 1 + 1) o (by omega) (c7 o)
  have hz2 : w.heap.size + 1 + 1 < w2.heap.size := by have := hb2.size; omega
  have hb' := hb.trans (hb2.mono hb.size)
  clear c1 c2 c3 c4 c5 c6 c7 tS
  go_wp2_with fail
  refine (rmay_any _ _ w2).mono ?_
  rintro e w3 ⟨rfl, hb3⟩
  rw [hq.out]
  have f1 := cell_up hb3 (w.heap.size) 0 (by omega) d1
  have f2 := cell_up hb3 (w.heap.size) 1 (by omega) d2
  have f3 := cell_up hb3 (w.heap.size + 1) 0 (by omega) d3
  have f4 := cell_up hb3 (w.heap.size + 1) 1 (by omega) d4
  have f5 := cell_up hb3 (w.heap.size + 1 + 1) 0 (by omega) d5
  have f6 := cell_up hb3 (w.heap.size + 1 + 1) 1 (by omega) d6
  have f7 : ∀ o, w3.frozen? ⟨w.heap.size + 1 + 1, o, none⟩ = false := fun o => froz_up hb3 (w.heap.size + 1 + 1) o (by omega) (d7 o)
  have hz3 : w.heap.size + 1 + 1 < w3.heap.size := by have := hb3.size; omega
  have hb'' := hb'.trans (hb3.mono hb'.size)
  clear d1 d2 d3 d4 d5 d6 d7 hz2
  go_wp2_with fail
  have e1 := fun m : Above w3 => above_at f1 (by omega) m
  have e2 := fun m : Above w3 => above_at f2 (by omega) m
  have e3 := fun m : Above w3 => above_at f3 (by omega) m
  have e4 := fun m : Above w3 => above_at f4 (by omega) m
  refine wp_region_T (by kernel_rfl) (by kernel_rfl) ?_
  repeat (go_big_quiet_step (exact quiet_T (runsigned_any _ _ _)))
  refine wpQuiet_nil ?_
  intro w4 h4
  obtain ⟨⟨x4, hb4⟩, hx4⟩ := h4
  dsimp only at hx4
  subst hx4
  have g1 := cell_up hb4 (w.heap.size) 0 (by omega) f1
  have g2 := cell_up hb4 (w.heap.size) 1 (by omega) f2
  have g3 := cell_up hb4 (w.heap.size + 1) 0 (by omega) f3
  have g4 := cell_up hb4 (w.heap.size + 1) 1 (by omega) f4
  have g5 := cell_up hb4 (w.heap.size + 1 + 1) 0 (by omega) f5
  have g6 := cell_up hb4 (w.heap.size + 1 + 1) 1 (by omega) f6
  have g7 : ∀ o, w4.frozen? ⟨w.heap.size + 1 + 1, o, none⟩ = false := fun o => froz_up hb4 (w.heap.size + 1 + 1) o (by omega) (f7 o)
  have hz4 : w.heap.size + 1 + 1 < w4.heap.size := by have := hb4.size; omega
  have hb3' := hb''.trans (hb4.mono hb''.size)
  clear f1 f2 f3 f4 f5 f6 f7 e1 e2 e3 e4 hz3
  go_wp2_with fail
  refine (HCM.out w4).mono ?_
  rintro e w5 ⟨rfl, rfl⟩
  go_wp2_with fail
  refine (truth_any b w4).mono ?_
  rintro e w6 ⟨rfl, hb6⟩
  have j1 := cell_up hb6 (w.heap.size) 0 (by omega) g1
  have j2 := cell_up hb6 (w.heap.size) 1 (by omega) g2
  have j3 := cell_up hb6 (w.heap.size + 1) 0 (by omega) g3
  have j4 := cell_up hb6 (w.heap.size + 1) 1 (by omega) g4
  have j5 := cell_up hb6 (w.heap.size + 1 + 1) 0 (by omega) g5
  have j6 := cell_up hb6 (w.heap.size + 1 + 1) 1 (by omega) g6
  have j7 : ∀ o, w6.frozen? ⟨w.heap.size + 1 + 1, o, none⟩ = false := fun o => froz_up hb6 (w.heap.size + 1 + 1) o (by omega) (g7 o)
  have hz6 : w.heap.size + 1 + 1 < w6.heap.size := by have := hb6.size; omega
  clear g1 g2 g3 g4 g5 g6 g7
  have hbe := hb3'.trans (hb6.mono hb3'.size)
  go_wp2_with fail
  refine bodyPost_ret (v := .tuple #[.agg #[.int .i64 1, .int .i64 (b2i b)], .int .i64 0]) (by simp [results, Tryd.results18, go_sem, j5, j6]) rfl ⟨rfl, ?_⟩
  exact (hbe.setCell (by simp; omega) _).setCell (by simp; omega) _

theorem rtf_ok (op c k k1 k2 n n' num frm to : Int) (ok : Bool) (w : World) (hcl : Hid (clsV op = (c, k))) (hrk : Hid (rkV c k = (num, frm, to, ok))) (h : ok = false) :
    Calls Tryd.prog 18 #[.int .i64 op, .agg #[.int .i64 k1, .int .i64 n], .agg #[.int .i64 k2, .int .i64 n']] w fun e w' => e = .returned (T2 0 0 (-1)) ∧ Below w.heap.size w w' := by
  subst h
  go_enter Tryd.func18, Tryd.ntmps18
  go_wp2_with fail
  obtain ⟨tA, tB, tC, c7, tS⟩ := three_blocks w #[.int .i64 k1, .int .i64 n] #[.int .i64 k2, .int .i64 n'] #[.int .i64 0, .int .i64 0] 23
  obtain ⟨w1, hW⟩ : ∃ W, W = ((w.alloc (.cells #[.int .i64 k1, .int .i64 n] 23)).alloc (.cells #[.int .i64 k2, .int .i64 n'] 23)).alloc (.cells #[.int .i64 0, .int .i64 0] 23) := ⟨_, rfl⟩
  have hb : Below w.heap.size w w1 := by rw [hW]; exact ((one_block _ _).alloc (by simp) _).alloc (by simp; omega) _
  rw [← hW] at tA tB tC c7 tS ⊢
  clear hW
  have c1 := tA 0
  have c2 := tA 1
  have c3 := tB 0
  have c4 := tB 1
  have c5 := tC 0
  have c6 := tC 1
  simp at c1 c2 c3 c4 c5 c6
  clear tA tB tC
  refine (class_any op w1).mono ?_
  rintro e w0 ⟨rfl, rfl⟩
  rw [hcl.out]
  go_wp2_with fail
  refine (rkinds_any op w1).mono ?_
  rintro e w0 ⟨rfl, rfl⟩
  rw [hcl.out, show rkV _ _ = _ from hrk.out]
  unfold K4
  go_wp2_with fail
  refine bodyPost_ret (v := .tuple #[.agg #[.int .i64 0, .int .i64 0], .int .i64 (-1)]) (by simp [results, Tryd.results18, go_sem, c5, c6]) rfl ⟨rfl, ?_⟩
  exact (Below.setCell hb (by simp; omega) _).setCell (by simp; omega) _

theorem rtf_num (op c k k1 k2 n n' num frm to : Int) (ok : Bool) (w : World) (hcl : Hid (clsV op = (c, k))) (hrk : Hid (rkV c k = (num, frm, to, ok))) (h0 : ok = true) (h : ¬ num = 2) :
    Calls Tryd.prog 18 #[.int .i64 op, .agg #[.int .i64 k1, .int .i64 n], .agg #[.int .i64 k2, .int .i64 n']] w fun e w' => e = .returned (T2 0 0 (-1)) ∧ Below w.heap.size w w' := by
  subst h0
  have q : (num == 2) = false := beq_eq_false_iff_ne.2 h
  go_enter Tryd.func18, Tryd.ntmps18
  go_wp2_with fail
  obtain ⟨tA, tB, tC, c7, tS⟩ := three_blocks w #[.int .i64 k1, .int .i64 n] #[.int .i64 k2, .int .i64 n'] #[.int .i64 0, .int .i64 0] 23
  obtain ⟨w1, hW⟩ : ∃ W, W = ((w.alloc (.cells #[.int .i64 k1, .int .i64 n] 23)).alloc (.cells #[.int .i64 k2, .int .i64 n'] 23)).alloc (.cells #[.int .i64 0, .int .i64 0] 23) := ⟨_, rfl⟩
  have hb : Below w.heap.size w w1 := by rw [hW]; exact ((one_block _ _).alloc (by simp) _).alloc (by simp; omega) _
  rw [← hW] at tA tB tC c7 tS ⊢
  clear hW
  have c1 := tA 0
  have c2 := tA 1
  have c3 := tB 0
  have c4 := tB 1
  have c5 := tC 0
  have c6 := tC 1
  simp at c1 c2 c3 c4 c5 c6
  clear tA tB tC
  refine (class_any op w1).mono ?_
  rintro e w0 ⟨rfl, rfl⟩
  rw [hcl.out]
  go_wp2_with fail
  refine (rkinds_any op w1).mono ?_
  rintro e w0 ⟨rfl, rfl⟩
  rw [hcl.out, show rkV _ _ = _ from hrk.out]
  unfold K4
  go_wp2_with fail
  refine bodyPost_ret (v := .tuple #[.agg #[.int .i64 0, .int .i64 0], .int .i64 (-1)]) (by simp [results, Tryd.results18, go_sem, c5, c6]) rfl ⟨rfl, ?_⟩
  exact (Below.setCell hb (by simp; omega) _).setCell (by simp; omega) _

theorem rtf_k1 (op c k k1 k2 n n' num frm to : Int) (ok : Bool) (w : World) (hcl : Hid (clsV op = (c, k))) (hrk : Hid (rkV c k = (num, frm, to, ok))) (h0 : ok = true) (h1 : num = 2) (h : ¬ k1 = k) :
    Calls Tryd.prog 18 #[.int .i64 op, .agg #[.int .i64 k1, .int .i64 n], .agg #[.int .i64 k2, .int .i64 n']] w fun e w' => e = .returned (T2 0 0 (-1)) ∧ Below w.heap.size w w' := by
  subst h0 h1
  have q : (k1 == k) = false := beq_eq_false_iff_ne.2 h
  go_enter Tryd.func18, Tryd.ntmps18
  go_wp2_with fail
  obtain ⟨tA, tB, tC, c7, tS⟩ := three_blocks w #[.int .i64 k1, .int .i64 n] #[.int .i64 k2, .int .i64 n'] #[.int .i64 0, .int .i64 0] 23
  obtain ⟨w1, hW⟩ : ∃ W, W = ((w.alloc (.cells #[.int .i64 k1, .int .i64 n] 23)).alloc (.cells #[.int .i64 k2, .int .i64 n'] 23)).alloc (.cells #[.int .i64 0, .int .i64 0] 23) := ⟨_, rfl⟩
  have hb : Below w.heap.size w w1 := by rw [hW]; exact ((one_block _ _).alloc (by simp) _).alloc (by simp; omega) _
  rw [← hW] at tA tB tC c7 tS ⊢
  clear hW
  have c1 := tA 0
  have c2 := tA 1
  have c3 := tB 0
  have c4 := tB 1
  have c5 := tC 0
  have c6 := tC 1
  simp at c1 c2 c3 c4 c5 c6
  clear tA tB tC
  refine (class_any op w1).mono ?_
  rintro e w0 ⟨rfl, rfl⟩
  rw [hcl.out]
  go_wp2_with fail
  refine (rkinds_any op w1).mono ?_
  rintro e w0 ⟨rfl, rfl⟩
  rw [hcl.out, show rkV _ _ = _ from hrk.out]
  unfold K4
  go_wp2_with fail
  refine bodyPost_ret (v := .tuple #[.agg #[.int .i64 0, .int .i64 0], .int .i64 (-1)]) (by simp [results, Tryd.results18, go_sem, c5, c6]) rfl ⟨rfl, ?_⟩
  exact (Below.setCell hb (by simp; omega) _).setCell (by simp; omega) _

theorem rtf_k2 (op c k k1 k2 n n' num frm to : Int) (ok : Bool) (w : World) (hcl : Hid (clsV op = (c, k))) (hrk : Hid (rkV c k = (num, frm, to, ok))) (h0 : ok = true) (h1 : num = 2) (h2 : k1 = k) (h : ¬ k2 = k) :
    Calls Tryd.prog 18 #[.int .i64 op, .agg #[.int .i64 k1, .int .i64 n], .agg #[.int .i64 k2, .int .i64 n']] w fun e w' => e = .returned (T2 0 0 (-1)) ∧ Below w.heap.size w w' := by
  subst h0 h1 h2
  have q : (k2 == k1) = false := beq_eq_false_iff_ne.2 h
  go_enter Tryd.func18, Tryd.ntmps18
  go_wp2_with fail
  obtain ⟨tA, tB, tC, c7, tS⟩ := three_blocks w #[.int .i64 k1, .int .i64 n] #[.int .i64 k2, .int .i64 n'] #[.int .i64 0, .int .i64 0] 23
  obtain ⟨w1, hW⟩ : ∃ W, W = ((w.alloc (.cells #[.int .i64 k1, .int .i64 n] 23)).alloc (.cells #[.int .i64 k2, .int .i64 n'] 23)).alloc (.cells #[.int .i64 0, .int .i64 0] 23) := ⟨_, rfl⟩
  have hb : Below w.heap.size w w1 := by rw [hW]; exact ((one_block _ _).alloc (by simp) _).alloc (by simp; omega) _
  rw [← hW] at tA tB tC c7 tS ⊢
  clear hW
  have c1 := tA 0
  have c2 := tA 1
  have c3 := tB 0
  have c4 := tB 1
  have c5 := tC 0
  have c6 := tC 1
  simp at c1 c2 c3 c4 c5 c6
  clear tA tB tC
  refine (class_any op w1).mono ?_
  rintro e w0 ⟨rfl, rfl⟩
  rw [hcl.out]
  go_wp2_with fail
  refine (rkinds_any op w1).mono ?_
  rintro e w0 ⟨rfl, rfl⟩
  rw [hcl.out, show rkV _ _ = _ from hrk.out]
  unfold K4
  go_wp2_with fail
  refine bodyPost_ret (v := .tuple #[.agg #[.int .i64 0, .int .i64 0], .int .i64 (-1)]) (by simp [results, Tryd.results18, go_sem, c5, c6]) rfl ⟨rfl, ?_⟩
  exact (Below.setCell hb (by simp; omega) _).setCell (by simp; omega) _

theorem rtf_m1 (op c k k1 k2 n n' num frm to : Int) (ok : Bool) (w : World) (hcl : Hid (clsV op = (c, k))) (hrk : Hid (rkV c k = (num, frm, to, ok))) (h0 : ok = true) (h1 : num = 2) (h2 : k1 = k) (h3 : k2 = k) (hp : Hid (mayB (k, n) = false)) :
    Calls Tryd.prog 18 #[.int .i64 op, .agg #[.int .i64 k1, .int .i64 n], .agg #[.int .i64 k2, .int .i64 n']] w fun e w' => e = .returned (T2 0 0 (-1)) ∧ Below w.heap.size w w' := by
  subst h0 h1 h2 h3
  go_enter Tryd.func18, Tryd.ntmps18
  go_wp2_with fail
  obtain ⟨tA, tB, tC, c7, tS⟩ := three_blocks w #[.int .i64 k2, .int .i64 n] #[.int .i64 k2, .int .i64 n'] #[.int .i64 0, .int .i64 0] 23
  obtain ⟨w1, hW⟩ : ∃ W, W = ((w.alloc (.cells #[.int .i64 k2, .int .i64 n] 23)).alloc (.cells #[.int .i64 k2, .int .i64 n'] 23)).alloc (.cells #[.int .i64 0, .int .i64 0] 23) := ⟨_, rfl⟩
  have hb : Below w.heap.size w w1 := by rw [hW]; exact ((one_block _ _).alloc (by simp) _).alloc (by simp; omega) _
  rw [← hW] at tA tB tC c7 tS ⊢
  clear hW
  have c1 := tA 0
  have c2 := tA 1
  have c3 := tB 0
  have c4 := tB 1
  have c5 := tC 0
  have c6 := tC 1
  simp at c1 c2 c3 c4 c5 c6
  clear tA tB tC
  refine (class_any op w1).mono ?_
  rintro e w0 ⟨rfl, rfl⟩
  rw [hcl.out]
  go_wp2_with fail
  refine (rkinds_any op w1).mono ?_
  rintro e w0 ⟨rfl, rfl⟩
  rw [hcl.out, show rkV _ _ = _ from hrk.out]
  unfold K4
  go_wp2_with fail
  refine (rmay_any _ _ w1).mono ?_
  rintro e w2 ⟨rfl, hb2⟩
  rw [hp.out]
  have d1 := cell_up hb2 (w.heap.size) 0 (by omega) c1
  have d2 := cell_up hb2 (w.heap.size) 1 (by omega) c2
  have d3 := cell_up hb2 (w.heap.size + 1) 0 (by omega) c3
  have d4 := cell_up hb2 (w.heap.size + 1) 1 (by omega) c4
  have d5 := cell_up hb2 (w.heap.size + 1 + 1) 0 (by omega) c5
  have d6 := cell_up hb2 (w.heap.size + 1 + 1) 1 (by omega) c6
  have d7 : ∀ o, w2.frozen? ⟨w.heap.size + 1 + 1, o, none⟩ = false := fun o => froz_up hb2 (w.heap.size + 1 + 1) o (by omega) (c7 o)
  have hz2 : w.heap.size + 1 + 1 < w2.heap.size := by have := hb2.size; omega
  have hb' := hb.trans (hb2.mono hb.size)
  clear c1 c2 c3 c4 c5 c6 c7 tS
  go_wp2_with fail
  refine bodyPost_ret (v := .tuple #[.agg #[.int .i64 0, .int .i64 0], .int .i64 (-1)]) (by simp [results, Tryd.results18, go_sem, d5, d6]) rfl ⟨rfl, ?_⟩
  exact (Below.setCell hb' (by simp; omega) _).setCell (by simp; omega) _

theorem rtf_m2 (op c k k1 k2 n n' num frm to : Int) (ok : Bool) (w : World) (hcl : Hid (clsV op = (c, k))) (hrk : Hid (rkV c k = (num, frm, to, ok))) (h0 : ok = true) (h1 : num = 2) (h2 : k1 = k) (h3 : k2 = k) (hp : Hid (mayB (k, n) = true)) (hq : Hid (mayB (k, n') = false)) :
    Calls Tryd.prog 18 #[.int .i64 op, .agg #[.int .i64 k1, .int .i64 n], .agg #[.int .i64 k2, .int .i64 n']] w fun e w' => e = .returned (T2 0 0 (-1)) ∧ Below w.heap.size w w' := by
  subst h0 h1 h2 h3
  go_enter Tryd.func18, Tryd.ntmps18
  go_wp2_with fail
  obtain ⟨tA, tB, tC, c7, tS⟩ := three_blocks w #[.int .i64 k2, .int .i64 n] #[.int .i64 k2, .int .i64 n'] #[.int .i64 0, .int .i64 0] 23
  obtain ⟨w1, hW⟩ : ∃ W, W = ((w.alloc (.cells #[.int .i64 k2, .int .i64 n] 23)).alloc (.cells #[.int .i64 k2, .int .i64 n'] 23)).alloc (.cells #[.int .i64 0, .int .i64 0] 23) := ⟨_, rfl⟩
  have hb : Below w.heap.size w w1 := by rw [hW]; exact ((one_block _ _).alloc (by simp) _).alloc (by simp; omega) _
  rw [← hW] at tA tB tC c7 tS ⊢
  clear hW
  have c1 := tA 0
  have c2 := tA 1
  have c3 := tB 0
  have c4 := tB 1
  have c5 := tC 0
  have c6 := tC 1
  simp at c1 c2 c3 c4 c5 c6
  clear tA tB tC
  refine (class_any op w1).mono ?_
  rintro e w0 ⟨rfl, rfl⟩
  rw [hcl.out]
  go_wp2_with fail
  refine (rkinds_any op w1).mono ?_
  rintro e w0 ⟨rfl, rfl⟩
  rw [hcl.out, show rkV _ _ = _ from hrk.out]
  unfold K4
  go_wp2_with fail
  refine (rmay_any _ _ w1).mono ?_
  rintro e w2 ⟨rfl, hb2⟩
  rw [hp.out]
  have d1 := cell_up hb2 (w.heap.size) 0 (by omega) c1
  have d2 := cell_up hb2 (w.heap.size) 1 (by omega) c2
  have d3 := cell_up hb2 (w.heap.size + 1) 0 (by omega) c3
  have d4 := cell_up hb2 (w.heap.size + 1) 1 (by omega) c4
  have d5 := cell_up hb2 (w.heap.size + 1 + 1) 0 (by omega) c5
  have d6 := cell_up hb2 (w.heap.size + 1 + 1) 1 (by omega) c6
  have d7 : ∀ o, w2.frozen? ⟨w.heap.size + 1 + 1, o, none⟩ = false := fun o => froz_up hb2 (w.heap.size + 1 + 1) o (by omega) (c7 o)
  have hz2 : w.heap.size + 1 + 1 < w2.heap.size := by have := hb2.size; omega
  have hb' := hb.trans (hb2.mono hb.size)
  clear c1 c2 c3 c4 c5 c6 c7 tS
  go_wp2_with fail
  refine (rmay_any _ _ w2).mono ?_
  rintro e w3 ⟨rfl, hb3⟩
  rw [hq.out]
  have f1 := cell_up hb3 (w.heap.size) 0 (by omega) d1
  have f2 := cell_up hb3 (w.heap.size) 1 (by omega) d2
  have f3 := cell_up hb3 (w.heap.size + 1) 0 (by omega) d3
  have f4 := cell_up hb3 (w.heap.size + 1) 1 (by omega) d4
  have f5 := cell_up hb3 (w.heap.size + 1 + 1) 0 (by omega) d5
  have f6 := cell_up hb3 (w.heap.size + 1 + 1) 1 (by omega) d6
  have f7 : ∀ o, w3.frozen? ⟨w.heap.size + 1 + 1, o, none⟩ = false := fun o => froz_up hb3 (w.heap.size + 1 + 1) o (by omega) (d7 o)
  have hz3 : w.heap.size + 1 + 1 < w3.heap.size := by have := hb3.size; omega
  have hb'' := hb'.trans (hb3.mono hb'.size)
  clear d1 d2 d3 d4 d5 d6 d7 hz2
  go_wp2_with fail
  refine bodyPost_ret (v := .tuple #[.agg #[.int .i64 0, .int .i64 0], .int .i64 (-1)]) (by simp [results, Tryd.results18, go_sem, f5, f6]) rfl ⟨rfl, ?_⟩
  exact (Below.setCell hb'' (by simp; omega) _).setCell (by simp; omega) _

end Go.Proofs.YtdcpbjpghgbbiaaDoor
