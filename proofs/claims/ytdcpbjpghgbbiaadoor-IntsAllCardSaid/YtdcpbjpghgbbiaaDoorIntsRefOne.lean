/- The contract of the reference's One, but for the ways that count. Printed by gen_one3.py. -/
import Derived.Test.YtdcpbjpghgbbiaaDoorIntsRef
import Derived.Test.YtdcpbjpghgbbiaaDoorIntsBegun
namespace Go.Proofs.YtdcpbjpghgbbiaaDoor
open Go.RowKit
set_option linter.unusedVariables false
set_option maxHeartbeats 4000000
set_option maxRecDepth 100000

theorem rof_ok (op c k k1 n num frm to : Int) (ok : Bool) (w : World) (hcl : Hid (clsV op = (c, k))) (hrk : Hid (rkV c k = (num, frm, to, ok))) (h : ok = false) :
    Calls Tryd.prog 16 #[.int .i64 op, .agg #[.int .i64 k1, .int .i64 n]] w fun e w' => e = .returned (T1 0 0 false) ∧ Below w.heap.size w w' := by
  subst h
  go_enter Tryd.func16, Tryd.ntmps16
  go_wp2_with fail
  obtain ⟨tA, tB, c7, tS⟩ := two_blocks w #[.int .i64 k1, .int .i64 n] #[.int .i64 0, .int .i64 0] 23
  obtain ⟨w1, hW⟩ : ∃ W, W = (w.alloc (.cells #[.int .i64 k1, .int .i64 n] 23)).alloc (.cells #[.int .i64 0, .int .i64 0] 23) := ⟨_, rfl⟩
  have hb : Below w.heap.size w w1 := by rw [hW]; exact (one_block _ _).alloc (by simp) _
  rw [← hW] at tA tB c7 tS ⊢
  clear hW
  have c1 := tA 0
  have c2 := tA 1
  have c3 := tB 0
  have c4 := tB 1
  simp at c1 c2 c3 c4
  clear tA tB
  refine (class_any op w1).mono ?_
  rintro e w0 ⟨rfl, rfl⟩
  rw [hcl.out]
  go_wp2_with fail
  refine (rkinds_any op w1).mono ?_
  rintro e w0 ⟨rfl, rfl⟩
  rw [hcl.out, show rkV _ _ = _ from hrk.out]
  unfold K4
  go_wp2_with fail
  refine bodyPost_ret (v := .tuple #[.agg #[.int .i64 0, .int .i64 0], .bool false]) (by simp [results, Tryd.results16, go_sem, c3, c4]) rfl ⟨rfl, ?_⟩
  exact (Below.setCell hb (by simp) _).setCell (by simp) _
theorem rof_num (op c k k1 n num frm to : Int) (ok : Bool) (w : World) (hcl : Hid (clsV op = (c, k))) (hrk : Hid (rkV c k = (num, frm, to, ok))) (h0 : ok = true) (h : ¬ num = 1) :
    Calls Tryd.prog 16 #[.int .i64 op, .agg #[.int .i64 k1, .int .i64 n]] w fun e w' => e = .returned (T1 0 0 false) ∧ Below w.heap.size w w' := by
  subst h0
  have q : (num == 1) = false := beq_eq_false_iff_ne.2 h
  go_enter Tryd.func16, Tryd.ntmps16
  go_wp2_with fail
  obtain ⟨tA, tB, c7, tS⟩ := two_blocks w #[.int .i64 k1, .int .i64 n] #[.int .i64 0, .int .i64 0] 23
  obtain ⟨w1, hW⟩ : ∃ W, W = (w.alloc (.cells #[.int .i64 k1, .int .i64 n] 23)).alloc (.cells #[.int .i64 0, .int .i64 0] 23) := ⟨_, rfl⟩
  have hb : Below w.heap.size w w1 := by rw [hW]; exact (one_block _ _).alloc (by simp) _
  rw [← hW] at tA tB c7 tS ⊢
  clear hW
  have c1 := tA 0
  have c2 := tA 1
  have c3 := tB 0
  have c4 := tB 1
  simp at c1 c2 c3 c4
  clear tA tB
  refine (class_any op w1).mono ?_
  rintro e w0 ⟨rfl, rfl⟩
  rw [hcl.out]
  go_wp2_with fail
  refine (rkinds_any op w1).mono ?_
  rintro e w0 ⟨rfl, rfl⟩
  rw [hcl.out, show rkV _ _ = _ from hrk.out]
  unfold K4
  go_wp2_with fail
  refine bodyPost_ret (v := .tuple #[.agg #[.int .i64 0, .int .i64 0], .bool false]) (by simp [results, Tryd.results16, go_sem, c3, c4]) rfl ⟨rfl, ?_⟩
  exact (Below.setCell hb (by simp) _).setCell (by simp) _
theorem rof_k (op c k k1 n num frm to : Int) (ok : Bool) (w : World) (hcl : Hid (clsV op = (c, k))) (hrk : Hid (rkV c k = (num, frm, to, ok))) (h0 : ok = true) (h1 : num = 1) (h : ¬ k1 = k) :
    Calls Tryd.prog 16 #[.int .i64 op, .agg #[.int .i64 k1, .int .i64 n]] w fun e w' => e = .returned (T1 0 0 false) ∧ Below w.heap.size w w' := by
  subst h0 h1
  have q : (k1 == k) = false := beq_eq_false_iff_ne.2 h
  go_enter Tryd.func16, Tryd.ntmps16
  go_wp2_with fail
  obtain ⟨tA, tB, c7, tS⟩ := two_blocks w #[.int .i64 k1, .int .i64 n] #[.int .i64 0, .int .i64 0] 23
  obtain ⟨w1, hW⟩ : ∃ W, W = (w.alloc (.cells #[.int .i64 k1, .int .i64 n] 23)).alloc (.cells #[.int .i64 0, .int .i64 0] 23) := ⟨_, rfl⟩
  have hb : Below w.heap.size w w1 := by rw [hW]; exact (one_block _ _).alloc (by simp) _
  rw [← hW] at tA tB c7 tS ⊢
  clear hW
  have c1 := tA 0
  have c2 := tA 1
  have c3 := tB 0
  have c4 := tB 1
  simp at c1 c2 c3 c4
  clear tA tB
  refine (class_any op w1).mono ?_
  rintro e w0 ⟨rfl, rfl⟩
  rw [hcl.out]
  go_wp2_with fail
  refine (rkinds_any op w1).mono ?_
  rintro e w0 ⟨rfl, rfl⟩
  rw [hcl.out, show rkV _ _ = _ from hrk.out]
  unfold K4
  go_wp2_with fail
  refine bodyPost_ret (v := .tuple #[.agg #[.int .i64 0, .int .i64 0], .bool false]) (by simp [results, Tryd.results16, go_sem, c3, c4]) rfl ⟨rfl, ?_⟩
  exact (Below.setCell hb (by simp) _).setCell (by simp) _
theorem rof_m (op c k k1 n num frm to : Int) (ok : Bool) (w : World) (hcl : Hid (clsV op = (c, k))) (hrk : Hid (rkV c k = (num, frm, to, ok))) (h0 : ok = true) (h1 : num = 1) (h : k1 = k) (hp : Hid (mayB (k, n) = false)) :
    Calls Tryd.prog 16 #[.int .i64 op, .agg #[.int .i64 k1, .int .i64 n]] w fun e w' => e = .returned (T1 0 0 false) ∧ Below w.heap.size w w' := by
  subst h0 h1 h
  go_enter Tryd.func16, Tryd.ntmps16
  go_wp2_with fail
  obtain ⟨tA, tB, c7, tS⟩ := two_blocks w #[.int .i64 k1, .int .i64 n] #[.int .i64 0, .int .i64 0] 23
  obtain ⟨w1, hW⟩ : ∃ W, W = (w.alloc (.cells #[.int .i64 k1, .int .i64 n] 23)).alloc (.cells #[.int .i64 0, .int .i64 0] 23) := ⟨_, rfl⟩
  have hb : Below w.heap.size w w1 := by rw [hW]; exact (one_block _ _).alloc (by simp) _
  rw [← hW] at tA tB c7 tS ⊢
  clear hW
  have c1 := tA 0
  have c2 := tA 1
  have c3 := tB 0
  have c4 := tB 1
  simp at c1 c2 c3 c4
  clear tA tB
  refine (class_any op w1).mono ?_
  rintro e w0 ⟨rfl, rfl⟩
  rw [hcl.out]
  go_wp2_with fail
  refine (rkinds_any op w1).mono ?_
  rintro e w0 ⟨rfl, rfl⟩
  rw [hcl.out, show rkV _ _ = _ from hrk.out]
  unfold K4
  go_wp2_with fail
  refine (rmay_any _ _ w1).mono ?_
  rintro e w2 ⟨rfl, hb2⟩
  rw [hp.out]
  have d1 := cell_up hb2 (w.heap.size) 0 (by omega) c1
  have d2 := cell_up hb2 (w.heap.size) 1 (by omega) c2
  have d3 := cell_up hb2 (w.heap.size + 1) 0 (by omega) c3
  have d4 := cell_up hb2 (w.heap.size + 1) 1 (by omega) c4
  have d7 : ∀ o, w2.frozen? ⟨w.heap.size + 1, o, none⟩ = false := fun o => froz_up hb2 (w.heap.size + 1) o (by omega) (c7 o)
  have hz2 : w.heap.size + 1 < w2.heap.size := by have := hb2.size; omega
  have hb' := hb.trans (hb2.mono hb.size)
  clear c1 c2 c3 c4 c7 tS
  go_wp2_with fail
  refine bodyPost_ret (v := .tuple #[.agg #[.int .i64 0, .int .i64 0], .bool false]) (by simp [results, Tryd.results16, go_sem, d3, d4]) rfl ⟨rfl, ?_⟩
  exact (Below.setCell hb' (by simp) _).setCell (by simp) _
theorem ro_eqz_1 (op n : Int) (w : World) (hcl : Hid (clsV op = (69, 1))) (hrk : Hid (rkV 69 1 = (1, 1, 1, true))) (hp : Hid (mayB (1, n) = true)) :
    Calls Tryd.prog 16 #[.int .i64 op, .agg #[.int .i64 1, .int .i64 n]] w fun e w' => e = .returned (T1 1 (b2i (low (1, n) == 0)) true) ∧ Below w.heap.size w w' := by
  go_enter Tryd.func16, Tryd.ntmps16
  go_wp2_with fail
  obtain ⟨tA, tB, c7, tS⟩ := two_blocks w #[.int .i64 1, .int .i64 n] #[.int .i64 0, .int .i64 0] 23
  obtain ⟨w1, hW⟩ : ∃ W, W = (w.alloc (.cells #[.int .i64 1, .int .i64 n] 23)).alloc (.cells #[.int .i64 0, .int .i64 0] 23) := ⟨_, rfl⟩
  have hb : Below w.heap.size w w1 := by rw [hW]; exact (one_block _ _).alloc (by simp) _
  rw [← hW] at tA tB c7 tS ⊢
  clear hW
  have c1 := tA 0
  have c2 := tA 1
  have c3 := tB 0
  have c4 := tB 1
  simp at c1 c2 c3 c4
  clear tA tB
  refine (class_any op w1).mono ?_
  rintro e w0 ⟨rfl, rfl⟩
  rw [hcl.out]
  go_wp2_with fail
  refine (rkinds_any op w1).mono ?_
  rintro e w0 ⟨rfl, rfl⟩
  rw [hcl.out, show rkV _ _ = _ from hrk.out]
  unfold K4
  go_wp2_with fail
  refine (rmay_any _ _ w1).mono ?_
  rintro e w2 ⟨rfl, hb2⟩
  rw [hp.out]
  have d1 := cell_up hb2 (w.heap.size) 0 (by omega) c1
  have d2 := cell_up hb2 (w.heap.size) 1 (by omega) c2
  have d3 := cell_up hb2 (w.heap.size + 1) 0 (by omega) c3
  have d4 := cell_up hb2 (w.heap.size + 1) 1 (by omega) c4
  have d7 : ∀ o, w2.frozen? ⟨w.heap.size + 1, o, none⟩ = false := fun o => froz_up hb2 (w.heap.size + 1) o (by omega) (c7 o)
  have hz2 : w.heap.size + 1 < w2.heap.size := by have := hb2.size; omega
  have hb' := hb.trans (hb2.mono hb.size)
  clear c1 c2 c3 c4 c7 tS
  go_wp2_with fail
  refine (runsigned_any _ _ w2).mono ?_
  rintro e w3 ⟨rfl, hb3⟩
  have f1 := cell_up hb3 (w.heap.size) 0 (by omega) d1
  have f2 := cell_up hb3 (w.heap.size) 1 (by omega) d2
  have f3 := cell_up hb3 (w.heap.size + 1) 0 (by omega) d3
  have f4 := cell_up hb3 (w.heap.size + 1) 1 (by omega) d4
  have f7 : ∀ o, w3.frozen? ⟨w.heap.size + 1, o, none⟩ = false := fun o => froz_up hb3 (w.heap.size + 1) o (by omega) (d7 o)
  have hz3 : w.heap.size + 1 < w3.heap.size := by have := hb3.size; omega
  have hb'' := hb'.trans (hb3.mono hb'.size)
  clear d1 d2 d3 d4 d7 hz2
  go_wp2_with fail
  refine (truth_any _ w3).mono ?_
  rintro e w4 ⟨rfl, hb4⟩
  have g1 := cell_up hb4 (w.heap.size) 0 (by omega) f1
  have g2 := cell_up hb4 (w.heap.size) 1 (by omega) f2
  have g3 := cell_up hb4 (w.heap.size + 1) 0 (by omega) f3
  have g4 := cell_up hb4 (w.heap.size + 1) 1 (by omega) f4
  have g7 : ∀ o, w4.frozen? ⟨w.heap.size + 1, o, none⟩ = false := fun o => froz_up hb4 (w.heap.size + 1) o (by omega) (f7 o)
  have hz4 : w.heap.size + 1 < w4.heap.size := by have := hb4.size; omega
  have hb3' := hb''.trans (hb4.mono hb''.size)
  go_wp2_with fail
  refine bodyPost_ret (v := .tuple #[.agg #[.int .i64 1, .int .i64 (b2i (low (1, n) == 0))], .bool true]) (by simp [results, Tryd.results16, go_sem, g3, g4]) rfl ⟨rfl, ?_⟩
  exact (Below.setCell hb3' (by simp) _).setCell (by simp) _
theorem ro_eqz_2 (op n : Int) (w : World) (hcl : Hid (clsV op = (69, 2))) (hrk : Hid (rkV 69 2 = (1, 2, 1, true))) (hp : Hid (mayB (2, n) = true)) :
    Calls Tryd.prog 16 #[.int .i64 op, .agg #[.int .i64 2, .int .i64 n]] w fun e w' => e = .returned (T1 1 (b2i (low (2, n) == 0)) true) ∧ Below w.heap.size w w' := by
  go_enter Tryd.func16, Tryd.ntmps16
  go_wp2_with fail
  obtain ⟨tA, tB, c7, tS⟩ := two_blocks w #[.int .i64 2, .int .i64 n] #[.int .i64 0, .int .i64 0] 23
  obtain ⟨w1, hW⟩ : ∃ W, W = (w.alloc (.cells #[.int .i64 2, .int .i64 n] 23)).alloc (.cells #[.int .i64 0, .int .i64 0] 23) := ⟨_, rfl⟩
  have hb : Below w.heap.size w w1 := by rw [hW]; exact (one_block _ _).alloc (by simp) _
  rw [← hW] at tA tB c7 tS ⊢
  clear hW
  have c1 := tA 0
  have c2 := tA 1
  have c3 := tB 0
  have c4 := tB 1
  simp at c1 c2 c3 c4
  clear tA tB
  refine (class_any op w1).mono ?_
  rintro e w0 ⟨rfl, rfl⟩
  rw [hcl.out]
  go_wp2_with fail
  refine (rkinds_any op w1).mono ?_
  rintro e w0 ⟨rfl, rfl⟩
  rw [hcl.out, show rkV _ _ = _ from hrk.out]
  unfold K4
  go_wp2_with fail
  refine (rmay_any _ _ w1).mono ?_
  rintro e w2 ⟨rfl, hb2⟩
  rw [hp.out]
  have d1 := cell_up hb2 (w.heap.size) 0 (by omega) c1
  have d2 := cell_up hb2 (w.heap.size) 1 (by omega) c2
  have d3 := cell_up hb2 (w.heap.size + 1) 0 (by omega) c3
  have d4 := cell_up hb2 (w.heap.size + 1) 1 (by omega) c4
  have d7 : ∀ o, w2.frozen? ⟨w.heap.size + 1, o, none⟩ = false := fun o => froz_up hb2 (w.heap.size + 1) o (by omega) (c7 o)
  have hz2 : w.heap.size + 1 < w2.heap.size := by have := hb2.size; omega
  have hb' := hb.trans (hb2.mono hb.size)
  clear c1 c2 c3 c4 c7 tS
  go_wp2_with fail
  refine (runsigned_any _ _ w2).mono ?_
  rintro e w3 ⟨rfl, hb3⟩
  have f1 := cell_up hb3 (w.heap.size) 0 (by omega) d1
  have f2 := cell_up hb3 (w.heap.size) 1 (by omega) d2
  have f3 := cell_up hb3 (w.heap.size + 1) 0 (by omega) d3
  have f4 := cell_up hb3 (w.heap.size + 1) 1 (by omega) d4
  have f7 : ∀ o, w3.frozen? ⟨w.heap.size + 1, o, none⟩ = false := fun o => froz_up hb3 (w.heap.size + 1) o (by omega) (d7 o)
  have hz3 : w.heap.size + 1 < w3.heap.size := by have := hb3.size; omega
  have hb'' := hb'.trans (hb3.mono hb'.size)
  clear d1 d2 d3 d4 d7 hz2
  go_wp2_with fail
  refine (truth_any _ w3).mono ?_
  rintro e w4 ⟨rfl, hb4⟩
  have g1 := cell_up hb4 (w.heap.size) 0 (by omega) f1
  have g2 := cell_up hb4 (w.heap.size) 1 (by omega) f2
  have g3 := cell_up hb4 (w.heap.size + 1) 0 (by omega) f3
  have g4 := cell_up hb4 (w.heap.size + 1) 1 (by omega) f4
  have g7 : ∀ o, w4.frozen? ⟨w.heap.size + 1, o, none⟩ = false := fun o => froz_up hb4 (w.heap.size + 1) o (by omega) (f7 o)
  have hz4 : w.heap.size + 1 < w4.heap.size := by have := hb4.size; omega
  have hb3' := hb''.trans (hb4.mono hb''.size)
  go_wp2_with fail
  refine bodyPost_ret (v := .tuple #[.agg #[.int .i64 1, .int .i64 (b2i (low (2, n) == 0))], .bool true]) (by simp [results, Tryd.results16, go_sem, g3, g4]) rfl ⟨rfl, ?_⟩
  exact (Below.setCell hb3' (by simp) _).setCell (by simp) _
theorem ro_167 (op n : Int) (w : World) (hcl : Hid (clsV op = (167, 2))) (hrk : Hid (rkV 167 2 = (1, 2, 1, true))) (hp : Hid (mayB (2, n) = true)) :
    Calls Tryd.prog 16 #[.int .i64 op, .agg #[.int .i64 2, .int .i64 n]] w fun e w' => e = .returned (T1 1 (wk 1 n) true) ∧ Below w.heap.size w w' := by
  go_enter Tryd.func16, Tryd.ntmps16
  go_wp2_with fail
  obtain ⟨tA, tB, c7, tS⟩ := two_blocks w #[.int .i64 2, .int .i64 n] #[.int .i64 0, .int .i64 0] 23
  obtain ⟨w1, hW⟩ : ∃ W, W = (w.alloc (.cells #[.int .i64 2, .int .i64 n] 23)).alloc (.cells #[.int .i64 0, .int .i64 0] 23) := ⟨_, rfl⟩
  have hb : Below w.heap.size w w1 := by rw [hW]; exact (one_block _ _).alloc (by simp) _
  rw [← hW] at tA tB c7 tS ⊢
  clear hW
  have c1 := tA 0
  have c2 := tA 1
  have c3 := tB 0
  have c4 := tB 1
  simp at c1 c2 c3 c4
  clear tA tB
  refine (class_any op w1).mono ?_
  rintro e w0 ⟨rfl, rfl⟩
  rw [hcl.out]
  go_wp2_with fail
  refine (rkinds_any op w1).mono ?_
  rintro e w0 ⟨rfl, rfl⟩
  rw [hcl.out, show rkV _ _ = _ from hrk.out]
  unfold K4
  go_wp2_with fail
  refine (rmay_any _ _ w1).mono ?_
  rintro e w2 ⟨rfl, hb2⟩
  rw [hp.out]
  have d1 := cell_up hb2 (w.heap.size) 0 (by omega) c1
  have d2 := cell_up hb2 (w.heap.size) 1 (by omega) c2
  have d3 := cell_up hb2 (w.heap.size + 1) 0 (by omega) c3
  have d4 := cell_up hb2 (w.heap.size + 1) 1 (by omega) c4
  have d7 : ∀ o, w2.frozen? ⟨w.heap.size + 1, o, none⟩ = false := fun o => froz_up hb2 (w.heap.size + 1) o (by omega) (c7 o)
  have hz2 : w.heap.size + 1 < w2.heap.size := by have := hb2.size; omega
  have hb' := hb.trans (hb2.mono hb.size)
  clear c1 c2 c3 c4 c7 tS
  go_wp2_with fail
  refine (runsigned_any _ _ w2).mono ?_
  rintro e w3 ⟨rfl, hb3⟩
  have f1 := cell_up hb3 (w.heap.size) 0 (by omega) d1
  have f2 := cell_up hb3 (w.heap.size) 1 (by omega) d2
  have f3 := cell_up hb3 (w.heap.size + 1) 0 (by omega) d3
  have f4 := cell_up hb3 (w.heap.size + 1) 1 (by omega) d4
  have f7 : ∀ o, w3.frozen? ⟨w.heap.size + 1, o, none⟩ = false := fun o => froz_up hb3 (w.heap.size + 1) o (by omega) (d7 o)
  have hz3 : w.heap.size + 1 < w3.heap.size := by have := hb3.size; omega
  have hb'' := hb'.trans (hb3.mono hb'.size)
  clear d1 d2 d3 d4 d7 hz2
  go_wp2_with fail
  refine (refwrap_1 _ w3).mono ?_
  rintro e w4 ⟨rfl, hb4⟩
  have g1 := cell_up hb4 (w.heap.size) 0 (by omega) f1
  have g2 := cell_up hb4 (w.heap.size) 1 (by omega) f2
  have g3 := cell_up hb4 (w.heap.size + 1) 0 (by omega) f3
  have g4 := cell_up hb4 (w.heap.size + 1) 1 (by omega) f4
  have g7 : ∀ o, w4.frozen? ⟨w.heap.size + 1, o, none⟩ = false := fun o => froz_up hb4 (w.heap.size + 1) o (by omega) (f7 o)
  have hz4 : w.heap.size + 1 < w4.heap.size := by have := hb4.size; omega
  have hb3' := hb''.trans (hb4.mono hb''.size)
  go_wp2_with fail
  refine bodyPost_ret (v := .tuple #[.agg #[.int .i64 1, .int .i64 (wk 1 n)], .bool true]) (by simp [results, Tryd.results16, go_sem, g3, g4]) rfl ⟨rfl, ?_⟩
  exact (Below.setCell hb3' (by simp) _).setCell (by simp) _
theorem ro_172 (op n : Int) (w : World) (hcl : Hid (clsV op = (172, 1))) (hrk : Hid (rkV 172 1 = (1, 1, 2, true))) (hp : Hid (mayB (1, n) = true)) :
    Calls Tryd.prog 16 #[.int .i64 op, .agg #[.int .i64 1, .int .i64 n]] w fun e w' => e = .returned (T1 2 n true) ∧ Below w.heap.size w w' := by
  go_enter Tryd.func16, Tryd.ntmps16
  go_wp2_with fail
  obtain ⟨tA, tB, c7, tS⟩ := two_blocks w #[.int .i64 1, .int .i64 n] #[.int .i64 0, .int .i64 0] 23
  obtain ⟨w1, hW⟩ : ∃ W, W = (w.alloc (.cells #[.int .i64 1, .int .i64 n] 23)).alloc (.cells #[.int .i64 0, .int .i64 0] 23) := ⟨_, rfl⟩
  have hb : Below w.heap.size w w1 := by rw [hW]; exact (one_block _ _).alloc (by simp) _
  rw [← hW] at tA tB c7 tS ⊢
  clear hW
  have c1 := tA 0
  have c2 := tA 1
  have c3 := tB 0
  have c4 := tB 1
  simp at c1 c2 c3 c4
  clear tA tB
  refine (class_any op w1).mono ?_
  rintro e w0 ⟨rfl, rfl⟩
  rw [hcl.out]
  go_wp2_with fail
  refine (rkinds_any op w1).mono ?_
  rintro e w0 ⟨rfl, rfl⟩
  rw [hcl.out, show rkV _ _ = _ from hrk.out]
  unfold K4
  go_wp2_with fail
  refine (rmay_any _ _ w1).mono ?_
  rintro e w2 ⟨rfl, hb2⟩
  rw [hp.out]
  have d1 := cell_up hb2 (w.heap.size) 0 (by omega) c1
  have d2 := cell_up hb2 (w.heap.size) 1 (by omega) c2
  have d3 := cell_up hb2 (w.heap.size + 1) 0 (by omega) c3
  have d4 := cell_up hb2 (w.heap.size + 1) 1 (by omega) c4
  have d7 : ∀ o, w2.frozen? ⟨w.heap.size + 1, o, none⟩ = false := fun o => froz_up hb2 (w.heap.size + 1) o (by omega) (c7 o)
  have hz2 : w.heap.size + 1 < w2.heap.size := by have := hb2.size; omega
  have hb' := hb.trans (hb2.mono hb.size)
  clear c1 c2 c3 c4 c7 tS
  go_wp2_with fail
  refine (runsigned_any _ _ w2).mono ?_
  rintro e w3 ⟨rfl, hb3⟩
  have f1 := cell_up hb3 (w.heap.size) 0 (by omega) d1
  have f2 := cell_up hb3 (w.heap.size) 1 (by omega) d2
  have f3 := cell_up hb3 (w.heap.size + 1) 0 (by omega) d3
  have f4 := cell_up hb3 (w.heap.size + 1) 1 (by omega) d4
  have f7 : ∀ o, w3.frozen? ⟨w.heap.size + 1, o, none⟩ = false := fun o => froz_up hb3 (w.heap.size + 1) o (by omega) (d7 o)
  have hz3 : w.heap.size + 1 < w3.heap.size := by have := hb3.size; omega
  have hb'' := hb'.trans (hb3.mono hb'.size)
  clear d1 d2 d3 d4 d7 hz2
  go_wp2_with fail
  refine bodyPost_ret (v := .tuple #[.agg #[.int .i64 2, .int .i64 n], .bool true]) (by simp [results, Tryd.results16, go_sem, f3, f4]) rfl ⟨rfl, ?_⟩
  exact (Below.setCell hb'' (by simp) _).setCell (by simp) _
theorem ro_173 (op n : Int) (w : World) (hcl : Hid (clsV op = (173, 1))) (hrk : Hid (rkV 173 1 = (1, 1, 2, true))) (hp : Hid (mayB (1, n) = true)) :
    Calls Tryd.prog 16 #[.int .i64 op, .agg #[.int .i64 1, .int .i64 n]] w fun e w' => e = .returned (T1 2 (wrap64 (low (1, n))) true) ∧ Below w.heap.size w w' := by
  go_enter Tryd.func16, Tryd.ntmps16
  go_wp2_with fail
  obtain ⟨tA, tB, c7, tS⟩ := two_blocks w #[.int .i64 1, .int .i64 n] #[.int .i64 0, .int .i64 0] 23
  obtain ⟨w1, hW⟩ : ∃ W, W = (w.alloc (.cells #[.int .i64 1, .int .i64 n] 23)).alloc (.cells #[.int .i64 0, .int .i64 0] 23) := ⟨_, rfl⟩
  have hb : Below w.heap.size w w1 := by rw [hW]; exact (one_block _ _).alloc (by simp) _
  rw [← hW] at tA tB c7 tS ⊢
  clear hW
  have c1 := tA 0
  have c2 := tA 1
  have c3 := tB 0
  have c4 := tB 1
  simp at c1 c2 c3 c4
  clear tA tB
  refine (class_any op w1).mono ?_
  rintro e w0 ⟨rfl, rfl⟩
  rw [hcl.out]
  go_wp2_with fail
  refine (rkinds_any op w1).mono ?_
  rintro e w0 ⟨rfl, rfl⟩
  rw [hcl.out, show rkV _ _ = _ from hrk.out]
  unfold K4
  go_wp2_with fail
  refine (rmay_any _ _ w1).mono ?_
  rintro e w2 ⟨rfl, hb2⟩
  rw [hp.out]
  have d1 := cell_up hb2 (w.heap.size) 0 (by omega) c1
  have d2 := cell_up hb2 (w.heap.size) 1 (by omega) c2
  have d3 := cell_up hb2 (w.heap.size + 1) 0 (by omega) c3
  have d4 := cell_up hb2 (w.heap.size + 1) 1 (by omega) c4
  have d7 : ∀ o, w2.frozen? ⟨w.heap.size + 1, o, none⟩ = false := fun o => froz_up hb2 (w.heap.size + 1) o (by omega) (c7 o)
  have hz2 : w.heap.size + 1 < w2.heap.size := by have := hb2.size; omega
  have hb' := hb.trans (hb2.mono hb.size)
  clear c1 c2 c3 c4 c7 tS
  go_wp2_with fail
  refine (runsigned_any _ _ w2).mono ?_
  rintro e w3 ⟨rfl, hb3⟩
  have f1 := cell_up hb3 (w.heap.size) 0 (by omega) d1
  have f2 := cell_up hb3 (w.heap.size) 1 (by omega) d2
  have f3 := cell_up hb3 (w.heap.size + 1) 0 (by omega) d3
  have f4 := cell_up hb3 (w.heap.size + 1) 1 (by omega) d4
  have f7 : ∀ o, w3.frozen? ⟨w.heap.size + 1, o, none⟩ = false := fun o => froz_up hb3 (w.heap.size + 1) o (by omega) (d7 o)
  have hz3 : w.heap.size + 1 < w3.heap.size := by have := hb3.size; omega
  have hb'' := hb'.trans (hb3.mono hb'.size)
  clear d1 d2 d3 d4 d7 hz2
  go_wp2_with fail
  refine bodyPost_ret (v := .tuple #[.agg #[.int .i64 2, .int .i64 (wrap64 (low (1, n)))], .bool true]) (by simp [results, Tryd.results16, go_sem, f3, f4]) rfl ⟨rfl, ?_⟩
  exact (Below.setCell hb'' (by simp) _).setCell (by simp) _
end Go.Proofs.YtdcpbjpghgbbiaaDoor
