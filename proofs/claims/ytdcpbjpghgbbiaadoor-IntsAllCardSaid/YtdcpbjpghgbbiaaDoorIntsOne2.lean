/- The contract of ints.One, of the two ways more: trailing noughts (the laid table), ones. Printed by gen_one2.py. -/
import Derived.Test.YtdcpbjpghgbbiaaDoorIntsOne
import Derived.Test.YtdcpbjpghgbbiaaDoorIntsCount
namespace Go.Proofs.YtdcpbjpghgbbiaaDoor
open Go.RowKit Go.Shelf
set_option linter.unusedVariables false
set_option maxHeartbeats 1000000

theorem tab_size {w : World} (h : TabAt 0 Lib.deBruijn64tab w) : 0 < w.heap.size := by
  have h0 := h 0 (by decide)
  rcases Nat.eq_zero_or_pos w.heap.size with e | e
  · have : w.heap = #[] := Array.eq_empty_of_size_eq_zero e
    simp [World.cell?, this] at h0
  · exact e
theorem tab_up {B : Nat} {w w' : World} (h : TabAt 0 Lib.deBruijn64tab w) (hb : Below B w w') (hB : 0 < B) : TabAt 0 Lib.deBruijn64tab w' := fun j hj => (hb.cell (p := ⟨0, j, none⟩) hB).trans (h j hj)
theorem tz_T (x : Int) (w : World) (h0 : 0 ≤ x) (h1 : x ≤ 18446744073709551615) (hT : TabAt 0 Lib.deBruijn64tab w) : Calls Tryd.prog 33 #[.int .u64 x] w fun e w' => e = .returned (.int .i64 (Lib.ctz 64 x.toNat)) ∧ w = w' := by
  have := sh_bits_TrailingZeros64 x.toNat (by omega) w hT
  rw [Int.toNat_of_nonneg h0] at this
  exact this.mono fun _ _ h => ⟨h.1, h.2.symm⟩
theorem pop_T (x : Int) (w : World) (h0 : 0 ≤ x) (h1 : x ≤ 18446744073709551615) : Calls Tryd.prog 34 #[.int .u64 x] w fun e w' => e = .returned (.int .i64 (Lib.onesCount x.toNat)) ∧ w = w' := by
  have := pop_any x.toNat (by omega) w
  rw [Int.toNat_of_nonneg h0] at this
  exact this
theorem one_ctz (op k n : Int) (w : World) (hk : k = 1 ∨ k = 2) (s1 : (op == 167) = false) (s2 : (op == 172) = false) (s3 : (op == 173) = false) (hof : Hid (ofV op = (k, 104))) (hkd : Hid (kindsV op = ([k], k, true))) (hp : Hid (mayB (k, n) = true)) (hT : TabAt 0 Lib.deBruijn64tab w) :
    Calls Tryd.prog 15 #[.int .i64 op, .agg #[.int .i64 k, .int .i64 n]] w fun e w' => e = .returned (T1 k (wk k (min (Lib.ctz 64 (low (k, n)).toNat : Int) (32 * k))) true) ∧ Below w.heap.size w w' := by
  have k1 : 1 ≤ k := by omega
  have k2 : k ≤ 2 := by omega
  go_enter Tryd.func15, Tryd.ntmps15
  go_wp2_with fail
  obtain ⟨tA, tB, c7, tS⟩ := two_blocks w #[.int .i64 k, .int .i64 n] #[.int .i64 0, .int .i64 0] 23
  obtain ⟨W, hW⟩ : ∃ W, W = (w.alloc (.cells #[.int .i64 k, .int .i64 n] 23)).alloc (.cells #[.int .i64 0, .int .i64 0] 23) := ⟨_, rfl⟩
  have hb : Below w.heap.size w W := by rw [hW]; exact (one_block _ _).alloc (by simp) _
  rw [← hW] at tA tB c7 tS ⊢
  clear hW
  have c1 := tA 0
  have c2 := tA 1
  have c3 := tB 0
  have c4 := tB 1
  simp at c1 c2 c3 c4
  clear tA tB
  refine (kinds_any op W).mono ?_
  rintro e w1 ⟨kA, kc, rfl, hkr, hb1⟩
  rw [hkd.out] at hkr ⊢
  obtain ⟨kb, ko, rfl, hkb, hk0⟩ := hkr.at (i := 0) (by simp)
  simp at hk0
  have d1 := cell_up hb1 (w.heap.size) 0 (by omega) c1
  have d2 := cell_up hb1 (w.heap.size) 1 (by omega) c2
  have d3 := cell_up hb1 (w.heap.size + 1) 0 (by omega) c3
  have d4 := cell_up hb1 (w.heap.size + 1) 1 (by omega) c4
  have d7 : ∀ o, w1.frozen? ⟨w.heap.size + 1, o, none⟩ = false := fun o => froz_up hb1 (w.heap.size + 1) o (by omega) (c7 o)
  have hz1 : w.heap.size + 1 < w1.heap.size := by have := hb1.size; omega
  have hb' := hb.trans (hb1.mono hb.size)
  clear c1 c2 c3 c4 c7 tS
  go_wp2_with fail
  have e1 := fun m : Above w1 => above_at d1 (by omega) m
  have e2 := fun m : Above w1 => above_at d2 (by omega) m
  have e5 := fun m : Above w1 => above_at hk0 hkb m
  refine wp_region_T (by kernel_rfl) (by kernel_rfl) ?_
  repeat (go_big_quiet_step (exact quiet_T (may_T _ _ _ (by exact hp.out))))
  refine wpQuiet_nil ?_
  intro w2 h2
  obtain ⟨⟨x2, hb2⟩, hx2⟩ := h2
  dsimp only at hx2
  subst hx2
  have f1 := cell_up hb2 (w.heap.size) 0 (by omega) d1
  have f2 := cell_up hb2 (w.heap.size) 1 (by omega) d2
  have f3 := cell_up hb2 (w.heap.size + 1) 0 (by omega) d3
  have f4 := cell_up hb2 (w.heap.size + 1) 1 (by omega) d4
  have f7 : ∀ o, w2.frozen? ⟨w.heap.size + 1, o, none⟩ = false := fun o => froz_up hb2 (w.heap.size + 1) o (by omega) (d7 o)
  have hz2 : w.heap.size + 1 < w2.heap.size := by have := hb2.size; omega
  have hb'' := hb'.trans (hb2.mono hb'.size)
  clear d1 d2 d3 d4 d7 e1 e2 e5 hk0 hz1
  go_wp2_with fail
  refine (of_T op k 104 w2 hof.out).mono ?_
  rintro e w3 ⟨rfl, rfl⟩
  go_wp2_with fail
  have HT2 := tab_up hT hb'' (tab_size hT)
  have hz20 : 0 < w2.heap.size := by omega
  have e1 := fun m : Above w2 => above_at f1 (by omega) m
  have e2 := fun m : Above w2 => above_at f2 (by omega) m
  refine wp_region_T (by kernel_rfl) (by kernel_rfl) ?_
  repeat (go_big_quiet_step (first | (go_at_call 28; exact quiet_T (low_any _ _ _)) | (go_at_call 33; exact quiet_T_same (tz_T _ _ (low_nn _) (low_lt _) (tab_up HT2 (Above.b _) hz20))) | (go_at_call 32; exact quiet_T_same (width_any _ _ hk))))
  refine wpQuiet_nil ?_
  intro w4 h4
  obtain ⟨⟨x4, hb4⟩, hx4⟩ := h4
  dsimp only at hx4
  subst hx4
  have g1 := cell_up hb4 (w.heap.size) 0 (by omega) f1
  have g2 := cell_up hb4 (w.heap.size) 1 (by omega) f2
  have g3 := cell_up hb4 (w.heap.size + 1) 0 (by omega) f3
  have g4 := cell_up hb4 (w.heap.size + 1) 1 (by omega) f4
  have g7 : ∀ o, w4.frozen? ⟨w.heap.size + 1, o, none⟩ = false := fun o => froz_up hb4 (w.heap.size + 1) o (by omega) (f7 o)
  have hz4 : w.heap.size + 1 < w4.heap.size := by have := hb4.size; omega
  have hb3 := hb''.trans (hb4.mono hb''.size)
  clear f1 f2 f3 f4 f7 e1 e2
  go_wp2_with fail
  refine (wrap_k k _ w4 hk).mono ?_
  rintro e w5 ⟨rfl, hb5⟩
  have j1 := cell_up hb5 (w.heap.size) 0 (by omega) g1
  have j2 := cell_up hb5 (w.heap.size) 1 (by omega) g2
  have j3 := cell_up hb5 (w.heap.size + 1) 0 (by omega) g3
  have j4 := cell_up hb5 (w.heap.size + 1) 1 (by omega) g4
  have j7 : ∀ o, w5.frozen? ⟨w.heap.size + 1, o, none⟩ = false := fun o => froz_up hb5 (w.heap.size + 1) o (by omega) (g7 o)
  have hz5 : w.heap.size + 1 < w5.heap.size := by have := hb5.size; omega
  clear g1 g2 g3 g4 g7
  have hbe := hb3.trans (hb5.mono hb3.size)
  go_wp2_with fail
  refine bodyPost_ret (v := .tuple #[.agg #[.int .i64 k, .int .i64 (wk k (min (Lib.ctz 64 (low (k, n)).toNat : Int) (32 * k)))], .bool true]) (by simp [results, Tryd.results15, go_sem, j3, j4]) rfl ⟨rfl, ?_⟩
  exact (hbe.setCell (by simp) _).setCell (by simp) _

theorem one_pop (op k n : Int) (w : World) (hk : k = 1 ∨ k = 2) (s1 : (op == 167) = false) (s2 : (op == 172) = false) (s3 : (op == 173) = false) (hof : Hid (ofV op = (k, 105))) (hkd : Hid (kindsV op = ([k], k, true))) (hp : Hid (mayB (k, n) = true)) :
    Calls Tryd.prog 15 #[.int .i64 op, .agg #[.int .i64 k, .int .i64 n]] w fun e w' => e = .returned (T1 k (wk k ((Lib.onesCount (low (k, n)).toNat : Int))) true) ∧ Below w.heap.size w w' := by
  have k1 : 1 ≤ k := by omega
  have k2 : k ≤ 2 := by omega
  go_enter Tryd.func15, Tryd.ntmps15
  go_wp2_with fail
  obtain ⟨tA, tB, c7, tS⟩ := two_blocks w #[.int .i64 k, .int .i64 n] #[.int .i64 0, .int .i64 0] 23
  obtain ⟨W, hW⟩ : ∃ W, W = (w.alloc (.cells #[.int .i64 k, .int .i64 n] 23)).alloc (.cells #[.int .i64 0, .int .i64 0] 23) := ⟨_, rfl⟩
  have hb : Below w.heap.size w W := by rw [hW]; exact (one_block _ _).alloc (by simp) _
  rw [← hW] at tA tB c7 tS ⊢
  clear hW
  have c1 := tA 0
  have c2 := tA 1
  have c3 := tB 0
  have c4 := tB 1
  simp at c1 c2 c3 c4
  clear tA tB
  refine (kinds_any op W).mono ?_
  rintro e w1 ⟨kA, kc, rfl, hkr, hb1⟩
  rw [hkd.out] at hkr ⊢
  obtain ⟨kb, ko, rfl, hkb, hk0⟩ := hkr.at (i := 0) (by simp)
  simp at hk0
  have d1 := cell_up hb1 (w.heap.size) 0 (by omega) c1
  have d2 := cell_up hb1 (w.heap.size) 1 (by omega) c2
  have d3 := cell_up hb1 (w.heap.size + 1) 0 (by omega) c3
  have d4 := cell_up hb1 (w.heap.size + 1) 1 (by omega) c4
  have d7 : ∀ o, w1.frozen? ⟨w.heap.size + 1, o, none⟩ = false := fun o => froz_up hb1 (w.heap.size + 1) o (by omega) (c7 o)
  have hz1 : w.heap.size + 1 < w1.heap.size := by have := hb1.size; omega
  have hb' := hb.trans (hb1.mono hb.size)
  clear c1 c2 c3 c4 c7 tS
  go_wp2_with fail
  have e1 := fun m : Above w1 => above_at d1 (by omega) m
  have e2 := fun m : Above w1 => above_at d2 (by omega) m
  have e5 := fun m : Above w1 => above_at hk0 hkb m
  refine wp_region_T (by kernel_rfl) (by kernel_rfl) ?_
  repeat (go_big_quiet_step (exact quiet_T (may_T _ _ _ (by exact hp.out))))
  refine wpQuiet_nil ?_
  intro w2 h2
  obtain ⟨⟨x2, hb2⟩, hx2⟩ := h2
  dsimp only at hx2
  subst hx2
  have f1 := cell_up hb2 (w.heap.size) 0 (by omega) d1
  have f2 := cell_up hb2 (w.heap.size) 1 (by omega) d2
  have f3 := cell_up hb2 (w.heap.size + 1) 0 (by omega) d3
  have f4 := cell_up hb2 (w.heap.size + 1) 1 (by omega) d4
  have f7 : ∀ o, w2.frozen? ⟨w.heap.size + 1, o, none⟩ = false := fun o => froz_up hb2 (w.heap.size + 1) o (by omega) (d7 o)
  have hz2 : w.heap.size + 1 < w2.heap.size := by have := hb2.size; omega
  have hb'' := hb'.trans (hb2.mono hb'.size)
  clear d1 d2 d3 d4 d7 e1 e2 e5 hk0 hz1
  go_wp2_with fail
  refine (of_T op k 105 w2 hof.out).mono ?_
  rintro e w3 ⟨rfl, rfl⟩
  go_wp2_with fail
  refine (low_any _ _ w2).mono ?_
  rintro e w4 ⟨rfl, hb4⟩
  have g1 := cell_up hb4 (w.heap.size) 0 (by omega) f1
  have g2 := cell_up hb4 (w.heap.size) 1 (by omega) f2
  have g3 := cell_up hb4 (w.heap.size + 1) 0 (by omega) f3
  have g4 := cell_up hb4 (w.heap.size + 1) 1 (by omega) f4
  have g7 : ∀ o, w4.frozen? ⟨w.heap.size + 1, o, none⟩ = false := fun o => froz_up hb4 (w.heap.size + 1) o (by omega) (f7 o)
  have hz4 : w.heap.size + 1 < w4.heap.size := by have := hb4.size; omega
  have hb3 := hb''.trans (hb4.mono hb''.size)
  clear f1 f2 f3 f4 f7
  go_wp2_with fail
  refine (pop_T _ _ (low_nn _) (low_lt _)).mono ?_
  rintro e w4' ⟨rfl, rfl⟩
  go_wp2_with fail
  refine (wrap_k k _ w4 hk).mono ?_
  rintro e w5 ⟨rfl, hb5⟩
  have j1 := cell_up hb5 (w.heap.size) 0 (by omega) g1
  have j2 := cell_up hb5 (w.heap.size) 1 (by omega) g2
  have j3 := cell_up hb5 (w.heap.size + 1) 0 (by omega) g3
  have j4 := cell_up hb5 (w.heap.size + 1) 1 (by omega) g4
  have j7 : ∀ o, w5.frozen? ⟨w.heap.size + 1, o, none⟩ = false := fun o => froz_up hb5 (w.heap.size + 1) o (by omega) (g7 o)
  have hz5 : w.heap.size + 1 < w5.heap.size := by have := hb5.size; omega
  clear g1 g2 g3 g4 g7
  have hbe := hb3.trans (hb5.mono hb3.size)
  go_wp2_with fail
  refine bodyPost_ret (v := .tuple #[.agg #[.int .i64 k, .int .i64 (wk k ((Lib.onesCount (low (k, n)).toNat : Int)))], .bool true]) (by simp [results, Tryd.results15, go_sem, j3, j4]) rfl ⟨rfl, ?_⟩
  exact (hbe.setCell (by simp) _).setCell (by simp) _

end Go.Proofs.YtdcpbjpghgbbiaaDoor
