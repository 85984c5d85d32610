/- The contract of ints.Two, of values of the instruction's kind. Printed by gen_two.py. -/
import Derived.Test.YtdcpbjpghgbbiaaDoorIntsDiv
import Derived.Deep.RegionHeld3
namespace Go.Proofs.YtdcpbjpghgbbiaaDoor
open Go.RowKit
set_option linter.unusedVariables false
set_option maxHeartbeats 1000000

theorem set_far {w : World} {B b o : Nat} {u v x : Value} (hb : B ≠ b) (h : w.cell? ⟨b, o, none⟩ = some x) : ((w.setCell ⟨B, 0, none⟩ u).setCell ⟨B, 1, none⟩ v).cell? ⟨b, o, none⟩ = some x := by
  rw [World.cell?_setCell_far _ _ _ _ hb, World.cell?_setCell_far _ _ _ _ hb, h]
def b2i (b : Bool) : Int := if b then 1 else 0
theorem flag_2 (b : Bool) (w : World) : Calls Tryd.prog 30 #[.bool b] w fun e w' => e = .returned (.agg #[.int .i64 1, .int .i64 (b2i b)]) ∧ Below w.heap.size w w' :=
  (flag_any b w).mono fun _ _ h => ⟨h.1.trans (by cases b <;> rfl), h.2⟩
theorem wrap_k (k n : Int) (w : World) (hk : k = 1 ∨ k = 2) : Calls Tryd.prog 25 #[.int .i64 k, .int .i64 n] w fun e w' => e = .returned (.agg #[.int .i64 k, .int .i64 (wk k n)]) ∧ Below w.heap.size w w' := by
  rcases hk with rfl | rfl
  · exact wrap_1 n w
  · exact wrap_2 n w
theorem may_T (k n : Int) (w : World) (h : mayB (k, n) = true) : Calls Tryd.prog 21 #[.agg #[.int .i64 k, .int .i64 n]] w fun e w' => e = .returned (.bool true) ∧ Below w.heap.size w w' := (may_any k n w).mono fun _ _ h' => ⟨by rw [h'.1, h], h'.2⟩
theorem of_T (op k l : Int) (w : World) (h : ofV op = (k, l)) : Calls Tryd.prog 29 #[.int .i64 op] w fun e w' => e = .returned (.tuple #[.int .i64 k, .int .i64 l]) ∧ w = w' := (of_any op w).mono fun _ _ h' => ⟨by rw [h'.1, h], h'.2⟩

/-- The way that compares. -/
theorem two_cmp (op k l n n' : Int) (w : World) (hk : k = 1 ∨ k = 2) (hof : Hid (ofV op = (k, l))) (hkd : Hid (kindsV op = ([k, k], 1, true))) (hl : 70 ≤ l ∧ l ≤ 79) (hp : Hid (mayB (k, n) = true)) (hq : Hid (mayB (k, n') = true)) :
    Calls Tryd.prog 17 #[.int .i64 op, .agg #[.int .i64 k, .int .i64 n], .agg #[.int .i64 k, .int .i64 n']] w fun e w' => e = .returned (T2 1 (b2i (cmpB l (k, n) (k, n'))) 0) ∧ Below w.heap.size w w' := by
  obtain ⟨l1, l2⟩ := hl
  have hlb : decide (l ≤ 79) = true := decide_eq_true l2
  go_enter Tryd.func17, Tryd.ntmps17
  go_wp2_with fail
  obtain ⟨tA, tB, tC, c7, tS⟩ := three_blocks w #[.int .i64 k, .int .i64 n] #[.int .i64 k, .int .i64 n'] #[.int .i64 0, .int .i64 0] 23
  obtain ⟨W, hW⟩ : ∃ W, W = ((w.alloc (.cells #[.int .i64 k, .int .i64 n] 23)).alloc (.cells #[.int .i64 k, .int .i64 n'] 23)).alloc (.cells #[.int .i64 0, .int .i64 0] 23) := ⟨_, rfl⟩
  have hb : Below w.heap.size w W := by rw [hW]; exact ((one_block _ _).alloc (by simp) _).alloc (by simp; omega) _
  rw [← hW] at tA tB tC c7 tS ⊢
  clear hW
  have c1 := tA 0
  have c2 := tA 1
  have c3 := tB 0
  have c4 := tB 1
  have c5 := tC 0
  have c6 := tC 1
  simp at c1 c2 c3 c4 c5 c6
  clear tA tB tC
  refine (kinds_any op W).mono ?_
  rintro e w1 ⟨kA, kc, rfl, hkr, hb1⟩
  rw [hkd.out] at hkr ⊢
  obtain ⟨kb, ko, rfl, hkb, hk0⟩ := hkr.at (i := 0) (by simp)
  have hk1 := hkr.get (i := 1) (by simp)
  simp at hk0 hk1
  have d1 := cell_up hb1 (w.heap.size) 0 (by omega) c1
  have d2 := cell_up hb1 (w.heap.size) 1 (by omega) c2
  have d3 := cell_up hb1 (w.heap.size + 1) 0 (by omega) c3
  have d4 := cell_up hb1 (w.heap.size + 1) 1 (by omega) c4
  have d5 := cell_up hb1 (w.heap.size + 1 + 1) 0 (by omega) c5
  have d6 := cell_up hb1 (w.heap.size + 1 + 1) 1 (by omega) c6
  have d7 : ∀ o, w1.frozen? ⟨w.heap.size + 1 + 1, o, none⟩ = false := fun o => froz_up hb1 (w.heap.size + 1 + 1) o (by omega) (c7 o)
  have hz1 : w.heap.size + 1 + 1 < w1.heap.size := by have := hb1.size; omega
  have hb' := hb.trans (hb1.mono hb.size)
  clear c1 c2 c3 c4 c5 c6 c7 tS
  go_wp2_with fail
  have e1 := fun m : Above w1 => above_at d1 (by omega) m
  have e2 := fun m : Above w1 => above_at d2 (by omega) m
  have e3 := fun m : Above w1 => above_at d3 (by omega) m
  have e4 := fun m : Above w1 => above_at d4 (by omega) m
  have e5 := fun m : Above w1 => above_at hk0 hkb m
  have e6 := fun m : Above w1 => above_at hk1 hkb m
  refine wp_region_T (by kernel_rfl) (by kernel_rfl) ?_
  repeat (go_big_quiet_step (exact quiet_T (may_T _ _ _ (by first | exact hp.out | exact hq.out))))
  refine wpQuiet_nil ?_
  intro w2 h2
  obtain ⟨⟨x2, hb2⟩, hx2⟩ := h2
  dsimp only at hx2
  subst hx2
  have f1 := cell_up hb2 (w.heap.size) 0 (by omega) d1
  have f2 := cell_up hb2 (w.heap.size) 1 (by omega) d2
  have f3 := cell_up hb2 (w.heap.size + 1) 0 (by omega) d3
  have f4 := cell_up hb2 (w.heap.size + 1) 1 (by omega) d4
  have f5 := cell_up hb2 (w.heap.size + 1 + 1) 0 (by omega) d5
  have f6 := cell_up hb2 (w.heap.size + 1 + 1) 1 (by omega) d6
  have f7 : ∀ o, w2.frozen? ⟨w.heap.size + 1 + 1, o, none⟩ = false := fun o => froz_up hb2 (w.heap.size + 1 + 1) o (by omega) (d7 o)
  have hz2 : w.heap.size + 1 + 1 < w2.heap.size := by have := hb2.size; omega
  have hb'' := hb'.trans (hb2.mono hb'.size)
  clear d1 d2 d3 d4 d5 d6 d7 e1 e2 e3 e4 e5 e6 hk0 hk1 hz1
  go_wp2_with fail
  refine (of_T op k l w2 hof.out).mono ?_
  rintro e w3 ⟨rfl, rfl⟩
  go_wp2_with fail
  refine (cmp_any l k n k n' w2 l1 l2).mono ?_
  rintro e w4 ⟨rfl, hb4⟩
  have g1 := cell_up hb4 (w.heap.size) 0 (by omega) f1
  have g2 := cell_up hb4 (w.heap.size) 1 (by omega) f2
  have g3 := cell_up hb4 (w.heap.size + 1) 0 (by omega) f3
  have g4 := cell_up hb4 (w.heap.size + 1) 1 (by omega) f4
  have g5 := cell_up hb4 (w.heap.size + 1 + 1) 0 (by omega) f5
  have g6 := cell_up hb4 (w.heap.size + 1 + 1) 1 (by omega) f6
  have g7 : ∀ o, w4.frozen? ⟨w.heap.size + 1 + 1, o, none⟩ = false := fun o => froz_up hb4 (w.heap.size + 1 + 1) o (by omega) (f7 o)
  have hz4 : w.heap.size + 1 + 1 < w4.heap.size := by have := hb4.size; omega
  clear f1 f2 f3 f4 f5 f6 f7
  go_wp2_with fail
  refine (flag_2 _ w4).mono ?_
  rintro e w5 ⟨rfl, hb5⟩
  have j1 := cell_up hb5 (w.heap.size) 0 (by omega) g1
  have j2 := cell_up hb5 (w.heap.size) 1 (by omega) g2
  have j3 := cell_up hb5 (w.heap.size + 1) 0 (by omega) g3
  have j4 := cell_up hb5 (w.heap.size + 1) 1 (by omega) g4
  have j5 := cell_up hb5 (w.heap.size + 1 + 1) 0 (by omega) g5
  have j6 := cell_up hb5 (w.heap.size + 1 + 1) 1 (by omega) g6
  have j7 : ∀ o, w5.frozen? ⟨w.heap.size + 1 + 1, o, none⟩ = false := fun o => froz_up hb5 (w.heap.size + 1 + 1) o (by omega) (g7 o)
  have hz5 : w.heap.size + 1 + 1 < w5.heap.size := by have := hb5.size; omega
  clear g1 g2 g3 g4 g5 g6 g7
  have hbe := (hb''.trans (hb4.mono hb''.size)).trans (hb5.mono (hb''.trans (hb4.mono hb''.size)).size)
  go_wp2_with fail
  refine bodyPost_ret (v := .tuple #[.agg #[.int .i64 1, .int .i64 (b2i (cmpB l (k, n) (k, n')))], .int .i64 0]) (by simp [results, Tryd.results17, go_sem, j5, j6]) rfl ⟨rfl, ?_⟩
  exact (hbe.setCell (by simp; omega) _).setCell (by simp; omega) _

/-- The way that divides. -/
theorem two_div (op k l n n' : Int) (w : World) (hk : k = 1 ∨ k = 2) (hof : Hid (ofV op = (k, l))) (hkd : Hid (kindsV op = ([k, k], k, true))) (hl : l = 109 ∨ l = 110 ∨ l = 111 ∨ l = 112) (hlow : ¬ n' = 0 → 1 ≤ low (k, n')) (hp : Hid (mayB (k, n) = true)) (hq : Hid (mayB (k, n') = true)) :
    Calls Tryd.prog 17 #[.int .i64 op, .agg #[.int .i64 k, .int .i64 n], .agg #[.int .i64 k, .int .i64 n']] w fun e w' => e = .returned (T2 (divV k l n n').1 (divV k l n n').2.1 (divV k l n n').2.2) ∧ Below w.heap.size w w' := by
  have hlb : decide (l ≤ 79) = false := decide_eq_false (by omega)
  have hin : inB l 109 112 = true := by rcases hl with rfl | rfl | rfl | rfl <;> rfl
  go_enter Tryd.func17, Tryd.ntmps17
  go_wp2_with fail
  obtain ⟨tA, tB, tC, c7, tS⟩ := three_blocks w #[.int .i64 k, .int .i64 n] #[.int .i64 k, .int .i64 n'] #[.int .i64 0, .int .i64 0] 23
  obtain ⟨W, hW⟩ : ∃ W, W = ((w.alloc (.cells #[.int .i64 k, .int .i64 n] 23)).alloc (.cells #[.int .i64 k, .int .i64 n'] 23)).alloc (.cells #[.int .i64 0, .int .i64 0] 23) := ⟨_, rfl⟩
  have hb : Below w.heap.size w W := by rw [hW]; exact ((one_block _ _).alloc (by simp) _).alloc (by simp; omega) _
  rw [← hW] at tA tB tC c7 tS ⊢
  clear hW
  have c1 := tA 0
  have c2 := tA 1
  have c3 := tB 0
  have c4 := tB 1
  have c5 := tC 0
  have c6 := tC 1
  simp at c1 c2 c3 c4 c5 c6
  clear tA tB tC
  refine (kinds_any op W).mono ?_
  rintro e w1 ⟨kA, kc, rfl, hkr, hb1⟩
  rw [hkd.out] at hkr ⊢
  obtain ⟨kb, ko, rfl, hkb, hk0⟩ := hkr.at (i := 0) (by simp)
  have hk1 := hkr.get (i := 1) (by simp)
  simp at hk0 hk1
  have d1 := cell_up hb1 (w.heap.size) 0 (by omega) c1
  have d2 := cell_up hb1 (w.heap.size) 1 (by omega) c2
  have d3 := cell_up hb1 (w.heap.size + 1) 0 (by omega) c3
  have d4 := cell_up hb1 (w.heap.size + 1) 1 (by omega) c4
  have d5 := cell_up hb1 (w.heap.size + 1 + 1) 0 (by omega) c5
  have d6 := cell_up hb1 (w.heap.size + 1 + 1) 1 (by omega) c6
  have d7 : ∀ o, w1.frozen? ⟨w.heap.size + 1 + 1, o, none⟩ = false := fun o => froz_up hb1 (w.heap.size + 1 + 1) o (by omega) (c7 o)
  have hz1 : w.heap.size + 1 + 1 < w1.heap.size := by have := hb1.size; omega
  have hb' := hb.trans (hb1.mono hb.size)
  clear c1 c2 c3 c4 c5 c6 c7 tS
  go_wp2_with fail
  have e1 := fun m : Above w1 => above_at d1 (by omega) m
  have e2 := fun m : Above w1 => above_at d2 (by omega) m
  have e3 := fun m : Above w1 => above_at d3 (by omega) m
  have e4 := fun m : Above w1 => above_at d4 (by omega) m
  have e5 := fun m : Above w1 => above_at hk0 hkb m
  have e6 := fun m : Above w1 => above_at hk1 hkb m
  refine wp_region_T (by kernel_rfl) (by kernel_rfl) ?_
  repeat (go_big_quiet_step (exact quiet_T (may_T _ _ _ (by first | exact hp.out | exact hq.out))))
  refine wpQuiet_nil ?_
  intro w2 h2
  obtain ⟨⟨x2, hb2⟩, hx2⟩ := h2
  dsimp only at hx2
  subst hx2
  have f1 := cell_up hb2 (w.heap.size) 0 (by omega) d1
  have f2 := cell_up hb2 (w.heap.size) 1 (by omega) d2
  have f3 := cell_up hb2 (w.heap.size + 1) 0 (by omega) d3
  have f4 := cell_up hb2 (w.heap.size + 1) 1 (by omega) d4
  have f5 := cell_up hb2 (w.heap.size + 1 + 1) 0 (by omega) d5
  have f6 := cell_up hb2 (w.heap.size + 1 + 1) 1 (by omega) d6
  have f7 : ∀ o, w2.frozen? ⟨w.heap.size + 1 + 1, o, none⟩ = false := fun o => froz_up hb2 (w.heap.size + 1 + 1) o (by omega) (d7 o)
  have hz2 : w.heap.size + 1 + 1 < w2.heap.size := by have := hb2.size; omega
  have hb'' := hb'.trans (hb2.mono hb'.size)
  clear d1 d2 d3 d4 d5 d6 d7 e1 e2 e3 e4 e5 e6 hk0 hk1 hz1
  go_wp2_with fail
  refine (of_T op k l w2 hof.out).mono ?_
  rintro e w3 ⟨rfl, rfl⟩
  go_wp2_with fail
  refine (between_any _ _ _ _).mono ?_
  rintro e w4 ⟨rfl, rfl⟩
  go_wp2_with fail
  refine (div_any l k n n' w2 hk hl hlow).mono ?_
  rintro e w5 ⟨rfl, hb5⟩
  have j1 := cell_up hb5 (w.heap.size) 0 (by omega) f1
  have j2 := cell_up hb5 (w.heap.size) 1 (by omega) f2
  have j3 := cell_up hb5 (w.heap.size + 1) 0 (by omega) f3
  have j4 := cell_up hb5 (w.heap.size + 1) 1 (by omega) f4
  have j5 := cell_up hb5 (w.heap.size + 1 + 1) 0 (by omega) f5
  have j6 := cell_up hb5 (w.heap.size + 1 + 1) 1 (by omega) f6
  have j7 : ∀ o, w5.frozen? ⟨w.heap.size + 1 + 1, o, none⟩ = false := fun o => froz_up hb5 (w.heap.size + 1 + 1) o (by omega) (f7 o)
  have hz5 : w.heap.size + 1 + 1 < w5.heap.size := by have := hb5.size; omega
  clear f1 f2 f3 f4 f5 f6 f7
  unfold T2
  have hbe := hb''.trans (hb5.mono hb''.size)
  go_wp2_with fail
  refine bodyPost_ret (v := .tuple #[.agg #[.int .i64 (divV k l n n').1, .int .i64 (divV k l n n').2.1], .int .i64 (divV k l n n').2.2]) (by simp [results, Tryd.results17, go_sem, j5, j6]) rfl ⟨rfl, ?_⟩
  exact (hbe.setCell (by simp; omega) _).setCell (by simp; omega) _

/-- All other ways. -/
theorem two_reck (op k l n n' : Int) (w : World) (hk : k = 1 ∨ k = 2) (hof : Hid (ofV op = (k, l))) (hkd : Hid (kindsV op = ([k, k], k, true))) (hl : Reck l) (hp : Hid (mayB (k, n) = true)) (hq : Hid (mayB (k, n') = true)) :
    Calls Tryd.prog 17 #[.int .i64 op, .agg #[.int .i64 k, .int .i64 n], .agg #[.int .i64 k, .int .i64 n']] w fun e w' => e = .returned (T2 k (wk k (reckV k l n n')) 0) ∧ Below w.heap.size w w' := by
  have hlb : decide (l ≤ 79) = false := by rcases hl with rfl | rfl | rfl | rfl | rfl | rfl | rfl | rfl | rfl | rfl | rfl <;> rfl
  have hin : inB l 109 112 = false := by rcases hl with rfl | rfl | rfl | rfl | rfl | rfl | rfl | rfl | rfl | rfl | rfl <;> rfl
  go_enter Tryd.func17, Tryd.ntmps17
  go_wp2_with fail
  obtain ⟨tA, tB, tC, c7, tS⟩ := three_blocks w #[.int .i64 k, .int .i64 n] #[.int .i64 k, .int .i64 n'] #[.int .i64 0, .int .i64 0] 23
  obtain ⟨W, hW⟩ : ∃ W, W = ((w.alloc (.cells #[.int .i64 k, .int .i64 n] 23)).alloc (.cells #[.int .i64 k, .int .i64 n'] 23)).alloc (.cells #[.int .i64 0, .int .i64 0] 23) := ⟨_, rfl⟩
  have hb : Below w.heap.size w W := by rw [hW]; exact ((one_block _ _).alloc (by simp) _).alloc (by simp; omega) _
  rw [← hW] at tA tB tC c7 tS ⊢
  clear hW
  have c1 := tA 0
  have c2 := tA 1
  have c3 := tB 0
  have c4 := tB 1
  have c5 := tC 0
  have c6 := tC 1
  simp at c1 c2 c3 c4 c5 c6
  clear tA tB tC
  refine (kinds_any op W).mono ?_
  rintro e w1 ⟨kA, kc, rfl, hkr, hb1⟩
  rw [hkd.out] at hkr ⊢
  obtain ⟨kb, ko, rfl, hkb, hk0⟩ := hkr.at (i := 0) (by simp)
  have hk1 := hkr.get (i := 1) (by simp)
  simp at hk0 hk1
  have d1 := cell_up hb1 (w.heap.size) 0 (by omega) c1
  have d2 := cell_up hb1 (w.heap.size) 1 (by omega) c2
  have d3 := cell_up hb1 (w.heap.size + 1) 0 (by omega) c3
  have d4 := cell_up hb1 (w.heap.size + 1) 1 (by omega) c4
  have d5 := cell_up hb1 (w.heap.size + 1 + 1) 0 (by omega) c5
  have d6 := cell_up hb1 (w.heap.size + 1 + 1) 1 (by omega) c6
  have d7 : ∀ o, w1.frozen? ⟨w.heap.size + 1 + 1, o, none⟩ = false := fun o => froz_up hb1 (w.heap.size + 1 + 1) o (by omega) (c7 o)
  have hz1 : w.heap.size + 1 + 1 < w1.heap.size := by have := hb1.size; omega
  have hb' := hb.trans (hb1.mono hb.size)
  clear c1 c2 c3 c4 c5 c6 c7 tS
  go_wp2_with fail
  have e1 := fun m : Above w1 => above_at d1 (by omega) m
  have e2 := fun m : Above w1 => above_at d2 (by omega) m
  have e3 := fun m : Above w1 => above_at d3 (by omega) m
  have e4 := fun m : Above w1 => above_at d4 (by omega) m
  have e5 := fun m : Above w1 => above_at hk0 hkb m
  have e6 := fun m : Above w1 => above_at hk1 hkb m
  refine wp_region_T (by kernel_rfl) (by kernel_rfl) ?_
  repeat (go_big_quiet_step (exact quiet_T (may_T _ _ _ (by first | exact hp.out | exact hq.out))))
  refine wpQuiet_nil ?_
  intro w2 h2
  obtain ⟨⟨x2, hb2⟩, hx2⟩ := h2
  dsimp only at hx2
  subst hx2
  have f1 := cell_up hb2 (w.heap.size) 0 (by omega) d1
  have f2 := cell_up hb2 (w.heap.size) 1 (by omega) d2
  have f3 := cell_up hb2 (w.heap.size + 1) 0 (by omega) d3
  have f4 := cell_up hb2 (w.heap.size + 1) 1 (by omega) d4
  have f5 := cell_up hb2 (w.heap.size + 1 + 1) 0 (by omega) d5
  have f6 := cell_up hb2 (w.heap.size + 1 + 1) 1 (by omega) d6
  have f7 : ∀ o, w2.frozen? ⟨w.heap.size + 1 + 1, o, none⟩ = false := fun o => froz_up hb2 (w.heap.size + 1 + 1) o (by omega) (d7 o)
  have hz2 : w.heap.size + 1 + 1 < w2.heap.size := by have := hb2.size; omega
  have hb'' := hb'.trans (hb2.mono hb'.size)
  clear d1 d2 d3 d4 d5 d6 d7 e1 e2 e3 e4 e5 e6 hk0 hk1 hz1
  go_wp2_with fail
  refine (of_T op k l w2 hof.out).mono ?_
  rintro e w3 ⟨rfl, rfl⟩
  go_wp2_with fail
  refine (between_any _ _ _ _).mono ?_
  rintro e w4 ⟨rfl, rfl⟩
  go_wp2_with fail
  have fz0 := f7 0
  have fz1 := f7 1
  go_region_held3 (fun w' => w'.cell? ⟨w.heap.size, 0, none⟩ = some (.int .i64 k) ∧ w'.cell? ⟨w.heap.size, 1, none⟩ = some (.int .i64 n) ∧ w'.cell? ⟨w.heap.size + 1, 0, none⟩ = some (.int .i64 k) ∧ w'.cell? ⟨w.heap.size + 1, 1, none⟩ = some (.int .i64 n'))
    (first
      | exact ⟨f1, f2, f3, f4⟩
      | exact ⟨cell_up hb5 _ _ (by simp; omega) f1, cell_up hb5 _ _ (by simp; omega) f2, cell_up hb5 _ _ (by simp; omega) f3, cell_up hb5 _ _ (by simp; omega) f4⟩
      | exact ⟨j1, j2, j3, j4⟩
      | exact ⟨set_far (by omega) j1, set_far (by omega) j2, set_far (by omega) j3, set_far (by omega) j4⟩
      | (simp [*]; done))
    (first
      | (go_at_call 42; refine (reck_any l k n n' _ hk hl).mono ?_; rintro e w5 ⟨rfl, hb5⟩)
      | (go_at_call 25; refine (wrap_k k _ _ hk).mono ?_; rintro e w6 ⟨rfl, hb6⟩; have hz6 : w.heap.size + 1 + 1 < w6.heap.size := (by have := hb5.size; have := hb6.size; simp at *; omega); have hb56 : Below w2.drew.heap.size w2.drew w6 := (hb5.trans (hb6.mono hb5.size)); have hz2d : w.heap.size + 1 + 1 < w2.drew.heap.size := hz2; have j1 := cell_up hb56 _ _ (by omega) f1; have j2 := cell_up hb56 _ _ (by omega) f2; have j3 := cell_up hb56 _ _ (by omega) f3; have j4 := cell_up hb56 _ _ (by omega) f4; have j5 := cell_up hb56 _ _ (by omega) f5; have j6 := cell_up hb56 _ _ (by omega) f6; have j7 := froz_up hb56 _ _ (by omega) fz0; have j8 := froz_up hb56 _ _ (by omega) fz1))
  have hb'3 : Below w.heap.size w w2.drew := hb''.drew


  have hbe := hb'3.trans (hb56.mono hb'3.size)
  go_wp2_with fail
  refine bodyPost_ret (v := .tuple #[.agg #[.int .i64 k, .int .i64 (wk k (reckV k l n n'))], .int .i64 0]) (by simp [results, Tryd.results17, go_sem, j5, j6]) rfl ⟨rfl, ?_⟩
  exact (hbe.setCell (by simp; omega) _).setCell (by simp; omega) _


end Go.Proofs.YtdcpbjpghgbbiaaDoor
