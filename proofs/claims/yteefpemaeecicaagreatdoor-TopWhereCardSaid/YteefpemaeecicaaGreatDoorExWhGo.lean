/- Go's contracts on the machine that adds up: so many steps on. No condition. -/
import Derived.Test.YteefpemaeecicaaGreatDoorExWhA
import Derived.Test.YteefpemaeecicaaGreatDoorExWhB
open Go Go.RowKit Go.Proofs
namespace Go.Proofs.YteefpemaeecicaaGreatDoor.Ev
set_option linter.unusedVariables false
set_option linter.unusedSimpArgs false
set_option linter.constructorNameAsVariable false
noncomputable section
/-- How the machine stands: its phase, the two locals, the steps, the value on top. -/
structure WSt where
  (p i s t u : Nat)
noncomputable def nxt (x : WSt) : WSt := match x.p with
  | 3 => if x.i = 0 then ⟨15, x.i, x.s, x.t + 1, x.u⟩ else ⟨4, x.i, x.s, x.t + 1, x.u⟩
  | 7 => ⟨8, x.i, x.s, x.t + 1, x.s + x.i⟩
  | 8 => ⟨9, x.i, x.u, x.t + 1, 0⟩
  | 11 => ⟨12, x.i, x.s, x.t + 1, x.i - 1⟩
  | 12 => ⟨13, x.u, x.s, x.t + 1, 0⟩
  | 14 => ⟨3, x.i, x.s, x.t + 1, x.u⟩
  | 18 => x
  | 19 => ⟨6, x.i, x.s, x.t + 1, x.u⟩
  | 20 => ⟨10, x.i, x.s, x.t + 1, x.u⟩
  | 21 => ⟨2, x.i, x.s, x.t + 1, x.u⟩
  | 22 => ⟨23, x.i, x.s, x.t + 1, x.u⟩
  | 23 => ⟨18, x.i, x.s, x.t + 1, x.u⟩
  | 24 => x
  | p => ⟨p + 1, x.i, x.s, x.t + 1, x.u⟩
noncomputable def goodB (x : WSt) : Bool := Nat.ble x.p 24 && Nat.ble x.i 31 && Nat.ble x.s 511 && Nat.ble x.t 511 && Nat.ble x.u 511 && (!(Nat.beq x.p 11) || Nat.ble 1 x.i)
noncomputable def run : Nat → WSt → WSt
  | 0, x => x
  | k + 1, x => run k (nxt x)
theorem good_inv {x : WSt} (h : goodB x = true) : x.p ≤ 24 ∧ x.i < 32 ∧ x.s < 512 ∧ x.t < 512 ∧ x.u < 512 ∧ (x.p = 11 → 1 ≤ x.i) := by
  unfold goodB at h
  simp only [Bool.and_eq_true, Bool.or_eq_true, Bool.not_eq_true'] at h
  obtain ⟨⟨⟨⟨⟨h1, h2⟩, h3⟩, h4⟩, h5⟩, h6⟩ := h
  refine ⟨ble_iff.1 h1, Nat.lt_succ_of_le (ble_iff.1 h2), Nat.lt_succ_of_le (ble_iff.1 h3), Nat.lt_succ_of_le (ble_iff.1 h4), Nat.lt_succ_of_le (ble_iff.1 h5), fun e => ?_⟩
  rcases h6 with h6 | h6
  · rw [beq_iff.2 e] at h6; cases h6
  · exact ble_iff.1 h6
theorem run_done {x : WSt} (h : x.p = 18 ∨ x.p = 24) : ∀ k, run k x = x
  | 0 => rfl
  | k + 1 => by
    have : nxt x = x := by
      obtain ⟨p, i, s, t, u⟩ := x
      have h : p = 18 ∨ p = 24 := h
      rcases h with rfl | rfl <;> rfl
    show run k (nxt x) = x
    rw [this]
    exact run_done h k
structure Rel (R : Rho) (c : Nat) (x : WSt) : Prop where
  i : R.n 0 % 18446744073709551616 = x.i
  s : R.n 1 % 18446744073709551616 = x.s
  t : R.n 2 % 18446744073709551616 = x.t
  c : R.n 3 % 18446744073709551616 = c
  u : R.n 4 % 18446744073709551616 = x.u
structure WhAt (S : List Nm) (R0 : Rho) (Kp : Kp) (μ0 : Mp) (c : Nat) (x : WSt) (a : Act) (w : World) : Prop where
  good : ∀ j, goodB (run j x) = true
  sub : ∀ n ∈ whN x.p, n ∈ S
  ex : ∃ (R : Rho) (μ : Mp), Rel R c x ∧ (∀ i, 5 ≤ i → R.n i = R0.n i) ∧ R.v = R0.v ∧ R.inp = R0.inp ∧ @At R goE [0, 1, 4] [avP, avN, avQ] Kp μ (hpT (whT x.p) c40) a w ∧ ∀ y ∈ whN x.p, μ y = μ0 y
theorem whN1_sub : ∀ n ∈ whN1, n ∈ whN0 := by
  have h : (whN1.all fun n => whN0.any fun m => Nm.beq m n) = true := by kernel_rfl
  intro n hn
  obtain ⟨m, hm, e⟩ := List.any_eq_true.1 (List.all_eq_true.1 h n hn)
  rw [← nm_beq.1 e]; exact hm
theorem lt512 : ∀ t ∈ [0, 1, 4], t < 512 := by decide
theorem lt512' : ∀ t ∈ [0, 1], t < 512 := by decide
theorem wh_step {S : List Nm} {R0 : Rho} {Kp : Kp} (hN : ∀ nm, ¬ Kp.N nm) {μ0 : Mp} (h0 : ∀ n ∈ S, ∃ bk, μ0 n = some bk) {c : Nat} {x y : WSt} {R : Rho} {μ : Mp} (hr5 : ∀ i, 5 ≤ i → R.n i = R0.n i) (hv : R.v = R0.v) (hi : R.inp = R0.inp) {a : Act} {w : World} (hA : @At R goE [0, 1, 4] [avP, avN, avQ] Kp μ (hpT (whT x.p) c40) a w) (hst : ∀ n ∈ whN x.p, μ n = μ0 n) (hSx : ∀ n ∈ whN x.p, n ∈ S)
    {tk : List As} {ps : List (Nm × Nm)} {σ : List Ex} (hf : fragN (TTa tk) (whH tk []) 1 goE Tryz.f14.results.toList goB [0, 1, 4] [avP, avN, avQ] (hpT (whT x.p) c40) pat3 (whT y.p) c40 ps σ = .yes) (hh : @Holds R tk) (hps : ((whN y.p).all fun n => (lk ps n).any fun m => Nm.beq m n) = true) (hsub : ∀ n ∈ whN y.p, n ∈ whN x.p) (good : ∀ j, goodB (run j y) = true) (rel : Rel (@Rho.sub R σ) c y) (h5 : ∀ i, 5 ≤ i → getE σ i = .var i) :
    goB.wp Tryz.prog (fun ex a' w' => ex = .normal ∧ WhAt S R0 Kp μ0 c y a' w') a w := by
  have hd : ∀ n ∈ whN y.p, ∃ bk, μ n = some bk := fun n hn => by rw [hst n (hsub n hn)]; exact h0 n (hSx n (hsub n hn))
  refine @fragN_ok Tryz.prog _ 1 goE Tryz.f14 ps σ R (@progOk R _ hh) _ (@whH_ok R _ hh [] (@LOk.nil R)) goE_ok goB _ lt512 _ _ _ _ _ hf Kp hN μ a w hA _ fun a' w' he => ?_
  obtain ⟨μ2, q1, q2⟩ := Ends.next hN he (Rho.Same.rfl' _) (whN y.p) hps hd
  refine ⟨rfl, good, fun n hn => hSx n (hsub n hn), @Rho.sub R σ, μ2, rel, fun i hi => ?_, hv, hi, q1, fun n hn => (q2 n hn).trans (hst n (hsub n hn))⟩
  show @den R (getE σ i) = R0.n i
  rw [h5 i hi]
  exact hr5 i hi
theorem getE_five {a b c d e : Ex} (i : Nat) (h : 5 ≤ i) : getE [a, b, c, d, e] i = .var i := by
  obtain ⟨j, rfl⟩ : ∃ j, i = j + 5 := ⟨i - 5, by omega⟩
  rfl
/-! ### What is taken at a step -/
theorem wrap32_low [Rho] {e : Ex} {n : Nat} (h : den e % 18446744073709551616 = n) (hn : n < 2147483648) : den (.op 23 2 (.op 22 3 e (.lit 0)) (.lit 0)) % 18446744073709551616 = n := by
  have a1 : den (.op 22 3 e (.lit 0)) = den e % 18446744073709551616 := rfl
  have a2 : den (.op 23 2 (.op 22 3 e (.lit 0)) (.lit 0)) = sExt 2147483648 4294967296 18446744073709551616 (den (.op 22 3 e (.lit 0)) % 4294967296) := rfl
  rw [a2, a1, h, Nat.mod_eq_of_lt (show n < 4294967296 by omega), sExt_lo hn, Nat.mod_eq_of_lt (by omega)]
theorem hold_mask [R : Rho] (i b q : Nat) {m : Nat} (hq : q = 2 ^ b) (hb : b ≤ 64) (hm : m + q = 18446744073709551616) (h : R.n i % 18446744073709551616 < q) : cmpD 0 7 (den (.op 3 7 (.var i) (.lit m)) % kmN 7) (den (.lit 0) % kmN 7) = true := by
  have e1 : den (.op 3 7 (.var i) (.lit m)) = (R.n i % 2 ^ 64) &&& (m % 2 ^ 64) := rfl
  have hq0 : 0 < q := by rw [hq]; exact Nat.two_pow_pos b
  have e2 : m = 2 ^ 64 - 2 ^ b := by rw [← hq]; omega
  have e3 : (R.n i % 2 ^ 64) &&& (m % 2 ^ 64) = 0 := by
    rw [Nat.mod_eq_of_lt (show m < 2 ^ 64 by omega), e2]
    refine Nat.eq_of_testBit_eq fun t => ?_
    rw [Nat.testBit_and, pow_sub_bit hb, Nat.zero_testBit]
    by_cases h1 : b ≤ t
    · have : (R.n i % 2 ^ 64).testBit t = false := Nat.testBit_lt_two_pow (Nat.lt_of_lt_of_le (show R.n i % 2 ^ 64 < 2 ^ b by rw [← hq]; exact h) (Nat.pow_le_pow_right (by omega) h1))
      rw [this]; rfl
    · rw [decide_eq_false h1]; simp
  exact take_eq (by rw [e1, e3]; symm; exact decide_eq_true rfl)
theorem t1_den [R : Rho] : den (.op 0 7 (.var 2) (.lit 1)) = R.n 2 % 18446744073709551616 + 1 := rfl
theorem hold4 [R : Rho] {c : Nat} {x : WSt} (h : Rel R (c + 1) x) (g : goodB x = true) (hc : c ≤ 1000) {l : List As} (hl : Holds l) : Holds (⟨4, 3, .var 3, .lit 0, true⟩ :: ⟨2, 7, .var 2, .lit 9007199254740992, true⟩ :: ⟨2, 7, .op 0 7 (.var 2) (.lit 1), .lit 9007199254740992, true⟩ :: ⟨4, 3, .op 0 7 (.var 2) (.lit 1), .lit 1000000, false⟩ :: l) := by
  obtain ⟨g1, g2, g3, g4, g5, g6⟩ := good_inv g
  have ht := h.t
  have hcc := h.c
  have e1 : den (.op 0 7 (.var 2) (.lit 1)) % 18446744073709551616 = x.t + 1 := by rw [t1_den, ht]; omega
  refine holds_cons ?_ (holds_cons ?_ (holds_cons ?_ (holds_cons ?_ hl)))
  · exact take_gt (e := .var 3) (n := 0) (b := true) (by show R.n 3 % 18446744073709551616 < _; omega) (by omega) (by show true = decide (0 < R.n 3 % 18446744073709551616); symm; exact decide_eq_true (by omega))
  · exact take_lim (e := .var 2) (by show R.n 2 % 18446744073709551616 < _; omega)
  · exact take_lim (by rw [e1]; omega)
  · exact take_gt (n := 1000000) (b := false) (by rw [e1]; omega) (by omega) (by rw [e1]; symm; exact decide_eq_false (by omega))
theorem hold_ms [R : Rho] {c : Nat} {x : WSt} (h : Rel R c x) (g : goodB x = true) {l : List As} (hl : Holds l) : Holds (⟨0, 7, .op 3 7 (.var 0) (.lit 18446744073709551584), .lit 0, true⟩ :: ⟨0, 7, .op 3 7 (.var 1) (.lit 18446744073709551104), .lit 0, true⟩ :: l) := by
  obtain ⟨g1, g2, g3, g4, g5, g6⟩ := good_inv g
  exact holds_cons (hold_mask 0 5 32 rfl (by omega) rfl (by rw [h.i]; omega)) (holds_cons (hold_mask 1 9 512 rfl (by omega) rfl (by rw [h.s]; omega)) hl)
theorem rel_t [R : Rho] {c : Nat} {x : WSt} (h : Rel R (c + 1) x) (g : goodB x = true) : den (.op 0 7 (.var 2) (.lit 1)) % 18446744073709551616 = x.t + 1 := by
  obtain ⟨g1, g2, g3, g4, g5, g6⟩ := good_inv g
  rw [t1_den, h.t]; omega
theorem rel_c [R : Rho] {c : Nat} {x : WSt} (h : Rel R (c + 1) x) (hc : c ≤ 1000) : den (.op 1 3 (.var 3) (.lit 1)) % 18446744073709551616 = c := by
  have := h.c
  show (R.n 3 % 18446744073709551616 + (18446744073709551616 - 1 % 18446744073709551616)) % 18446744073709551616 = c
  omega
theorem wh_body {S : List Nm} {R0 : Rho} {Kp : Kp} (hN : ∀ nm, ¬ Kp.N nm) {μ0 : Mp} (h0 : ∀ n ∈ S, ∃ bk, μ0 n = some bk) (fin : WSt) (y : Nat × WSt) (a : Act) (w : World) (h : y.1 ≤ 1000 ∧ run y.1 y.2 = fin ∧ WhAt S R0 Kp μ0 y.1 y.2 a w) :
    goB.wp Tryz.prog (fun ex a' w' => (ex = .exit 0 ∧ ∃ c', WhAt S R0 Kp μ0 c' fin a' w') ∨ (ex = .normal ∧ ∃ z : Nat × WSt, z.1 < y.1 ∧ z.1 ≤ 1000 ∧ run z.1 z.2 = fin ∧ WhAt S R0 Kp μ0 z.1 z.2 a' w')) a w := by
  obtain ⟨c, x⟩ := y
  obtain ⟨hc, hf, hg, hSx, R, μ, rel, r5, rv, ri, hA, hst⟩ := h
  have hd : ∀ n ∈ whN x.p, ∃ bk, μ n = some bk := fun n hn => by rw [hst n hn]; exact h0 n (hSx n hn)
  have g0 : goodB x = true := hg 0
  obtain ⟨g1, g2, g3, g4, g5, g6⟩ := good_inv g0
  have stop : ∀ {tk : List As}, fragX (TTa tk) (whH tk []) 1 goE Tryz.f14.results.toList goB [0, 1, 4] [avP, avN, avQ] (hpT (whT x.p) c40) 0 pat3 (whT x.p) c40 (sbP [] (whT x.p)) [] = .yes → @Holds R tk → run c x = x → goB.wp Tryz.prog (fun ex a' w' => (ex = .exit 0 ∧ ∃ c', WhAt S R0 Kp μ0 c' fin a' w') ∨ (ex = .normal ∧ ∃ z : Nat × WSt, z.1 < c ∧ z.1 ≤ 1000 ∧ run z.1 z.2 = fin ∧ WhAt S R0 Kp μ0 z.1 z.2 a' w')) a w := by
    intro tk hy hh hx
    refine @fragX_ok Tryz.prog _ 1 goE Tryz.f14 (sbP [] (whT x.p)) [] R (@progOk R _ hh) _ (@whH_ok R _ hh [] (@LOk.nil R)) goE_ok goB _ lt512 _ _ _ _ _ _ hy Kp hN μ a w hA _ fun a' w' he => ?_
    obtain ⟨μ2, q1, q2⟩ := Ends.next hN he (sub_nil R) (whN x.p) (stay_id x.p g1) hd
    have e : fin = x := hf.symm.trans hx
    rw [e]
    exact .inl ⟨rfl, c, hg, hSx, R, μ2, rel, r5, rv, ri, q1, fun n hn => (q2 n hn).trans (hst n hn)⟩
  cases c with
  | zero =>
    refine stop (tk := tkNo) (wh_x x.p g1) ?_ rfl
    have := rel.c
    exact @holds_cons R _ _ (@take_gt R (.var 3) 0 false (by show R.n 3 % 18446744073709551616 < _; omega) (by omega) (by show false = decide (0 < R.n 3 % 18446744073709551616); symm; exact decide_eq_false (by omega))) (@holds_nil R)
  | succ c =>
    have hc : c + 1 ≤ 1000 := hc
    have on : ∀ {z : WSt}, nxt x = z → goB.wp Tryz.prog (fun ex a' w' => ex = .normal ∧ WhAt S R0 Kp μ0 c z a' w') a w → goB.wp Tryz.prog (fun ex a' w' => (ex = .exit 0 ∧ ∃ c', WhAt S R0 Kp μ0 c' fin a' w') ∨ (ex = .normal ∧ ∃ z : Nat × WSt, z.1 < c + 1 ∧ z.1 ≤ 1000 ∧ run z.1 z.2 = fin ∧ WhAt S R0 Kp μ0 z.1 z.2 a' w')) a w := by
      intro z hz hw
      refine wp_mono hw fun ex a' w' ⟨e, h⟩ => .inr ⟨e, (c, z), Nat.lt_succ_self c, by show c ≤ 1000; omega, ?_, h⟩
      rw [← hz]; exact hf
    have gn : ∀ j, goodB (run j (nxt x)) = true := fun j => hg (j + 1)
    by_cases h18 : x.p = 18 ∨ x.p = 24
    · refine stop (tk := tkYe) (by rcases h18 with h18 | h18 <;> rw [h18]; exact wh_y18; exact wh_y24) ?_ (run_done h18 _)
      have := rel.c
      exact @holds_cons R _ _ (@take_gt R (.var 3) 0 true (by show R.n 3 % 18446744073709551616 < _; omega) (by omega) (by show true = decide (0 < R.n 3 % 18446744073709551616); symm; exact decide_eq_true (by omega))) (@holds_nil R)
    have rt := @rel_t R c x rel g0
    have rc := @rel_c R c x rel (by omega)
    have h4 : ∀ {l : List As}, @Holds R l → _ := @hold4 R c x rel g0 (by omega)
    have hm : ∀ {l : List As}, @Holds R l → _ := @hold_ms R (c + 1) x rel g0
    have ri0 := rel.i
    have rs0 := rel.s
    have ru0 := rel.u
    obtain ⟨p, i, s, t, u⟩ := x
    have g1 : p ≤ 24 := g1
    have h18 : ¬ (p = 18 ∨ p = 24) := h18
    obtain rfl | rfl | rfl | rfl | rfl | rfl | rfl | rfl | rfl | rfl | rfl | rfl | rfl | rfl | rfl | rfl | rfl | rfl | rfl | rfl | rfl | rfl | rfl : p = 0 ∨ p = 1 ∨ p = 2 ∨ p = 3 ∨ p = 4 ∨ p = 5 ∨ p = 6 ∨ p = 7 ∨ p = 8 ∨ p = 9 ∨ p = 10 ∨ p = 11 ∨ p = 12 ∨ p = 13 ∨ p = 14 ∨ p = 15 ∨ p = 16 ∨ p = 17 ∨ p = 19 ∨ p = 20 ∨ p = 21 ∨ p = 22 ∨ p = 23 := by omega
    · exact on (z := ⟨1, i, s, t + 1, u⟩) rfl (wh_step hN h0 r5 rv ri hA hst hSx (x := ⟨0, i, s, t, u⟩) (y := ⟨1, i, s, t + 1, u⟩) wh_e0_1 (h4 (@holds_nil R)) st0_1 (fun n hn => hn) (gn) ⟨ri0, rs0, rt, rc, ru0⟩ getE_five)
    · exact on (z := ⟨2, i, s, t + 1, u⟩) rfl (wh_step hN h0 r5 rv ri hA hst hSx (x := ⟨1, i, s, t, u⟩) (y := ⟨2, i, s, t + 1, u⟩) wh_e1_2 (h4 (@holds_nil R)) st1_2 (fun n hn => hn) (gn) ⟨ri0, rs0, rt, rc, ru0⟩ getE_five)
    · exact on (z := ⟨3, i, s, t + 1, u⟩) rfl (wh_step hN h0 r5 rv ri hA hst hSx (x := ⟨2, i, s, t, u⟩) (y := ⟨3, i, s, t + 1, u⟩) wh_e2_3 (h4 (@holds_nil R)) st2_3 (fun n hn => hn) (gn) ⟨ri0, rs0, rt, rc, ru0⟩ getE_five)
    · by_cases hi0 : i = 0
      · have nx : nxt ⟨3, i, s, t, u⟩ = ⟨15, i, s, t + 1, u⟩ := by show (if i = 0 then _ else _) = _; rw [if_pos hi0]
        exact on (z := ⟨15, i, s, t + 1, u⟩) nx (wh_step hN h0 r5 rv ri hA hst hSx (x := ⟨3, i, s, t, u⟩) (y := ⟨15, i, s, t + 1, u⟩) wh_e3_15 (h4 (hm (@holds_cons R _ _ (@take_eq R (.var 0) (.lit 0) 3 true (by show true = decide (R.n 0 % 18446744073709551616 = 0 % 18446744073709551616); symm; rw [show R.n 0 % 18446744073709551616 = i from ri0]; exact decide_eq_true hi0)) (@holds_nil R)))) st3_15 (fun n hn => hn) (by rw [← nx]; exact gn) ⟨ri0, rs0, rt, rc, ru0⟩ getE_five)
      · have nx : nxt ⟨3, i, s, t, u⟩ = ⟨4, i, s, t + 1, u⟩ := by show (if i = 0 then _ else _) = _; rw [if_neg hi0]
        exact on (z := ⟨4, i, s, t + 1, u⟩) nx (wh_step hN h0 r5 rv ri hA hst hSx (x := ⟨3, i, s, t, u⟩) (y := ⟨4, i, s, t + 1, u⟩) wh_e3_4 (h4 (hm (@holds_cons R _ _ (@take_eq R (.var 0) (.lit 0) 3 false (by show false = decide (R.n 0 % 18446744073709551616 = 0 % 18446744073709551616); symm; rw [show R.n 0 % 18446744073709551616 = i from ri0]; exact decide_eq_false hi0)) (@holds_nil R)))) st3_4 (fun n hn => hn) (by rw [← nx]; exact gn) ⟨ri0, rs0, rt, rc, ru0⟩ getE_five)
    · exact on (z := ⟨5, i, s, t + 1, u⟩) rfl (wh_step hN h0 r5 rv ri hA hst hSx (x := ⟨4, i, s, t, u⟩) (y := ⟨5, i, s, t + 1, u⟩) wh_e4_5 (h4 (@holds_nil R)) st4_5 (fun n hn => hn) (gn) ⟨ri0, rs0, rt, rc, ru0⟩ getE_five)
    · exact on (z := ⟨6, i, s, t + 1, u⟩) rfl (wh_step hN h0 r5 rv ri hA hst hSx (x := ⟨5, i, s, t, u⟩) (y := ⟨6, i, s, t + 1, u⟩) wh_e5_6 (h4 (@holds_nil R)) st5_6 (fun n hn => hn) (gn) ⟨ri0, rs0, rt, rc, ru0⟩ getE_five)
    · exact on (z := ⟨7, i, s, t + 1, u⟩) rfl (wh_step hN h0 r5 rv ri hA hst hSx (x := ⟨6, i, s, t, u⟩) (y := ⟨7, i, s, t + 1, u⟩) wh_e6_7 (h4 (@holds_nil R)) st6_7 (fun n hn => hn) (gn) ⟨ri0, rs0, rt, rc, ru0⟩ getE_five)
    · exact on (z := ⟨8, i, s, t + 1, s + i⟩) rfl (wh_step hN h0 r5 rv ri hA hst hSx (x := ⟨7, i, s, t, u⟩) (y := ⟨8, i, s, t + 1, s + i⟩) wh_e7_8 (h4 (hm (@holds_nil R))) st7_8 (fun n hn => hn) (gn) ⟨ri0, rs0, rt, rc, @wrap32_low R _ _ (by show (R.n 1 % 18446744073709551616 + R.n 0 % 18446744073709551616) % 18446744073709551616 = s + i; have ri0 : R.n 0 % 18446744073709551616 = i := ri0; have rs0 : R.n 1 % 18446744073709551616 = s := rs0; have g2 : i < 32 := g2; have g3 : s < 512 := g3; omega) (by show s + i < 2147483648; have g2 : i < 32 := g2; have g3 : s < 512 := g3; omega)⟩ getE_five)
    · exact on (z := ⟨9, i, u, t + 1, 0⟩) rfl (wh_step hN h0 r5 rv ri hA hst hSx (x := ⟨8, i, s, t, u⟩) (y := ⟨9, i, u, t + 1, 0⟩) wh_e8_9 (h4 (@holds_nil R)) st8_9 (fun n hn => hn) (gn) ⟨ri0, ru0, rt, rc, rfl⟩ getE_five)
    · exact on (z := ⟨10, i, s, t + 1, u⟩) rfl (wh_step hN h0 r5 rv ri hA hst hSx (x := ⟨9, i, s, t, u⟩) (y := ⟨10, i, s, t + 1, u⟩) wh_e9_10 (h4 (@holds_nil R)) st9_10 (fun n hn => hn) (gn) ⟨ri0, rs0, rt, rc, ru0⟩ getE_five)
    · exact on (z := ⟨11, i, s, t + 1, u⟩) rfl (wh_step hN h0 r5 rv ri hA hst hSx (x := ⟨10, i, s, t, u⟩) (y := ⟨11, i, s, t + 1, u⟩) wh_e10_11 (h4 (@holds_nil R)) st10_11 (fun n hn => hn) (gn) ⟨ri0, rs0, rt, rc, ru0⟩ getE_five)
    · exact on (z := ⟨12, i, s, t + 1, i - 1⟩) rfl (wh_step hN h0 r5 rv ri hA hst hSx (x := ⟨11, i, s, t, u⟩) (y := ⟨12, i, s, t + 1, i - 1⟩) wh_e11_12 (h4 (hm (@holds_nil R))) st11_12 (fun n hn => hn) (gn) ⟨ri0, rs0, rt, rc, @wrap32_low R _ _ (by show (R.n 0 % 18446744073709551616 + (18446744073709551616 - 1 % 18446744073709551616)) % 18446744073709551616 = i - 1; have ri0 : R.n 0 % 18446744073709551616 = i := ri0; have g2 : i < 32 := g2; have g6 : 1 ≤ i := g6 rfl; omega) (by show i - 1 < 2147483648; have g2 : i < 32 := g2; omega)⟩ getE_five)
    · exact on (z := ⟨13, u, s, t + 1, 0⟩) rfl (wh_step hN h0 r5 rv ri hA hst hSx (x := ⟨12, i, s, t, u⟩) (y := ⟨13, u, s, t + 1, 0⟩) wh_e12_13 (h4 (@holds_nil R)) st12_13 (fun n hn => hn) (gn) ⟨ru0, rs0, rt, rc, rfl⟩ getE_five)
    · exact on (z := ⟨14, i, s, t + 1, u⟩) rfl (wh_step hN h0 r5 rv ri hA hst hSx (x := ⟨13, i, s, t, u⟩) (y := ⟨14, i, s, t + 1, u⟩) wh_e13_14 (h4 (@holds_nil R)) st13_14 (fun n hn => hn) (gn) ⟨ri0, rs0, rt, rc, ru0⟩ getE_five)
    · exact on (z := ⟨3, i, s, t + 1, u⟩) rfl (wh_step hN h0 r5 rv ri hA hst hSx (x := ⟨14, i, s, t, u⟩) (y := ⟨3, i, s, t + 1, u⟩) wh_e14_3 (h4 (@holds_nil R)) st14_3 (fun n hn => hn) (gn) ⟨ri0, rs0, rt, rc, ru0⟩ getE_five)
    · exact on (z := ⟨16, i, s, t + 1, u⟩) rfl (wh_step hN h0 r5 rv ri hA hst hSx (x := ⟨15, i, s, t, u⟩) (y := ⟨16, i, s, t + 1, u⟩) wh_e15_16 (h4 (@holds_nil R)) st15_16 (fun n hn => hn) (gn) ⟨ri0, rs0, rt, rc, ru0⟩ getE_five)
    · exact on (z := ⟨17, i, s, t + 1, u⟩) rfl (wh_step hN h0 r5 rv ri hA hst hSx (x := ⟨16, i, s, t, u⟩) (y := ⟨17, i, s, t + 1, u⟩) wh_e16_17 (h4 (@holds_nil R)) st16_17 (fun n hn => hn) (gn) ⟨ri0, rs0, rt, rc, ru0⟩ getE_five)
    · exact on (z := ⟨18, i, s, t + 1, u⟩) rfl (wh_step hN h0 r5 rv ri hA hst hSx (x := ⟨17, i, s, t, u⟩) (y := ⟨18, i, s, t + 1, u⟩) wh_e17_18 (h4 (@holds_nil R)) st17_18 (fun n hn => whN1_sub n hn) (gn) ⟨ri0, rs0, rt, rc, ru0⟩ getE_five)
    · exact on (z := ⟨6, i, s, t + 1, u⟩) rfl (wh_step hN h0 r5 rv ri hA hst hSx (x := ⟨19, i, s, t, u⟩) (y := ⟨6, i, s, t + 1, u⟩) wh_e19_6 (h4 (@holds_nil R)) st19_6 (fun n hn => hn) (gn) ⟨ri0, rs0, rt, rc, ru0⟩ getE_five)
    · exact on (z := ⟨10, i, s, t + 1, u⟩) rfl (wh_step hN h0 r5 rv ri hA hst hSx (x := ⟨20, i, s, t, u⟩) (y := ⟨10, i, s, t + 1, u⟩) wh_e20_10 (h4 (@holds_nil R)) st20_10 (fun n hn => hn) (gn) ⟨ri0, rs0, rt, rc, ru0⟩ getE_five)
    · exact on (z := ⟨2, i, s, t + 1, u⟩) rfl (wh_step hN h0 r5 rv ri hA hst hSx (x := ⟨21, i, s, t, u⟩) (y := ⟨2, i, s, t + 1, u⟩) wh_e21_2 (h4 (@holds_nil R)) st21_2 (fun n hn => hn) (gn) ⟨ri0, rs0, rt, rc, ru0⟩ getE_five)
    · exact on (z := ⟨23, i, s, t + 1, u⟩) rfl (wh_step hN h0 r5 rv ri hA hst hSx (x := ⟨22, i, s, t, u⟩) (y := ⟨23, i, s, t + 1, u⟩) wh_e22_23 (h4 (@holds_nil R)) st22_23 (fun n hn => hn) (gn) ⟨ri0, rs0, rt, rc, ru0⟩ getE_five)
    · exact on (z := ⟨18, i, s, t + 1, u⟩) rfl (wh_step hN h0 r5 rv ri hA hst hSx (x := ⟨23, i, s, t, u⟩) (y := ⟨18, i, s, t + 1, u⟩) wh_e23_18 (h4 (@holds_nil R)) st23_18 (fun n hn => whN1_sub n hn) (gn) ⟨ri0, rs0, rt, rc, ru0⟩ getE_five)
/-! ### Go from phase to phase -/
theorem wh_go [R : Rho] {x : WSt} {c : Nat} (rel : Rel R c x) (good : ∀ j, goodB (run j x) = true) (hc : c ≤ 1000) {V : AV} {F : List (Nm × Blk)} {ps : List (Nm × Nm)} {σ : List Ex}
    (hr : fragR (TTa []) (whH [] []) 1 goE Tryz.f14.results.toList go9 [0, 1, 4] [avP, avN, avQ] (hpT (whT (run c x).p) c40) V F c40 ps σ = .yes) (hstay : ((whN (run c x).p).all fun n => (lk ps n).any fun m => Nm.beq m n) = true) (hnm : namesT F ps = true)
    (hcom : ∀ n b b', (n, b) ∈ whS x.p → (n, b') ∈ F → n ∈ whN (run c x).p) (same : ∀ (R3 : Rho) c', Rel R3 c' (run c x) → (∀ i, 5 ≤ i → R3.n i = R.n i) → ∀ i, @den R3 (getE σ i) % 18446744073709551616 = R.n i % 18446744073709551616) :
    Ctr Tryz.prog 14 [avP, avN] (whS x.p) c40 V F c40 := by
  intro Kp μ w args hN hr0 hv
  obtain ⟨g1, _⟩ := good_inv (show goodB x = true from good 0)
  obtain ⟨f1, _⟩ := good_inv (good c)
  have hd' : ∀ n ∈ whN x.p, ∃ bk, μ n = some bk := fun n hn => by
    obtain ⟨b, hb⟩ := has_whS x.p g1 n hn
    exact hr0.names (good_whS x.p g1) hb
  have hP := progOk (tk := []) holds_nil
  have hS := whH_ok (tk := []) holds_nil (L := []) LOk.nil
  refine calls_of_wp Tryz.func14 go_eq (wp_seq ?_)
  have hA := at_start (E := goE) (fn := Tryz.f14) (by show (53 : Nat) ≤ 53; omega) hr0 hv
  refine fragN_ok (fn := Tryz.f14) hP hS goE_ok lt512' (wh_c x.p g1) hN hA fun a1 w1 he1 => ?_
  obtain ⟨μ1, hA1, hs1⟩ := Ends.next hN he1 (sub_nil R) (whN x.p) (stay_c x.p g1) hd'
  have hd1 : ∀ n ∈ whN x.p, ∃ bk, μ1 n = some bk := fun n hn => by rw [hs1 n hn]; exact hd' n hn
  refine wp_seq ?_
  refine fragN_ok (fn := Tryz.f14) hP hS goE_ok lt512 (wh_d x.p g1) hN hA1 fun a2 w2 he2 => ?_
  obtain ⟨μ2, hA2, hs2⟩ := Ends.next hN he2 (sub_nil R) (whN x.p) (stay_id x.p g1) hd1
  have start : c ≤ 1000 ∧ run c x = run c x ∧ WhAt (whN x.p) R Kp μ c x a2 w2 := ⟨hc, rfl, good, fun n hn => hn, R, μ2, rel, fun _ _ => rfl, rfl, rfl, hA2, fun n hn => (hs2 n hn).trans (hs1 n hn)⟩
  refine wp_seq (wp_mono (loop_meas (fun y : Nat × WSt => y.1) (fun y a w => y.1 ≤ 1000 ∧ run y.1 y.2 = run c x ∧ WhAt (whN x.p) R Kp μ y.1 y.2 a w) (fun a w => ∃ c', WhAt (whN x.p) R Kp μ c' (run c x) a w) (fun y a w h => wh_body hN hd' (run c x) y a w h) (c, x) a2 w2 start) fun ex a3 w3 hq => ?_)
  obtain ⟨rfl, c', _, hSf, R3, μ3, rel3, r5, rv, ri, hA3, hs3⟩ := hq
  have hd3 : ∀ n ∈ whN (run c x).p, ∃ bk, μ3 n = some bk := fun n hn => by rw [hs3 n hn]; exact hd' n (hSf n hn)
  have sm : Rho.Same (@Rho.sub R3 σ) R := ⟨same R3 c' rel3 r5, rv, ri⟩
  have hP3 := @progOk R3 [] (@holds_nil R3)
  have hS3 := @whH_ok R3 [] (@holds_nil R3) [] (@LOk.nil R3)
  refine @fragR_ok Tryz.prog _ 1 goE Tryz.f14 ps σ R3 hP3 _ hS3 goE_ok go9 _ lt512 _ _ _ _ _ hr Kp hN μ3 a3 w3 hA3 _ ?_
  intro a' w' v' μ' hx hdf hres hv2 hr2
  refine ⟨hdf, v', hres, mpS ps μ', v', rfl, hv2.cong sm, back_to sm hN hr2, fun n b b' hb hb' => ?_, fun n bk hb => mpS_dom hnm hb⟩
  have hn := hcom n b b' hb hb'
  rw [mpS_stay hx hstay hd3 n hn]
  exact hs3 n hn
end
end Go.Proofs.YteefpemaeecicaaGreatDoor.Ev
