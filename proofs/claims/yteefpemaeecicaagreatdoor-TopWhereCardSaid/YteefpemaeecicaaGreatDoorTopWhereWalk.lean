/- The walk of TopWhere: true for any two numbers. No condition. -/
import Derived.Test.YteefpemaeecicaaGreatDoorExWhR0
import Derived.Test.YteefpemaeecicaaGreatDoorExWhR1
import Derived.Test.YteefpemaeecicaaGreatDoorExWhR2
import Derived.Test.YteefpemaeecicaaGreatDoorExWhR3
import Derived.Test.YteefpemaeecicaaGreatDoorExWhR4
import Derived.Test.YteefpemaeecicaaGreatDoorExWhR5
import Derived.Test.YteefpemaeecicaaGreatDoorExWhR6
import Derived.Test.YteefpemaeecicaaGreatDoorExWhR7
import Derived.Test.YteefpemaeecicaaGreatDoorExWhR8
import Derived.Test.YteefpemaeecicaaGreatDoorExWhR9
import Derived.Test.YteefpemaeecicaaGreatDoorExWhR10
import Derived.Test.YteefpemaeecicaaGreatDoorExWhR11
import Derived.Test.YteefpemaeecicaaGreatDoorExWhGo
import Derived.Test.YteefpemaeecicaaGreatDoorExWhM
import Derived.Test.YteefpemaeecicaaGreatDoorExSmall
import Derived.Test.YteefpemaeecicaaGreatDoorExB6
open Go Go.RowKit Go.Proofs Go.IntWalk
namespace Go.Proofs.YteefpemaeecicaaGreatDoor
open Ev
set_option linter.unusedVariables false
set_option linter.unusedSimpArgs false
theorem wrap_back {z : Int} (h1 : -9223372036854775808 ≤ z) (h2 : z < 9223372036854775808) : IntKind.i64.wrap (((z % 18446744073709551616).toNat % km .i64 : Nat) : Int) = z := by
  have e : (((z % 18446744073709551616).toNat % km .i64 : Nat) : Int) = z % 18446744073709551616 := by
    show (((z % 18446744073709551616).toNat % 18446744073709551616 : Nat) : Int) = _
    omega
  have hu : (z % 18446744073709551616).toNat % km .i64 < km .i64 := Nat.mod_lt _ (km_pos _)
  rw [wrap_nat hu]
  by_cases hz : 0 ≤ z
  · rw [if_neg (fun h => by have h2 : 9223372036854775808 ≤ (z % 18446744073709551616).toNat % km .i64 := h.2; omega)]
    omega
  · rw [if_pos ⟨rfl, by show 9223372036854775808 ≤ (z % 18446744073709551616).toNat % km .i64; omega⟩]
    show (((z % 18446744073709551616).toNat % km .i64 : Nat) : Int) - ((18446744073709551616 : Nat) : Int) = z
    omega
theorem small_ok [R : Rho] {z : Int} (h1 : -9223372036854775808 ≤ z) (h2 : z < 9223372036854775808) (a b k : Nat) (hk : 0 < k) (hk2 : k ≤ 1000000) (ha : R.n a = (z % 18446744073709551616).toNat) (hb : R.n b = (z.tmod (k : Int)).natAbs) : FcOk Tryz.prog 9 (constF [.y 3 (.var a), .n 3 k] (.y 3 (.var b))) := by
  have hlt : (z.tmod (k : Int)).natAbs < k := by
    rw [Int.natAbs_tmod]; exact Nat.mod_lt _ (by omega)
  refine constF_ok ⟨Tryz.f9, Tryz.func9, by kernel_rfl, by decide⟩ fun μ w args hv => ?_
  obtain ⟨x', ys, e1, hx, hv⟩ := VRs.cons_inv hv
  obtain ⟨y', zs, e2, hy, hv⟩ := VRs.cons_inv hv
  have e3 := VRs.nil_inv hv
  subst e3
  subst e2
  have hx : VR μ (.y (kc .i64) (.var a)) x' := hx
  have hy : VR μ (.n (kc .i64) k) y' := hy
  have ex := hx.yk_inv
  have ey := hy.kn_inv.2
  have ex2 : x' = .int .i64 z := by
    rw [ex]
    have : den (.var a) = (z % 18446744073709551616).toNat := ha
    rw [this]
    exact congrArg _ (wrap_back h1 h2)
  have ey2 : y' = .int .i64 ((k : Nat) : Int) := by rw [ey]; exact congrArg _ (wrap_small _ (by omega) (by omega))
  have he : args = #[.int .i64 z, .int .i64 ((k : Nat) : Int)] := by apply Array.toList_inj.1; rw [e1, ex2, ey2]
  subst he
  refine (small_walk z k w hk hk2).mono fun e w' ⟨e4, e5⟩ => ⟨_, e4, ?_, by rw [← e5]; exact Below.refl _ w⟩
  have := VR.y (μ := μ) .i64 (.var b)
  have hd : den (.var b) % km .i64 = (z.tmod (k : Int)).natAbs := by
    have : den (.var b) = (z.tmod (k : Int)).natAbs := hb
    rw [this]
    exact Nat.mod_eq_of_lt (show (z.tmod (k : Int)).natAbs < 18446744073709551616 by omega)
  rw [hd, wrap_low (show (z.tmod (k : Int)).natAbs < 9223372036854775808 by omega)] at this
  exact this
/-! ### How the machine stands behind so many steps -/
noncomputable def stn (n : Nat) : WSt := ⟨0, n, 0, 0, 0⟩
theorem run_add (a : Nat) : ∀ (b : Nat) (x : WSt), run (b + a) x = run a (run b x)
  | 0, x => by rw [Nat.zero_add]; rfl
  | b + 1, x => by
    rw [show b + 1 + a = (b + a) + 1 by omega]
    exact run_add a b (nxt x)
def cS (v : Nat) : Nat := if v < 64 then 0 else if v < 128 then 1 else 2
def cT (v : Nat) : Nat := if v < 128 then 0 else if v < 256 then 1 else 2
noncomputable def key (x : WSt) : Nat := x.p * 27 + cS x.s * 9 + cT x.t * 3 + (if x.p = 8 then cS x.u else 0)
def maskC : Nat := 3771764555842072505868166666803322332599173424043617994547437553559824207171883934153479086600569741837054725402505357696617674854566103688066230502031361
noncomputable def okSt (x : WSt) : Bool := goodB x && Nat.beq (Nat.mod (Nat.div maskC (Nat.pow 2 (key x))) 2) 1 && (Nat.beq x.p 12 || Nat.beq x.p 8 || Nat.beq x.u 0) && Nat.ble x.u 511 && (!(Nat.beq x.p 12) || Nat.ble x.u 31) && (!(Nat.beq x.p 18) || Nat.beq x.i 0) && Nat.ble x.p 18
noncomputable def allOk : Nat → WSt → Bool
  | 0, x => okSt x && Nat.beq x.p 18
  | k + 1, x => okSt x && allOk k (nxt x)
theorem all_ok : ((List.range 30).all fun n => allOk 360 (stn n)) = true := by kernel_rfl
theorem allOk_run : ∀ (k : Nat) (x : WSt), allOk k x = true → (run k x).p = 18 ∧ ∀ j, j ≤ k → okSt (run j x) = true
  | 0, x, h => by
    obtain ⟨h1, h2⟩ := (Bool.and_eq_true _ _).mp (show (okSt x && Nat.beq x.p 18) = true from h)
    exact ⟨beq_iff.1 h2, fun j hj => by obtain rfl : j = 0 := (by omega); exact h1⟩
  | k + 1, x, h => by
    obtain ⟨h1, h2⟩ := (Bool.and_eq_true _ _).mp (show (okSt x && allOk k (nxt x)) = true from h)
    obtain ⟨h3, h4⟩ := allOk_run k (nxt x) h2
    refine ⟨h3, fun j hj => ?_⟩
    cases j with
    | zero => exact h1
    | succ j => exact h4 j (by omega)
theorem ok_all {n : Nat} (hn : n < 30) : (∀ j, okSt (run j (stn n)) = true) ∧ ∀ j, 360 ≤ j → (run j (stn n)).p = 18 := by
  obtain ⟨h1, h2⟩ := allOk_run 360 (stn n) (List.all_eq_true.1 all_ok n (List.mem_range.2 hn))
  have late : ∀ j, 360 ≤ j → run j (stn n) = run 360 (stn n) := fun j hj => by
    obtain ⟨k, rfl⟩ : ∃ k, j = 360 + k := ⟨j - 360, by omega⟩
    rw [run_add, run_done (.inl h1)]
  refine ⟨fun j => ?_, fun j hj => by rw [late j hj]; exact h1⟩
  rcases Nat.le_total j 360 with h | h
  · exact h2 j h
  · rw [late j h]; exact h2 360 (Nat.le_refl _)
theorem ok_inv {x : WSt} (h : okSt x = true) : goodB x = true ∧ maskC / 2 ^ key x % 2 = 1 ∧ (x.p ≠ 12 → x.p ≠ 8 → x.u = 0) ∧ (x.p = 12 → x.u < 32) ∧ (x.p = 18 → x.i = 0) ∧ x.p ≤ 18 := by
  unfold okSt at h
  simp only [Bool.and_eq_true, Bool.or_eq_true, Bool.not_eq_true'] at h
  obtain ⟨⟨⟨⟨⟨⟨h1, h2⟩, h3⟩, h4⟩, h5⟩, h6⟩, h7⟩ := h
  refine ⟨h1, beq_iff.1 h2, fun a b => ?_, fun a => ?_, fun a => ?_, ble_iff.1 h7⟩
  · rcases h3 with (h3 | h3) | h3
    · exact (a (beq_iff.1 h3)).elim
    · exact (b (beq_iff.1 h3)).elim
    · exact beq_iff.1 h3
  · rcases h5 with h5 | h5
    · rw [beq_iff.2 a] at h5; cases h5
    · exact Nat.lt_succ_of_le (ble_iff.1 h5)
  · rcases h6 with h6 | h6
    · rw [beq_iff.2 a] at h6; cases h6
    · exact beq_iff.1 h6
/-! ### A machine that was read -/
noncomputable def dualS (x : WSt) : WSt := ⟨dlp x.p, x.i, x.s, x.t, x.u⟩
theorem dual_step {x : WSt} (h : x.p ≤ 18) : nxt (dualS x) = nxt x ∨ (nxt (dualS x) = dualS (nxt x) ∧ ((nxt x).p = 18 → x.p = 18)) := by
  obtain ⟨p, i, s, t, u⟩ := x
  have h : p ≤ 18 := h
  obtain rfl | rfl | rfl | rfl | rfl | rfl | rfl | rfl | rfl | rfl | rfl | rfl | rfl | rfl | rfl | rfl | rfl | rfl | rfl : p = 0 ∨ p = 1 ∨ p = 2 ∨ p = 3 ∨ p = 4 ∨ p = 5 ∨ p = 6 ∨ p = 7 ∨ p = 8 ∨ p = 9 ∨ p = 10 ∨ p = 11 ∨ p = 12 ∨ p = 13 ∨ p = 14 ∨ p = 15 ∨ p = 16 ∨ p = 17 ∨ p = 18 := by omega
  all_goals first
    | exact .inl rfl
    | exact .inr ⟨rfl, fun _ => rfl⟩
    | exact .inr ⟨rfl, fun e => (by have e : (14 : Nat) = 18 := e; omega)⟩
    | exact .inr ⟨rfl, fun e => (by have e : (17 : Nat) = 18 := e; omega)⟩
theorem dual_run : ∀ (j : Nat) (x : WSt), (∀ k, (run k x).p ≤ 18) → run j (dualS x) = run j x ∨ (run j (dualS x) = dualS (run j x) ∧ ((run j x).p = 18 → x.p = 18))
  | 0, x, _ => .inr ⟨rfl, id⟩
  | j + 1, x, h => by
    rcases dual_step (h 0) with e | ⟨e, e2⟩
    · exact .inl (congrArg (run j) e)
    · have hj : run (j + 1) (dualS x) = run j (dualS (nxt x)) := congrArg (run j) e
      rcases dual_run j (nxt x) (fun k => h (k + 1)) with e3 | ⟨e3, e4⟩
      · exact .inl (hj.trans e3)
      · exact .inr ⟨hj.trans e3, fun q => e2 (e4 q)⟩
theorem good_dual {x : WSt} (h : goodB x = true) (h18 : x.p ≤ 18) : goodB (dualS x) = true := by
  obtain ⟨p, i, s, t, u⟩ := x
  have h18 : p ≤ 18 := h18
  obtain rfl | rfl | rfl | rfl | rfl | rfl | rfl | rfl | rfl | rfl | rfl | rfl | rfl | rfl | rfl | rfl | rfl | rfl | rfl : p = 0 ∨ p = 1 ∨ p = 2 ∨ p = 3 ∨ p = 4 ∨ p = 5 ∨ p = 6 ∨ p = 7 ∨ p = 8 ∨ p = 9 ∨ p = 10 ∨ p = 11 ∨ p = 12 ∨ p = 13 ∨ p = 14 ∨ p = 15 ∨ p = 16 ∨ p = 17 ∨ p = 18 := by omega
  all_goals exact h
/-! ### Classes -/
def CL : List (Nat × Nat × Nat × Nat) := [(0, 0, 0, 0), (1, 0, 0, 0), (2, 0, 0, 0), (3, 0, 0, 0), (3, 1, 0, 0), (3, 1, 1, 0), (3, 2, 0, 0), (3, 2, 1, 0), (3, 2, 2, 0), (4, 0, 0, 0), (4, 1, 0, 0), (4, 1, 1, 0), (4, 2, 0, 0), (4, 2, 1, 0), (4, 2, 2, 0), (5, 0, 0, 0), (5, 1, 0, 0), (5, 1, 1, 0), (5, 2, 0, 0), (5, 2, 1, 0), (5, 2, 2, 0), (6, 0, 0, 0), (6, 1, 0, 0), (6, 1, 1, 0), (6, 2, 0, 0), (6, 2, 1, 0), (6, 2, 2, 0), (7, 0, 0, 0), (7, 1, 0, 0), (7, 1, 1, 0), (7, 2, 0, 0), (7, 2, 1, 0), (7, 2, 2, 0), (8, 0, 0, 0), (8, 0, 0, 1), (8, 1, 0, 1), (8, 1, 0, 2), (8, 1, 1, 1), (8, 1, 1, 2), (8, 2, 0, 2), (8, 2, 1, 2), (8, 2, 2, 2), (9, 0, 0, 0), (9, 1, 0, 0), (9, 1, 1, 0), (9, 2, 0, 0), (9, 2, 1, 0), (9, 2, 2, 0), (10, 0, 0, 0), (10, 1, 0, 0), (10, 1, 1, 0), (10, 2, 0, 0), (10, 2, 1, 0), (10, 2, 2, 0), (11, 0, 0, 0), (11, 1, 0, 0), (11, 1, 1, 0), (11, 2, 0, 0), (11, 2, 1, 0), (11, 2, 2, 0), (12, 0, 0, 0), (12, 1, 0, 0), (12, 1, 1, 0), (12, 2, 0, 0), (12, 2, 1, 0), (12, 2, 2, 0), (13, 0, 0, 0), (13, 1, 0, 0), (13, 1, 1, 0), (13, 2, 0, 0), (13, 2, 1, 0), (13, 2, 2, 0), (14, 0, 0, 0), (14, 1, 0, 0), (14, 1, 1, 0), (14, 2, 0, 0), (14, 2, 1, 0), (14, 2, 2, 0), (15, 0, 0, 0), (15, 1, 1, 0), (15, 2, 1, 0), (15, 2, 2, 0), (16, 0, 0, 0), (16, 1, 1, 0), (16, 2, 1, 0), (16, 2, 2, 0), (17, 0, 0, 0), (17, 1, 1, 0), (17, 2, 1, 0), (17, 2, 2, 0), (18, 0, 0, 0), (18, 1, 1, 0), (18, 2, 1, 0), (18, 2, 2, 0)]
theorem CL_small : (CL.all fun k => Nat.ble k.1 18 && Nat.ble k.2.1 2 && Nat.ble k.2.2.1 2 && Nat.ble k.2.2.2 2) = true := by kernel_rfl
theorem CL_mask : ((List.range 513).all fun q => !(Nat.beq (Nat.mod (Nat.div maskC (Nat.pow 2 q)) 2) 1) || CL.any fun k => Nat.beq (k.1 * 27 + k.2.1 * 9 + k.2.2.1 * 3 + k.2.2.2) q) = true := by kernel_rfl
theorem CL_run : ∀ k ∈ CL, whK (whTk k.1 k.2.1 k.2.2.1 k.2.2.2) k.1 = .yes := by
  intro k hk
  unfold CL at hk
  simp only [List.mem_cons, List.not_mem_nil, or_false] at hk
  rcases hk with rfl | rfl | rfl | rfl | rfl | rfl | rfl | rfl | rfl | rfl | rfl | rfl | rfl | rfl | rfl | rfl | rfl | rfl | rfl | rfl | rfl | rfl | rfl | rfl | rfl | rfl | rfl | rfl | rfl | rfl | rfl | rfl | rfl | rfl | rfl | rfl | rfl | rfl | rfl | rfl | rfl | rfl | rfl | rfl | rfl | rfl | rfl | rfl | rfl | rfl | rfl | rfl | rfl | rfl | rfl | rfl | rfl | rfl | rfl | rfl | rfl | rfl | rfl | rfl | rfl | rfl | rfl | rfl | rfl | rfl | rfl | rfl | rfl | rfl | rfl | rfl | rfl | rfl | rfl | rfl | rfl | rfl | rfl | rfl | rfl | rfl | rfl | rfl | rfl | rfl | rfl | rfl | rfl | rfl
  · exact wr0_0_0_0
  · exact wr1_0_0_0
  · exact wr2_0_0_0
  · exact wr3_0_0_0
  · exact wr3_1_0_0
  · exact wr3_1_1_0
  · exact wr3_2_0_0
  · exact wr3_2_1_0
  · exact wr3_2_2_0
  · exact wr4_0_0_0
  · exact wr4_1_0_0
  · exact wr4_1_1_0
  · exact wr4_2_0_0
  · exact wr4_2_1_0
  · exact wr4_2_2_0
  · exact wr5_0_0_0
  · exact wr5_1_0_0
  · exact wr5_1_1_0
  · exact wr5_2_0_0
  · exact wr5_2_1_0
  · exact wr5_2_2_0
  · exact wr6_0_0_0
  · exact wr6_1_0_0
  · exact wr6_1_1_0
  · exact wr6_2_0_0
  · exact wr6_2_1_0
  · exact wr6_2_2_0
  · exact wr7_0_0_0
  · exact wr7_1_0_0
  · exact wr7_1_1_0
  · exact wr7_2_0_0
  · exact wr7_2_1_0
  · exact wr7_2_2_0
  · exact wr8_0_0_0
  · exact wr8_0_0_1
  · exact wr8_1_0_1
  · exact wr8_1_0_2
  · exact wr8_1_1_1
  · exact wr8_1_1_2
  · exact wr8_2_0_2
  · exact wr8_2_1_2
  · exact wr8_2_2_2
  · exact wr9_0_0_0
  · exact wr9_1_0_0
  · exact wr9_1_1_0
  · exact wr9_2_0_0
  · exact wr9_2_1_0
  · exact wr9_2_2_0
  · exact wr10_0_0_0
  · exact wr10_1_0_0
  · exact wr10_1_1_0
  · exact wr10_2_0_0
  · exact wr10_2_1_0
  · exact wr10_2_2_0
  · exact wr11_0_0_0
  · exact wr11_1_0_0
  · exact wr11_1_1_0
  · exact wr11_2_0_0
  · exact wr11_2_1_0
  · exact wr11_2_2_0
  · exact wr12_0_0_0
  · exact wr12_1_0_0
  · exact wr12_1_1_0
  · exact wr12_2_0_0
  · exact wr12_2_1_0
  · exact wr12_2_2_0
  · exact wr13_0_0_0
  · exact wr13_1_0_0
  · exact wr13_1_1_0
  · exact wr13_2_0_0
  · exact wr13_2_1_0
  · exact wr13_2_2_0
  · exact wr14_0_0_0
  · exact wr14_1_0_0
  · exact wr14_1_1_0
  · exact wr14_2_0_0
  · exact wr14_2_1_0
  · exact wr14_2_2_0
  · exact wr15_0_0_0
  · exact wr15_1_1_0
  · exact wr15_2_1_0
  · exact wr15_2_2_0
  · exact wr16_0_0_0
  · exact wr16_1_1_0
  · exact wr16_2_1_0
  · exact wr16_2_2_0
  · exact wr17_0_0_0
  · exact wr17_1_1_0
  · exact wr17_2_1_0
  · exact wr17_2_2_0
  · exact wr18_0_0_0
  · exact wr18_1_1_0
  · exact wr18_2_1_0
  · exact wr18_2_2_0
theorem cS_lt (v : Nat) : cS v < 3 := by unfold cS; split; omega; split <;> omega
theorem cT_lt (v : Nat) : cT v < 3 := by unfold cT; split; omega; split <;> omega
theorem run_cls {x : WSt} (h : okSt x = true) : whK (whTk x.p (cS x.s) (cT x.t) (if x.p = 8 then cS x.u else 0)) x.p = .yes := by
  obtain ⟨h1, h2, _⟩ := ok_inv h
  obtain ⟨g1, _⟩ := good_inv h1
  have a1 := cS_lt x.s
  have a2 := cT_lt x.t
  have a3 : (if x.p = 8 then cS x.u else 0) < 3 := by split; exact cS_lt _; omega
  have hk : key x < 513 := by unfold key; omega
  have h3 := List.all_eq_true.1 CL_mask (key x) (List.mem_range.2 hk)
  rw [show Nat.beq (Nat.mod (Nat.div maskC (Nat.pow 2 (key x))) 2) 1 = true from beq_iff.2 h2, Bool.not_true, Bool.false_or] at h3
  obtain ⟨k, hk1, hk2⟩ := List.any_eq_true.1 h3
  have hk2 := beq_iff.1 hk2
  have h4 := List.all_eq_true.1 CL_small k hk1
  simp only [Bool.and_eq_true] at h4
  obtain ⟨⟨⟨b1, b2⟩, b3⟩, b4⟩ := h4
  have b1 := ble_iff.1 b1
  have b2 := ble_iff.1 b2
  have b3 := ble_iff.1 b3
  have b4 := ble_iff.1 b4
  have hr := CL_run k hk1
  obtain ⟨p, cs, ct, cu⟩ := k
  unfold key at hk2
  simp only [] at hk2 b1 b2 b3 b4 hr
  have e1 : p = x.p := by omega
  have e2 : cs = cS x.s := by omega
  have e3 : ct = cT x.t := by omega
  have e4 : cu = if x.p = 8 then cS x.u else 0 := by omega
  rw [← e4, ← e3, ← e2, ← e1]
  exact hr
theorem hold_kn [R : Rho] (i b q v : Nat) (hq : q = 2 ^ b) (hb : b ≤ 64) (hn : R.n i < 18446744073709551616) (hv : R.n i / q * q = v) : cmpD (kn i q v).c (kn i q v).j (den (kn i q v).x % kmN (kn i q v).j) (den (kn i q v).y % kmN (kn i q v).j) = (kn i q v).b := by
  have hq0 : 0 < q := by rw [hq]; exact Nat.two_pow_pos b
  have hq1 : q ≤ 2 ^ 64 := by rw [hq]; exact Nat.pow_le_pow_right (by omega) hb
  have e1 : den (.op 3 7 (.var i) (.lit (18446744073709551616 - q))) = (R.n i % 2 ^ 64) &&& ((18446744073709551616 - q) % 2 ^ 64) := rfl
  have e3 : (R.n i % 2 ^ 64) &&& ((18446744073709551616 - q) % 2 ^ 64) = R.n i / q * q := by
    rw [Nat.mod_eq_of_lt (show R.n i < 2 ^ 64 by omega), Nat.mod_eq_of_lt (show 18446744073709551616 - q < 2 ^ 64 by omega), show 18446744073709551616 - q = 2 ^ 64 - 2 ^ b by rw [hq], hq]
    refine Nat.eq_of_testBit_eq fun t => ?_
    rw [Nat.testBit_and, pow_sub_bit hb, Nat.testBit_mul_two_pow, Nat.testBit_div_two_pow]
    by_cases h1 : b ≤ t
    · rw [decide_eq_true h1, Nat.sub_add_cancel h1]
      by_cases h2 : t < 64
      · rw [decide_eq_true h2]; simp
      · rw [Nat.testBit_lt_two_pow (Nat.lt_of_lt_of_le (show R.n i < 2 ^ 64 by omega) (Nat.pow_le_pow_right (by omega) (by omega)))]; rfl
    · rw [decide_eq_false h1]; simp
  exact take_eq (x := .op 3 7 (.var i) (.lit (18446744073709551616 - q))) (y := .lit v) (j := 7) (b := true) (by rw [e1, e3, hv]; symm; exact decide_eq_true rfl)
theorem sShr_up {H N a b : Nat} (h : a + 1 ≤ H) : sShr H N a b = a / 2 ^ b := by
  unfold sShr
  rw [ble_iff.2 h]
  rfl
theorem hold_ne7 [R : Rho] (i : Nat) (h1 : 128 ≤ R.n i) (h2 : R.n i < 512) : cmpD (ne7 i).c (ne7 i).j (den (ne7 i).x % kmN (ne7 i).j) (den (ne7 i).y % kmN (ne7 i).j) = (ne7 i).b := by
  have e0 : den (.op 8 3 (.var i) (.lit 7)) = sShr (khN 3) (kmN 3) (R.n i % kmN 3) (7 % kmN 3) := rfl
  have e1 : den (.op 8 3 (.var i) (.lit 7)) = R.n i / 128 := by
    rw [e0, kmN_3, khN_3, Nat.mod_eq_of_lt (show R.n i < 18446744073709551616 by omega), Nat.mod_eq_of_lt (show 7 < 18446744073709551616 by omega)]
    exact sShr_up (by omega)
  refine take_eq (x := .op 8 3 (.var i) (.lit 7)) (y := .lit 0) (j := 3) (b := false) ?_
  rw [e1, kmN_3, den_lit, Nat.zero_mod]
  symm
  refine decide_eq_false fun e => ?_
  rw [Nat.mod_eq_of_lt (show R.n i / 128 < 18446744073709551616 by omega)] at e
  omega
theorem holds_app [Rho] {l m : List As} (h : Holds l) (k : Holds m) : Holds (l ++ m) := fun a ha => by
  rcases List.mem_append.1 ha with ha | ha
  · exact h a ha
  · exact k a ha
theorem hold_kS [R : Rho] (i : Nat) (h : R.n i < 512) : Holds (kS i (cS (R.n i))) := by
  unfold cS
  split
  · exact holds_cons (hold_kn i 6 64 0 rfl (by omega) (by omega) (by omega)) holds_nil
  · split
    · exact holds_cons (hold_kn i 6 64 64 rfl (by omega) (by omega) (by omega)) holds_nil
    · exact holds_cons (hold_kn i 9 512 0 rfl (by omega) (by omega) (by omega)) (holds_cons (hold_ne7 i (by omega) h) holds_nil)
theorem hold_kT [R : Rho] (h : R.n 32 < 512) : Holds (kT (cT (R.n 32))) := by
  unfold cT
  split
  · exact holds_cons (hold_kn 32 7 128 0 rfl (by omega) (by omega) (by omega)) holds_nil
  · split
    · exact holds_cons (hold_kn 32 7 128 128 rfl (by omega) (by omega) (by omega)) holds_nil
    · exact holds_cons (hold_kn 32 8 256 256 rfl (by omega) (by omega) (by omega)) holds_nil
theorem hold_tk [R : Rho] (p : Nat) (h21 : R.n 21 < 32) (h30 : R.n 30 < 32) (h31 : R.n 31 < 512) (h32 : R.n 32 < 512) (h34 : R.n 34 < 512) (h12 : p = 12 → R.n 34 < 32) : Holds (whTk p (cS (R.n 31)) (cT (R.n 32)) (if p = 8 then cS (R.n 34) else 0)) := by
  unfold whTk
  refine holds_app (holds_app (holds_app ?_ (hold_kS 31 h31)) (hold_kT h32)) ?_
  · exact holds_cons (hold_kn 21 5 32 0 rfl (by omega) (by omega) (by omega)) (holds_cons (hold_kn 30 5 32 0 rfl (by omega) (by omega) (by omega)) holds_nil)
  · unfold kU
    split
    · rw [if_pos rfl]; exact hold_kS 34 h34
    · have := h12 rfl
      exact holds_cons (hold_kn 34 5 32 0 rfl (by omega) (by omega) (by omega)) holds_nil
    · exact holds_nil
/-! ### The unknowns -/
@[reducible] def rhoW (z y : Int) (n m : Nat) (x f : WSt) : Rho := ⟨fun i => match i with
  | 20 => (z % 18446744073709551616).toNat | 21 => n | 22 => (y % 18446744073709551616).toNat | 23 => m
  | 10 => n | 13 => m
  | 15 => x.i | 16 => x.s | 17 => x.t | 18 => 1000 | 19 => x.u
  | 30 => x.i | 31 => x.s | 32 => x.t | 34 => x.u
  | 35 => f.i | 36 => f.s | 37 => f.t | 39 => f.u
  | _ => 0, fun _ => .bool false, fun _ => rfl, fun _ => none⟩
theorem wh_enter : Enter Tryz.prog 14 := ⟨Tryz.f14, Tryz.func14, by kernel_rfl, by decide⟩
theorem where_calls (z y : Int) (w : World) (h1 : -9223372036854775808 ≤ z) (h2 : z < 9223372036854775808) (k1 : -9223372036854775808 ≤ y) (k2 : y < 9223372036854775808) :
    Calls Tryz.prog 3 #[.int .i64 z, .int .i64 y] w (fun e w' => e = .returned (.bool true) ∧ Below w.heap.size w w') := by
  obtain ⟨n, hn0⟩ : ∃ n, n = (z.tmod ((30 : Nat) : Int)).natAbs := ⟨_, rfl⟩
  obtain ⟨m, hm0⟩ : ∃ m, m = (y.tmod ((500 : Nat) : Int)).natAbs := ⟨_, rfl⟩
  have hn : n < 30 := by rw [hn0, Int.natAbs_tmod]; exact Nat.mod_lt _ (by decide)
  have hm : m < 500 := by rw [hm0, Int.natAbs_tmod]; exact Nat.mod_lt _ (by decide)
  obtain ⟨ok, late⟩ := ok_all hn
  obtain ⟨x, hx⟩ : ∃ x, x = run m (stn n) := ⟨_, rfl⟩
  obtain ⟨f, hf⟩ : ∃ f, f = run 1000 x := ⟨_, rfl⟩
  have okx : okSt x = true := by rw [hx]; exact ok m
  obtain ⟨gx, _, ux, u12, xi, x18⟩ := ok_inv okx
  obtain ⟨_, x2, x3, x4, x5, x6⟩ := good_inv gx
  have x1 := x18
  have hf2 : f = run (m + 1000) (stn n) := by rw [run_add, ← hx]; exact hf
  have f18 : f.p = 18 := by rw [hf2]; exact late _ (by omega)
  have okf : okSt f = true := by rw [hf2]; exact ok _
  obtain ⟨gf, _, uf, _, _, _⟩ := ok_inv okf
  obtain ⟨f1, f2, f3, f4, f5, f6⟩ := good_inv gf
  have good0 : ∀ j, goodB (run j (stn n)) = true := fun j => (ok_inv (ok j)).1
  have goodx : ∀ j, goodB (run j x) = true := fun j => by rw [hx, ← run_add]; exact good0 _
  obtain ⟨ρ, hρ⟩ : ∃ ρ, ρ = rhoW z y n m x f := ⟨_, rfl⟩
  have hold : @Holds ρ (whTk x.p (cS x.s) (cT x.t) (if x.p = 8 then cS x.u else 0)) := by
    have := @hold_tk ρ x.p (by rw [hρ]; show n < 32; omega) (by rw [hρ]; exact x2) (by rw [hρ]; exact x3) (by rw [hρ]; exact x4) (by rw [hρ]; exact x5) (fun e => by rw [hρ]; exact u12 e)
    rw [hρ] at this ⊢
    exact this
  -- the first call of Go
  have c1 : @Ctr (@Rho.sub ρ whS1) Tryz.prog 14 [avP, avN] (whS 0) c40 .u (whF x.p) c40 := by
    have rel : Rel (@Rho.sub ρ whS1) m (stn n) := by
      rw [hρ]
      exact ⟨Nat.mod_eq_of_lt (show n < 18446744073709551616 by omega), rfl, rfl, Nat.mod_eq_of_lt (show m < 18446744073709551616 by omega), rfl⟩
    rw [hx]
    rw [hx] at x1
    refine @wh_go (@Rho.sub ρ whS1) (stn n) m rel good0 (by omega) .u (whF (run m (stn n)).p) (sbP [] (whF (run m (stn n)).p)) whO1 (wh_r _ (by omega)) (stay_f _ (by omega)) (names_f _ (by omega)) (com_of (com_f _ x1)) ?_
    rw [← hx]
    intro R3 c' rel3 r5 i
    have r5' : ∀ i, 5 ≤ i → R3.n i = ρ.n i := fun i hi => by
      rw [r5 i hi]
      show @den ρ (getE whS1 i) = _
      rw [show whS1 = [.var 21, .lit 0, .lit 0, .var 23, .lit 0] from rfl, getE_five i hi]
      rfl
    have hi0 : 5 ≤ i → (@Rho.sub ρ whS1).n i = ρ.n i := fun hi => by rw [← r5 i hi, r5' i hi]
    have e0 : ∀ j, 5 ≤ j → j = i → @den R3 (.var j) % 18446744073709551616 = (@Rho.sub ρ whS1).n i % 18446744073709551616 := fun j hj e => by
      subst e; exact congrArg (· % 18446744073709551616) (r5 j hj)
    match i, e0 with
    | 0, _ => exact (congrArg (· % 18446744073709551616) (r5' 10 (by omega))).trans (by rw [hρ]; rfl)
    | 1, _ => exact (congrArg (· % 18446744073709551616) (r5' 11 (by omega))).trans (by rw [hρ]; rfl)
    | 2, _ => exact (congrArg (· % 18446744073709551616) (r5' 12 (by omega))).trans (by rw [hρ]; rfl)
    | 3, _ => exact (congrArg (· % 18446744073709551616) (r5' 13 (by omega))).trans (by rw [hρ]; rfl)
    | 4, _ => exact (congrArg (· % 18446744073709551616) (r5' 14 (by omega))).trans (by rw [hρ]; rfl)
    | 5, e0 => exact e0 5 (by omega) rfl
    | 6, e0 => exact e0 6 (by omega) rfl
    | 7, e0 => exact e0 7 (by omega) rfl
    | 8, e0 => exact e0 8 (by omega) rfl
    | 9, e0 => exact e0 9 (by omega) rfl
    | 10, e0 => exact e0 10 (by omega) rfl
    | 11, e0 => exact e0 11 (by omega) rfl
    | 12, e0 => exact e0 12 (by omega) rfl
    | 13, e0 => exact e0 13 (by omega) rfl
    | 14, e0 => exact e0 14 (by omega) rfl
    | 15, e0 => exact e0 15 (by omega) rfl
    | 16, e0 => exact e0 16 (by omega) rfl
    | 17, e0 => exact e0 17 (by omega) rfl
    | 18, e0 => exact e0 18 (by omega) rfl
    | 19, e0 => exact e0 19 (by omega) rfl
    | 20, e0 => exact e0 20 (by omega) rfl
    | 21, e0 => exact e0 21 (by omega) rfl
    | 22, e0 => exact e0 22 (by omega) rfl
    | 23, e0 => exact e0 23 (by omega) rfl
    | 24, e0 => exact e0 24 (by omega) rfl
    | 25, e0 => exact e0 25 (by omega) rfl
    | 26, e0 => exact e0 26 (by omega) rfl
    | 27, e0 => exact e0 27 (by omega) rfl
    | 28, e0 => exact e0 28 (by omega) rfl
    | 29, e0 => exact e0 29 (by omega) rfl
    | 30, _ => exact rel3.i.trans (by rw [hρ]; exact (Nat.mod_eq_of_lt (show x.i < 18446744073709551616 by omega)).symm)
    | 31, _ => exact rel3.s.trans (by rw [hρ]; exact (Nat.mod_eq_of_lt (show x.s < 18446744073709551616 by omega)).symm)
    | 32, _ => exact rel3.t.trans (by rw [hρ]; exact (Nat.mod_eq_of_lt (show x.t < 18446744073709551616 by omega)).symm)
    | 33, e0 => exact e0 33 (by omega) rfl
    | 34, _ => exact rel3.u.trans (by rw [hρ]; exact (Nat.mod_eq_of_lt (show x.u < 18446744073709551616 by omega)).symm)
    | i + 35, e0 => exact e0 (i + 35) (by omega) rfl
  obtain ⟨e0', e4', he, hd0, hd4⟩ : ∃ e0 e4, whS2 x.p = [e0, .var 31, .var 32, .lit 1000, e4] ∧ @den ρ e0 % 18446744073709551616 = x.i ∧ @den ρ e4 % 18446744073709551616 = x.u := by
    have v30 : @den ρ (.var 30) % 18446744073709551616 = x.i := by rw [hρ]; exact Nat.mod_eq_of_lt (show x.i < 18446744073709551616 by omega)
    have v34 : @den ρ (.var 34) % 18446744073709551616 = x.u := by rw [hρ]; exact Nat.mod_eq_of_lt (show x.u < 18446744073709551616 by omega)
    by_cases h8 : x.p = 8
    · exact ⟨.var 30, .var 34, by rw [h8]; rfl, v30, v34⟩
    by_cases h12 : x.p = 12
    · exact ⟨.var 30, .var 34, by rw [h12]; rfl, v30, v34⟩
    have u0 : @den ρ (.lit 0) % 18446744073709551616 = x.u := by rw [ux h12 h8]; rfl
    by_cases h18 : x.p = 18
    · exact ⟨.lit 0, .lit 0, by rw [h18]; rfl, by rw [xi h18]; rfl, u0⟩
    refine ⟨.var 30, .lit 0, ?_, v30, u0⟩
    unfold whS2
    split
    · rename_i e; exact (h18 e).elim
    · split
      · rename_i e; exact (h8 e).elim
      · rename_i e; exact (h12 e).elim
      · rfl
  have go2 : ∀ (y : WSt), y.i = x.i ∧ y.s = x.s ∧ y.t = x.t ∧ y.u = x.u → (∀ j, goodB (run j y) = true) → ∀ (f' : WSt), run 1000 y = f' → f'.i = f.i ∧ f'.s = f.s ∧ f'.t = f.t ∧ f'.u = f.u → ∀ {D : List (Nm × Blk)} {ps : List (Nm × Nm)},
      fragR (TTa []) (whH [] []) 1 goE Tryz.f14.results.toList go9 [0, 1, 4] [avP, avN, avQ] (hpT (whT f'.p) c40) whV D c40 ps whO2 = .yes → ((whN f'.p).all fun n => (lk ps n).any fun m => Nm.beq m n) = true → namesT D ps = true → (∀ n b b', (n, b) ∈ whS y.p → (n, b') ∈ D → n ∈ whN f'.p) → @Ctr (@Rho.sub ρ (whS2 x.p)) Tryz.prog 14 [avP, avN] (whS y.p) c40 whV D c40 := by
    intro y hy gy f' hf' hff D ps hr hstay hnm hcom
    rw [he]
    have rel : Rel (@Rho.sub ρ [e0', .var 31, .var 32, .lit 1000, e4']) 1000 y := by
      refine ⟨hd0.trans hy.1.symm, ?_, ?_, rfl, hd4.trans hy.2.2.2.symm⟩
      · rw [hy.2.1, hρ]; exact Nat.mod_eq_of_lt (show x.s < 18446744073709551616 by omega)
      · rw [hy.2.2.1, hρ]; exact Nat.mod_eq_of_lt (show x.t < 18446744073709551616 by omega)
    refine @wh_go (@Rho.sub ρ [e0', .var 31, .var 32, .lit 1000, e4']) y 1000 rel gy (by omega) whV D ps whO2 (by rw [hf']; exact hr) (by rw [hf']; exact hstay) hnm (by rw [hf']; exact hcom) ?_
    rw [hf']
    intro R3 c' rel3 r5 i
    have r5' : ∀ i, 5 ≤ i → R3.n i = ρ.n i := fun i hi => by
      rw [r5 i hi]
      show @den ρ (getE _ i) = _
      rw [getE_five i hi]
      rfl
    have e0 : ∀ j, 5 ≤ j → j = i → @den R3 (.var j) % 18446744073709551616 = (@Rho.sub ρ [e0', .var 31, .var 32, .lit 1000, e4']).n i % 18446744073709551616 := fun j hj e => by
      subst e; exact congrArg (· % 18446744073709551616) (r5 j hj)
    match i, e0 with
    | 0, _ => exact (congrArg (· % 18446744073709551616) (r5' 15 (by omega))).trans (Eq.trans (by rw [hρ]; exact Nat.mod_eq_of_lt (show x.i < 18446744073709551616 by omega)) hd0.symm)
    | 1, _ => exact (congrArg (· % 18446744073709551616) (r5' 16 (by omega))).trans (by rw [hρ]; rfl)
    | 2, _ => exact (congrArg (· % 18446744073709551616) (r5' 17 (by omega))).trans (by rw [hρ]; rfl)
    | 3, _ => exact (congrArg (· % 18446744073709551616) (r5' 18 (by omega))).trans (by rw [hρ]; rfl)
    | 4, _ => exact (congrArg (· % 18446744073709551616) (r5' 19 (by omega))).trans (Eq.trans (by rw [hρ]; exact Nat.mod_eq_of_lt (show x.u < 18446744073709551616 by omega)) hd4.symm)
    | 5, e0 => exact e0 5 (by omega) rfl
    | 6, e0 => exact e0 6 (by omega) rfl
    | 7, e0 => exact e0 7 (by omega) rfl
    | 8, e0 => exact e0 8 (by omega) rfl
    | 9, e0 => exact e0 9 (by omega) rfl
    | 10, e0 => exact e0 10 (by omega) rfl
    | 11, e0 => exact e0 11 (by omega) rfl
    | 12, e0 => exact e0 12 (by omega) rfl
    | 13, e0 => exact e0 13 (by omega) rfl
    | 14, e0 => exact e0 14 (by omega) rfl
    | 15, e0 => exact e0 15 (by omega) rfl
    | 16, e0 => exact e0 16 (by omega) rfl
    | 17, e0 => exact e0 17 (by omega) rfl
    | 18, e0 => exact e0 18 (by omega) rfl
    | 19, e0 => exact e0 19 (by omega) rfl
    | 20, e0 => exact e0 20 (by omega) rfl
    | 21, e0 => exact e0 21 (by omega) rfl
    | 22, e0 => exact e0 22 (by omega) rfl
    | 23, e0 => exact e0 23 (by omega) rfl
    | 24, e0 => exact e0 24 (by omega) rfl
    | 25, e0 => exact e0 25 (by omega) rfl
    | 26, e0 => exact e0 26 (by omega) rfl
    | 27, e0 => exact e0 27 (by omega) rfl
    | 28, e0 => exact e0 28 (by omega) rfl
    | 29, e0 => exact e0 29 (by omega) rfl
    | 30, e0 => exact e0 30 (by omega) rfl
    | 31, e0 => exact e0 31 (by omega) rfl
    | 32, e0 => exact e0 32 (by omega) rfl
    | 33, e0 => exact e0 33 (by omega) rfl
    | 34, e0 => exact e0 34 (by omega) rfl
    | 35, _ => exact rel3.i.trans (hff.1.trans (by rw [hρ]; exact (Nat.mod_eq_of_lt (show f.i < 18446744073709551616 by omega)).symm))
    | 36, _ => exact rel3.s.trans (hff.2.1.trans (by rw [hρ]; exact (Nat.mod_eq_of_lt (show f.s < 18446744073709551616 by omega)).symm))
    | 37, _ => exact rel3.t.trans (hff.2.2.1.trans (by rw [hρ]; exact (Nat.mod_eq_of_lt (show f.t < 18446744073709551616 by omega)).symm))
    | 38, e0 => exact e0 38 (by omega) rfl
    | 39, _ => exact rel3.u.trans (hff.2.2.2.trans (by rw [hρ]; exact (Nat.mod_eq_of_lt (show f.u < 18446744073709551616 by omega)).symm))
    | i + 40, e0 => exact e0 (i + 40) (by omega) rfl
  have p18 : (run 1000 x).p = 18 := by rw [← hf]; exact f18
  have c2 : @Ctr (@Rho.sub ρ (whS2 x.p)) Tryz.prog 14 [avP, avN] (whS x.p) c40 whV whD c40 :=
    go2 x ⟨rfl, rfl, rfl, rfl⟩ goodx f hf.symm ⟨rfl, rfl, rfl, rfl⟩ (by rw [f18]; exact wh_q18) (by rw [f18]; exact stay_d) names_d (by rw [f18]; exact com_of (com_d _ (by omega)))
  have all18 : ∀ k, (run k x).p ≤ 18 := fun k => by rw [hx, ← run_add]; exact (ok_inv (ok _)).2.2.2.2.2
  have goodd : ∀ j, goodB (run j (dualS x)) = true := fun j => by
    rcases dual_run j x all18 with e | ⟨e, _⟩
    · rw [e]; exact goodx j
    · rw [e]; exact good_dual (goodx j) (all18 j)
  have c3 : @Ctr (@Rho.sub ρ (whS2 x.p)) Tryz.prog 14 [avP, avN] (whS (dlp x.p)) c40 whV (whDd x.p) c40 ∧ incT c40 (whDd x.p) 0 = true ∧ newsB (whS (dlp x.p)) (whDd x.p) whW2 = true := by
    by_cases h18 : x.p = 18
    · have hd24 : (dualS x).p = 24 := by show dlp x.p = 24; rw [h18]; rfl
      have e1 : run 1000 (dualS x) = dualS x := run_done (.inr hd24) _
      have e2 : f = x := by rw [hf]; exact run_done (.inl h18) _
      have e3 : whDd x.p = whD24 := by rw [h18]; rfl
      have e4 : dlp x.p = 24 := hd24
      rw [e3]
      refine ⟨go2 (dualS x) ⟨rfl, rfl, rfl, rfl⟩ goodd (dualS x) e1 (by rw [e2]; exact ⟨rfl, rfl, rfl, rfl⟩) (by rw [hd24]; exact wh_q24) (by rw [hd24]; exact stay_d24) names_d24 (by rw [hd24]; exact com_of cd24'), inc_d24, by rw [e4]; exact nd24'⟩
    · have e1 : run 1000 (dualS x) = f := by
        rcases dual_run 1000 x all18 with e | ⟨_, e⟩
        · rw [e, hf]
        · exact (h18 (e p18)).elim
      have e3 : whDd x.p = whD := by
        unfold whDd
        split
        · rename_i e; exact (h18 e).elim
        · rfl
      have e5 : dlp x.p ≤ 23 := by
        unfold dlp
        split <;> omega
      rw [e3]
      exact ⟨go2 (dualS x) ⟨rfl, rfl, rfl, rfl⟩ goodd f e1 ⟨rfl, rfl, rfl, rfl⟩ (by rw [f18]; exact wh_q18) (by rw [f18]; exact stay_d) names_d (by rw [f18]; exact com_of (com_d _ e5)), inc_d, news_d _ e5⟩
  have fG : @FcOk ρ Tryz.prog 14 (whG (whTk x.p (cS x.s) (cT x.t) (if x.p = 8 then cS x.u else 0)) x.p) :=
    @altF_ok ρ _ _ _ _ _ (@orI_ok ρ _ _ _ _ _ _ _ _ _ (@ctI_ok ρ _ hold _ _ _ _ _ _ _ _ _ _ wh_enter c2 inc_d (news_d _ (by omega))) (@ctI_ok ρ _ hold _ _ _ _ _ _ _ _ _ _ wh_enter c3.1 c3.2.1 c3.2.2)) (@ctI_ok ρ _ hold _ _ _ _ _ _ _ _ _ _ wh_enter c1 (inc_f _ x1) (news_f _ x1))
  have fS : @FcOk ρ Tryz.prog 9 whSm :=
    @altF_ok ρ _ _ _ _ _ (@small_ok ρ z h1 h2 20 21 30 (by omega) (by omega) (congrArg (fun r : Rho => r.n 20) hρ) ((congrArg (fun r : Rho => r.n 21) hρ).trans hn0)) (@small_ok ρ y k1 k2 22 23 500 (by omega) (by omega) (congrArg (fun r : Rho => r.n 22) hρ) ((congrArg (fun r : Rho => r.n 23) hρ).trans hm0))
  have hL : @LOk ρ [(29, yesF), (9, whSm), (14, whG (whTk x.p (cS x.s) (cT x.t) (if x.p = 8 then cS x.u else 0)) x.p)] := @LOk.cons ρ _ _ _ (@yesF_ok Tryz.prog ρ _ begun27) (@LOk.cons ρ _ _ _ fS (@LOk.cons ρ _ _ _ fG (@LOk.nil ρ)))
  have hv : @VRs ρ mp0 [.y 3 (.var 20), .y 3 (.var 22)] #[Value.int .i64 z, Value.int .i64 y].toList := by
    refine @VRs.cons ρ _ _ _ _ _ ?_ (@VRs.cons ρ _ _ _ _ _ ?_ (@VRs.nil ρ _))
    · have := @VR.y ρ mp0 .i64 (.var 20)
      have e : IntKind.i64.wrap ((@den ρ (.var 20) % km .i64 : Nat) : Int) = z := by rw [hρ]; exact wrap_back h1 h2
      rw [e] at this
      exact this
    · have := @VR.y ρ mp0 .i64 (.var 22)
      have e : IntKind.i64.wrap ((@den ρ (.var 22) % km .i64 : Nat) : Int) = y := by rw [hρ]; exact wrap_back k1 k2
      rw [e] at this
      exact this
  have hy := run_cls okx
  unfold whK at hy
  have hS := @whH_ok ρ _ hold _ hL
  have hi : ∀ b o, ρ.inp b = some o → w.heap[b]? = some o := by rw [hρ]; intro b o h; cases h
  exact @calls_true ρ Tryz.prog (whH (whTk x.p (cS x.s) (cT x.t) (if x.p = 8 then cS x.u else 0)) [(29, yesF), (9, whSm), (14, whG (whTk x.p (cS x.s) (cT x.t) (if x.p = 8 then cS x.u else 0)) x.p)]) hS 3 [.y 3 (.var 20), .y 3 (.var 22)] hy w _ hv hi
theorem topWhere_walk (z y : Int) (w : World) (w0 : (Lit.int .i64 z).wf = true) (w1 : (Lit.int .i64 y).wf = true) : Calls Tryz.prog 3 #[.int .i64 z, .int .i64 y] w (fun e w' => e = .returned (.bool true) ∧ Below w.heap.size w w') := by
  have bnd : ∀ z : Int, (Lit.int .i64 z).wf = true → -9223372036854775808 ≤ z ∧ z < 9223372036854775808 := fun z h => by
    obtain ⟨h1, h2⟩ := (Bool.and_eq_true _ _).mp h
    have h1 := of_decide_eq_true h1
    have h2 := of_decide_eq_true h2
    rw [show IntKind.i64.min = -9223372036854775808 by decide] at h1
    rw [show IntKind.i64.max = 9223372036854775807 by decide] at h2
    exact ⟨h1, by omega⟩
  exact where_calls z y w (bnd z w0).1 (bnd z w0).2 (bnd y w1).1 (bnd y w1).2
end Go.Proofs.YteefpemaeecicaaGreatDoor
