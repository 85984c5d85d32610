/- The walk of TopNever: true for every number of 64 bits. No condition. -/
import Derived.Test.YteefpemaeecicaaGreatDoorEvNevLaw
import Derived.Test.YteefpemaeecicaaGreatDoorEvB6
open Go Go.RowKit Go.Proofs Go.IntWalk
namespace Go.Proofs.YteefpemaeecicaaGreatDoor
open Ev
set_option linter.unusedVariables false
set_option linter.unusedSimpArgs false
theorem wrap_back {z : Int} (h1 : -9223372036854775808 ≤ z) (h2 : z < 9223372036854775808) : IntKind.i64.wrap (((z % 18446744073709551616).toNat % km .i64 : Nat) : Int) = z := by
  have e : (((z % 18446744073709551616).toNat % km .i64 : Nat) : Int) = z % 18446744073709551616 := by
    show (((z % 18446744073709551616).toNat % 18446744073709551616 : Nat) : Int) = _
    omega
  have hu : (z % 18446744073709551616).toNat % km .i64 < km .i64 := Nat.mod_lt _ (km_pos _)
  rw [wrap_nat hu]
  by_cases hz : 0 ≤ z
  · rw [if_neg (fun h => by have h2 : 9223372036854775808 ≤ (z % 18446744073709551616).toNat % km .i64 := h.2; omega)]
    omega
  · rw [if_pos ⟨rfl, by show 9223372036854775808 ≤ (z % 18446744073709551616).toNat % km .i64; omega⟩]
    show (((z % 18446744073709551616).toNat % km .i64 : Nat) : Int) - ((18446744073709551616 : Nat) : Int) = z
    omega
/-- What the two unknowns of the law stand for. -/
@[reducible] def rhoN (z : Int) : Rho := ⟨fun i => match i with | 0 => (z.tmod 2000).natAbs | 5 => (z % 18446744073709551616).toNat | _ => 0, fun _ => .bool false, fun _ => rfl⟩
theorem smallN_ok {z : Int} (h1 : -9223372036854775808 ≤ z) (h2 : z < 9223372036854775808) : @FcOk (rhoN z) Tryz.prog 9 smallN := by
  have hlt : (z.tmod 2000).natAbs < 2000 := by
    rw [Int.natAbs_tmod]; exact Nat.mod_lt _ (by decide)
  refine @constF_ok (rhoN z) _ _ _ _ ⟨Tryz.f9, Tryz.func9, by kernel_rfl, by decide⟩ fun μ w args hv => ?_
  obtain ⟨x', ys, e1, hx, hv⟩ := @VRs.cons_inv (rhoN z) _ _ _ _ hv
  obtain ⟨y', zs, e2, hy, hv⟩ := @VRs.cons_inv (rhoN z) _ _ _ _ hv
  have e3 := @VRs.nil_inv (rhoN z) _ _ hv
  subst e3
  subst e2
  have hx : @VR (rhoN z) μ (.y (kc .i64) (.var 5)) x' := hx
  have hy : @VR (rhoN z) μ (.n (kc .i64) 2000) y' := hy
  have ex := @VR.yk_inv (rhoN z) _ _ _ _ hx
  have ey := (@VR.kn_inv (rhoN z) _ _ _ _ hy).2
  have ex2 : x' = .int .i64 z := by rw [ex]; exact congrArg _ (wrap_back h1 h2)
  have ey2 : y' = .int .i64 ((2000 : Nat) : Int) := by rw [ey]; exact congrArg _ (wrap_small _ (by omega) (by omega))
  have he : args = #[.int .i64 z, .int .i64 ((2000 : Nat) : Int)] := by apply Array.toList_inj.1; rw [e1, ex2, ey2]
  subst he
  refine (small_walk z 2000 w (by decide) (by decide)).mono fun e w' ⟨e4, e5⟩ => ⟨_, e4, ?_, by rw [← e5]; exact Below.refl _ w⟩
  have := @VR.y (rhoN z) μ .i64 (.var 0)
  have hd : @den (rhoN z) (.var 0) % km .i64 = (z.tmod 2000).natAbs := Nat.mod_eq_of_lt (show (z.tmod 2000).natAbs < 18446744073709551616 by omega)
  rw [hd, wrap_low (show (z.tmod 2000).natAbs < 9223372036854775808 by omega)] at this
  exact this
theorem go_enter14 : Enter Tryz.prog 14 := ⟨Tryz.f14, Tryz.func14, by kernel_rfl, by decide⟩
theorem srem2 {a : Nat} (h : a < 9223372036854775808) : sRem 9223372036854775808 18446744073709551616 a 2 = a % 2 := by
  unfold sRem absN
  rw [show Nat.ble (Nat.succ a) 9223372036854775808 = true from ble_iff.2 h]
  rfl
theorem pc_den [R : Rho] {r : Nat} (h : R.n 0 % 18446744073709551616 = r) (h1 : 1 ≤ r) (h2 : r < 2000) : den (.op 0 3 (.lit 1) (.op 10 3 (.op 1 3 (.var 0) (.lit 1)) (.lit 2))) % 18446744073709551616 = 1 + (r - 1) % 2 := by
  have e1 : den (.op 1 3 (.var 0) (.lit 1)) % kmN 3 = r - 1 := by
    rw [den_op, exF_sub, den_var, den_lit, kmN_3, h]
    omega
  have e2 : den (.op 10 3 (.op 1 3 (.var 0) (.lit 1)) (.lit 2)) = (r - 1) % 2 := by
    rw [den_op, e1, den_lit, exF_rem]
    exact srem2 (a := r - 1) (by omega)
  rw [den_op, e2, den_lit, exF_add, kmN_3]
  omega
theorem never_calls (z : Int) (w : World) (h1 : -9223372036854775808 ≤ z) (h2 : z < 9223372036854775808) : Calls Tryz.prog 7 #[.int .i64 z] w (fun e w' => e = .returned (.bool true) ∧ Below w.heap.size w w') := by
  have hlt : (z.tmod 2000).natAbs < 2000 := by
    rw [Int.natAbs_tmod]; exact Nat.mod_lt _ (by decide)
  have hv : @VRs (rhoN z) mp0 [.y 3 (.var 5)] #[.int .i64 z].toList := by
    refine @VRs.cons (rhoN z) _ _ _ _ _ ?_ (@VRs.nil (rhoN z) _)
    have := @VR.y (rhoN z) mp0 .i64 (.var 5)
    have e : IntKind.i64.wrap ((@den (rhoN z) (.var 5) % km .i64 : Nat) : Int) = z := wrap_back h1 h2
    rw [e] at this
    exact this
  have r0 : (rhoN z).n 0 % 18446744073709551616 = (z.tmod 2000).natAbs := Nat.mod_eq_of_lt (show (z.tmod 2000).natAbs < 18446744073709551616 by omega)
  have lim : @cmpD 2 7 (@den (rhoN z) (.var 0) % kmN 7) (@den (rhoN z) (.lit 9007199254740992) % kmN 7) = true := @take_lim (rhoN z) (.var 0) (by show (rhoN z).n 0 % 18446744073709551616 < _; omega)
  have same : @cmpD 1 3 (@den (rhoN z) (.var 0) % kmN 3) (@den (rhoN z) (.var 0) % kmN 3) = false := @take_ne (rhoN z) (.var 0) (.var 0) 3 false (by simp)
  have zero : ∀ b, b = decide ((z.tmod 2000).natAbs = 0) → @cmpD 0 3 (@den (rhoN z) (.var 0) % kmN 3) (@den (rhoN z) (.lit 0) % kmN 3) = b := fun b hb => @take_eq (rhoN z) (.var 0) (.lit 0) 3 b (by rw [hb]; exact decide_eq_decide.2 (by show _ ↔ (rhoN z).n 0 % 18446744073709551616 = 0 % 18446744073709551616; omega))
  have go := @nv_go (@Rho.sub (rhoN z) sL) (z.tmod 2000).natAbs hlt r0 rfl
  have fin : ∀ {tk : List As} {T : List (Nm × Blk)} {news : List Nm}, (hnA tk (LN T news)).run 7 [.y 3 (.var 5)] hp0 okT = Ans.yes → incT c40 T 0 = true → newsB nvA T news = true → nvF (z.tmod 2000).natAbs = T → @Holds (rhoN z) tk → Calls Tryz.prog 7 #[.int .i64 z] w (fun e w' => e = .returned (.bool true) ∧ Below w.heap.size w w') := by
    intro tk T news hrun hinc hnew hT hold
    rw [hT] at go
    have hL : @LOk (rhoN z) (LN T news) := @LOk.cons (rhoN z) _ _ _ (@yesF_ok Tryz.prog (rhoN z) _ begun27) (@LOk.cons (rhoN z) _ _ _ (smallN_ok h1 h2) (@LOk.cons (rhoN z) _ _ _ (@ctF_ok psL sL (rhoN z) _ _ _ _ _ _ _ _ _ go_enter14 go hinc hnew) (@LOk.nil (rhoN z))))
    exact @calls_true (rhoN z) _ _ (@hnA_ok (rhoN z) _ hold _ hL) _ _ hrun w _ hv
  by_cases hm0 : (z.tmod 2000).natAbs = 0
  · refine fin lawA incA newA (by unfold nvF; rw [if_pos hm0]) ?_
    exact @holds_cons (rhoN z) _ _ lim (@holds_cons (rhoN z) _ _ same (@holds_cons (rhoN z) _ _ (zero true (by rw [hm0]; rfl)) (@holds_nil (rhoN z))))
  · have pcd := @pc_den (rhoN z) _ r0 (by omega) hlt
    have pc : ∀ k b, k = 1 + ((z.tmod 2000).natAbs - 1) % 2 → b = true → @cmpD 0 3 (@den (rhoN z) (.lit k) % kmN 3) (@den (rhoN z) (.op 0 3 (.lit 1) (.op 10 3 (.op 1 3 (.var 0) (.lit 1)) (.lit 2))) % kmN 3) = b := fun k b hk hb => @take_eq (rhoN z) (.lit k) _ 3 b (by
      rw [hb]
      symm
      rw [decide_eq_true_eq]
      show k % 18446744073709551616 = @den (rhoN z) (.op 0 3 (.lit 1) (.op 10 3 (.op 1 3 (.var 0) (.lit 1)) (.lit 2))) % 18446744073709551616
      rw [pcd]
      omega)
    have nz := zero false (by symm; rw [decide_eq_false_iff_not]; exact hm0)
    rcases Nat.mod_two_eq_zero_or_one (z.tmod 2000).natAbs with he | ho
    · refine fin lawC incC newC (by unfold nvF; rw [if_neg hm0, if_neg (by omega)]) ?_
      exact @holds_cons (rhoN z) _ _ lim (@holds_cons (rhoN z) _ _ same (@holds_cons (rhoN z) _ _ nz (@holds_cons (rhoN z) _ _ (pc 2 true (by omega) rfl) (@holds_nil (rhoN z)))))
    · refine fin lawB incB newB (by unfold nvF; rw [if_neg hm0, if_pos ho]) ?_
      exact @holds_cons (rhoN z) _ _ lim (@holds_cons (rhoN z) _ _ same (@holds_cons (rhoN z) _ _ nz (@holds_cons (rhoN z) _ _ (pc 1 true (by omega) rfl) (@holds_nil (rhoN z)))))
theorem topNever_walk (z : Int) (w : World) (w0 : (Lit.int .i64 z).wf = true) : Calls Tryz.prog 7 #[.int .i64 z] w (fun e w' => e = .returned (.bool true) ∧ Below w.heap.size w w') := by
  obtain ⟨h1, h2⟩ := (Bool.and_eq_true _ _).mp w0
  have h1 := of_decide_eq_true h1
  have h2 := of_decide_eq_true h2
  have e1 : IntKind.i64.min = -9223372036854775808 := by decide
  have e2 : IntKind.i64.max = 9223372036854775807 := by decide
  rw [e1] at h1
  rw [e2] at h2
  exact never_calls z w h1 (by omega)
end Go.Proofs.YteefpemaeecicaaGreatDoor
