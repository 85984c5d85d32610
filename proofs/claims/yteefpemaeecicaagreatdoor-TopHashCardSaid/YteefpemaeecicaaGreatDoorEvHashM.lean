/- A function that makes a 32-bit number of a number, as an answer: its value is an expression. Condition: its contract. -/
import Derived.Test.YteefpemaeecicaaGreatDoorEvTmp
section
open Go Go.RowKit
namespace Go.Proofs.YteefpemaeecicaaGreatDoor.Ev
set_option linter.unusedVariables false
set_option linter.unusedSimpArgs false
set_option linter.constructorNameAsVariable false
noncomputable section
def wrapE (e : Ex) : Ex := .op 23 2 (.op 22 3 e (.lit 0)) (.lit 0)
def wrapV (e : Ex) : AV := .a1 2 ⟨.n 3 1, .y 3 (wrapE e), .u, .u, .u, .u, .u, .u⟩
def wrapF : Fc := ⟨fun _ l h kk => List.rec (motive := fun _ => Ans) Ans.no (fun a t _ => List.rec (motive := fun _ => Ans) Ans.no (fun x t _ => List.rec (motive := fun _ => Ans) (exK 3 a fun ea => exLit ea fun n => Bool.rec (motive := fun _ => Ans) Ans.no (exK 3 x fun e => kk (wrapV e) h) (Nat.beq n 1)) (fun _ _ _ => Ans.no) t) t) l⟩
theorem wrapE_den [Rho] (e : Ex) : IntKind.i64.wrap ((den (wrapE e) % km .i64 : Nat) : Int) = IntKind.i32.wrap (IntKind.i64.wrap ((den e % km .i64 : Nat) : Int)) := by
  have h1 : den (wrapE e) = if den e % 18446744073709551616 % 4294967296 < 2147483648 then den e % 18446744073709551616 % 4294967296 else den e % 18446744073709551616 % 4294967296 + (18446744073709551616 - 4294967296) := by
    have a1 : den (.op 22 3 e (.lit 0)) = den e % 18446744073709551616 := rfl
    have a2 : den (wrapE e) = sExt 2147483648 4294967296 18446744073709551616 (den (.op 22 3 e (.lit 0)) % 4294967296) := rfl
    rw [a2, a1]
    unfold sExt
    by_cases hd : den e % 18446744073709551616 % 4294967296 < 2147483648
    · rw [if_pos hd, ble_iff.2 hd]
    · rw [if_neg hd]
      have : Nat.ble (Nat.succ (den e % 18446744073709551616 % 4294967296)) 2147483648 = false := by
        cases hh : Nat.ble (Nat.succ (den e % 18446744073709551616 % 4294967296)) 2147483648 with
        | true => exact (hd (ble_iff.1 hh)).elim
        | false => rfl
      rw [this]
  rw [h1]
  show IntKind.i64.wrap ((_ % 18446744073709551616 : Nat) : Int) = IntKind.i32.wrap (IntKind.i64.wrap ((den e % 18446744073709551616 : Nat) : Int))
  generalize den e % 18446744073709551616 = d
  simp only [IntKind.wrap, IntKind.bits, IntKind.signed]
  split <;> simp <;> omega
theorem wrapF_ok [R : Rho] {P : Program} {f : FuncId} (he : Enter P f) (C : ∀ (n : Int) w, Calls P f #[.int .i64 1, .int .i64 n] w (fun e w' => e = .returned (.agg #[.int .i64 1, .int .i64 (IntKind.i32.wrap n)]) ∧ Below w.heap.size w w')) : FcOk P f wrapF := by
  intro hn hS l h kk hy
  cases l with
  | nil => cases hy
  | cons a t => cases t with
    | nil => cases hy
    | cons x t => cases t with
      | cons y t => cases hy
      | nil =>
        have hy : (exK 3 a fun ea => exLit ea fun n => Bool.rec (motive := fun _ => Ans) Ans.no (exK 3 x fun e => kk (wrapV e) h) (Nat.beq n 1)) = .yes := hy
        obtain ⟨ea, h1, h2⟩ := exK_num (k := .i64) hy
        obtain ⟨n, rfl, _, h3⟩ := exLit_yes h1
        obtain ⟨h4, h5⟩ := inv_if h3
        have h4 := beq_iff.1 h4
        subst h4
        obtain ⟨e, h6, h7⟩ := exK_num (k := .i64) h5
        refine ⟨he, wrapV e, h, h6, fun K μ w args hr hv => ?_⟩
        obtain ⟨u, l2, q1, q2, q3⟩ := hv.cons_inv
        obtain ⟨v, l3, q4, q5, q6⟩ := q3.cons_inv
        have q7 := q6.nil_inv
        have e1 : u = .int .i64 1 := (h2 μ u q2).1
        have e2 := (h7 μ v q5).1
        have : args = #[.int .i64 1, .int .i64 (IntKind.i64.wrap ((den e % km .i64 : Nat) : Int))] := by
          apply Array.toList_inj.1
          rw [q1, q4, q7, e1, e2]
        subst this
        refine (C _ w).mono fun e' w' ⟨r1, r2⟩ => ⟨μ, _, r1, Ext.refl μ, ?_, hr.keeps r2⟩
        refine .a1 2 _ _ rfl (by decide) (fun i c hc => ?_) (fun i c hc => ?_)
        · match i, hc with
          | 0, hc => cases hc; rfl
          | 1, hc => cases hc; rfl
          | i + 2, hc => simp at hc
        · match i, hc with
          | 0, hc => cases hc; exact .len (n := 1) (by decide)
          | 1, hc =>
            cases hc
            show VR μ (.y 3 (wrapE e)) _
            rw [← wrapE_den]
            exact .y .i64 _
          | i + 2, hc => simp at hc
end
end Go.Proofs.YteefpemaeecicaaGreatDoor.Ev
end
section
open Go Go.RowKit
namespace Go.Proofs.YteefpemaeecicaaGreatDoor.Ev
set_option linter.unusedVariables false
set_option linter.unusedSimpArgs false
set_option linter.constructorNameAsVariable false
noncomputable section
def hsV : List Ex := [.var 0, .var 1, .var 2, .var 3, .var 4, .var 5, .var 6, .var 7, .var 8, .var 9, .var 10, .var 11, .var 12, .var 13, .var 14, .var 15, .var 16, .var 17, .var 18, .var 19, .var 20, .var 21, .var 22, .var 23, .var 24, .var 25, .var 26, .var 27, .var 28, .var 29, .var 30, .var 31, .var 32, .var 33, .var 34, .var 35, .var 36, .var 37, .var 38, .var 39]
/-- The machine's byte; its hash; the law's. -/
def hsB (v : Ex) : Ex := .op 23 2 (.op 22 3 (.op 23 7 (.op 4 7 (.lit 0) (.op 27 4 (.op 24 7 (.op 8 7 (.op 27 4 v (.lit 0)) (.lit 0)) (.lit 0)) (.lit 0))) (.lit 0)) (.lit 0)) (.lit 0)
def hsM (h v : Ex) : Ex := .op 2 3 (.op 5 3 h (.op 23 7 (.op 27 6 (.op 26 3 (hsB v) (.lit 0)) (.lit 0)) (.lit 0))) (.lit 1099511628211)
def hsL (h v : Ex) : Ex := .op 2 7 (.op 5 7 h (.op 27 4 v (.lit 0))) (.lit 1099511628211)
def hsMs (l : List Ex) : Ex → Ex := lrec l (fun h => h) fun v _ ih h => ih (hsM h v)
def hsLs (l : List Ex) : Ex → Ex := lrec l (fun h => h) fun v _ ih h => ih (hsL h v)
def hsMF (h : Ex) : Ex := .op 23 2 (.op 22 3 (.op 5 3 (.op 23 7 (.op 8 7 (.op 27 3 h (.lit 0)) (.lit 32)) (.lit 0)) h) (.lit 0)) (.lit 0)
def hsLF (h : Ex) : Ex := .op 23 2 (.op 22 3 (.op 23 7 (.op 5 7 (.op 8 7 h (.lit 32)) h) (.lit 0)) (.lit 0)) (.lit 0)
def hsT (n : Nat) : List As := [⟨0, 3, hsMF (hsMs (ltake hsV n) (.lit 0)), hsLF (hsLs (ltake hsV n) (.lit 0)), true⟩]
/-! ### Conversions that do nothing -/
theorem dn_27_4 [Rho] (e : Ex) : den (.op 27 4 e (.lit 0)) = den e % 256 := rfl
theorem dn_8_7 [Rho] (e : Ex) : den (.op 8 7 e (.lit 0)) = den e % 18446744073709551616 := by
  show den e % 18446744073709551616 / 2 ^ (0 % 18446744073709551616) = _
  rw [Nat.zero_mod, Nat.pow_zero, Nat.div_one]
theorem dn_24_7 [Rho] (e : Ex) : den (.op 24 7 e (.lit 0)) = den e % 18446744073709551616 := rfl
theorem dn_4_7 [Rho] (e : Ex) : den (.op 4 7 (.lit 0) e) = den e % 18446744073709551616 := by
  show Nat.lor (0 % 18446744073709551616) (den e % 18446744073709551616) = _
  rw [Nat.zero_mod]
  exact Nat.zero_or _
theorem dn_23_7 [Rho] (e : Ex) : den (.op 23 7 e (.lit 0)) = den e % 18446744073709551616 := rfl
theorem dn_22_3 [Rho] (e : Ex) : den (.op 22 3 e (.lit 0)) = den e % 18446744073709551616 := rfl
theorem dn_26_3 [Rho] (e : Ex) : den (.op 26 3 e (.lit 0)) = den e % 18446744073709551616 := rfl
theorem dn_27_3 [Rho] (e : Ex) : den (.op 27 3 e (.lit 0)) = den e % 18446744073709551616 := rfl
theorem dn_27_6 [Rho] (e : Ex) : den (.op 27 6 e (.lit 0)) = den e % 4294967296 := rfl
theorem dn_23_2 [Rho] (e : Ex) : den (.op 23 2 e (.lit 0)) = sExt 2147483648 4294967296 18446744073709551616 (den e % 4294967296) := rfl
theorem sExt_low {H N M a : Nat} (h : a < H) : sExt H N M a = a := by
  unfold sExt
  rw [ble_iff.2 h]
theorem hsB_den [Rho] (v : Ex) : den (hsB v) = den v % 256 := by
  unfold hsB
  rw [dn_23_2, dn_22_3, dn_23_7, dn_4_7, dn_27_4, dn_24_7, dn_8_7, dn_27_4]
  have h : den v % 256 < 256 := Nat.mod_lt _ (by omega)
  generalize den v % 256 = b at h
  have e : b % 18446744073709551616 % 18446744073709551616 % 256 % 18446744073709551616 % 18446744073709551616 % 18446744073709551616 % 4294967296 = b := by omega
  rw [e, sExt_low (by omega)]
theorem dn_mul [Rho] (a b : Ex) : den (.op 2 3 a b) = den a % kmN 3 * (den b % kmN 3) := rfl
theorem dn_mul7 [Rho] (a b : Ex) : den (.op 2 7 a b) = den a % kmN 7 * (den b % kmN 7) := rfl
theorem dn_xor [Rho] (a b : Ex) : den (.op 5 3 a b) = Nat.xor (den a % kmN 3) (den b % kmN 3) := rfl
theorem dn_xor7 [Rho] (a b : Ex) : den (.op 5 7 a b) = Nat.xor (den a % kmN 7) (den b % kmN 7) := rfl
theorem dn_shr7 [Rho] (a b : Ex) : den (.op 8 7 a b) = den a % kmN 7 / 2 ^ (den b % kmN 7) := rfl
theorem hs_step [Rho] {h g : Ex} (e : den h % 18446744073709551616 = den g % 18446744073709551616) (v : Ex) : den (hsM h v) = den (hsL g v) := by
  have h1 : den (.op 23 7 (.op 27 6 (.op 26 3 (hsB v) (.lit 0)) (.lit 0)) (.lit 0)) = den (.op 27 4 v (.lit 0)) := by
    rw [dn_23_7, dn_27_6, dn_26_3, hsB_den, dn_27_4]
    omega
  unfold hsM hsL
  rw [dn_mul, dn_mul7, dn_xor, dn_xor7, h1, kmN_3, kmN_7, e]
theorem hs_all [Rho] : ∀ (l : List Ex) {h g : Ex}, den h % 18446744073709551616 = den g % 18446744073709551616 → den (hsMs l h) % 18446744073709551616 = den (hsLs l g) % 18446744073709551616
  | [], _, _, e => e
  | v :: l, h, g, e => hs_all l (h := hsM h v) (g := hsL g v) (by rw [hs_step e v])
theorem hs_fin [Rho] {h g : Ex} (e : den h % 18446744073709551616 = den g % 18446744073709551616) : den (hsMF h) = den (hsLF g) := by
  unfold hsMF hsLF
  rw [dn_23_2, dn_23_2, dn_22_3, dn_22_3, dn_23_7]
  have h1 : den (.op 8 7 (.op 27 3 h (.lit 0)) (.lit 32)) = den (.op 8 7 g (.lit 32)) := by
    rw [dn_shr7, dn_shr7, dn_27_3, kmN_7, Nat.mod_mod, e]
  have h2 : den (.op 5 3 (.op 23 7 (.op 8 7 (.op 27 3 h (.lit 0)) (.lit 32)) (.lit 0)) h) = den (.op 5 7 (.op 8 7 g (.lit 32)) g) := by
    rw [dn_xor, dn_xor7, kmN_3, kmN_7, dn_23_7, Nat.mod_mod, h1, e]
  rw [h2, Nat.mod_mod]
theorem hsT_holds [Rho] (n : Nat) : Holds (hsT n) := holds_cons (take_eq (by
  symm
  rw [decide_eq_true_eq]
  exact congrArg (· % _) (hs_fin (hs_all _ rfl)))) holds_nil
end
end Go.Proofs.YteefpemaeecicaaGreatDoor.Ev
end
