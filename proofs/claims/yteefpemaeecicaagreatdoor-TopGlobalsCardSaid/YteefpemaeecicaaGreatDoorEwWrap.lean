/- A function that makes a 32-bit number of a number, as an answer: its value is an expression. Condition: its contract. -/
import Derived.Test.YteefpemaeecicaaGreatDoorEwTmp
open Go Go.RowKit
namespace Go.Proofs.YteefpemaeecicaaGreatDoor.Ev
set_option linter.unusedVariables false
set_option linter.unusedSimpArgs false
set_option linter.constructorNameAsVariable false
noncomputable section
def wrapE (e : Ex) : Ex := .op 23 2 (.op 22 3 e (.lit 0)) (.lit 0)
def wrapV (e : Ex) : AV := .a1 2 ⟨.n 3 1, .y 3 (wrapE e), .u, .u, .u, .u, .u, .u⟩
def wrapF : Fc := ⟨fun _ l h kk => List.rec (motive := fun _ => Ans) Ans.no (fun a t _ => List.rec (motive := fun _ => Ans) Ans.no (fun x t _ => List.rec (motive := fun _ => Ans) (exK 3 a fun ea => exLit ea fun n => Bool.rec (motive := fun _ => Ans) Ans.no (exK 3 x fun e => kk (wrapV e) h) (Nat.beq n 1)) (fun _ _ _ => Ans.no) t) t) l⟩
theorem wrapE_den [Rho] (e : Ex) : IntKind.i64.wrap ((den (wrapE e) % km .i64 : Nat) : Int) = IntKind.i32.wrap (IntKind.i64.wrap ((den e % km .i64 : Nat) : Int)) := by
  have h1 : den (wrapE e) = if den e % 18446744073709551616 % 4294967296 < 2147483648 then den e % 18446744073709551616 % 4294967296 else den e % 18446744073709551616 % 4294967296 + (18446744073709551616 - 4294967296) := by
    have a1 : den (.op 22 3 e (.lit 0)) = den e % 18446744073709551616 := rfl
    have a2 : den (wrapE e) = sExt 2147483648 4294967296 18446744073709551616 (den (.op 22 3 e (.lit 0)) % 4294967296) := rfl
    rw [a2, a1]
    unfold sExt
    by_cases hd : den e % 18446744073709551616 % 4294967296 < 2147483648
    · rw [if_pos hd, ble_iff.2 hd]
    · rw [if_neg hd]
      have : Nat.ble (Nat.succ (den e % 18446744073709551616 % 4294967296)) 2147483648 = false := by
        cases hh : Nat.ble (Nat.succ (den e % 18446744073709551616 % 4294967296)) 2147483648 with
        | true => exact (hd (ble_iff.1 hh)).elim
        | false => rfl
      rw [this]
  rw [h1]
  show IntKind.i64.wrap ((_ % 18446744073709551616 : Nat) : Int) = IntKind.i32.wrap (IntKind.i64.wrap ((den e % 18446744073709551616 : Nat) : Int))
  generalize den e % 18446744073709551616 = d
  simp only [IntKind.wrap, IntKind.bits, IntKind.signed]
  split <;> simp <;> omega
theorem wrapF_ok [R : Rho] {P : Program} {f : FuncId} (he : Enter P f) (C : ∀ (n : Int) w, Calls P f #[.int .i64 1, .int .i64 n] w (fun e w' => e = .returned (.agg #[.int .i64 1, .int .i64 (IntKind.i32.wrap n)]) ∧ Below w.heap.size w w')) : FcOk P f wrapF := by
  intro hn hS l h kk hy
  cases l with
  | nil => cases hy
  | cons a t => cases t with
    | nil => cases hy
    | cons x t => cases t with
      | cons y t => cases hy
      | nil =>
        have hy : (exK 3 a fun ea => exLit ea fun n => Bool.rec (motive := fun _ => Ans) Ans.no (exK 3 x fun e => kk (wrapV e) h) (Nat.beq n 1)) = .yes := hy
        obtain ⟨ea, h1, h2⟩ := exK_num (k := .i64) hy
        obtain ⟨n, rfl, _, h3⟩ := exLit_yes h1
        obtain ⟨h4, h5⟩ := inv_if h3
        have h4 := beq_iff.1 h4
        subst h4
        obtain ⟨e, h6, h7⟩ := exK_num (k := .i64) h5
        refine ⟨he, wrapV e, h, h6, fun K μ w args hr hv => ?_⟩
        obtain ⟨u, l2, q1, q2, q3⟩ := hv.cons_inv
        obtain ⟨v, l3, q4, q5, q6⟩ := q3.cons_inv
        have q7 := q6.nil_inv
        have e1 : u = .int .i64 1 := (h2 μ u q2).1
        have e2 := (h7 μ v q5).1
        have : args = #[.int .i64 1, .int .i64 (IntKind.i64.wrap ((den e % km .i64 : Nat) : Int))] := by
          apply Array.toList_inj.1
          rw [q1, q4, q7, e1, e2]
        subst this
        refine (C _ w).mono fun e' w' ⟨r1, r2⟩ => ⟨μ, _, r1, Ext.refl μ, ?_, hr.keeps r2⟩
        refine .a1 2 _ _ rfl (by decide) (fun i c hc => ?_) (fun i c hc => ?_)
        · match i, hc with
          | 0, hc => cases hc; rfl
          | 1, hc => cases hc; rfl
          | i + 2, hc => simp at hc
        · match i, hc with
          | 0, hc => cases hc; exact .len (n := 1) (by decide)
          | 1, hc =>
            cases hc
            show VR μ (.y 3 (wrapE e)) _
            rw [← wrapE_den]
            exact .y .i64 _
          | i + 2, hc => simp at hc
end
end Go.Proofs.YteefpemaeecicaaGreatDoor.Ev
