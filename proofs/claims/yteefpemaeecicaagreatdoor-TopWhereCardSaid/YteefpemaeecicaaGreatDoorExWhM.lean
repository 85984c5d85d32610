/- Templates of the law of written and read machines: names that stay, names that are new. No condition. -/
import Derived.Test.YteefpemaeecicaaGreatDoorExWhL
import Derived.Test.YteefpemaeecicaaGreatDoorExWhA
import Derived.KernelRfl
open Go Go.RowKit Go.Proofs
namespace Go.Proofs.YteefpemaeecicaaGreatDoor.Ev
set_option linter.unusedVariables false
set_option linter.unusedSimpArgs false
set_option linter.constructorNameAsVariable false
noncomputable def comB (S F : List (Nm × Blk)) (N : List Nm) : Bool := S.all fun x => F.all fun y => !(Nm.beq x.1 y.1) || N.any fun n => Nm.beq n x.1
theorem cf0 : comB (whS 0) (whF 0) (whN 0) = true := by kernel_rfl
theorem nf0 : newsB (whS 0) (whF 0) (whW1 0) = true := by kernel_rfl
theorem if0 : incT c40 (whF 0) 0 = true := by kernel_rfl
theorem cf1 : comB (whS 0) (whF 1) (whN 1) = true := by kernel_rfl
theorem nf1 : newsB (whS 0) (whF 1) (whW1 1) = true := by kernel_rfl
theorem if1 : incT c40 (whF 1) 0 = true := by kernel_rfl
theorem cf2 : comB (whS 0) (whF 2) (whN 2) = true := by kernel_rfl
theorem nf2 : newsB (whS 0) (whF 2) (whW1 2) = true := by kernel_rfl
theorem if2 : incT c40 (whF 2) 0 = true := by kernel_rfl
theorem cf3 : comB (whS 0) (whF 3) (whN 3) = true := by kernel_rfl
theorem nf3 : newsB (whS 0) (whF 3) (whW1 3) = true := by kernel_rfl
theorem if3 : incT c40 (whF 3) 0 = true := by kernel_rfl
theorem cf4 : comB (whS 0) (whF 4) (whN 4) = true := by kernel_rfl
theorem nf4 : newsB (whS 0) (whF 4) (whW1 4) = true := by kernel_rfl
theorem if4 : incT c40 (whF 4) 0 = true := by kernel_rfl
theorem cf5 : comB (whS 0) (whF 5) (whN 5) = true := by kernel_rfl
theorem nf5 : newsB (whS 0) (whF 5) (whW1 5) = true := by kernel_rfl
theorem if5 : incT c40 (whF 5) 0 = true := by kernel_rfl
theorem cf6 : comB (whS 0) (whF 6) (whN 6) = true := by kernel_rfl
theorem nf6 : newsB (whS 0) (whF 6) (whW1 6) = true := by kernel_rfl
theorem if6 : incT c40 (whF 6) 0 = true := by kernel_rfl
theorem cf7 : comB (whS 0) (whF 7) (whN 7) = true := by kernel_rfl
theorem nf7 : newsB (whS 0) (whF 7) (whW1 7) = true := by kernel_rfl
theorem if7 : incT c40 (whF 7) 0 = true := by kernel_rfl
theorem cf8 : comB (whS 0) (whF 8) (whN 8) = true := by kernel_rfl
theorem nf8 : newsB (whS 0) (whF 8) (whW1 8) = true := by kernel_rfl
theorem if8 : incT c40 (whF 8) 0 = true := by kernel_rfl
theorem cf9 : comB (whS 0) (whF 9) (whN 9) = true := by kernel_rfl
theorem nf9 : newsB (whS 0) (whF 9) (whW1 9) = true := by kernel_rfl
theorem if9 : incT c40 (whF 9) 0 = true := by kernel_rfl
theorem cf10 : comB (whS 0) (whF 10) (whN 10) = true := by kernel_rfl
theorem nf10 : newsB (whS 0) (whF 10) (whW1 10) = true := by kernel_rfl
theorem if10 : incT c40 (whF 10) 0 = true := by kernel_rfl
theorem cf11 : comB (whS 0) (whF 11) (whN 11) = true := by kernel_rfl
theorem nf11 : newsB (whS 0) (whF 11) (whW1 11) = true := by kernel_rfl
theorem if11 : incT c40 (whF 11) 0 = true := by kernel_rfl
theorem cf12 : comB (whS 0) (whF 12) (whN 12) = true := by kernel_rfl
theorem nf12 : newsB (whS 0) (whF 12) (whW1 12) = true := by kernel_rfl
theorem if12 : incT c40 (whF 12) 0 = true := by kernel_rfl
theorem cf13 : comB (whS 0) (whF 13) (whN 13) = true := by kernel_rfl
theorem nf13 : newsB (whS 0) (whF 13) (whW1 13) = true := by kernel_rfl
theorem if13 : incT c40 (whF 13) 0 = true := by kernel_rfl
theorem cf14 : comB (whS 0) (whF 14) (whN 14) = true := by kernel_rfl
theorem nf14 : newsB (whS 0) (whF 14) (whW1 14) = true := by kernel_rfl
theorem if14 : incT c40 (whF 14) 0 = true := by kernel_rfl
theorem cf15 : comB (whS 0) (whF 15) (whN 15) = true := by kernel_rfl
theorem nf15 : newsB (whS 0) (whF 15) (whW1 15) = true := by kernel_rfl
theorem if15 : incT c40 (whF 15) 0 = true := by kernel_rfl
theorem cf16 : comB (whS 0) (whF 16) (whN 16) = true := by kernel_rfl
theorem nf16 : newsB (whS 0) (whF 16) (whW1 16) = true := by kernel_rfl
theorem if16 : incT c40 (whF 16) 0 = true := by kernel_rfl
theorem cf17 : comB (whS 0) (whF 17) (whN 17) = true := by kernel_rfl
theorem nf17 : newsB (whS 0) (whF 17) (whW1 17) = true := by kernel_rfl
theorem if17 : incT c40 (whF 17) 0 = true := by kernel_rfl
theorem cf18 : comB (whS 0) (whF 18) (whN 18) = true := by kernel_rfl
theorem nf18 : newsB (whS 0) (whF 18) (whW1 18) = true := by kernel_rfl
theorem if18 : incT c40 (whF 18) 0 = true := by kernel_rfl
theorem cd0 : comB (whS 0) whD (whN 18) = true := by kernel_rfl
theorem nd0 : newsB (whS 0) whD whW2 = true := by kernel_rfl
theorem cd1 : comB (whS 1) whD (whN 18) = true := by kernel_rfl
theorem nd1 : newsB (whS 1) whD whW2 = true := by kernel_rfl
theorem cd2 : comB (whS 2) whD (whN 18) = true := by kernel_rfl
theorem nd2 : newsB (whS 2) whD whW2 = true := by kernel_rfl
theorem cd3 : comB (whS 3) whD (whN 18) = true := by kernel_rfl
theorem nd3 : newsB (whS 3) whD whW2 = true := by kernel_rfl
theorem cd4 : comB (whS 4) whD (whN 18) = true := by kernel_rfl
theorem nd4 : newsB (whS 4) whD whW2 = true := by kernel_rfl
theorem cd5 : comB (whS 5) whD (whN 18) = true := by kernel_rfl
theorem nd5 : newsB (whS 5) whD whW2 = true := by kernel_rfl
theorem cd6 : comB (whS 6) whD (whN 18) = true := by kernel_rfl
theorem nd6 : newsB (whS 6) whD whW2 = true := by kernel_rfl
theorem cd7 : comB (whS 7) whD (whN 18) = true := by kernel_rfl
theorem nd7 : newsB (whS 7) whD whW2 = true := by kernel_rfl
theorem cd8 : comB (whS 8) whD (whN 18) = true := by kernel_rfl
theorem nd8 : newsB (whS 8) whD whW2 = true := by kernel_rfl
theorem cd9 : comB (whS 9) whD (whN 18) = true := by kernel_rfl
theorem nd9 : newsB (whS 9) whD whW2 = true := by kernel_rfl
theorem cd10 : comB (whS 10) whD (whN 18) = true := by kernel_rfl
theorem nd10 : newsB (whS 10) whD whW2 = true := by kernel_rfl
theorem cd11 : comB (whS 11) whD (whN 18) = true := by kernel_rfl
theorem nd11 : newsB (whS 11) whD whW2 = true := by kernel_rfl
theorem cd12 : comB (whS 12) whD (whN 18) = true := by kernel_rfl
theorem nd12 : newsB (whS 12) whD whW2 = true := by kernel_rfl
theorem cd13 : comB (whS 13) whD (whN 18) = true := by kernel_rfl
theorem nd13 : newsB (whS 13) whD whW2 = true := by kernel_rfl
theorem cd14 : comB (whS 14) whD (whN 18) = true := by kernel_rfl
theorem nd14 : newsB (whS 14) whD whW2 = true := by kernel_rfl
theorem cd15 : comB (whS 15) whD (whN 18) = true := by kernel_rfl
theorem nd15 : newsB (whS 15) whD whW2 = true := by kernel_rfl
theorem cd16 : comB (whS 16) whD (whN 18) = true := by kernel_rfl
theorem nd16 : newsB (whS 16) whD whW2 = true := by kernel_rfl
theorem cd17 : comB (whS 17) whD (whN 18) = true := by kernel_rfl
theorem nd17 : newsB (whS 17) whD whW2 = true := by kernel_rfl
theorem cd18 : comB (whS 18) whD (whN 18) = true := by kernel_rfl
theorem nd18 : newsB (whS 18) whD whW2 = true := by kernel_rfl
theorem cd19 : comB (whS 19) whD (whN 18) = true := by kernel_rfl
theorem nd19 : newsB (whS 19) whD whW2 = true := by kernel_rfl
theorem cd20 : comB (whS 20) whD (whN 18) = true := by kernel_rfl
theorem nd20 : newsB (whS 20) whD whW2 = true := by kernel_rfl
theorem cd21 : comB (whS 21) whD (whN 18) = true := by kernel_rfl
theorem nd21 : newsB (whS 21) whD whW2 = true := by kernel_rfl
theorem cd22 : comB (whS 22) whD (whN 18) = true := by kernel_rfl
theorem nd22 : newsB (whS 22) whD whW2 = true := by kernel_rfl
theorem cd23 : comB (whS 23) whD (whN 18) = true := by kernel_rfl
theorem nd23 : newsB (whS 23) whD whW2 = true := by kernel_rfl
theorem cd24' : comB (whS 24) whD24 (whN 24) = true := by kernel_rfl
theorem nd24' : newsB (whS 24) whD24 whW2 = true := by kernel_rfl
theorem inc_d : incT c40 whD 0 = true := by kernel_rfl
theorem inc_d24 : incT c40 whD24 0 = true := by kernel_rfl
theorem names_d : namesT whD psD = true := by kernel_rfl
theorem names_d24 : namesT whD24 psD24 = true := by kernel_rfl
theorem stay_d : ((whN 18).all fun n => (lk psD n).any fun m => Nm.beq m n) = true := by kernel_rfl
theorem stay_d24 : ((whN 24).all fun n => (lk psD24 n).any fun m => Nm.beq m n) = true := by kernel_rfl
theorem com_of {S F : List (Nm × Blk)} {N : List Nm} (h : comB S F N = true) : ∀ n b b', (n, b) ∈ S → (n, b') ∈ F → n ∈ N := by
  intro n b b' h1 h2
  have := List.all_eq_true.1 (List.all_eq_true.1 h _ h1) _ h2
  rw [show Nm.beq (n, b).1 (n, b').1 = true from nm_beq.2 rfl, Bool.not_true, Bool.false_or] at this
  obtain ⟨m, hm, e⟩ := List.any_eq_true.1 this
  rw [show n = m from (nm_beq.1 e).symm]
  exact hm
theorem com_f (p : Nat) (h : p ≤ 18) : comB (whS 0) (whF p) (whN p) = true := by
  match p, h with
  | 0, _ => exact cf0
  | 1, _ => exact cf1
  | 2, _ => exact cf2
  | 3, _ => exact cf3
  | 4, _ => exact cf4
  | 5, _ => exact cf5
  | 6, _ => exact cf6
  | 7, _ => exact cf7
  | 8, _ => exact cf8
  | 9, _ => exact cf9
  | 10, _ => exact cf10
  | 11, _ => exact cf11
  | 12, _ => exact cf12
  | 13, _ => exact cf13
  | 14, _ => exact cf14
  | 15, _ => exact cf15
  | 16, _ => exact cf16
  | 17, _ => exact cf17
  | 18, _ => exact cf18
  | n + 19, h => omega
theorem news_f (p : Nat) (h : p ≤ 18) : newsB (whS 0) (whF p) (whW1 p) = true := by
  match p, h with
  | 0, _ => exact nf0
  | 1, _ => exact nf1
  | 2, _ => exact nf2
  | 3, _ => exact nf3
  | 4, _ => exact nf4
  | 5, _ => exact nf5
  | 6, _ => exact nf6
  | 7, _ => exact nf7
  | 8, _ => exact nf8
  | 9, _ => exact nf9
  | 10, _ => exact nf10
  | 11, _ => exact nf11
  | 12, _ => exact nf12
  | 13, _ => exact nf13
  | 14, _ => exact nf14
  | 15, _ => exact nf15
  | 16, _ => exact nf16
  | 17, _ => exact nf17
  | 18, _ => exact nf18
  | n + 19, h => omega
theorem inc_f (p : Nat) (h : p ≤ 18) : incT c40 (whF p) 0 = true := by
  match p, h with
  | 0, _ => exact if0
  | 1, _ => exact if1
  | 2, _ => exact if2
  | 3, _ => exact if3
  | 4, _ => exact if4
  | 5, _ => exact if5
  | 6, _ => exact if6
  | 7, _ => exact if7
  | 8, _ => exact if8
  | 9, _ => exact if9
  | 10, _ => exact if10
  | 11, _ => exact if11
  | 12, _ => exact if12
  | 13, _ => exact if13
  | 14, _ => exact if14
  | 15, _ => exact if15
  | 16, _ => exact if16
  | 17, _ => exact if17
  | 18, _ => exact if18
  | n + 19, h => omega
theorem com_d (p : Nat) (h : p ≤ 23) : comB (whS p) whD (whN 18) = true := by
  match p, h with
  | 0, _ => exact cd0
  | 1, _ => exact cd1
  | 2, _ => exact cd2
  | 3, _ => exact cd3
  | 4, _ => exact cd4
  | 5, _ => exact cd5
  | 6, _ => exact cd6
  | 7, _ => exact cd7
  | 8, _ => exact cd8
  | 9, _ => exact cd9
  | 10, _ => exact cd10
  | 11, _ => exact cd11
  | 12, _ => exact cd12
  | 13, _ => exact cd13
  | 14, _ => exact cd14
  | 15, _ => exact cd15
  | 16, _ => exact cd16
  | 17, _ => exact cd17
  | 18, _ => exact cd18
  | 19, _ => exact cd19
  | 20, _ => exact cd20
  | 21, _ => exact cd21
  | 22, _ => exact cd22
  | 23, _ => exact cd23
  | n + 24, h => omega
theorem news_d (p : Nat) (h : p ≤ 23) : newsB (whS p) whD whW2 = true := by
  match p, h with
  | 0, _ => exact nd0
  | 1, _ => exact nd1
  | 2, _ => exact nd2
  | 3, _ => exact nd3
  | 4, _ => exact nd4
  | 5, _ => exact nd5
  | 6, _ => exact nd6
  | 7, _ => exact nd7
  | 8, _ => exact nd8
  | 9, _ => exact nd9
  | 10, _ => exact nd10
  | 11, _ => exact nd11
  | 12, _ => exact nd12
  | 13, _ => exact nd13
  | 14, _ => exact nd14
  | 15, _ => exact nd15
  | 16, _ => exact nd16
  | 17, _ => exact nd17
  | 18, _ => exact nd18
  | 19, _ => exact nd19
  | 20, _ => exact nd20
  | 21, _ => exact nd21
  | 22, _ => exact nd22
  | 23, _ => exact nd23
  | n + 24, h => omega
end Go.Proofs.YteefpemaeecicaaGreatDoor.Ev
