/- The law of sorted bytes: its pieces. No condition. -/
import Derived.Test.YteefpemaeecicaaGreatDoorExSo
import Derived.KernelRfl
open Go Go.RowKit Go.Proofs
namespace Go.Proofs.YteefpemaeecicaaGreatDoor.Ev
set_option linter.unusedVariables false
set_option linter.unusedSimpArgs false
set_option linter.constructorNameAsVariable false
noncomputable section
noncomputable def lwE : Em := Em.of 157 [0, 7, 10, 11, 12, 13, 14]
theorem lwE_ok : EOk lwE := EOk.of _ _ (by omega)
/-- Its code: the law's begin, the arrays, the loop, the end. -/
noncomputable def lwC : Code := cOf Tryz.f5
noncomputable def lwT : Code := tailC 11 lwC
noncomputable def lw17 : Code := cFst lwT
noncomputable def lw18 : Code := cFst (cSnd lwT)
noncomputable def lw19 : Code := cFst (cFst (cSnd (cSnd lwT)))
noncomputable def lwB : Code := cIn (cIn (cSnd (cFst (cSnd (cSnd lwT)))))
noncomputable def lw28 : Code := cFst (cSnd (cSnd (cSnd lwT)))
noncomputable def lwH : Code := cFst lwB
noncomputable def lwN : Code := cIn (cFst (cSnd lwB))
noncomputable def lw21 : Code := cSnd (cSnd lwB)
theorem lw_eq : Tryz.f5.body = some lwC := by kernel_rfl
theorem lwT_eq : lwT = .seq lw17 (.seq lw18 (.seq (.seq lw19 (.block 0 (.loop lwB))) (.seq lw28 .ret))) := by kernel_rfl
theorem lwB_eq : lwB = .seq lwH (.seq (.block 1 lwN) lw21) := by kernel_rfl
theorem lw_row : isRow 11 lwC = true := by kernel_rfl
theorem lwN_row : isRow 2 lwN = true := by kernel_rfl
/-! ### Its begin -/
noncomputable def avL (k : Nat) : List Ex := nrec k [] fun i l => lapp l [.var i]
noncomputable def soIn (n : Nat) : AV := match n with | 13 => .y 20 (.op 0 0 (.var 100) (mkE (avL 12))) | _ => .y 20 (.op 0 0 (.lit n) (mkE (avL n)))
noncomputable def soNn (n : Nat) : Nat := match n with | 13 => 12 | _ => n
/-- What the machine starts from: no rounds, so many bytes. -/
noncomputable def soSb (n k : Nat) : List Ex := nrec k [] fun i l => lapp l [Bool.rec (motive := fun _ => Ex) (.lit 0) (.var i) (Nat.blt i n)]
noncomputable def soSs (n : Nat) : List Ex := .lit 0 :: .lit n :: .lit 0 :: .lit 30000 :: .lit 0 :: .lit 0 :: .lit 0 :: .lit 0 :: .lit 0 :: .lit 0 :: soSb n 12
noncomputable def soMk (k : Nat) : List As := nrec k [] fun i l => ⟨0, 7, .op 3 7 (.var i) (.lit 18446744073709551360), .lit 0, true⟩ :: l
noncomputable def tkP (n : Nat) : List As := match n with | 13 => ⟨4, 3, .var 100, .lit 12, true⟩ :: soMk 12 | _ => soMk n
noncomputable def soG (n : Nat) : Fc := ctI (tkP n) [avP, avN] (soS 0 false 0) c40 (soSs (soNn n)) soVv soFi []
noncomputable def soOut (n : Nat) : AV := .y 20 (.op 0 0 (.lit (soNn n)) (mkE (avL (soNn n))))
noncomputable def FP (n : Nat) (ps : List (Nm × Nm)) : Ans := fragN (TTa (tkP n)) (soR (tkP n) [(29, yesF), (14, soG n)]) 1 lwE Tryz.f5.results.toList (headC 11 lwC) [0] [soIn n] hp0 [(0, soOut n), (7, avP)] soFi c40 ps []
/-! ### Its loop -/
noncomputable def slT (n : Nat) : AV := .y 20 (.op 0 0 (.lit n) (mkE (avL n)))
noncomputable def a1T : AV := .y 8 (.var 0)
noncomputable def a2T : AV := .y 8 (.var 1)
noncomputable def lsT : AV := .y 7 (.var 41)
noncomputable def tsT : List Nat := [0, 7, 10, 11, 12, 13]
noncomputable def avT (n i : Nat) : List AV := [slT n, avP, a1T, a2T, lsT, .n 3 i]
noncomputable def paT (n i : Nat) : List (Nat × AV) := [(0, slT n), (7, avP), (10, a1T), (11, a2T), (12, lsT), (13, .n 3 i)]
noncomputable def paU (n i : Nat) : List (Nat × AV) := [(0, slT n), (7, avP), (10, a1T), (11, a2T), (12, lsT), (13, .n 3 i), (14, lsT)]
noncomputable def ldT (i : Nat) : Ex := .op 4 7 (.lit 0) (.op 27 4 (.var (Nat.add 22 i)) (.lit 0))
noncomputable def sgT (i : Nat) : List Ex := lapp (avL 41) [ldT i]
noncomputable def tkL (i : Nat) : List As := [⟨2, 7, ldT i, .var 41, false⟩]
noncomputable def fiN (T : List (Nm × Blk)) : List (Nm × Nm) := T.map fun x => (x.1, x.1)
noncomputable def FH (n i : Nat) : Ans := fragN (TTa []) (soR [] []) 1 lwE Tryz.f5.results.toList lwH tsT (avT n i) (hpT soFi c40) (paT n i) soFi c40 (fiN soFi) []
noncomputable def FX (n : Nat) : Ans := fragX (TTa []) (soR [] []) 1 lwE Tryz.f5.results.toList lwH tsT (avT n n) (hpT soFi c40) 0 (paT n n) soFi c40 (fiN soFi) []
noncomputable def FL (n i : Nat) : Ans := fragN (TTa (tkL i)) (soR (tkL i) []) 1 lwE Tryz.f5.results.toList (headC 2 lwN) tsT (avT n i) (hpT soFi c40) (paU n i) soFi c40 (fiN soFi) (sgT i)
noncomputable def FJ (n i : Nat) : Ans := fragN (TTa []) (soR [] []) 1 lwE Tryz.f5.results.toList lw21 tsT (avT n i) (hpT soFi c40) (paT n (Nat.succ i)) soFi c40 (fiN soFi) []
noncomputable def F18 (n : Nat) : Ans := fragN (TTa []) (soR [] []) 1 lwE Tryz.f5.results.toList lw18 [0, 7, 10, 11] [slT n, avP, a1T, a2T] (hpT soFi c40) [(0, slT n), (7, avP), (10, a1T), (11, a2T), (12, .n 7 0)] soFi c40 (fiN soFi) []
noncomputable def F19 (n : Nat) : Ans := fragN (TTa []) (soR [] []) 1 lwE Tryz.f5.results.toList lw19 [0, 7, 10, 11, 12] [slT n, avP, a1T, a2T, .n 7 0] (hpT soFi c40) (paT n 0) soFi c40 (fiN soFi) (lapp (avL 41) [.lit 0])
noncomputable def allB (f : Nat → Nat → Ans) : Ans := allA (fun n => allA (fun i => f n i) n) 13
theorem allB_yes {f : Nat → Nat → Ans} (h : allB f = Ans.yes) {n i : Nat} (hn : n < 13) (hi : i < n) : f n i = Ans.yes := allA_yes (allA_yes h n hn) i hi
end
end Go.Proofs.YteefpemaeecicaaGreatDoor.Ev
