/- Go's begin and end in each phase. No condition. -/
import Derived.Test.YteefpemaeecicaaGreatDoorExWh
import Derived.KernelRfl
open Go Go.RowKit Go.Proofs
namespace Go.Proofs.YteefpemaeecicaaGreatDoor.Ev
set_option linter.unusedVariables false
set_option linter.unusedSimpArgs false
set_option linter.constructorNameAsVariable false
noncomputable section
set_option maxRecDepth 1000000
/-- Go's pieces in a phase: its begin, its test, a step, its stop, its end. -/
noncomputable def FC (k : Nat) : Ans := fragN (TTa []) (whH [] []) 1 goE Tryz.f14.results.toList go0 [0, 1] [avP, avN] (hpT (whS k) c40) pat3 (whT k) c40 (sbP [(⟨.d0, .d0, .d20⟩, ⟨.d0, .d1, .d0⟩)] (whT k)) []
noncomputable def FD (k : Nat) : Ans := fragN (TTa []) (whH [] []) 1 goE Tryz.f14.results.toList go1 [0, 1, 4] [avP, avN, avQ] (hpT (whT k) c40) pat3 (whT k) c40 (sbP [] (whT k)) []
noncomputable def FE (tk : List As) (p q : Nat) (ps : List (Nm × Nm)) (σ : List Ex) : Ans := fragN (TTa tk) (whH tk []) 1 goE Tryz.f14.results.toList goB [0, 1, 4] [avP, avN, avQ] (hpT (whT p) c40) pat3 (whT q) c40 ps σ
noncomputable def FX (tk : List As) (k : Nat) : Ans := fragX (TTa tk) (whH tk []) 1 goE Tryz.f14.results.toList goB [0, 1, 4] [avP, avN, avQ] (hpT (whT k) c40) 0 pat3 (whT k) c40 (sbP [] (whT k)) []
noncomputable def FR (k : Nat) (V : AV) (F : List (Nm × Blk)) (ps : List (Nm × Nm)) (σ : List Ex) : Ans := fragR (TTa []) (whH [] []) 1 goE Tryz.f14.results.toList go9 [0, 1, 4] [avP, avN, avQ] (hpT (whT k) c40) V F c40 ps σ
noncomputable def stB (k : Nat) (ps : List (Nm × Nm)) : Bool := (whN k).all fun n => (lk ps n).any fun m => Nm.beq m n
theorem wh_c0 : FC 0 = Ans.yes := by kernel_rfl
theorem wh_c1 : FC 1 = Ans.yes := by kernel_rfl
theorem wh_c2 : FC 2 = Ans.yes := by kernel_rfl
theorem wh_c3 : FC 3 = Ans.yes := by kernel_rfl
theorem wh_c4 : FC 4 = Ans.yes := by kernel_rfl
theorem wh_c5 : FC 5 = Ans.yes := by kernel_rfl
theorem wh_c6 : FC 6 = Ans.yes := by kernel_rfl
theorem wh_c7 : FC 7 = Ans.yes := by kernel_rfl
theorem wh_c8 : FC 8 = Ans.yes := by kernel_rfl
theorem wh_c9 : FC 9 = Ans.yes := by kernel_rfl
theorem wh_c10 : FC 10 = Ans.yes := by kernel_rfl
theorem wh_c11 : FC 11 = Ans.yes := by kernel_rfl
theorem wh_c12 : FC 12 = Ans.yes := by kernel_rfl
theorem wh_c13 : FC 13 = Ans.yes := by kernel_rfl
theorem wh_c14 : FC 14 = Ans.yes := by kernel_rfl
theorem wh_c15 : FC 15 = Ans.yes := by kernel_rfl
theorem wh_c16 : FC 16 = Ans.yes := by kernel_rfl
theorem wh_c17 : FC 17 = Ans.yes := by kernel_rfl
theorem wh_c18 : FC 18 = Ans.yes := by kernel_rfl
theorem wh_c19 : FC 19 = Ans.yes := by kernel_rfl
theorem wh_c20 : FC 20 = Ans.yes := by kernel_rfl
theorem wh_c21 : FC 21 = Ans.yes := by kernel_rfl
theorem wh_c22 : FC 22 = Ans.yes := by kernel_rfl
theorem wh_c23 : FC 23 = Ans.yes := by kernel_rfl
theorem wh_c24 : FC 24 = Ans.yes := by kernel_rfl
theorem wh_d0 : FD 0 = Ans.yes := by kernel_rfl
theorem wh_d1 : FD 1 = Ans.yes := by kernel_rfl
theorem wh_d2 : FD 2 = Ans.yes := by kernel_rfl
theorem wh_d3 : FD 3 = Ans.yes := by kernel_rfl
theorem wh_d4 : FD 4 = Ans.yes := by kernel_rfl
theorem wh_d5 : FD 5 = Ans.yes := by kernel_rfl
theorem wh_d6 : FD 6 = Ans.yes := by kernel_rfl
theorem wh_d7 : FD 7 = Ans.yes := by kernel_rfl
theorem wh_d8 : FD 8 = Ans.yes := by kernel_rfl
theorem wh_d9 : FD 9 = Ans.yes := by kernel_rfl
theorem wh_d10 : FD 10 = Ans.yes := by kernel_rfl
theorem wh_d11 : FD 11 = Ans.yes := by kernel_rfl
theorem wh_d12 : FD 12 = Ans.yes := by kernel_rfl
theorem wh_d13 : FD 13 = Ans.yes := by kernel_rfl
theorem wh_d14 : FD 14 = Ans.yes := by kernel_rfl
theorem wh_d15 : FD 15 = Ans.yes := by kernel_rfl
theorem wh_d16 : FD 16 = Ans.yes := by kernel_rfl
theorem wh_d17 : FD 17 = Ans.yes := by kernel_rfl
theorem wh_d18 : FD 18 = Ans.yes := by kernel_rfl
theorem wh_d19 : FD 19 = Ans.yes := by kernel_rfl
theorem wh_d20 : FD 20 = Ans.yes := by kernel_rfl
theorem wh_d21 : FD 21 = Ans.yes := by kernel_rfl
theorem wh_d22 : FD 22 = Ans.yes := by kernel_rfl
theorem wh_d23 : FD 23 = Ans.yes := by kernel_rfl
theorem wh_d24 : FD 24 = Ans.yes := by kernel_rfl
noncomputable def tkNo : List As := [⟨4, 3, .var 3, .lit 0, false⟩]
noncomputable def tkYe : List As := [⟨4, 3, .var 3, .lit 0, true⟩]
theorem wh_x0 : FX tkNo 0 = Ans.yes := by kernel_rfl
theorem wh_x1 : FX tkNo 1 = Ans.yes := by kernel_rfl
theorem wh_x2 : FX tkNo 2 = Ans.yes := by kernel_rfl
theorem wh_x3 : FX tkNo 3 = Ans.yes := by kernel_rfl
theorem wh_x4 : FX tkNo 4 = Ans.yes := by kernel_rfl
theorem wh_x5 : FX tkNo 5 = Ans.yes := by kernel_rfl
theorem wh_x6 : FX tkNo 6 = Ans.yes := by kernel_rfl
theorem wh_x7 : FX tkNo 7 = Ans.yes := by kernel_rfl
theorem wh_x8 : FX tkNo 8 = Ans.yes := by kernel_rfl
theorem wh_x9 : FX tkNo 9 = Ans.yes := by kernel_rfl
theorem wh_x10 : FX tkNo 10 = Ans.yes := by kernel_rfl
theorem wh_x11 : FX tkNo 11 = Ans.yes := by kernel_rfl
theorem wh_x12 : FX tkNo 12 = Ans.yes := by kernel_rfl
theorem wh_x13 : FX tkNo 13 = Ans.yes := by kernel_rfl
theorem wh_x14 : FX tkNo 14 = Ans.yes := by kernel_rfl
theorem wh_x15 : FX tkNo 15 = Ans.yes := by kernel_rfl
theorem wh_x16 : FX tkNo 16 = Ans.yes := by kernel_rfl
theorem wh_x17 : FX tkNo 17 = Ans.yes := by kernel_rfl
theorem wh_x18 : FX tkNo 18 = Ans.yes := by kernel_rfl
theorem wh_x19 : FX tkNo 19 = Ans.yes := by kernel_rfl
theorem wh_x20 : FX tkNo 20 = Ans.yes := by kernel_rfl
theorem wh_x21 : FX tkNo 21 = Ans.yes := by kernel_rfl
theorem wh_x22 : FX tkNo 22 = Ans.yes := by kernel_rfl
theorem wh_x23 : FX tkNo 23 = Ans.yes := by kernel_rfl
theorem wh_x24 : FX tkNo 24 = Ans.yes := by kernel_rfl
theorem wh_y18 : FX tkYe 18 = Ans.yes := by kernel_rfl
theorem wh_y24 : FX tkYe 24 = Ans.yes := by kernel_rfl
theorem wh_r0 : FR 0 .u (whF 0) (sbP [] (whF 0)) whO1 = Ans.yes := by kernel_rfl
theorem wh_r1 : FR 1 .u (whF 1) (sbP [] (whF 1)) whO1 = Ans.yes := by kernel_rfl
theorem wh_r2 : FR 2 .u (whF 2) (sbP [] (whF 2)) whO1 = Ans.yes := by kernel_rfl
theorem wh_r3 : FR 3 .u (whF 3) (sbP [] (whF 3)) whO1 = Ans.yes := by kernel_rfl
theorem wh_r4 : FR 4 .u (whF 4) (sbP [] (whF 4)) whO1 = Ans.yes := by kernel_rfl
theorem wh_r5 : FR 5 .u (whF 5) (sbP [] (whF 5)) whO1 = Ans.yes := by kernel_rfl
theorem wh_r6 : FR 6 .u (whF 6) (sbP [] (whF 6)) whO1 = Ans.yes := by kernel_rfl
theorem wh_r7 : FR 7 .u (whF 7) (sbP [] (whF 7)) whO1 = Ans.yes := by kernel_rfl
theorem wh_r8 : FR 8 .u (whF 8) (sbP [] (whF 8)) whO1 = Ans.yes := by kernel_rfl
theorem wh_r9 : FR 9 .u (whF 9) (sbP [] (whF 9)) whO1 = Ans.yes := by kernel_rfl
theorem wh_r10 : FR 10 .u (whF 10) (sbP [] (whF 10)) whO1 = Ans.yes := by kernel_rfl
theorem wh_r11 : FR 11 .u (whF 11) (sbP [] (whF 11)) whO1 = Ans.yes := by kernel_rfl
theorem wh_r12 : FR 12 .u (whF 12) (sbP [] (whF 12)) whO1 = Ans.yes := by kernel_rfl
theorem wh_r13 : FR 13 .u (whF 13) (sbP [] (whF 13)) whO1 = Ans.yes := by kernel_rfl
theorem wh_r14 : FR 14 .u (whF 14) (sbP [] (whF 14)) whO1 = Ans.yes := by kernel_rfl
theorem wh_r15 : FR 15 .u (whF 15) (sbP [] (whF 15)) whO1 = Ans.yes := by kernel_rfl
theorem wh_r16 : FR 16 .u (whF 16) (sbP [] (whF 16)) whO1 = Ans.yes := by kernel_rfl
theorem wh_r17 : FR 17 .u (whF 17) (sbP [] (whF 17)) whO1 = Ans.yes := by kernel_rfl
theorem wh_r18 : FR 18 .u (whF 18) (sbP [] (whF 18)) whO1 = Ans.yes := by kernel_rfl
theorem wh_r19 : FR 19 .u (whF 19) (sbP [] (whF 19)) whO1 = Ans.yes := by kernel_rfl
theorem wh_r20 : FR 20 .u (whF 20) (sbP [] (whF 20)) whO1 = Ans.yes := by kernel_rfl
theorem wh_r21 : FR 21 .u (whF 21) (sbP [] (whF 21)) whO1 = Ans.yes := by kernel_rfl
theorem wh_r22 : FR 22 .u (whF 22) (sbP [] (whF 22)) whO1 = Ans.yes := by kernel_rfl
theorem wh_r23 : FR 23 .u (whF 23) (sbP [] (whF 23)) whO1 = Ans.yes := by kernel_rfl
theorem wh_r24 : FR 24 .u (whF 24) (sbP [] (whF 24)) whO1 = Ans.yes := by kernel_rfl
noncomputable def psD : List (Nm × Nm) := sbP [(⟨.d0, .d0, .d34⟩, ⟨.d0, .d0, .d30⟩), (⟨.d0, .d0, .d35⟩, ⟨.d0, .d0, .d32⟩), (⟨.d0, .d0, .d36⟩, ⟨.d0, .d1, .d3⟩)] whD
noncomputable def psD24 : List (Nm × Nm) := sbP [(⟨.d0, .d0, .d34⟩, ⟨.d0, .d0, .d30⟩), (⟨.d0, .d0, .d35⟩, ⟨.d0, .d0, .d32⟩), (⟨.d0, .d0, .d36⟩, ⟨.d0, .d1, .d3⟩)] whD24
theorem wh_q24 : FR 24 whV whD24 psD24 whO2 = Ans.yes := by kernel_rfl
theorem wh_q18 : FR 18 whV whD psD whO2 = Ans.yes := by kernel_rfl
theorem st_c0 : stB 0 (sbP [(⟨.d0, .d0, .d20⟩, ⟨.d0, .d1, .d0⟩)] (whT 0)) = true := by kernel_rfl
theorem st_i0 : stB 0 (sbP [] (whT 0)) = true := by kernel_rfl
theorem st_f0 : stB 0 (sbP [] (whF 0)) = true := by kernel_rfl
theorem nm_f0 : namesT (whF 0) (sbP [] (whF 0)) = true := by kernel_rfl
theorem gd_0 : goodT (whS 0) c40 = true := by kernel_rfl
theorem gf_0 : goodT (whF 0) c40 = true := by kernel_rfl
theorem st_c1 : stB 1 (sbP [(⟨.d0, .d0, .d20⟩, ⟨.d0, .d1, .d0⟩)] (whT 1)) = true := by kernel_rfl
theorem st_i1 : stB 1 (sbP [] (whT 1)) = true := by kernel_rfl
theorem st_f1 : stB 1 (sbP [] (whF 1)) = true := by kernel_rfl
theorem nm_f1 : namesT (whF 1) (sbP [] (whF 1)) = true := by kernel_rfl
theorem gd_1 : goodT (whS 1) c40 = true := by kernel_rfl
theorem gf_1 : goodT (whF 1) c40 = true := by kernel_rfl
theorem st_c2 : stB 2 (sbP [(⟨.d0, .d0, .d20⟩, ⟨.d0, .d1, .d0⟩)] (whT 2)) = true := by kernel_rfl
theorem st_i2 : stB 2 (sbP [] (whT 2)) = true := by kernel_rfl
theorem st_f2 : stB 2 (sbP [] (whF 2)) = true := by kernel_rfl
theorem nm_f2 : namesT (whF 2) (sbP [] (whF 2)) = true := by kernel_rfl
theorem gd_2 : goodT (whS 2) c40 = true := by kernel_rfl
theorem gf_2 : goodT (whF 2) c40 = true := by kernel_rfl
theorem st_c3 : stB 3 (sbP [(⟨.d0, .d0, .d20⟩, ⟨.d0, .d1, .d0⟩)] (whT 3)) = true := by kernel_rfl
theorem st_i3 : stB 3 (sbP [] (whT 3)) = true := by kernel_rfl
theorem st_f3 : stB 3 (sbP [] (whF 3)) = true := by kernel_rfl
theorem nm_f3 : namesT (whF 3) (sbP [] (whF 3)) = true := by kernel_rfl
theorem gd_3 : goodT (whS 3) c40 = true := by kernel_rfl
theorem gf_3 : goodT (whF 3) c40 = true := by kernel_rfl
theorem st_c4 : stB 4 (sbP [(⟨.d0, .d0, .d20⟩, ⟨.d0, .d1, .d0⟩)] (whT 4)) = true := by kernel_rfl
theorem st_i4 : stB 4 (sbP [] (whT 4)) = true := by kernel_rfl
theorem st_f4 : stB 4 (sbP [] (whF 4)) = true := by kernel_rfl
theorem nm_f4 : namesT (whF 4) (sbP [] (whF 4)) = true := by kernel_rfl
theorem gd_4 : goodT (whS 4) c40 = true := by kernel_rfl
theorem gf_4 : goodT (whF 4) c40 = true := by kernel_rfl
theorem st_c5 : stB 5 (sbP [(⟨.d0, .d0, .d20⟩, ⟨.d0, .d1, .d0⟩)] (whT 5)) = true := by kernel_rfl
theorem st_i5 : stB 5 (sbP [] (whT 5)) = true := by kernel_rfl
theorem st_f5 : stB 5 (sbP [] (whF 5)) = true := by kernel_rfl
theorem nm_f5 : namesT (whF 5) (sbP [] (whF 5)) = true := by kernel_rfl
theorem gd_5 : goodT (whS 5) c40 = true := by kernel_rfl
theorem gf_5 : goodT (whF 5) c40 = true := by kernel_rfl
theorem st_c6 : stB 6 (sbP [(⟨.d0, .d0, .d20⟩, ⟨.d0, .d1, .d0⟩)] (whT 6)) = true := by kernel_rfl
theorem st_i6 : stB 6 (sbP [] (whT 6)) = true := by kernel_rfl
theorem st_f6 : stB 6 (sbP [] (whF 6)) = true := by kernel_rfl
theorem nm_f6 : namesT (whF 6) (sbP [] (whF 6)) = true := by kernel_rfl
theorem gd_6 : goodT (whS 6) c40 = true := by kernel_rfl
theorem gf_6 : goodT (whF 6) c40 = true := by kernel_rfl
theorem st_c7 : stB 7 (sbP [(⟨.d0, .d0, .d20⟩, ⟨.d0, .d1, .d0⟩)] (whT 7)) = true := by kernel_rfl
theorem st_i7 : stB 7 (sbP [] (whT 7)) = true := by kernel_rfl
theorem st_f7 : stB 7 (sbP [] (whF 7)) = true := by kernel_rfl
theorem nm_f7 : namesT (whF 7) (sbP [] (whF 7)) = true := by kernel_rfl
theorem gd_7 : goodT (whS 7) c40 = true := by kernel_rfl
theorem gf_7 : goodT (whF 7) c40 = true := by kernel_rfl
theorem st_c8 : stB 8 (sbP [(⟨.d0, .d0, .d20⟩, ⟨.d0, .d1, .d0⟩)] (whT 8)) = true := by kernel_rfl
theorem st_i8 : stB 8 (sbP [] (whT 8)) = true := by kernel_rfl
theorem st_f8 : stB 8 (sbP [] (whF 8)) = true := by kernel_rfl
theorem nm_f8 : namesT (whF 8) (sbP [] (whF 8)) = true := by kernel_rfl
theorem gd_8 : goodT (whS 8) c40 = true := by kernel_rfl
theorem gf_8 : goodT (whF 8) c40 = true := by kernel_rfl
theorem st_c9 : stB 9 (sbP [(⟨.d0, .d0, .d20⟩, ⟨.d0, .d1, .d0⟩)] (whT 9)) = true := by kernel_rfl
theorem st_i9 : stB 9 (sbP [] (whT 9)) = true := by kernel_rfl
theorem st_f9 : stB 9 (sbP [] (whF 9)) = true := by kernel_rfl
theorem nm_f9 : namesT (whF 9) (sbP [] (whF 9)) = true := by kernel_rfl
theorem gd_9 : goodT (whS 9) c40 = true := by kernel_rfl
theorem gf_9 : goodT (whF 9) c40 = true := by kernel_rfl
theorem st_c10 : stB 10 (sbP [(⟨.d0, .d0, .d20⟩, ⟨.d0, .d1, .d0⟩)] (whT 10)) = true := by kernel_rfl
theorem st_i10 : stB 10 (sbP [] (whT 10)) = true := by kernel_rfl
theorem st_f10 : stB 10 (sbP [] (whF 10)) = true := by kernel_rfl
theorem nm_f10 : namesT (whF 10) (sbP [] (whF 10)) = true := by kernel_rfl
theorem gd_10 : goodT (whS 10) c40 = true := by kernel_rfl
theorem gf_10 : goodT (whF 10) c40 = true := by kernel_rfl
theorem st_c11 : stB 11 (sbP [(⟨.d0, .d0, .d20⟩, ⟨.d0, .d1, .d0⟩)] (whT 11)) = true := by kernel_rfl
theorem st_i11 : stB 11 (sbP [] (whT 11)) = true := by kernel_rfl
theorem st_f11 : stB 11 (sbP [] (whF 11)) = true := by kernel_rfl
theorem nm_f11 : namesT (whF 11) (sbP [] (whF 11)) = true := by kernel_rfl
theorem gd_11 : goodT (whS 11) c40 = true := by kernel_rfl
theorem gf_11 : goodT (whF 11) c40 = true := by kernel_rfl
theorem st_c12 : stB 12 (sbP [(⟨.d0, .d0, .d20⟩, ⟨.d0, .d1, .d0⟩)] (whT 12)) = true := by kernel_rfl
theorem st_i12 : stB 12 (sbP [] (whT 12)) = true := by kernel_rfl
theorem st_f12 : stB 12 (sbP [] (whF 12)) = true := by kernel_rfl
theorem nm_f12 : namesT (whF 12) (sbP [] (whF 12)) = true := by kernel_rfl
theorem gd_12 : goodT (whS 12) c40 = true := by kernel_rfl
theorem gf_12 : goodT (whF 12) c40 = true := by kernel_rfl
theorem st_c13 : stB 13 (sbP [(⟨.d0, .d0, .d20⟩, ⟨.d0, .d1, .d0⟩)] (whT 13)) = true := by kernel_rfl
theorem st_i13 : stB 13 (sbP [] (whT 13)) = true := by kernel_rfl
theorem st_f13 : stB 13 (sbP [] (whF 13)) = true := by kernel_rfl
theorem nm_f13 : namesT (whF 13) (sbP [] (whF 13)) = true := by kernel_rfl
theorem gd_13 : goodT (whS 13) c40 = true := by kernel_rfl
theorem gf_13 : goodT (whF 13) c40 = true := by kernel_rfl
theorem st_c14 : stB 14 (sbP [(⟨.d0, .d0, .d20⟩, ⟨.d0, .d1, .d0⟩)] (whT 14)) = true := by kernel_rfl
theorem st_i14 : stB 14 (sbP [] (whT 14)) = true := by kernel_rfl
theorem st_f14 : stB 14 (sbP [] (whF 14)) = true := by kernel_rfl
theorem nm_f14 : namesT (whF 14) (sbP [] (whF 14)) = true := by kernel_rfl
theorem gd_14 : goodT (whS 14) c40 = true := by kernel_rfl
theorem gf_14 : goodT (whF 14) c40 = true := by kernel_rfl
theorem st_c15 : stB 15 (sbP [(⟨.d0, .d0, .d20⟩, ⟨.d0, .d1, .d0⟩)] (whT 15)) = true := by kernel_rfl
theorem st_i15 : stB 15 (sbP [] (whT 15)) = true := by kernel_rfl
theorem st_f15 : stB 15 (sbP [] (whF 15)) = true := by kernel_rfl
theorem nm_f15 : namesT (whF 15) (sbP [] (whF 15)) = true := by kernel_rfl
theorem gd_15 : goodT (whS 15) c40 = true := by kernel_rfl
theorem gf_15 : goodT (whF 15) c40 = true := by kernel_rfl
theorem st_c16 : stB 16 (sbP [(⟨.d0, .d0, .d20⟩, ⟨.d0, .d1, .d0⟩)] (whT 16)) = true := by kernel_rfl
theorem st_i16 : stB 16 (sbP [] (whT 16)) = true := by kernel_rfl
theorem st_f16 : stB 16 (sbP [] (whF 16)) = true := by kernel_rfl
theorem nm_f16 : namesT (whF 16) (sbP [] (whF 16)) = true := by kernel_rfl
theorem gd_16 : goodT (whS 16) c40 = true := by kernel_rfl
theorem gf_16 : goodT (whF 16) c40 = true := by kernel_rfl
theorem st_c17 : stB 17 (sbP [(⟨.d0, .d0, .d20⟩, ⟨.d0, .d1, .d0⟩)] (whT 17)) = true := by kernel_rfl
theorem st_i17 : stB 17 (sbP [] (whT 17)) = true := by kernel_rfl
theorem st_f17 : stB 17 (sbP [] (whF 17)) = true := by kernel_rfl
theorem nm_f17 : namesT (whF 17) (sbP [] (whF 17)) = true := by kernel_rfl
theorem gd_17 : goodT (whS 17) c40 = true := by kernel_rfl
theorem gf_17 : goodT (whF 17) c40 = true := by kernel_rfl
theorem st_c18 : stB 18 (sbP [(⟨.d0, .d0, .d20⟩, ⟨.d0, .d1, .d0⟩)] (whT 18)) = true := by kernel_rfl
theorem st_i18 : stB 18 (sbP [] (whT 18)) = true := by kernel_rfl
theorem st_f18 : stB 18 (sbP [] (whF 18)) = true := by kernel_rfl
theorem nm_f18 : namesT (whF 18) (sbP [] (whF 18)) = true := by kernel_rfl
theorem gd_18 : goodT (whS 18) c40 = true := by kernel_rfl
theorem gf_18 : goodT (whF 18) c40 = true := by kernel_rfl
theorem st_c19 : stB 19 (sbP [(⟨.d0, .d0, .d20⟩, ⟨.d0, .d1, .d0⟩)] (whT 19)) = true := by kernel_rfl
theorem st_i19 : stB 19 (sbP [] (whT 19)) = true := by kernel_rfl
theorem st_f19 : stB 19 (sbP [] (whF 19)) = true := by kernel_rfl
theorem nm_f19 : namesT (whF 19) (sbP [] (whF 19)) = true := by kernel_rfl
theorem gd_19 : goodT (whS 19) c40 = true := by kernel_rfl
theorem gf_19 : goodT (whF 19) c40 = true := by kernel_rfl
theorem st_c20 : stB 20 (sbP [(⟨.d0, .d0, .d20⟩, ⟨.d0, .d1, .d0⟩)] (whT 20)) = true := by kernel_rfl
theorem st_i20 : stB 20 (sbP [] (whT 20)) = true := by kernel_rfl
theorem st_f20 : stB 20 (sbP [] (whF 20)) = true := by kernel_rfl
theorem nm_f20 : namesT (whF 20) (sbP [] (whF 20)) = true := by kernel_rfl
theorem gd_20 : goodT (whS 20) c40 = true := by kernel_rfl
theorem gf_20 : goodT (whF 20) c40 = true := by kernel_rfl
theorem st_c21 : stB 21 (sbP [(⟨.d0, .d0, .d20⟩, ⟨.d0, .d1, .d0⟩)] (whT 21)) = true := by kernel_rfl
theorem st_i21 : stB 21 (sbP [] (whT 21)) = true := by kernel_rfl
theorem st_f21 : stB 21 (sbP [] (whF 21)) = true := by kernel_rfl
theorem nm_f21 : namesT (whF 21) (sbP [] (whF 21)) = true := by kernel_rfl
theorem gd_21 : goodT (whS 21) c40 = true := by kernel_rfl
theorem gf_21 : goodT (whF 21) c40 = true := by kernel_rfl
theorem st_c22 : stB 22 (sbP [(⟨.d0, .d0, .d20⟩, ⟨.d0, .d1, .d0⟩)] (whT 22)) = true := by kernel_rfl
theorem st_i22 : stB 22 (sbP [] (whT 22)) = true := by kernel_rfl
theorem st_f22 : stB 22 (sbP [] (whF 22)) = true := by kernel_rfl
theorem nm_f22 : namesT (whF 22) (sbP [] (whF 22)) = true := by kernel_rfl
theorem gd_22 : goodT (whS 22) c40 = true := by kernel_rfl
theorem gf_22 : goodT (whF 22) c40 = true := by kernel_rfl
theorem st_c23 : stB 23 (sbP [(⟨.d0, .d0, .d20⟩, ⟨.d0, .d1, .d0⟩)] (whT 23)) = true := by kernel_rfl
theorem st_i23 : stB 23 (sbP [] (whT 23)) = true := by kernel_rfl
theorem st_f23 : stB 23 (sbP [] (whF 23)) = true := by kernel_rfl
theorem nm_f23 : namesT (whF 23) (sbP [] (whF 23)) = true := by kernel_rfl
theorem gd_23 : goodT (whS 23) c40 = true := by kernel_rfl
theorem gf_23 : goodT (whF 23) c40 = true := by kernel_rfl
theorem st_c24 : stB 24 (sbP [(⟨.d0, .d0, .d20⟩, ⟨.d0, .d1, .d0⟩)] (whT 24)) = true := by kernel_rfl
theorem st_i24 : stB 24 (sbP [] (whT 24)) = true := by kernel_rfl
theorem st_f24 : stB 24 (sbP [] (whF 24)) = true := by kernel_rfl
theorem nm_f24 : namesT (whF 24) (sbP [] (whF 24)) = true := by kernel_rfl
theorem gd_24 : goodT (whS 24) c40 = true := by kernel_rfl
theorem gf_24 : goodT (whF 24) c40 = true := by kernel_rfl
theorem has_0 : ((whN 0).all fun n => (whS 0).any fun x => Nm.beq x.1 n) = true := by kernel_rfl
theorem has_1 : ((whN 1).all fun n => (whS 1).any fun x => Nm.beq x.1 n) = true := by kernel_rfl
theorem has_2 : ((whN 2).all fun n => (whS 2).any fun x => Nm.beq x.1 n) = true := by kernel_rfl
theorem has_3 : ((whN 3).all fun n => (whS 3).any fun x => Nm.beq x.1 n) = true := by kernel_rfl
theorem has_4 : ((whN 4).all fun n => (whS 4).any fun x => Nm.beq x.1 n) = true := by kernel_rfl
theorem has_5 : ((whN 5).all fun n => (whS 5).any fun x => Nm.beq x.1 n) = true := by kernel_rfl
theorem has_6 : ((whN 6).all fun n => (whS 6).any fun x => Nm.beq x.1 n) = true := by kernel_rfl
theorem has_7 : ((whN 7).all fun n => (whS 7).any fun x => Nm.beq x.1 n) = true := by kernel_rfl
theorem has_8 : ((whN 8).all fun n => (whS 8).any fun x => Nm.beq x.1 n) = true := by kernel_rfl
theorem has_9 : ((whN 9).all fun n => (whS 9).any fun x => Nm.beq x.1 n) = true := by kernel_rfl
theorem has_10 : ((whN 10).all fun n => (whS 10).any fun x => Nm.beq x.1 n) = true := by kernel_rfl
theorem has_11 : ((whN 11).all fun n => (whS 11).any fun x => Nm.beq x.1 n) = true := by kernel_rfl
theorem has_12 : ((whN 12).all fun n => (whS 12).any fun x => Nm.beq x.1 n) = true := by kernel_rfl
theorem has_13 : ((whN 13).all fun n => (whS 13).any fun x => Nm.beq x.1 n) = true := by kernel_rfl
theorem has_14 : ((whN 14).all fun n => (whS 14).any fun x => Nm.beq x.1 n) = true := by kernel_rfl
theorem has_15 : ((whN 15).all fun n => (whS 15).any fun x => Nm.beq x.1 n) = true := by kernel_rfl
theorem has_16 : ((whN 16).all fun n => (whS 16).any fun x => Nm.beq x.1 n) = true := by kernel_rfl
theorem has_17 : ((whN 17).all fun n => (whS 17).any fun x => Nm.beq x.1 n) = true := by kernel_rfl
theorem has_18 : ((whN 18).all fun n => (whS 18).any fun x => Nm.beq x.1 n) = true := by kernel_rfl
theorem has_19 : ((whN 19).all fun n => (whS 19).any fun x => Nm.beq x.1 n) = true := by kernel_rfl
theorem has_20 : ((whN 20).all fun n => (whS 20).any fun x => Nm.beq x.1 n) = true := by kernel_rfl
theorem has_21 : ((whN 21).all fun n => (whS 21).any fun x => Nm.beq x.1 n) = true := by kernel_rfl
theorem has_22 : ((whN 22).all fun n => (whS 22).any fun x => Nm.beq x.1 n) = true := by kernel_rfl
theorem has_23 : ((whN 23).all fun n => (whS 23).any fun x => Nm.beq x.1 n) = true := by kernel_rfl
theorem has_24 : ((whN 24).all fun n => (whS 24).any fun x => Nm.beq x.1 n) = true := by kernel_rfl
theorem wh_c (p : Nat) (h : p ≤ 24) : fragN (TTa []) (whH [] []) 1 goE Tryz.f14.results.toList go0 [0, 1] [avP, avN] (hpT (whS p) c40) pat3 (whT p) c40 (sbP [(⟨.d0, .d0, .d20⟩, ⟨.d0, .d1, .d0⟩)] (whT p)) [] = .yes := by
  match p, h with
  | 0, _ => exact wh_c0
  | 1, _ => exact wh_c1
  | 2, _ => exact wh_c2
  | 3, _ => exact wh_c3
  | 4, _ => exact wh_c4
  | 5, _ => exact wh_c5
  | 6, _ => exact wh_c6
  | 7, _ => exact wh_c7
  | 8, _ => exact wh_c8
  | 9, _ => exact wh_c9
  | 10, _ => exact wh_c10
  | 11, _ => exact wh_c11
  | 12, _ => exact wh_c12
  | 13, _ => exact wh_c13
  | 14, _ => exact wh_c14
  | 15, _ => exact wh_c15
  | 16, _ => exact wh_c16
  | 17, _ => exact wh_c17
  | 18, _ => exact wh_c18
  | 19, _ => exact wh_c19
  | 20, _ => exact wh_c20
  | 21, _ => exact wh_c21
  | 22, _ => exact wh_c22
  | 23, _ => exact wh_c23
  | 24, _ => exact wh_c24
  | n + 25, h => omega
theorem wh_d (p : Nat) (h : p ≤ 24) : fragN (TTa []) (whH [] []) 1 goE Tryz.f14.results.toList go1 [0, 1, 4] [avP, avN, avQ] (hpT (whT p) c40) pat3 (whT p) c40 (sbP [] (whT p)) [] = .yes := by
  match p, h with
  | 0, _ => exact wh_d0
  | 1, _ => exact wh_d1
  | 2, _ => exact wh_d2
  | 3, _ => exact wh_d3
  | 4, _ => exact wh_d4
  | 5, _ => exact wh_d5
  | 6, _ => exact wh_d6
  | 7, _ => exact wh_d7
  | 8, _ => exact wh_d8
  | 9, _ => exact wh_d9
  | 10, _ => exact wh_d10
  | 11, _ => exact wh_d11
  | 12, _ => exact wh_d12
  | 13, _ => exact wh_d13
  | 14, _ => exact wh_d14
  | 15, _ => exact wh_d15
  | 16, _ => exact wh_d16
  | 17, _ => exact wh_d17
  | 18, _ => exact wh_d18
  | 19, _ => exact wh_d19
  | 20, _ => exact wh_d20
  | 21, _ => exact wh_d21
  | 22, _ => exact wh_d22
  | 23, _ => exact wh_d23
  | 24, _ => exact wh_d24
  | n + 25, h => omega
theorem wh_x (p : Nat) (h : p ≤ 24) : fragX (TTa tkNo) (whH tkNo []) 1 goE Tryz.f14.results.toList goB [0, 1, 4] [avP, avN, avQ] (hpT (whT p) c40) 0 pat3 (whT p) c40 (sbP [] (whT p)) [] = .yes := by
  match p, h with
  | 0, _ => exact wh_x0
  | 1, _ => exact wh_x1
  | 2, _ => exact wh_x2
  | 3, _ => exact wh_x3
  | 4, _ => exact wh_x4
  | 5, _ => exact wh_x5
  | 6, _ => exact wh_x6
  | 7, _ => exact wh_x7
  | 8, _ => exact wh_x8
  | 9, _ => exact wh_x9
  | 10, _ => exact wh_x10
  | 11, _ => exact wh_x11
  | 12, _ => exact wh_x12
  | 13, _ => exact wh_x13
  | 14, _ => exact wh_x14
  | 15, _ => exact wh_x15
  | 16, _ => exact wh_x16
  | 17, _ => exact wh_x17
  | 18, _ => exact wh_x18
  | 19, _ => exact wh_x19
  | 20, _ => exact wh_x20
  | 21, _ => exact wh_x21
  | 22, _ => exact wh_x22
  | 23, _ => exact wh_x23
  | 24, _ => exact wh_x24
  | n + 25, h => omega
theorem wh_r (p : Nat) (h : p ≤ 24) : fragR (TTa []) (whH [] []) 1 goE Tryz.f14.results.toList go9 [0, 1, 4] [avP, avN, avQ] (hpT (whT p) c40) .u (whF p) c40 (sbP [] (whF p)) whO1 = .yes := by
  match p, h with
  | 0, _ => exact wh_r0
  | 1, _ => exact wh_r1
  | 2, _ => exact wh_r2
  | 3, _ => exact wh_r3
  | 4, _ => exact wh_r4
  | 5, _ => exact wh_r5
  | 6, _ => exact wh_r6
  | 7, _ => exact wh_r7
  | 8, _ => exact wh_r8
  | 9, _ => exact wh_r9
  | 10, _ => exact wh_r10
  | 11, _ => exact wh_r11
  | 12, _ => exact wh_r12
  | 13, _ => exact wh_r13
  | 14, _ => exact wh_r14
  | 15, _ => exact wh_r15
  | 16, _ => exact wh_r16
  | 17, _ => exact wh_r17
  | 18, _ => exact wh_r18
  | 19, _ => exact wh_r19
  | 20, _ => exact wh_r20
  | 21, _ => exact wh_r21
  | 22, _ => exact wh_r22
  | 23, _ => exact wh_r23
  | 24, _ => exact wh_r24
  | n + 25, h => omega
theorem stay_c (p : Nat) (h : p ≤ 24) : ((whN p).all fun n => (lk (sbP [(⟨.d0, .d0, .d20⟩, ⟨.d0, .d1, .d0⟩)] (whT p)) n).any fun m => Nm.beq m n) = true := by
  match p, h with
  | 0, _ => exact st_c0
  | 1, _ => exact st_c1
  | 2, _ => exact st_c2
  | 3, _ => exact st_c3
  | 4, _ => exact st_c4
  | 5, _ => exact st_c5
  | 6, _ => exact st_c6
  | 7, _ => exact st_c7
  | 8, _ => exact st_c8
  | 9, _ => exact st_c9
  | 10, _ => exact st_c10
  | 11, _ => exact st_c11
  | 12, _ => exact st_c12
  | 13, _ => exact st_c13
  | 14, _ => exact st_c14
  | 15, _ => exact st_c15
  | 16, _ => exact st_c16
  | 17, _ => exact st_c17
  | 18, _ => exact st_c18
  | 19, _ => exact st_c19
  | 20, _ => exact st_c20
  | 21, _ => exact st_c21
  | 22, _ => exact st_c22
  | 23, _ => exact st_c23
  | 24, _ => exact st_c24
  | n + 25, h => omega
theorem stay_id (p : Nat) (h : p ≤ 24) : ((whN p).all fun n => (lk (sbP [] (whT p)) n).any fun m => Nm.beq m n) = true := by
  match p, h with
  | 0, _ => exact st_i0
  | 1, _ => exact st_i1
  | 2, _ => exact st_i2
  | 3, _ => exact st_i3
  | 4, _ => exact st_i4
  | 5, _ => exact st_i5
  | 6, _ => exact st_i6
  | 7, _ => exact st_i7
  | 8, _ => exact st_i8
  | 9, _ => exact st_i9
  | 10, _ => exact st_i10
  | 11, _ => exact st_i11
  | 12, _ => exact st_i12
  | 13, _ => exact st_i13
  | 14, _ => exact st_i14
  | 15, _ => exact st_i15
  | 16, _ => exact st_i16
  | 17, _ => exact st_i17
  | 18, _ => exact st_i18
  | 19, _ => exact st_i19
  | 20, _ => exact st_i20
  | 21, _ => exact st_i21
  | 22, _ => exact st_i22
  | 23, _ => exact st_i23
  | 24, _ => exact st_i24
  | n + 25, h => omega
theorem stay_f (p : Nat) (h : p ≤ 24) : ((whN p).all fun n => (lk (sbP [] (whF p)) n).any fun m => Nm.beq m n) = true := by
  match p, h with
  | 0, _ => exact st_f0
  | 1, _ => exact st_f1
  | 2, _ => exact st_f2
  | 3, _ => exact st_f3
  | 4, _ => exact st_f4
  | 5, _ => exact st_f5
  | 6, _ => exact st_f6
  | 7, _ => exact st_f7
  | 8, _ => exact st_f8
  | 9, _ => exact st_f9
  | 10, _ => exact st_f10
  | 11, _ => exact st_f11
  | 12, _ => exact st_f12
  | 13, _ => exact st_f13
  | 14, _ => exact st_f14
  | 15, _ => exact st_f15
  | 16, _ => exact st_f16
  | 17, _ => exact st_f17
  | 18, _ => exact st_f18
  | 19, _ => exact st_f19
  | 20, _ => exact st_f20
  | 21, _ => exact st_f21
  | 22, _ => exact st_f22
  | 23, _ => exact st_f23
  | 24, _ => exact st_f24
  | n + 25, h => omega
theorem names_f (p : Nat) (h : p ≤ 24) : namesT (whF p) (sbP [] (whF p)) = true := by
  match p, h with
  | 0, _ => exact nm_f0
  | 1, _ => exact nm_f1
  | 2, _ => exact nm_f2
  | 3, _ => exact nm_f3
  | 4, _ => exact nm_f4
  | 5, _ => exact nm_f5
  | 6, _ => exact nm_f6
  | 7, _ => exact nm_f7
  | 8, _ => exact nm_f8
  | 9, _ => exact nm_f9
  | 10, _ => exact nm_f10
  | 11, _ => exact nm_f11
  | 12, _ => exact nm_f12
  | 13, _ => exact nm_f13
  | 14, _ => exact nm_f14
  | 15, _ => exact nm_f15
  | 16, _ => exact nm_f16
  | 17, _ => exact nm_f17
  | 18, _ => exact nm_f18
  | 19, _ => exact nm_f19
  | 20, _ => exact nm_f20
  | 21, _ => exact nm_f21
  | 22, _ => exact nm_f22
  | 23, _ => exact nm_f23
  | 24, _ => exact nm_f24
  | n + 25, h => omega
theorem good_whS (p : Nat) (h : p ≤ 24) : goodT (whS p) c40 = true := by
  match p, h with
  | 0, _ => exact gd_0
  | 1, _ => exact gd_1
  | 2, _ => exact gd_2
  | 3, _ => exact gd_3
  | 4, _ => exact gd_4
  | 5, _ => exact gd_5
  | 6, _ => exact gd_6
  | 7, _ => exact gd_7
  | 8, _ => exact gd_8
  | 9, _ => exact gd_9
  | 10, _ => exact gd_10
  | 11, _ => exact gd_11
  | 12, _ => exact gd_12
  | 13, _ => exact gd_13
  | 14, _ => exact gd_14
  | 15, _ => exact gd_15
  | 16, _ => exact gd_16
  | 17, _ => exact gd_17
  | 18, _ => exact gd_18
  | 19, _ => exact gd_19
  | 20, _ => exact gd_20
  | 21, _ => exact gd_21
  | 22, _ => exact gd_22
  | 23, _ => exact gd_23
  | 24, _ => exact gd_24
  | n + 25, h => omega
theorem good_whF (p : Nat) (h : p ≤ 24) : goodT (whF p) c40 = true := by
  match p, h with
  | 0, _ => exact gf_0
  | 1, _ => exact gf_1
  | 2, _ => exact gf_2
  | 3, _ => exact gf_3
  | 4, _ => exact gf_4
  | 5, _ => exact gf_5
  | 6, _ => exact gf_6
  | 7, _ => exact gf_7
  | 8, _ => exact gf_8
  | 9, _ => exact gf_9
  | 10, _ => exact gf_10
  | 11, _ => exact gf_11
  | 12, _ => exact gf_12
  | 13, _ => exact gf_13
  | 14, _ => exact gf_14
  | 15, _ => exact gf_15
  | 16, _ => exact gf_16
  | 17, _ => exact gf_17
  | 18, _ => exact gf_18
  | 19, _ => exact gf_19
  | 20, _ => exact gf_20
  | 21, _ => exact gf_21
  | 22, _ => exact gf_22
  | 23, _ => exact gf_23
  | 24, _ => exact gf_24
  | n + 25, h => omega
theorem has_p (p : Nat) (h : p ≤ 24) : ((whN p).all fun n => (whS p).any fun x => Nm.beq x.1 n) = true := by
  match p, h with
  | 0, _ => exact has_0
  | 1, _ => exact has_1
  | 2, _ => exact has_2
  | 3, _ => exact has_3
  | 4, _ => exact has_4
  | 5, _ => exact has_5
  | 6, _ => exact has_6
  | 7, _ => exact has_7
  | 8, _ => exact has_8
  | 9, _ => exact has_9
  | 10, _ => exact has_10
  | 11, _ => exact has_11
  | 12, _ => exact has_12
  | 13, _ => exact has_13
  | 14, _ => exact has_14
  | 15, _ => exact has_15
  | 16, _ => exact has_16
  | 17, _ => exact has_17
  | 18, _ => exact has_18
  | 19, _ => exact has_19
  | 20, _ => exact has_20
  | 21, _ => exact has_21
  | 22, _ => exact has_22
  | 23, _ => exact has_23
  | 24, _ => exact has_24
  | n + 25, h => omega
theorem has_whS (p : Nat) (h : p ≤ 24) : ∀ n ∈ whN p, ∃ b, (n, b) ∈ whS p := by
  intro n hn
  obtain ⟨y, hy, e⟩ := List.any_eq_true.1 (List.all_eq_true.1 (has_p p h) n hn)
  have e : y.1 = n := nm_beq.1 e
  exact ⟨y.2, by rw [← e]; exact hy⟩
end
end Go.Proofs.YteefpemaeecicaaGreatDoor.Ev
