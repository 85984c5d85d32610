/- The ways of the reference's One that count bit by bit. Printed by gen_one3.py. -/
import Derived.Test.YtdcpbjpghgbbiaaDoorIntsRefOne
import Derived.Test.YtdcpbjpghgbbiaaDoorIntsBitMath
import Derived.Test.YtdcpbjpghgbbiaaDoorIntsRefMath
namespace Go.Proofs.YtdcpbjpghgbbiaaDoor
open Go.RowKit
set_option linter.unusedVariables false
set_option maxHeartbeats 4000000
set_option maxRecDepth 100000

theorem wk_small (k m : Int) (hk : k = 1 ∨ k = 2) (h : 0 ≤ m ∧ m ≤ 64) : wk k m = m := by
  rcases hk with rfl | rfl
  · exact s32_id m (by omega) (by omega)
  · rfl
/-- What the counts are, of a number below 2^n. -/
theorem counts (u n : Nat) (hn : n = 32 ∨ n = 64) (h : u < 2 ^ n) :
    0 ≤ (Lib.onesCount u : Int) ∧ (Lib.onesCount u : Int) ≤ 64 ∧ wrap64 (wrap64 (64 - (Lib.bitLen u : Int) - 64) + n) = (n : Int) - Lib.bitLen u ∧ 0 ≤ (n : Int) - Lib.bitLen u ∧ (n : Int) - Lib.bitLen u ≤ 64 ∧ 0 ≤ min (Lib.ctz 64 u : Int) n ∧ min (Lib.ctz 64 u : Int) n ≤ 64 := by
  have a1 := ones_le u n (by omega) h
  have a2 := len_le u n (by omega) h
  refine ⟨by omega, by omega, by unfold wrap64; omega, by omega, by omega, by omega, by omega⟩

def lowAt (u j : Nat) : Int := if u % 2 ^ j = 0 then -1 else (Lib.ctz 64 (u % 2 ^ j) : Int)
def highAt (u j : Nat) : Int := (Lib.bitLen (u % 2 ^ j) : Int) - 1
theorem at_zero (u : Nat) : lowAt u 0 = -1 ∧ highAt u 0 = -1 ∧ Lib.popAux 0 u = 0 := by
  refine ⟨?_, ?_, rfl⟩
  · unfold lowAt; rw [if_pos (by simp [Nat.mod_one])]
  · unfold highAt; rw [show u % 2 ^ 0 = 0 by simp [Nat.mod_one], len_zero]; rfl
theorem at_none (u j : Nat) (h : u / 2 ^ j % 2 = 0) : lowAt u (j + 1) = lowAt u j ∧ highAt u (j + 1) = highAt u j ∧ Lib.popAux (j + 1) u = Lib.popAux j u := by
  have e : u % 2 ^ (j + 1) = u % 2 ^ j := by rw [Nat.mod_pow_succ, h]; simp
  refine ⟨?_, ?_, ?_⟩
  · unfold lowAt; rw [e]
  · unfold highAt; rw [e]
  · rw [pop_succ, h]; rfl
theorem at_one (u j : Nat) (hj : j < 64) (h : u / 2 ^ j % 2 = 1) : lowAt u (j + 1) = (if lowAt u j < 0 then (j : Int) else lowAt u j) ∧ highAt u (j + 1) = j ∧ Lib.popAux (j + 1) u = Lib.popAux j u + 1 := by
  have e : u % 2 ^ (j + 1) = u % 2 ^ j + 2 ^ j := by rw [Nat.mod_pow_succ, h]; simp
  have hr : u % 2 ^ j < 2 ^ j := Nat.mod_lt _ (Nat.two_pow_pos j)
  obtain ⟨h1, h2⟩ := bit_top (u % 2 ^ j) j hr hj
  have hp := Nat.two_pow_pos j
  refine ⟨?_, ?_, by rw [pop_succ, h]⟩
  · unfold lowAt
    rw [e, if_neg (by omega), h2]
    by_cases h0 : u % 2 ^ j = 0
    · rw [if_pos h0, if_pos h0, if_pos (by decide)]
    · rw [if_neg h0, if_neg h0, if_neg (by omega)]
  · unfold highAt
    rw [e, h1]
    omega
theorem at_end (u n : Nat) (hn : n ≤ 64) (h : u < 2 ^ n) : lowAt u n = (if u = 0 then -1 else (Lib.ctz 64 u : Int)) ∧ highAt u n = (Lib.bitLen u : Int) - 1 ∧ Lib.popAux n u = Lib.onesCount u := by
  have e : u % 2 ^ n = u := Nat.mod_eq_of_lt h
  refine ⟨by unfold lowAt; rw [e], by unfold highAt; rw [e], ?_⟩
  have := pop_fuel u n h (64 - n)
  rw [show n + (64 - n) = 64 by omega] at this
  exact this.symm
structure Tied {α : Type} (a b : α) : Prop where
  e : a = b
structure Ends (u n : Nat) : Prop where
  a1 : lowAt u n = (if u = 0 then -1 else (Lib.ctz 64 u : Int))
  a2 : highAt u n = (Lib.bitLen u : Int) - 1
  a3 : Lib.popAux n u = Lib.onesCount u
  l0 : ¬ u = 0 → (Lib.ctz 64 u : Int) < n
  c0 : u = 0 → Lib.ctz 64 u = 64
structure Cnt (u j : Nat) (P L H : Int) : Prop where
  p : P = Lib.popAux j u
  l : L = lowAt u j
  h : H = highAt u j
theorem Cnt.P0 {u j : Nat} {P L H : Int} (c : Cnt u j P L H) : 0 ≤ P := by rw [c.p]; omega
theorem Cnt.P1 {u j : Nat} {P L H : Int} (c : Cnt u j P L H) : P ≤ j := by rw [c.p]; have := pop_le j u; omega
theorem cnt_zero (u : Nat) : Cnt u 0 0 (-1) (-1) := by
  obtain ⟨z1, z2, z3⟩ := at_zero u
  exact ⟨by rw [z3]; rfl, z1.symm, z2.symm⟩
theorem Cnt.none {u j : Nat} {P L H : Int} (c : Cnt u j P L H) (h : u / 2 ^ j % 2 = 0) : Cnt u (j + 1) P L H := by
  obtain ⟨b1, b2, b3⟩ := at_none u j h
  exact ⟨by rw [b3]; exact c.p, by rw [b1]; exact c.l, by rw [b2]; exact c.h⟩
theorem Cnt.one {u j : Nat} {P L H : Int} (c : Cnt u j P L H) (hj : j < 64) (h : u / 2 ^ j % 2 = 1) : Cnt u (j + 1) (P + 1) (if L < 0 then (j : Int) else L) j := by
  obtain ⟨b1, b2, b3⟩ := at_one u j hj h
  exact ⟨by rw [b3, c.p]; rfl, by rw [b1, c.l], b2.symm⟩
theorem Cnt.ends {u j : Nat} {P L H : Int} (c : Cnt u j P L H) : P = Lib.popAux j u ∧ L = lowAt u j ∧ H = highAt u j := ⟨c.p, c.l, c.h⟩
theorem len_le64 (u : Nat) : Lib.bitLen u ≤ 64 := by
  have : ∀ f x, Lib.bitLenAux f x ≤ f := by
    intro f
    induction f with
    | zero => intro x; exact Nat.le_refl _
    | succ f ih =>
      intro x
      show (if x = 0 then 0 else 1 + Lib.bitLenAux f (x / 2)) ≤ f + 1
      split
      · omega
      · have := ih (x / 2); omega
  exact this 64 u
theorem bit_and (u j : Nat) : bits .and .u64 ((u : Int) / 2 ^ j) 1 = ((u / 2 ^ j % 2 : Nat) : Int) := by
  have e1 : (u : Int) / 2 ^ j = ((u / 2 ^ j : Nat) : Int) := by simp
  rw [e1]
  have e : (BitVec.ofInt 64 ((u / 2 ^ j : Nat) : Int) &&& BitVec.ofInt 64 1).toNat = u / 2 ^ j % 2 := by
    rw [BitVec.toNat_and, BitVec.toNat_ofInt, BitVec.toNat_ofInt]
    have e3 : ((1 : Int) % ((2 ^ 64 : Nat) : Int)).toNat = 2 ^ 1 - 1 := by decide
    rw [e3, Nat.and_two_pow_sub_one_eq_mod]
    have : ((2 ^ 64 : Nat) : Int) = 18446744073709551616 := by decide
    rw [this]
    omega
  show IntKind.u64.wrap ((BitVec.ofInt 64 ((u / 2 ^ j : Nat) : Int) &&& BitVec.ofInt 64 1).toNat : Int) = _
  rw [e, u64_w]
  omega
theorem ro_103_1 (op n : Int) (w : World) (hcl : Hid (clsV op = (103, 1))) (hrk : Hid (rkV 103 1 = (1, 1, 1, true))) (hp : Hid (mayB (1, n) = true)) :
    Calls Tryd.prog 16 #[.int .i64 op, .agg #[.int .i64 1, .int .i64 n]] w fun e w' => e = .returned (T1 1 (wk 1 (wrap64 (wrap64 (64 - (Lib.bitLen (low (1, n)).toNat : Int) - 64) + 32 * 1))) true) ∧ Below w.heap.size w w' := by
  obtain ⟨u, hu⟩ := Int.eq_ofNat_of_zero_le (low_nn (1, n))
  have hul : u < 2 ^ 32 := by
    have h1 : low (1, n) < 4294967296 := by rw [low1]; exact Int.emod_lt_of_pos _ (by decide)
    have h2 : (2 : Nat) ^ 32 = 4294967296 := by decide
    omega
  obtain ⟨n1, n2, n3, n4, n5, n6, n7⟩ := counts u 32 (by decide) hul
  obtain ⟨a1, a2, a3⟩ := at_end u 32 (by decide) hul
  have hlt0 : ¬ u = 0 → (Lib.ctz 64 u : Int) < 32 := fun h => by have := ctz_lt u 32 (by decide) h hul; omega
  have hct0 : u = 0 → Lib.ctz 64 u = 64 := fun h => by rw [h]; rfl
  obtain ⟨R, hR⟩ : ∃ R : Int, R = (32 : Int) - Lib.bitLen u := ⟨_, rfl⟩
  have hval : wk 1 (wrap64 (wrap64 (64 - (Lib.bitLen (low (1, n)).toNat : Int) - 64) + 32 * 1)) = R := by
    rw [hu, Int.toNat_natCast, hR]
    rw [show (32 : Int) * 1 = ((32 : Nat) : Int) from by decide, n3]
    exact wk_small 1 _ (by decide) ⟨n4, n5⟩
  rw [hval]
  have HU : Tied (low (1, n)) (u : Int) := ⟨hu⟩
  have HR : Tied R ((32 : Int) - Lib.bitLen u) := ⟨hR⟩
  have HE : Ends u 32 := ⟨a1, a2, a3, hlt0, hct0⟩
  clear hval hu hR n1 n2 n3 n4 n5 n6 n7 a1 a2 a3 hul hlt0 hct0
  go_enter Tryd.func16, Tryd.ntmps16
  go_wp2_with fail
  obtain ⟨tA, tB, c7, tS⟩ := two_blocks w #[.int .i64 1, .int .i64 n] #[.int .i64 0, .int .i64 0] 23
  obtain ⟨w1, hW⟩ : ∃ W, W = (w.alloc (.cells #[.int .i64 1, .int .i64 n] 23)).alloc (.cells #[.int .i64 0, .int .i64 0] 23) := ⟨_, rfl⟩
  have hb : Below w.heap.size w w1 := by rw [hW]; exact (one_block _ _).alloc (by simp) _
  rw [← hW] at tA tB c7 tS ⊢
  clear hW
  have c1 := tA 0
  have c2 := tA 1
  have c3 := tB 0
  have c4 := tB 1
  simp at c1 c2 c3 c4
  clear tA tB
  refine (class_any op w1).mono ?_
  rintro e w0 ⟨rfl, rfl⟩
  rw [hcl.out]
  go_wp2_with fail
  refine (rkinds_any op w1).mono ?_
  rintro e w0 ⟨rfl, rfl⟩
  rw [hcl.out, show rkV _ _ = _ from hrk.out]
  unfold K4
  go_wp2_with fail
  refine (rmay_any _ _ w1).mono ?_
  rintro e w2 ⟨rfl, hb2⟩
  rw [hp.out]
  have d1 := cell_up hb2 (w.heap.size) 0 (by omega) c1
  have d2 := cell_up hb2 (w.heap.size) 1 (by omega) c2
  have d3 := cell_up hb2 (w.heap.size + 1) 0 (by omega) c3
  have d4 := cell_up hb2 (w.heap.size + 1) 1 (by omega) c4
  have d7 : ∀ o, w2.frozen? ⟨w.heap.size + 1, o, none⟩ = false := fun o => froz_up hb2 (w.heap.size + 1) o (by omega) (c7 o)
  have hz2 : w.heap.size + 1 < w2.heap.size := by have := hb2.size; omega
  have hb' := hb.trans (hb2.mono hb.size)
  clear c1 c2 c3 c4 c7 tS
  go_wp2_with fail
  refine (runsigned_any _ _ w2).mono ?_
  rintro e w3 ⟨rfl, hb3⟩
  have f1 := cell_up hb3 (w.heap.size) 0 (by omega) d1
  have f2 := cell_up hb3 (w.heap.size) 1 (by omega) d2
  have f3 := cell_up hb3 (w.heap.size + 1) 0 (by omega) d3
  have f4 := cell_up hb3 (w.heap.size + 1) 1 (by omega) d4
  have f7 : ∀ o, w3.frozen? ⟨w.heap.size + 1, o, none⟩ = false := fun o => froz_up hb3 (w.heap.size + 1) o (by omega) (d7 o)
  have hz3 : w.heap.size + 1 < w3.heap.size := by have := hb3.size; omega
  have hb'' := hb'.trans (hb3.mono hb'.size)
  clear d1 d2 d3 d4 d7 hz2
  rw [HU.e]
  clear HU
  go_wp2_with fail
  go_loopw [13, 14, 15, 16] (fun o lw hi i wr => ∃ (j : Nat) (P L H : Int), j ≤ 32 ∧ i = .int .i64 j ∧ o = .int .i64 P ∧ lw = .int .i64 L ∧ hi = .int .i64 H ∧ Cnt u j P L H ∧ wr = w3) (fun _ _ _ i _ => 32 - (intOf i).toNat)
  case atStart => exact ⟨0, 0, -1, -1, by omega, rfl, rfl, rfl, rfl, cnt_zero u, rfl⟩
  case round =>
    obtain ⟨j, P, L, H, hj, rfl, rfl, rfl, rfl, hc, rfl⟩ := hrel
    have hP := hc.P0
    have hP2 := hc.P1
    have HC := Lib.hid hc
    clear hc
    by_cases hlt : j < 32
    · go_wp2_with fail
      refine (rbits_any _ wr (by omega)).mono ?_
      rintro e w5 ⟨rfl, rfl⟩
      have hba := bit_and u j
      obtain ⟨q, hq⟩ : ∃ q : Nat, u / 2 ^ j = q := ⟨_, rfl⟩
      rw [hq] at hba
      have HQ : Tied (u / 2 ^ j) q := ⟨hq⟩
      clear hq
      have hm2 : q % 2 = 0 ∨ q % 2 = 1 := by omega
      rcases hm2 with hm | hm
      · rw [hm] at hba
        replace hba : bits .and .u64 ((u : Int) / 2 ^ j) 1 = 0 := hba
        have HN := Lib.hid (HC.out.none (by rw [HQ.e]; exact hm))
        clear hm
        go_wp2_with fail
        go_roundw
        case rel => exact ⟨j + 1, P, L, H, by omega, by go_num, rfl, rfl, rfl, HN.out, by first | trivial | rfl⟩
        case measure => simp [intOf]; omega
      · rw [hm] at hba
        replace hba : bits .and .u64 ((u : Int) / 2 ^ j) 1 = 1 := hba
        by_cases hn : L < 0
        · have HN := Lib.hid (HC.out.one (by omega) (by rw [HQ.e]; exact hm))
          rw [if_pos hn] at HN
          clear hm
          go_wp2_with fail
          go_roundw
          case rel => exact ⟨j + 1, P + 1, j, j, by omega, by go_num, rfl, rfl, rfl, HN.out, by first | trivial | rfl⟩
          case measure => simp [intOf]; omega
        · have HN := Lib.hid (HC.out.one (by omega) (by rw [HQ.e]; exact hm))
          rw [if_neg hn] at HN
          clear hm
          go_wp2_with fail
          go_roundw
          case rel => exact ⟨j + 1, P + 1, L, j, by omega, by go_num, rfl, rfl, rfl, HN.out, by first | trivial | rfl⟩
          case measure => simp [intOf]; omega
    · have : j = 32 := by omega
      subst this
      obtain ⟨x1, x2, x3⟩ := HC.out.ends
      rw [HE.a3] at x1
      rw [HE.a1] at x2
      rw [HE.a2] at x3
      clear hP hP2
      have hlb := len_le64 u
      have hHb : -1 ≤ H ∧ H ≤ 63 := by omega
      have hRR : 31 - H = R := by rw [HR.e]; omega
      clear x1 x2 x3 hlb
      go_wp2_with fail
      refine (rbits_any _ wr (by omega)).mono ?_
      rintro e w5 ⟨rfl, rfl⟩
      go_wp2_with fail
      refine (rbits_any _ wr (by omega)).mono ?_
      rintro e w5 ⟨rfl, rfl⟩
      go_wp2_with fail
      refine bodyPost_ret (v := .tuple #[.agg #[.int .i64 1, .int .i64 R], .bool true]) (by simp [results, Tryd.results16, go_sem, f3, f4]) rfl ⟨rfl, ?_⟩
      exact (Below.setCell hb'' (by simp) _).setCell (by simp) _
theorem ro_104_1 (op n : Int) (w : World) (hcl : Hid (clsV op = (104, 1))) (hrk : Hid (rkV 104 1 = (1, 1, 1, true))) (hp : Hid (mayB (1, n) = true)) :
    Calls Tryd.prog 16 #[.int .i64 op, .agg #[.int .i64 1, .int .i64 n]] w fun e w' => e = .returned (T1 1 (wk 1 (min (Lib.ctz 64 (low (1, n)).toNat : Int) (32 * 1))) true) ∧ Below w.heap.size w w' := by
  obtain ⟨u, hu⟩ := Int.eq_ofNat_of_zero_le (low_nn (1, n))
  have hul : u < 2 ^ 32 := by
    have h1 : low (1, n) < 4294967296 := by rw [low1]; exact Int.emod_lt_of_pos _ (by decide)
    have h2 : (2 : Nat) ^ 32 = 4294967296 := by decide
    omega
  obtain ⟨n1, n2, n3, n4, n5, n6, n7⟩ := counts u 32 (by decide) hul
  obtain ⟨a1, a2, a3⟩ := at_end u 32 (by decide) hul
  have hlt0 : ¬ u = 0 → (Lib.ctz 64 u : Int) < 32 := fun h => by have := ctz_lt u 32 (by decide) h hul; omega
  have hct0 : u = 0 → Lib.ctz 64 u = 64 := fun h => by rw [h]; rfl
  obtain ⟨R, hR⟩ : ∃ R : Int, R = min (Lib.ctz 64 u : Int) 32 := ⟨_, rfl⟩
  have hval : wk 1 (min (Lib.ctz 64 (low (1, n)).toNat : Int) (32 * 1)) = R := by
    rw [hu, Int.toNat_natCast, hR]
    rw [show (32 : Int) * 1 = ((32 : Nat) : Int) from by decide]
    exact wk_small 1 _ (by decide) ⟨n6, n7⟩
  rw [hval]
  have HU : Tied (low (1, n)) (u : Int) := ⟨hu⟩
  have HR : Tied R (min (Lib.ctz 64 u : Int) 32) := ⟨hR⟩
  have HE : Ends u 32 := ⟨a1, a2, a3, hlt0, hct0⟩
  clear hval hu hR n1 n2 n3 n4 n5 n6 n7 a1 a2 a3 hul hlt0 hct0
  go_enter Tryd.func16, Tryd.ntmps16
  go_wp2_with fail
  obtain ⟨tA, tB, c7, tS⟩ := two_blocks w #[.int .i64 1, .int .i64 n] #[.int .i64 0, .int .i64 0] 23
  obtain ⟨w1, hW⟩ : ∃ W, W = (w.alloc (.cells #[.int .i64 1, .int .i64 n] 23)).alloc (.cells #[.int .i64 0, .int .i64 0] 23) := ⟨_, rfl⟩
  have hb : Below w.heap.size w w1 := by rw [hW]; exact (one_block _ _).alloc (by simp) _
  rw [← hW] at tA tB c7 tS ⊢
  clear hW
  have c1 := tA 0
  have c2 := tA 1
  have c3 := tB 0
  have c4 := tB 1
  simp at c1 c2 c3 c4
  clear tA tB
  refine (class_any op w1).mono ?_
  rintro e w0 ⟨rfl, rfl⟩
  rw [hcl.out]
  go_wp2_with fail
  refine (rkinds_any op w1).mono ?_
  rintro e w0 ⟨rfl, rfl⟩
  rw [hcl.out, show rkV _ _ = _ from hrk.out]
  unfold K4
  go_wp2_with fail
  refine (rmay_any _ _ w1).mono ?_
  rintro e w2 ⟨rfl, hb2⟩
  rw [hp.out]
  have d1 := cell_up hb2 (w.heap.size) 0 (by omega) c1
  have d2 := cell_up hb2 (w.heap.size) 1 (by omega) c2
  have d3 := cell_up hb2 (w.heap.size + 1) 0 (by omega) c3
  have d4 := cell_up hb2 (w.heap.size + 1) 1 (by omega) c4
  have d7 : ∀ o, w2.frozen? ⟨w.heap.size + 1, o, none⟩ = false := fun o => froz_up hb2 (w.heap.size + 1) o (by omega) (c7 o)
  have hz2 : w.heap.size + 1 < w2.heap.size := by have := hb2.size; omega
  have hb' := hb.trans (hb2.mono hb.size)
  clear c1 c2 c3 c4 c7 tS
  go_wp2_with fail
  refine (runsigned_any _ _ w2).mono ?_
  rintro e w3 ⟨rfl, hb3⟩
  have f1 := cell_up hb3 (w.heap.size) 0 (by omega) d1
  have f2 := cell_up hb3 (w.heap.size) 1 (by omega) d2
  have f3 := cell_up hb3 (w.heap.size + 1) 0 (by omega) d3
  have f4 := cell_up hb3 (w.heap.size + 1) 1 (by omega) d4
  have f7 : ∀ o, w3.frozen? ⟨w.heap.size + 1, o, none⟩ = false := fun o => froz_up hb3 (w.heap.size + 1) o (by omega) (d7 o)
  have hz3 : w.heap.size + 1 < w3.heap.size := by have := hb3.size; omega
  have hb'' := hb'.trans (hb3.mono hb'.size)
  clear d1 d2 d3 d4 d7 hz2
  rw [HU.e]
  clear HU
  go_wp2_with fail
  go_loopw [13, 14, 15, 16] (fun o lw hi i wr => ∃ (j : Nat) (P L H : Int), j ≤ 32 ∧ i = .int .i64 j ∧ o = .int .i64 P ∧ lw = .int .i64 L ∧ hi = .int .i64 H ∧ Cnt u j P L H ∧ wr = w3) (fun _ _ _ i _ => 32 - (intOf i).toNat)
  case atStart => exact ⟨0, 0, -1, -1, by omega, rfl, rfl, rfl, rfl, cnt_zero u, rfl⟩
  case round =>
    obtain ⟨j, P, L, H, hj, rfl, rfl, rfl, rfl, hc, rfl⟩ := hrel
    have hP := hc.P0
    have hP2 := hc.P1
    have HC := Lib.hid hc
    clear hc
    by_cases hlt : j < 32
    · go_wp2_with fail
      refine (rbits_any _ wr (by omega)).mono ?_
      rintro e w5 ⟨rfl, rfl⟩
      have hba := bit_and u j
      obtain ⟨q, hq⟩ : ∃ q : Nat, u / 2 ^ j = q := ⟨_, rfl⟩
      rw [hq] at hba
      have HQ : Tied (u / 2 ^ j) q := ⟨hq⟩
      clear hq
      have hm2 : q % 2 = 0 ∨ q % 2 = 1 := by omega
      rcases hm2 with hm | hm
      · rw [hm] at hba
        replace hba : bits .and .u64 ((u : Int) / 2 ^ j) 1 = 0 := hba
        have HN := Lib.hid (HC.out.none (by rw [HQ.e]; exact hm))
        clear hm
        go_wp2_with fail
        go_roundw
        case rel => exact ⟨j + 1, P, L, H, by omega, by go_num, rfl, rfl, rfl, HN.out, by first | trivial | rfl⟩
        case measure => simp [intOf]; omega
      · rw [hm] at hba
        replace hba : bits .and .u64 ((u : Int) / 2 ^ j) 1 = 1 := hba
        by_cases hn : L < 0
        · have HN := Lib.hid (HC.out.one (by omega) (by rw [HQ.e]; exact hm))
          rw [if_pos hn] at HN
          clear hm
          go_wp2_with fail
          go_roundw
          case rel => exact ⟨j + 1, P + 1, j, j, by omega, by go_num, rfl, rfl, rfl, HN.out, by first | trivial | rfl⟩
          case measure => simp [intOf]; omega
        · have HN := Lib.hid (HC.out.one (by omega) (by rw [HQ.e]; exact hm))
          rw [if_neg hn] at HN
          clear hm
          go_wp2_with fail
          go_roundw
          case rel => exact ⟨j + 1, P + 1, L, j, by omega, by go_num, rfl, rfl, rfl, HN.out, by first | trivial | rfl⟩
          case measure => simp [intOf]; omega
    · have : j = 32 := by omega
      subst this
      obtain ⟨x1, x2, x3⟩ := HC.out.ends
      rw [HE.a3] at x1
      rw [HE.a1] at x2
      rw [HE.a2] at x3
      clear hP hP2
      clear x1 x3
      by_cases h0 : u = 0
      · rw [if_pos h0] at x2
        have hRR : R = 32 := by rw [HR.e, HE.c0 h0]; rfl
        subst hRR x2
        clear h0
        go_wp2_with fail
        refine (rbits_any _ wr (by omega)).mono ?_
        rintro e w5 ⟨rfl, rfl⟩
        go_wp2_with fail
        refine (rbits_any _ wr (by omega)).mono ?_
        rintro e w5 ⟨rfl, rfl⟩
        go_wp2_with fail
        refine bodyPost_ret (v := .tuple #[.agg #[.int .i64 1, .int .i64 32], .bool true]) (by simp [results, Tryd.results16, go_sem, f3, f4]) rfl ⟨rfl, ?_⟩
        exact (Below.setCell hb'' (by simp) _).setCell (by simp) _
      · rw [if_neg h0] at x2
        have hRR : L = R := by rw [HR.e, x2]; have := HE.l0 h0; omega
        have hR0 : 0 ≤ R := by rw [← hRR, x2]; omega
        subst hRR
        have d1 : decide (L < 0) = false := decide_eq_false (by omega)
        have d2 : ¬ L < 0 := by omega
        clear x2 h0
        go_wp2_with fail
        refine (rbits_any _ wr (by omega)).mono ?_
        rintro e w5 ⟨rfl, rfl⟩
        go_wp2_with fail
        refine bodyPost_ret (v := .tuple #[.agg #[.int .i64 1, .int .i64 L], .bool true]) (by simp [results, Tryd.results16, go_sem, f3, f4]) rfl ⟨rfl, ?_⟩
        exact (Below.setCell hb'' (by simp) _).setCell (by simp) _
theorem ro_105_1 (op n : Int) (w : World) (hcl : Hid (clsV op = (105, 1))) (hrk : Hid (rkV 105 1 = (1, 1, 1, true))) (hp : Hid (mayB (1, n) = true)) :
    Calls Tryd.prog 16 #[.int .i64 op, .agg #[.int .i64 1, .int .i64 n]] w fun e w' => e = .returned (T1 1 (wk 1 ((Lib.onesCount (low (1, n)).toNat : Int))) true) ∧ Below w.heap.size w w' := by
  obtain ⟨u, hu⟩ := Int.eq_ofNat_of_zero_le (low_nn (1, n))
  have hul : u < 2 ^ 32 := by
    have h1 : low (1, n) < 4294967296 := by rw [low1]; exact Int.emod_lt_of_pos _ (by decide)
    have h2 : (2 : Nat) ^ 32 = 4294967296 := by decide
    omega
  obtain ⟨n1, n2, n3, n4, n5, n6, n7⟩ := counts u 32 (by decide) hul
  obtain ⟨a1, a2, a3⟩ := at_end u 32 (by decide) hul
  have hlt0 : ¬ u = 0 → (Lib.ctz 64 u : Int) < 32 := fun h => by have := ctz_lt u 32 (by decide) h hul; omega
  have hct0 : u = 0 → Lib.ctz 64 u = 64 := fun h => by rw [h]; rfl
  obtain ⟨R, hR⟩ : ∃ R : Int, R = (Lib.onesCount u : Int) := ⟨_, rfl⟩
  have hval : wk 1 ((Lib.onesCount (low (1, n)).toNat : Int)) = R := by
    rw [hu, Int.toNat_natCast, hR]
    exact wk_small 1 _ (by decide) ⟨n1, n2⟩
  rw [hval]
  have HU : Tied (low (1, n)) (u : Int) := ⟨hu⟩
  have HR : Tied R ((Lib.onesCount u : Int)) := ⟨hR⟩
  have HE : Ends u 32 := ⟨a1, a2, a3, hlt0, hct0⟩
  clear hval hu hR n1 n2 n3 n4 n5 n6 n7 a1 a2 a3 hul hlt0 hct0
  go_enter Tryd.func16, Tryd.ntmps16
  go_wp2_with fail
  obtain ⟨tA, tB, c7, tS⟩ := two_blocks w #[.int .i64 1, .int .i64 n] #[.int .i64 0, .int .i64 0] 23
  obtain ⟨w1, hW⟩ : ∃ W, W = (w.alloc (.cells #[.int .i64 1, .int .i64 n] 23)).alloc (.cells #[.int .i64 0, .int .i64 0] 23) := ⟨_, rfl⟩
  have hb : Below w.heap.size w w1 := by rw [hW]; exact (one_block _ _).alloc (by simp) _
  rw [← hW] at tA tB c7 tS ⊢
  clear hW
  have c1 := tA 0
  have c2 := tA 1
  have c3 := tB 0
  have c4 := tB 1
  simp at c1 c2 c3 c4
  clear tA tB
  refine (class_any op w1).mono ?_
  rintro e w0 ⟨rfl, rfl⟩
  rw [hcl.out]
  go_wp2_with fail
  refine (rkinds_any op w1).mono ?_
  rintro e w0 ⟨rfl, rfl⟩
  rw [hcl.out, show rkV _ _ = _ from hrk.out]
  unfold K4
  go_wp2_with fail
  refine (rmay_any _ _ w1).mono ?_
  rintro e w2 ⟨rfl, hb2⟩
  rw [hp.out]
  have d1 := cell_up hb2 (w.heap.size) 0 (by omega) c1
  have d2 := cell_up hb2 (w.heap.size) 1 (by omega) c2
  have d3 := cell_up hb2 (w.heap.size + 1) 0 (by omega) c3
  have d4 := cell_up hb2 (w.heap.size + 1) 1 (by omega) c4
  have d7 : ∀ o, w2.frozen? ⟨w.heap.size + 1, o, none⟩ = false := fun o => froz_up hb2 (w.heap.size + 1) o (by omega) (c7 o)
  have hz2 : w.heap.size + 1 < w2.heap.size := by have := hb2.size; omega
  have hb' := hb.trans (hb2.mono hb.size)
  clear c1 c2 c3 c4 c7 tS
  go_wp2_with fail
  refine (runsigned_any _ _ w2).mono ?_
  rintro e w3 ⟨rfl, hb3⟩
  have f1 := cell_up hb3 (w.heap.size) 0 (by omega) d1
  have f2 := cell_up hb3 (w.heap.size) 1 (by omega) d2
  have f3 := cell_up hb3 (w.heap.size + 1) 0 (by omega) d3
  have f4 := cell_up hb3 (w.heap.size + 1) 1 (by omega) d4
  have f7 : ∀ o, w3.frozen? ⟨w.heap.size + 1, o, none⟩ = false := fun o => froz_up hb3 (w.heap.size + 1) o (by omega) (d7 o)
  have hz3 : w.heap.size + 1 < w3.heap.size := by have := hb3.size; omega
  have hb'' := hb'.trans (hb3.mono hb'.size)
  clear d1 d2 d3 d4 d7 hz2
  rw [HU.e]
  clear HU
  go_wp2_with fail
  go_loopw [13, 14, 15, 16] (fun o lw hi i wr => ∃ (j : Nat) (P L H : Int), j ≤ 32 ∧ i = .int .i64 j ∧ o = .int .i64 P ∧ lw = .int .i64 L ∧ hi = .int .i64 H ∧ Cnt u j P L H ∧ wr = w3) (fun _ _ _ i _ => 32 - (intOf i).toNat)
  case atStart => exact ⟨0, 0, -1, -1, by omega, rfl, rfl, rfl, rfl, cnt_zero u, rfl⟩
  case round =>
    obtain ⟨j, P, L, H, hj, rfl, rfl, rfl, rfl, hc, rfl⟩ := hrel
    have hP := hc.P0
    have hP2 := hc.P1
    have HC := Lib.hid hc
    clear hc
    by_cases hlt : j < 32
    · go_wp2_with fail
      refine (rbits_any _ wr (by omega)).mono ?_
      rintro e w5 ⟨rfl, rfl⟩
      have hba := bit_and u j
      obtain ⟨q, hq⟩ : ∃ q : Nat, u / 2 ^ j = q := ⟨_, rfl⟩
      rw [hq] at hba
      have HQ : Tied (u / 2 ^ j) q := ⟨hq⟩
      clear hq
      have hm2 : q % 2 = 0 ∨ q % 2 = 1 := by omega
      rcases hm2 with hm | hm
      · rw [hm] at hba
        replace hba : bits .and .u64 ((u : Int) / 2 ^ j) 1 = 0 := hba
        have HN := Lib.hid (HC.out.none (by rw [HQ.e]; exact hm))
        clear hm
        go_wp2_with fail
        go_roundw
        case rel => exact ⟨j + 1, P, L, H, by omega, by go_num, rfl, rfl, rfl, HN.out, by first | trivial | rfl⟩
        case measure => simp [intOf]; omega
      · rw [hm] at hba
        replace hba : bits .and .u64 ((u : Int) / 2 ^ j) 1 = 1 := hba
        by_cases hn : L < 0
        · have HN := Lib.hid (HC.out.one (by omega) (by rw [HQ.e]; exact hm))
          rw [if_pos hn] at HN
          clear hm
          go_wp2_with fail
          go_roundw
          case rel => exact ⟨j + 1, P + 1, j, j, by omega, by go_num, rfl, rfl, rfl, HN.out, by first | trivial | rfl⟩
          case measure => simp [intOf]; omega
        · have HN := Lib.hid (HC.out.one (by omega) (by rw [HQ.e]; exact hm))
          rw [if_neg hn] at HN
          clear hm
          go_wp2_with fail
          go_roundw
          case rel => exact ⟨j + 1, P + 1, L, j, by omega, by go_num, rfl, rfl, rfl, HN.out, by first | trivial | rfl⟩
          case measure => simp [intOf]; omega
    · have : j = 32 := by omega
      subst this
      obtain ⟨x1, x2, x3⟩ := HC.out.ends
      rw [HE.a3] at x1
      rw [HE.a1] at x2
      rw [HE.a2] at x3
      clear hP hP2
      have hRR : P = R := by rw [HR.e, x1]
      subst hRR
      clear x1 x2 x3
      go_wp2_with fail
      refine (rbits_any _ wr (by omega)).mono ?_
      rintro e w5 ⟨rfl, rfl⟩
      go_wp2_with fail
      refine bodyPost_ret (v := .tuple #[.agg #[.int .i64 1, .int .i64 P], .bool true]) (by simp [results, Tryd.results16, go_sem, f3, f4]) rfl ⟨rfl, ?_⟩
      exact (Below.setCell hb'' (by simp) _).setCell (by simp) _
theorem ro_103_2 (op n : Int) (w : World) (hcl : Hid (clsV op = (103, 2))) (hrk : Hid (rkV 103 2 = (1, 2, 2, true))) (hp : Hid (mayB (2, n) = true)) :
    Calls Tryd.prog 16 #[.int .i64 op, .agg #[.int .i64 2, .int .i64 n]] w fun e w' => e = .returned (T1 2 (wk 2 (wrap64 (wrap64 (64 - (Lib.bitLen (low (2, n)).toNat : Int) - 64) + 32 * 2))) true) ∧ Below w.heap.size w w' := by
  obtain ⟨u, hu⟩ := Int.eq_ofNat_of_zero_le (low_nn (2, n))
  have hul : u < 2 ^ 64 := by
    have h1 : low (2, n) < 18446744073709551616 := by rw [low2]; exact Int.emod_lt_of_pos _ (by decide)
    have h2 : (2 : Nat) ^ 64 = 18446744073709551616 := by decide
    omega
  obtain ⟨n1, n2, n3, n4, n5, n6, n7⟩ := counts u 64 (by decide) hul
  obtain ⟨a1, a2, a3⟩ := at_end u 64 (by decide) hul
  have hlt0 : ¬ u = 0 → (Lib.ctz 64 u : Int) < 64 := fun h => by have := ctz_lt u 64 (by decide) h hul; omega
  have hct0 : u = 0 → Lib.ctz 64 u = 64 := fun h => by rw [h]; rfl
  obtain ⟨R, hR⟩ : ∃ R : Int, R = (64 : Int) - Lib.bitLen u := ⟨_, rfl⟩
  have hval : wk 2 (wrap64 (wrap64 (64 - (Lib.bitLen (low (2, n)).toNat : Int) - 64) + 32 * 2)) = R := by
    rw [hu, Int.toNat_natCast, hR]
    rw [show (32 : Int) * 2 = ((64 : Nat) : Int) from by decide, n3]
    exact wk_small 2 _ (by decide) ⟨n4, n5⟩
  rw [hval]
  have HU : Tied (low (2, n)) (u : Int) := ⟨hu⟩
  have HR : Tied R ((64 : Int) - Lib.bitLen u) := ⟨hR⟩
  have HE : Ends u 64 := ⟨a1, a2, a3, hlt0, hct0⟩
  clear hval hu hR n1 n2 n3 n4 n5 n6 n7 a1 a2 a3 hul hlt0 hct0
  go_enter Tryd.func16, Tryd.ntmps16
  go_wp2_with fail
  obtain ⟨tA, tB, c7, tS⟩ := two_blocks w #[.int .i64 2, .int .i64 n] #[.int .i64 0, .int .i64 0] 23
  obtain ⟨w1, hW⟩ : ∃ W, W = (w.alloc (.cells #[.int .i64 2, .int .i64 n] 23)).alloc (.cells #[.int .i64 0, .int .i64 0] 23) := ⟨_, rfl⟩
  have hb : Below w.heap.size w w1 := by rw [hW]; exact (one_block _ _).alloc (by simp) _
  rw [← hW] at tA tB c7 tS ⊢
  clear hW
  have c1 := tA 0
  have c2 := tA 1
  have c3 := tB 0
  have c4 := tB 1
  simp at c1 c2 c3 c4
  clear tA tB
  refine (class_any op w1).mono ?_
  rintro e w0 ⟨rfl, rfl⟩
  rw [hcl.out]
  go_wp2_with fail
  refine (rkinds_any op w1).mono ?_
  rintro e w0 ⟨rfl, rfl⟩
  rw [hcl.out, show rkV _ _ = _ from hrk.out]
  unfold K4
  go_wp2_with fail
  refine (rmay_any _ _ w1).mono ?_
  rintro e w2 ⟨rfl, hb2⟩
  rw [hp.out]
  have d1 := cell_up hb2 (w.heap.size) 0 (by omega) c1
  have d2 := cell_up hb2 (w.heap.size) 1 (by omega) c2
  have d3 := cell_up hb2 (w.heap.size + 1) 0 (by omega) c3
  have d4 := cell_up hb2 (w.heap.size + 1) 1 (by omega) c4
  have d7 : ∀ o, w2.frozen? ⟨w.heap.size + 1, o, none⟩ = false := fun o => froz_up hb2 (w.heap.size + 1) o (by omega) (c7 o)
  have hz2 : w.heap.size + 1 < w2.heap.size := by have := hb2.size; omega
  have hb' := hb.trans (hb2.mono hb.size)
  clear c1 c2 c3 c4 c7 tS
  go_wp2_with fail
  refine (runsigned_any _ _ w2).mono ?_
  rintro e w3 ⟨rfl, hb3⟩
  have f1 := cell_up hb3 (w.heap.size) 0 (by omega) d1
  have f2 := cell_up hb3 (w.heap.size) 1 (by omega) d2
  have f3 := cell_up hb3 (w.heap.size + 1) 0 (by omega) d3
  have f4 := cell_up hb3 (w.heap.size + 1) 1 (by omega) d4
  have f7 : ∀ o, w3.frozen? ⟨w.heap.size + 1, o, none⟩ = false := fun o => froz_up hb3 (w.heap.size + 1) o (by omega) (d7 o)
  have hz3 : w.heap.size + 1 < w3.heap.size := by have := hb3.size; omega
  have hb'' := hb'.trans (hb3.mono hb'.size)
  clear d1 d2 d3 d4 d7 hz2
  rw [HU.e]
  clear HU
  go_wp2_with fail
  go_loopw [13, 14, 15, 16] (fun o lw hi i wr => ∃ (j : Nat) (P L H : Int), j ≤ 64 ∧ i = .int .i64 j ∧ o = .int .i64 P ∧ lw = .int .i64 L ∧ hi = .int .i64 H ∧ Cnt u j P L H ∧ wr = w3) (fun _ _ _ i _ => 64 - (intOf i).toNat)
  case atStart => exact ⟨0, 0, -1, -1, by omega, rfl, rfl, rfl, rfl, cnt_zero u, rfl⟩
  case round =>
    obtain ⟨j, P, L, H, hj, rfl, rfl, rfl, rfl, hc, rfl⟩ := hrel
    have hP := hc.P0
    have hP2 := hc.P1
    have HC := Lib.hid hc
    clear hc
    by_cases hlt : j < 64
    · go_wp2_with fail
      refine (rbits_any _ wr (by omega)).mono ?_
      rintro e w5 ⟨rfl, rfl⟩
      have hba := bit_and u j
      obtain ⟨q, hq⟩ : ∃ q : Nat, u / 2 ^ j = q := ⟨_, rfl⟩
      rw [hq] at hba
      have HQ : Tied (u / 2 ^ j) q := ⟨hq⟩
      clear hq
      have hm2 : q % 2 = 0 ∨ q % 2 = 1 := by omega
      rcases hm2 with hm | hm
      · rw [hm] at hba
        replace hba : bits .and .u64 ((u : Int) / 2 ^ j) 1 = 0 := hba
        have HN := Lib.hid (HC.out.none (by rw [HQ.e]; exact hm))
        clear hm
        go_wp2_with fail
        go_roundw
        case rel => exact ⟨j + 1, P, L, H, by omega, by go_num, rfl, rfl, rfl, HN.out, by first | trivial | rfl⟩
        case measure => simp [intOf]; omega
      · rw [hm] at hba
        replace hba : bits .and .u64 ((u : Int) / 2 ^ j) 1 = 1 := hba
        by_cases hn : L < 0
        · have HN := Lib.hid (HC.out.one (by omega) (by rw [HQ.e]; exact hm))
          rw [if_pos hn] at HN
          clear hm
          go_wp2_with fail
          go_roundw
          case rel => exact ⟨j + 1, P + 1, j, j, by omega, by go_num, rfl, rfl, rfl, HN.out, by first | trivial | rfl⟩
          case measure => simp [intOf]; omega
        · have HN := Lib.hid (HC.out.one (by omega) (by rw [HQ.e]; exact hm))
          rw [if_neg hn] at HN
          clear hm
          go_wp2_with fail
          go_roundw
          case rel => exact ⟨j + 1, P + 1, L, j, by omega, by go_num, rfl, rfl, rfl, HN.out, by first | trivial | rfl⟩
          case measure => simp [intOf]; omega
    · have : j = 64 := by omega
      subst this
      obtain ⟨x1, x2, x3⟩ := HC.out.ends
      rw [HE.a3] at x1
      rw [HE.a1] at x2
      rw [HE.a2] at x3
      clear hP hP2
      have hlb := len_le64 u
      have hHb : -1 ≤ H ∧ H ≤ 63 := by omega
      have hRR : 63 - H = R := by rw [HR.e]; omega
      clear x1 x2 x3 hlb
      go_wp2_with fail
      refine (rbits_any _ wr (by omega)).mono ?_
      rintro e w5 ⟨rfl, rfl⟩
      go_wp2_with fail
      refine (rbits_any _ wr (by omega)).mono ?_
      rintro e w5 ⟨rfl, rfl⟩
      go_wp2_with fail
      refine bodyPost_ret (v := .tuple #[.agg #[.int .i64 2, .int .i64 R], .bool true]) (by simp [results, Tryd.results16, go_sem, f3, f4]) rfl ⟨rfl, ?_⟩
      exact (Below.setCell hb'' (by simp) _).setCell (by simp) _
theorem ro_104_2 (op n : Int) (w : World) (hcl : Hid (clsV op = (104, 2))) (hrk : Hid (rkV 104 2 = (1, 2, 2, true))) (hp : Hid (mayB (2, n) = true)) :
    Calls Tryd.prog 16 #[.int .i64 op, .agg #[.int .i64 2, .int .i64 n]] w fun e w' => e = .returned (T1 2 (wk 2 (min (Lib.ctz 64 (low (2, n)).toNat : Int) (32 * 2))) true) ∧ Below w.heap.size w w' := by
  obtain ⟨u, hu⟩ := Int.eq_ofNat_of_zero_le (low_nn (2, n))
  have hul : u < 2 ^ 64 := by
    have h1 : low (2, n) < 18446744073709551616 := by rw [low2]; exact Int.emod_lt_of_pos _ (by decide)
    have h2 : (2 : Nat) ^ 64 = 18446744073709551616 := by decide
    omega
  obtain ⟨n1, n2, n3, n4, n5, n6, n7⟩ := counts u 64 (by decide) hul
  obtain ⟨a1, a2, a3⟩ := at_end u 64 (by decide) hul
  have hlt0 : ¬ u = 0 → (Lib.ctz 64 u : Int) < 64 := fun h => by have := ctz_lt u 64 (by decide) h hul; omega
  have hct0 : u = 0 → Lib.ctz 64 u = 64 := fun h => by rw [h]; rfl
  obtain ⟨R, hR⟩ : ∃ R : Int, R = min (Lib.ctz 64 u : Int) 64 := ⟨_, rfl⟩
  have hval : wk 2 (min (Lib.ctz 64 (low (2, n)).toNat : Int) (32 * 2)) = R := by
    rw [hu, Int.toNat_natCast, hR]
    rw [show (32 : Int) * 2 = ((64 : Nat) : Int) from by decide]
    exact wk_small 2 _ (by decide) ⟨n6, n7⟩
  rw [hval]
  have HU : Tied (low (2, n)) (u : Int) := ⟨hu⟩
  have HR : Tied R (min (Lib.ctz 64 u : Int) 64) := ⟨hR⟩
  have HE : Ends u 64 := ⟨a1, a2, a3, hlt0, hct0⟩
  clear hval hu hR n1 n2 n3 n4 n5 n6 n7 a1 a2 a3 hul hlt0 hct0
  go_enter Tryd.func16, Tryd.ntmps16
  go_wp2_with fail
  obtain ⟨tA, tB, c7, tS⟩ := two_blocks w #[.int .i64 2, .int .i64 n] #[.int .i64 0, .int .i64 0] 23
  obtain ⟨w1, hW⟩ : ∃ W, W = (w.alloc (.cells #[.int .i64 2, .int .i64 n] 23)).alloc (.cells #[.int .i64 0, .int .i64 0] 23) := ⟨_, rfl⟩
  have hb : Below w.heap.size w w1 := by rw [hW]; exact (one_block _ _).alloc (by simp) _
  rw [← hW] at tA tB c7 tS ⊢
  clear hW
  have c1 := tA 0
  have c2 := tA 1
  have c3 := tB 0
  have c4 := tB 1
  simp at c1 c2 c3 c4
  clear tA tB
  refine (class_any op w1).mono ?_
  rintro e w0 ⟨rfl, rfl⟩
  rw [hcl.out]
  go_wp2_with fail
  refine (rkinds_any op w1).mono ?_
  rintro e w0 ⟨rfl, rfl⟩
  rw [hcl.out, show rkV _ _ = _ from hrk.out]
  unfold K4
  go_wp2_with fail
  refine (rmay_any _ _ w1).mono ?_
  rintro e w2 ⟨rfl, hb2⟩
  rw [hp.out]
  have d1 := cell_up hb2 (w.heap.size) 0 (by omega) c1
  have d2 := cell_up hb2 (w.heap.size) 1 (by omega) c2
  have d3 := cell_up hb2 (w.heap.size + 1) 0 (by omega) c3
  have d4 := cell_up hb2 (w.heap.size + 1) 1 (by omega) c4
  have d7 : ∀ o, w2.frozen? ⟨w.heap.size + 1, o, none⟩ = false := fun o => froz_up hb2 (w.heap.size + 1) o (by omega) (c7 o)
  have hz2 : w.heap.size + 1 < w2.heap.size := by have := hb2.size; omega
  have hb' := hb.trans (hb2.mono hb.size)
  clear c1 c2 c3 c4 c7 tS
  go_wp2_with fail
  refine (runsigned_any _ _ w2).mono ?_
  rintro e w3 ⟨rfl, hb3⟩
  have f1 := cell_up hb3 (w.heap.size) 0 (by omega) d1
  have f2 := cell_up hb3 (w.heap.size) 1 (by omega) d2
  have f3 := cell_up hb3 (w.heap.size + 1) 0 (by omega) d3
  have f4 := cell_up hb3 (w.heap.size + 1) 1 (by omega) d4
  have f7 : ∀ o, w3.frozen? ⟨w.heap.size + 1, o, none⟩ = false := fun o => froz_up hb3 (w.heap.size + 1) o (by omega) (d7 o)
  have hz3 : w.heap.size + 1 < w3.heap.size := by have := hb3.size; omega
  have hb'' := hb'.trans (hb3.mono hb'.size)
  clear d1 d2 d3 d4 d7 hz2
  rw [HU.e]
  clear HU
  go_wp2_with fail
  go_loopw [13, 14, 15, 16] (fun o lw hi i wr => ∃ (j : Nat) (P L H : Int), j ≤ 64 ∧ i = .int .i64 j ∧ o = .int .i64 P ∧ lw = .int .i64 L ∧ hi = .int .i64 H ∧ Cnt u j P L H ∧ wr = w3) (fun _ _ _ i _ => 64 - (intOf i).toNat)
  case atStart => exact ⟨0, 0, -1, -1, by omega, rfl, rfl, rfl, rfl, cnt_zero u, rfl⟩
  case round =>
    obtain ⟨j, P, L, H, hj, rfl, rfl, rfl, rfl, hc, rfl⟩ := hrel
    have hP := hc.P0
    have hP2 := hc.P1
    have HC := Lib.hid hc
    clear hc
    by_cases hlt : j < 64
    · go_wp2_with fail
      refine (rbits_any _ wr (by omega)).mono ?_
      rintro e w5 ⟨rfl, rfl⟩
      have hba := bit_and u j
      obtain ⟨q, hq⟩ : ∃ q : Nat, u / 2 ^ j = q := ⟨_, rfl⟩
      rw [hq] at hba
      have HQ : Tied (u / 2 ^ j) q := ⟨hq⟩
      clear hq
      have hm2 : q % 2 = 0 ∨ q % 2 = 1 := by omega
      rcases hm2 with hm | hm
      · rw [hm] at hba
        replace hba : bits .and .u64 ((u : Int) / 2 ^ j) 1 = 0 := hba
        have HN := Lib.hid (HC.out.none (by rw [HQ.e]; exact hm))
        clear hm
        go_wp2_with fail
        go_roundw
        case rel => exact ⟨j + 1, P, L, H, by omega, by go_num, rfl, rfl, rfl, HN.out, by first | trivial | rfl⟩
        case measure => simp [intOf]; omega
      · rw [hm] at hba
        replace hba : bits .and .u64 ((u : Int) / 2 ^ j) 1 = 1 := hba
        by_cases hn : L < 0
        · have HN := Lib.hid (HC.out.one (by omega) (by rw [HQ.e]; exact hm))
          rw [if_pos hn] at HN
          clear hm
          go_wp2_with fail
          go_roundw
          case rel => exact ⟨j + 1, P + 1, j, j, by omega, by go_num, rfl, rfl, rfl, HN.out, by first | trivial | rfl⟩
          case measure => simp [intOf]; omega
        · have HN := Lib.hid (HC.out.one (by omega) (by rw [HQ.e]; exact hm))
          rw [if_neg hn] at HN
          clear hm
          go_wp2_with fail
          go_roundw
          case rel => exact ⟨j + 1, P + 1, L, j, by omega, by go_num, rfl, rfl, rfl, HN.out, by first | trivial | rfl⟩
          case measure => simp [intOf]; omega
    · have : j = 64 := by omega
      subst this
      obtain ⟨x1, x2, x3⟩ := HC.out.ends
      rw [HE.a3] at x1
      rw [HE.a1] at x2
      rw [HE.a2] at x3
      clear hP hP2
      clear x1 x3
      by_cases h0 : u = 0
      · rw [if_pos h0] at x2
        have hRR : R = 64 := by rw [HR.e, HE.c0 h0]; rfl
        subst hRR x2
        clear h0
        go_wp2_with fail
        refine (rbits_any _ wr (by omega)).mono ?_
        rintro e w5 ⟨rfl, rfl⟩
        go_wp2_with fail
        refine (rbits_any _ wr (by omega)).mono ?_
        rintro e w5 ⟨rfl, rfl⟩
        go_wp2_with fail
        refine bodyPost_ret (v := .tuple #[.agg #[.int .i64 2, .int .i64 64], .bool true]) (by simp [results, Tryd.results16, go_sem, f3, f4]) rfl ⟨rfl, ?_⟩
        exact (Below.setCell hb'' (by simp) _).setCell (by simp) _
      · rw [if_neg h0] at x2
        have hRR : L = R := by rw [HR.e, x2]; have := HE.l0 h0; omega
        have hR0 : 0 ≤ R := by rw [← hRR, x2]; omega
        subst hRR
        have d1 : decide (L < 0) = false := decide_eq_false (by omega)
        have d2 : ¬ L < 0 := by omega
        clear x2 h0
        go_wp2_with fail
        refine (rbits_any _ wr (by omega)).mono ?_
        rintro e w5 ⟨rfl, rfl⟩
        go_wp2_with fail
        refine bodyPost_ret (v := .tuple #[.agg #[.int .i64 2, .int .i64 L], .bool true]) (by simp [results, Tryd.results16, go_sem, f3, f4]) rfl ⟨rfl, ?_⟩
        exact (Below.setCell hb'' (by simp) _).setCell (by simp) _
theorem ro_105_2 (op n : Int) (w : World) (hcl : Hid (clsV op = (105, 2))) (hrk : Hid (rkV 105 2 = (1, 2, 2, true))) (hp : Hid (mayB (2, n) = true)) :
    Calls Tryd.prog 16 #[.int .i64 op, .agg #[.int .i64 2, .int .i64 n]] w fun e w' => e = .returned (T1 2 (wk 2 ((Lib.onesCount (low (2, n)).toNat : Int))) true) ∧ Below w.heap.size w w' := by
  obtain ⟨u, hu⟩ := Int.eq_ofNat_of_zero_le (low_nn (2, n))
  have hul : u < 2 ^ 64 := by
    have h1 : low (2, n) < 18446744073709551616 := by rw [low2]; exact Int.emod_lt_of_pos _ (by decide)
    have h2 : (2 : Nat) ^ 64 = 18446744073709551616 := by decide
    omega
  obtain ⟨n1, n2, n3, n4, n5, n6, n7⟩ := counts u 64 (by decide) hul
  obtain ⟨a1, a2, a3⟩ := at_end u 64 (by decide) hul
  have hlt0 : ¬ u = 0 → (Lib.ctz 64 u : Int) < 64 := fun h => by have := ctz_lt u 64 (by decide) h hul; omega
  have hct0 : u = 0 → Lib.ctz 64 u = 64 := fun h => by rw [h]; rfl
  obtain ⟨R, hR⟩ : ∃ R : Int, R = (Lib.onesCount u : Int) := ⟨_, rfl⟩
  have hval : wk 2 ((Lib.onesCount (low (2, n)).toNat : Int)) = R := by
    rw [hu, Int.toNat_natCast, hR]
    exact wk_small 2 _ (by decide) ⟨n1, n2⟩
  rw [hval]
  have HU : Tied (low (2, n)) (u : Int) := ⟨hu⟩
  have HR : Tied R ((Lib.onesCount u : Int)) := ⟨hR⟩
  have HE : Ends u 64 := ⟨a1, a2, a3, hlt0, hct0⟩
  clear hval hu hR n1 n2 n3 n4 n5 n6 n7 a1 a2 a3 hul hlt0 hct0
  go_enter Tryd.func16, Tryd.ntmps16
  go_wp2_with fail
  obtain ⟨tA, tB, c7, tS⟩ := two_blocks w #[.int .i64 2, .int .i64 n] #[.int .i64 0, .int .i64 0] 23
  obtain ⟨w1, hW⟩ : ∃ W, W = (w.alloc (.cells #[.int .i64 2, .int .i64 n] 23)).alloc (.cells #[.int .i64 0, .int .i64 0] 23) := ⟨_, rfl⟩
  have hb : Below w.heap.size w w1 := by rw [hW]; exact (one_block _ _).alloc (by simp) _
  rw [← hW] at tA tB c7 tS ⊢
  clear hW
  have c1 := tA 0
  have c2 := tA 1
  have c3 := tB 0
  have c4 := tB 1
  simp at c1 c2 c3 c4
  clear tA tB
  refine (class_any op w1).mono ?_
  rintro e w0 ⟨rfl, rfl⟩
  rw [hcl.out]
  go_wp2_with fail
  refine (rkinds_any op w1).mono ?_
  rintro e w0 ⟨rfl, rfl⟩
  rw [hcl.out, show rkV _ _ = _ from hrk.out]
  unfold K4
  go_wp2_with fail
  refine (rmay_any _ _ w1).mono ?_
  rintro e w2 ⟨rfl, hb2⟩
  rw [hp.out]
  have d1 := cell_up hb2 (w.heap.size) 0 (by omega) c1
  have d2 := cell_up hb2 (w.heap.size) 1 (by omega) c2
  have d3 := cell_up hb2 (w.heap.size + 1) 0 (by omega) c3
  have d4 := cell_up hb2 (w.heap.size + 1) 1 (by omega) c4
  have d7 : ∀ o, w2.frozen? ⟨w.heap.size + 1, o, none⟩ = false := fun o => froz_up hb2 (w.heap.size + 1) o (by omega) (c7 o)
  have hz2 : w.heap.size + 1 < w2.heap.size := by have := hb2.size; omega
  have hb' := hb.trans (hb2.mono hb.size)
  clear c1 c2 c3 c4 c7 tS
  go_wp2_with fail
  refine (runsigned_any _ _ w2).mono ?_
  rintro e w3 ⟨rfl, hb3⟩
  have f1 := cell_up hb3 (w.heap.size) 0 (by omega) d1
  have f2 := cell_up hb3 (w.heap.size) 1 (by omega) d2
  have f3 := cell_up hb3 (w.heap.size + 1) 0 (by omega) d3
  have f4 := cell_up hb3 (w.heap.size + 1) 1 (by omega) d4
  have f7 : ∀ o, w3.frozen? ⟨w.heap.size + 1, o, none⟩ = false := fun o => froz_up hb3 (w.heap.size + 1) o (by omega) (d7 o)
  have hz3 : w.heap.size + 1 < w3.heap.size := by have := hb3.size; omega
  have hb'' := hb'.trans (hb3.mono hb'.size)
  clear d1 d2 d3 d4 d7 hz2
  rw [HU.e]
  clear HU
  go_wp2_with fail
  go_loopw [13, 14, 15, 16] (fun o lw hi i wr => ∃ (j : Nat) (P L H : Int), j ≤ 64 ∧ i = .int .i64 j ∧ o = .int .i64 P ∧ lw = .int .i64 L ∧ hi = .int .i64 H ∧ Cnt u j P L H ∧ wr = w3) (fun _ _ _ i _ => 64 - (intOf i).toNat)
  case atStart => exact ⟨0, 0, -1, -1, by omega, rfl, rfl, rfl, rfl, cnt_zero u, rfl⟩
  case round =>
    obtain ⟨j, P, L, H, hj, rfl, rfl, rfl, rfl, hc, rfl⟩ := hrel
    have hP := hc.P0
    have hP2 := hc.P1
    have HC := Lib.hid hc
    clear hc
    by_cases hlt : j < 64
    · go_wp2_with fail
      refine (rbits_any _ wr (by omega)).mono ?_
      rintro e w5 ⟨rfl, rfl⟩
      have hba := bit_and u j
      obtain ⟨q, hq⟩ : ∃ q : Nat, u / 2 ^ j = q := ⟨_, rfl⟩
      rw [hq] at hba
      have HQ : Tied (u / 2 ^ j) q := ⟨hq⟩
      clear hq
      have hm2 : q % 2 = 0 ∨ q % 2 = 1 := by omega
      rcases hm2 with hm | hm
      · rw [hm] at hba
        replace hba : bits .and .u64 ((u : Int) / 2 ^ j) 1 = 0 := hba
        have HN := Lib.hid (HC.out.none (by rw [HQ.e]; exact hm))
        clear hm
        go_wp2_with fail
        go_roundw
        case rel => exact ⟨j + 1, P, L, H, by omega, by go_num, rfl, rfl, rfl, HN.out, by first | trivial | rfl⟩
        case measure => simp [intOf]; omega
      · rw [hm] at hba
        replace hba : bits .and .u64 ((u : Int) / 2 ^ j) 1 = 1 := hba
        by_cases hn : L < 0
        · have HN := Lib.hid (HC.out.one (by omega) (by rw [HQ.e]; exact hm))
          rw [if_pos hn] at HN
          clear hm
          go_wp2_with fail
          go_roundw
          case rel => exact ⟨j + 1, P + 1, j, j, by omega, by go_num, rfl, rfl, rfl, HN.out, by first | trivial | rfl⟩
          case measure => simp [intOf]; omega
        · have HN := Lib.hid (HC.out.one (by omega) (by rw [HQ.e]; exact hm))
          rw [if_neg hn] at HN
          clear hm
          go_wp2_with fail
          go_roundw
          case rel => exact ⟨j + 1, P + 1, L, j, by omega, by go_num, rfl, rfl, rfl, HN.out, by first | trivial | rfl⟩
          case measure => simp [intOf]; omega
    · have : j = 64 := by omega
      subst this
      obtain ⟨x1, x2, x3⟩ := HC.out.ends
      rw [HE.a3] at x1
      rw [HE.a1] at x2
      rw [HE.a2] at x3
      clear hP hP2
      have hRR : P = R := by rw [HR.e, x1]
      subst hRR
      clear x1 x2 x3
      go_wp2_with fail
      refine (rbits_any _ wr (by omega)).mono ?_
      rintro e w5 ⟨rfl, rfl⟩
      go_wp2_with fail
      refine bodyPost_ret (v := .tuple #[.agg #[.int .i64 2, .int .i64 P], .bool true]) (by simp [results, Tryd.results16, go_sem, f3, f4]) rfl ⟨rfl, ?_⟩
      exact (Below.setCell hb'' (by simp) _).setCell (by simp) _
end Go.Proofs.YtdcpbjpghgbbiaaDoor
