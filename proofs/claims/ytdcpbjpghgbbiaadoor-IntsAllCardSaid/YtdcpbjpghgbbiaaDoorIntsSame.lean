/- ints.Two and the reference's give one thing, of whatever values. -/
import Derived.Test.YtdcpbjpghgbbiaaDoorIntsRefTwo
import Derived.Test.YtdcpbjpghgbbiaaDoorIntsTwoF
namespace Go.Proofs.YtdcpbjpghgbbiaaDoor
open Go.RowKit
set_option linter.unusedVariables false
set_option maxHeartbeats 2000000

def OpP (op : Int) : Prop :=
  let r := rkV (clsV op).1 (clsV op).2
  let k := r.2.1
  let t := r.2.2.1
  let c := (clsV op).1
  (r = (0, 0, 0, false) ∧ kindsV op = ([], 0, false)) ∨ (r = (1, k, t, true) ∧ kindsV op = ([k], t, true)) ∨
  (r = (2, k, t, true) ∧ kindsV op = ([k, k], t, true) ∧ (k = 1 ∨ k = 2) ∧ ofV op = (k, c) ∧ (clsV op).2 = k ∧
    ((t = 1 ∧ 70 ≤ c ∧ c ≤ 79) ∨ (t = k ∧ (c = 109 ∨ c = 110 ∨ c = 111 ∨ c = 112)) ∨ (t = k ∧ (c = 106 ∨ c = 107 ∨ c = 108 ∨ c = 113 ∨ c = 114 ∨ c = 115 ∨ c = 116 ∨ c = 117 ∨ c = 118 ∨ c = 119 ∨ c = 120))))
instance (op : Int) : Decidable (OpP op) := by unfold OpP; infer_instance
theorem opP_in : ∀ m < 105, OpP (69 + ((m : Nat) : Int)) := by decide +kernel
theorem opP_any (op : Int) : OpP op := by
  by_cases h : 69 ≤ op ∧ op ≤ 173
  · have := opP_in (op - 69).toNat (by omega)
    have e : 69 + (((op - 69).toNat : Nat) : Int) = op := by omega
    rw [e] at this
    exact this
  · have hc : clsV op = (0, 0) := by
      rcases Int.lt_or_le op 69 with h1 | h1
      · exact clsV_lo op (by omega)
      · exact clsV_hi op (by omega)
    have e1 : inB op 69 79 = false := by unfold inB; simp; omega
    have e2 : inB op 103 120 = false := by unfold inB; simp; omega
    have e3 : inB op 80 90 = false := by unfold inB; simp; omega
    have e4 : inB op 121 138 = false := by unfold inB; simp; omega
    have ho : ofV op = (0, 0) := by simp [ofV, e1, e2, e3, e4]
    refine Or.inl ⟨by rw [hc]; rfl, ?_⟩
    unfold kindsV
    rw [if_neg (by omega), if_neg (by omega), ho]
    rfl
theorem rk_of (k n : Int) (h : mayB (k, n) = true) (hb : -9223372036854775808 ≤ n ∧ n ≤ 9223372036854775807) : RK k n := by
  unfold RK
  split
  · rename_i hk
    subst hk
    simpa [mayB] using h
  · exact hb
theorem low_eq (k n m : Int) (hk : k = 1 ∨ k = 2) (hn : RK k n) (hm : RK k m) : (low (k, n) == low (k, m)) = (n == m) := by
  rw [Bool.eq_iff_iff, beq_iff_eq, beq_iff_eq]
  rcases hk with rfl | rfl
  · have a : -2147483648 ≤ n ∧ n ≤ 2147483647 := hn
    have b : -2147483648 ≤ m ∧ m ≤ 2147483647 := hm
    rw [low1, low1]; omega
  · have a : -9223372036854775808 ≤ n ∧ n ≤ 9223372036854775807 := hn
    have b : -9223372036854775808 ≤ m ∧ m ≤ 9223372036854775807 := hm
    rw [low2, low2]; omega
theorem rcmp_any (c k n m : Int) (hk : k = 1 ∨ k = 2) (h1 : 70 ≤ c) (h2 : c ≤ 79) (hn : RK k n) (hm : RK k m) (w : World) :
    Calls Tryd.prog 43 #[.int .i64 c, .int .i64 n, .int .i64 m, .int .u64 (low (k, n)), .int .u64 (low (k, m))] w fun e w' => e = .returned (.bool (cmpB c (k, n) (k, m))) ∧ w = w' := by
  have e := low_eq k n m hk hn hm
  rcases (show c = 70 ∨ c = 71 ∨ c = 72 ∨ c = 73 ∨ c = 74 ∨ c = 75 ∨ c = 76 ∨ c = 77 ∨ c = 78 ∨ c = 79 by omega) with rfl | rfl | rfl | rfl | rfl | rfl | rfl | rfl | rfl | rfl
  · have := rcmp_70 n m (low (k, n)) (low (k, m)) w; rw [e] at this; exact this
  · have := rcmp_71 n m (low (k, n)) (low (k, m)) w; rw [show (low (k, n) != low (k, m)) = (n != m) from congrArg not e] at this; exact this
  · exact rcmp_72 n m (low (k, n)) (low (k, m)) w
  · exact rcmp_73 n m (low (k, n)) (low (k, m)) w
  · exact rcmp_74 n m (low (k, n)) (low (k, m)) w
  · exact rcmp_75 n m (low (k, n)) (low (k, m)) w
  · exact rcmp_76 n m (low (k, n)) (low (k, m)) w
  · exact rcmp_77 n m (low (k, n)) (low (k, m)) w
  · exact rcmp_78 n m (low (k, n)) (low (k, m)) w
  · exact rcmp_79 n m (low (k, n)) (low (k, m)) w
theorem may_wk (k x : Int) (hk : k = 1 ∨ k = 2) : mayB (k, wk k x) = true := by
  rcases hk with rfl | rfl
  · have hw : wk 1 x = s32 x := rfl
    rw [hw]
    exact may_1 _ (s32_range x).1 (s32_range x).2
  · rfl
theorem div_may (k c n m : Int) (hk : k = 1 ∨ k = 2) (ht : (divV k c n m).2.2 = 0) : mayB ((divV k c n m).1, (divV k c n m).2.1) = true := by
  unfold divV at ht ⊢
  split at ht
  · cases ht
  · rename_i h0
    rw [if_neg h0]
    split at ht
    · rename_i h1
      rw [if_pos h1]
      split at ht
      · cases ht
      · rename_i h2
        rw [if_neg h2]
        exact may_wk k _ hk
    · rename_i h1
      rw [if_neg h1]
      split
      · exact may_wk k _ hk
      · split
        · exact may_wk k _ hk
        · exact may_wk k _ hk
/-- What both give. -/
def TwoSame (op k1 n k2 m : Int) : Prop := ∃ a b t : Int,
  (∀ w : World, Calls Tryd.prog 17 #[.int .i64 op, .agg #[.int .i64 k1, .int .i64 n], .agg #[.int .i64 k2, .int .i64 m]] w fun e w' => e = .returned (T2 a b t) ∧ Below w.heap.size w w') ∧
  (∀ w : World, Calls Tryd.prog 18 #[.int .i64 op, .agg #[.int .i64 k1, .int .i64 n], .agg #[.int .i64 k2, .int .i64 m]] w fun e w' => e = .returned (T2 a b t) ∧ Below w.heap.size w w') ∧
  (t = 0 → mayB (a, b) = true)
theorem two_same (op k1 n k2 m : Int) (hn : -9223372036854775808 ≤ n ∧ n ≤ 9223372036854775807) (hm : -9223372036854775808 ≤ m ∧ m ≤ 9223372036854775807) : TwoSame op k1 n k2 m := by
  have hop := opP_any op
  have hcl : Hid (clsV op = ((clsV op).1, (clsV op).2)) := rfl
  rcases hop with ⟨hr, hk⟩ | ⟨hr, hk⟩ | ⟨hr, hk, hkk, hof, hc2, hcs⟩
  · exact ⟨0, 0, -1, fun w => twof_none op 0 k1 k2 0 n m w hk, fun w => rtf_ok op _ _ k1 k2 n m 0 0 0 false w hcl hr rfl, fun h => by cases h⟩
  · exact ⟨0, 0, -1, fun w => twof_one op _ k1 k2 _ n m w hk, fun w => rtf_num op _ _ k1 k2 n m 1 _ _ true w hcl hr rfl (by decide), fun h => by cases h⟩
  · generalize (rkV (clsV op).1 (clsV op).2).2.1 = k at *
    generalize (rkV (clsV op).1 (clsV op).2).2.2.1 = t at *
    have hr' : Hid (rkV (clsV op).1 k = (2, k, t, true)) := by show rkV (clsV op).1 k = _; rw [← hr, hc2]
    have hcl' : Hid (clsV op = ((clsV op).1, k)) := by show clsV op = _; rw [← hc2]
    generalize (clsV op).1 = c at *
    by_cases g1 : k1 = k
    · by_cases g2 : k2 = k
      · subst g1 g2
        cases m1 : mayB (k2, n)
        · exact ⟨0, 0, -1, fun w => twof_m1 op _ _ _ _ n m w hk m1, fun w => rtf_m1 op c _ _ _ n m 2 _ _ true w hcl' hr' rfl rfl rfl rfl m1, fun h => by cases h⟩
        · cases m2 : mayB (k2, m)
          · exact ⟨0, 0, -1, fun w => twof_m2 op _ _ _ _ n m w hk m1 m2, fun w => rtf_m2 op c _ _ _ n m 2 _ _ true w hcl' hr' rfl rfl rfl rfl m1 m2, fun h => by cases h⟩
          · have rn := rk_of k2 n m1 hn
            have rm := rk_of k2 m m2 hm
            rcases hcs with ⟨rfl, h1, h2⟩ | ⟨rfl, hc⟩ | ⟨rfl, hc⟩
            · refine ⟨1, b2i (cmpB c (k2, n) (k2, m)), 0, fun w => two_cmp op k2 c n m w hkk hof hk ⟨h1, h2⟩ m1 m2, fun w => ?_, fun _ => by cases cmpB c (k2, n) (k2, m) <;> rfl⟩
              rcases hkk with rfl | rfl
              · exact rtc_1 op c n m _ w h2 (fun w => rcmp_any c 1 n m (.inl rfl) h1 h2 rn rm w) hcl' hr' m1 m2
              · exact rtc_2 op c n m _ w h2 (fun w => rcmp_any c 2 n m (.inr rfl) h1 h2 rn rm w) hcl' hr' m1 m2
            · have hlow : ¬ m = 0 → 1 ≤ low (t, m) := fun h => by
                have h1 := low_zero t m hkk rm
                have h2 := low_nn (t, m)
                have : ¬ low (t, m) = 0 := fun e => h (h1.1 e)
                omega
              refine ⟨_, _, _, fun w => two_div op t c n m w hkk hof hk hc hlow m1 m2, fun w => ?_, fun h => div_may t c n m hkk h⟩
              rcases hkk with rfl | rfl
              · exact rtd_1 op c n m w hc hcl' hr' m1 m2 rn rm
              · exact rtd_2 op c n m w hc hcl' hr' m1 m2 rn rm
            · refine ⟨t, wk t (reckV t c n m), 0, fun w => two_reck op t c n m w hkk hof hk (by unfold Reck; exact hc) m1 m2, fun w => ?_, fun _ => may_wk t _ hkk⟩
              rcases hkk with rfl | rfl
              · rcases hc with rfl | rfl | rfl | rfl | rfl | rfl | rfl | rfl | rfl | rfl | rfl
                · exact rt_1_106 op n m w hcl' hr' m1 m2 rn
                · exact rt_1_107 op n m w hcl' hr' m1 m2 rn
                · exact rt_1_108 op n m w hcl' hr' m1 m2 rn
                · exact rt_1_113 op n m w hcl' hr' m1 m2 rn
                · exact rt_1_114 op n m w hcl' hr' m1 m2 rn
                · exact rt_1_115 op n m w hcl' hr' m1 m2 rn
                · exact rt_1_116 op n m w hcl' hr' m1 m2 rn
                · exact rt_1_117 op n m w hcl' hr' m1 m2 rn
                · exact rt_1_118 op n m w hcl' hr' m1 m2 rn
                · exact rt_1_119 op n m w hcl' hr' m1 m2 rn
                · exact rt_1_120 op n m w hcl' hr' m1 m2 rn
              · rcases hc with rfl | rfl | rfl | rfl | rfl | rfl | rfl | rfl | rfl | rfl | rfl
                · exact rt_2_106 op n m w hcl' hr' m1 m2 rn
                · exact rt_2_107 op n m w hcl' hr' m1 m2 rn
                · exact rt_2_108 op n m w hcl' hr' m1 m2 rn
                · exact rt_2_113 op n m w hcl' hr' m1 m2 rn
                · exact rt_2_114 op n m w hcl' hr' m1 m2 rn
                · exact rt_2_115 op n m w hcl' hr' m1 m2 rn
                · exact rt_2_116 op n m w hcl' hr' m1 m2 rn
                · exact rt_2_117 op n m w hcl' hr' m1 m2 rn
                · exact rt_2_118 op n m w hcl' hr' m1 m2 rn
                · exact rt_2_119 op n m w hcl' hr' m1 m2 rn
                · exact rt_2_120 op n m w hcl' hr' m1 m2 rn
      · subst g1
        cases m1 : mayB (k1, n)
        · exact ⟨0, 0, -1, fun w => twof_m1 op _ _ _ _ n m w hk m1, fun w => rtf_k2 op c _ _ _ n m 2 _ _ true w hcl' hr' rfl rfl rfl g2, fun h => by cases h⟩
        · cases m2 : mayB (k2, m)
          · exact ⟨0, 0, -1, fun w => twof_m2 op _ _ _ _ n m w hk m1 m2, fun w => rtf_k2 op c _ _ _ n m 2 _ _ true w hcl' hr' rfl rfl rfl g2, fun h => by cases h⟩
          · exact ⟨0, 0, -1, fun w => twof_k2 op _ _ _ _ n m w hk m1 m2 rfl g2, fun w => rtf_k2 op c _ _ _ n m 2 _ _ true w hcl' hr' rfl rfl rfl g2, fun h => by cases h⟩
    · have hrf : ∀ w, _ := fun w => rtf_k1 op c k k1 k2 n m 2 k t true w hcl' hr' rfl rfl g1
      cases m1 : mayB (k1, n)
      · exact ⟨0, 0, -1, fun w => twof_m1 op _ _ _ _ n m w hk m1, hrf, fun h => by cases h⟩
      · cases m2 : mayB (k2, m)
        · exact ⟨0, 0, -1, fun w => twof_m2 op _ _ _ _ n m w hk m1 m2, hrf, fun h => by cases h⟩
        · exact ⟨0, 0, -1, fun w => twof_k1 op _ _ _ _ n m w hk m1 m2 g1, hrf, fun h => by cases h⟩
end Go.Proofs.YtdcpbjpghgbbiaaDoor
