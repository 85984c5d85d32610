/- ints.One and the reference's give one thing, of whatever value. -/
import Derived.Test.YtdcpbjpghgbbiaaDoorIntsSame
import Derived.Test.YtdcpbjpghgbbiaaDoorIntsOneF
import Derived.Test.YtdcpbjpghgbbiaaDoorIntsRefCnt
namespace Go.Proofs.YtdcpbjpghgbbiaaDoor
open Go.RowKit
set_option linter.unusedVariables false
set_option maxHeartbeats 2000000

def OpQ (op : Int) : Prop :=
  let r := rkV (clsV op).1 (clsV op).2
  let k := r.2.1
  let t := r.2.2.1
  let c := (clsV op).1
  (r = (0, 0, 0, false) ∧ kindsV op = ([], 0, false)) ∨ (r = (2, k, t, true) ∧ kindsV op = ([k, k], t, true)) ∨
  (r = (1, k, t, true) ∧ kindsV op = ([k], t, true) ∧ (clsV op).2 = k ∧
    (op = 167 ∨ op = 172 ∨ op = 173 ∨
     ((op == 167) = false ∧ (op == 172) = false ∧ (op == 173) = false ∧ (k = 1 ∨ k = 2) ∧ ofV op = (k, c) ∧
       ((c = 69 ∧ t = 1) ∨ (c = 103 ∧ t = k) ∨ (c = 104 ∧ t = k) ∨ (c = 105 ∧ t = k)))))
instance (op : Int) : Decidable (OpQ op) := by unfold OpQ; infer_instance
theorem opQ_in : ∀ m < 105, OpQ (69 + ((m : Nat) : Int)) := by decide +kernel
theorem opQ_any (op : Int) : OpQ op := by
  by_cases h : 69 ≤ op ∧ op ≤ 173
  · have := opQ_in (op - 69).toNat (by omega)
    have e : 69 + (((op - 69).toNat : Nat) : Int) = op := by omega
    rw [e] at this
    exact this
  · have hp := opP_any op
    rcases hp with h1 | ⟨h1, h2⟩ | ⟨h1, h2, _⟩
    · exact .inl h1
    · have hc : clsV op = (0, 0) := by
        rcases Int.lt_or_le op 69 with h3 | h3
        · exact clsV_lo op (by omega)
        · exact clsV_hi op (by omega)
      rw [hc] at h1
      cases h1
    · exact .inr (.inl ⟨h1, h2⟩)
theorem low_eqz (k n : Int) (hk : k = 1 ∨ k = 2) (hn : RK k n) : (low (k, n) == 0) = (n == 0) := by
  rw [Bool.eq_iff_iff, beq_iff_eq, beq_iff_eq]
  exact low_zero k n hk hn
def OneSame (op k1 n : Int) : Prop := ∃ (a b : Int) (ok : Bool),
  (∀ w : World, TabAt 0 Lib.deBruijn64tab w → Calls Tryd.prog 15 #[.int .i64 op, .agg #[.int .i64 k1, .int .i64 n]] w fun e w' => e = .returned (T1 a b ok) ∧ Below w.heap.size w w') ∧
  (∀ w : World, Calls Tryd.prog 16 #[.int .i64 op, .agg #[.int .i64 k1, .int .i64 n]] w fun e w' => e = .returned (T1 a b ok) ∧ Below w.heap.size w w')
theorem one_same (op k1 n : Int) (hn : -9223372036854775808 ≤ n ∧ n ≤ 9223372036854775807) : OneSame op k1 n := by
  have hop := opQ_any op
  have hcl : Hid (clsV op = ((clsV op).1, (clsV op).2)) := rfl
  rcases hop with ⟨hr, hk⟩ | ⟨hr, hk⟩ | ⟨hr, hk, hc2, hcs⟩
  · exact ⟨0, 0, false, fun w _ => onef_none op 0 k1 0 n w hk, fun w => rof_ok op _ _ k1 n 0 0 0 false w hcl hr rfl⟩
  · exact ⟨0, 0, false, fun w _ => onef_two op _ k1 _ n w hk, fun w => rof_num op _ _ k1 n 2 _ _ true w hcl hr rfl (by decide)⟩
  · generalize (rkV (clsV op).1 (clsV op).2).2.1 = k at *
    generalize (rkV (clsV op).1 (clsV op).2).2.2.1 = t at *
    have hr' : Hid (rkV (clsV op).1 k = (1, k, t, true)) := by show rkV (clsV op).1 k = _; rw [← hr, hc2]
    have hcl' : Hid (clsV op = ((clsV op).1, k)) := by show clsV op = _; rw [← hc2]
    have hcv : ∃ cc, (clsV op).1 = cc := ⟨_, rfl⟩
    obtain ⟨c, hcc⟩ := hcv
    rw [hcc] at hr' hcl' hcs
    by_cases g1 : k1 = k
    · subst g1
      cases m1 : mayB (k1, n)
      · exact ⟨0, 0, false, fun w _ => onef_m op _ _ _ n w hk m1, fun w => rof_m op c _ _ n 1 _ _ true w hcl' hr' rfl rfl rfl m1⟩
      · have rn := rk_of k1 n m1 hn
        rcases hcs with rfl | rfl | rfl | ⟨s1, s2, s3, hkk, hof, hcs⟩
        · have e1 : (2 : Int) = k1 := by rw [← hc2]; decide
          have e2 : c = 167 := by rw [← hcc]; decide
          subst e1 e2
          exact ⟨1, wk 1 n, true, fun w _ => one_167 n w (show kindsV 167 = ([2], 1, true) by decide) m1, fun w => ro_167 167 n w (show clsV 167 = (167, 2) by decide) (show rkV 167 2 = (1, 2, 1, true) by decide) m1⟩
        · have e1 : (1 : Int) = k1 := by rw [← hc2]; decide
          have e2 : c = 172 := by rw [← hcc]; decide
          subst e1 e2
          exact ⟨2, n, true, fun w _ => one_172 n w (show kindsV 172 = ([1], 2, true) by decide) m1, fun w => ro_172 172 n w (show clsV 172 = (172, 1) by decide) (show rkV 172 1 = (1, 1, 2, true) by decide) m1⟩
        · have e1 : (1 : Int) = k1 := by rw [← hc2]; decide
          have e2 : c = 173 := by rw [← hcc]; decide
          subst e1 e2
          exact ⟨2, wrap64 (low (1, n)), true, fun w _ => one_173 n w (show kindsV 173 = ([1], 2, true) by decide) m1, fun w => ro_173 173 n w (show clsV 173 = (173, 1) by decide) (show rkV 173 1 = (1, 1, 2, true) by decide) m1⟩
        · rcases hcs with ⟨rfl, rfl⟩ | ⟨rfl, rfl⟩ | ⟨rfl, rfl⟩ | ⟨rfl, rfl⟩
          · refine ⟨1, b2i (n == 0), true, fun w _ => one_eqz op k1 n w hkk s1 s2 s3 hof hk m1, fun w => ?_⟩
            have e := low_eqz k1 n hkk rn
            rw [← e]
            rcases hkk with rfl | rfl
            · exact ro_eqz_1 op n w hcl' hr' m1
            · exact ro_eqz_2 op n w hcl' hr' m1
          · refine ⟨t, _, true, fun w _ => one_clz op t n w hkk s1 s2 s3 hof hk m1, fun w => ?_⟩
            rcases hkk with rfl | rfl
            · exact ro_103_1 op n w hcl' hr' m1
            · exact ro_103_2 op n w hcl' hr' m1
          · refine ⟨t, _, true, fun w htab => one_ctz op t n w hkk s1 s2 s3 hof hk m1 htab, fun w => ?_⟩
            rcases hkk with rfl | rfl
            · exact ro_104_1 op n w hcl' hr' m1
            · exact ro_104_2 op n w hcl' hr' m1
          · refine ⟨t, _, true, fun w _ => one_pop op t n w hkk s1 s2 s3 hof hk m1, fun w => ?_⟩
            rcases hkk with rfl | rfl
            · exact ro_105_1 op n w hcl' hr' m1
            · exact ro_105_2 op n w hcl' hr' m1
    · cases m1 : mayB (k1, n)
      · exact ⟨0, 0, false, fun w _ => onef_m op _ _ _ n w hk m1, fun w => rof_k op c _ _ n 1 _ _ true w hcl' hr' rfl rfl g1⟩
      · exact ⟨0, 0, false, fun w _ => onef_k op _ _ _ n w hk m1 g1, fun w => rof_k op c _ _ n 1 _ _ true w hcl' hr' rfl rfl g1⟩
end Go.Proofs.YtdcpbjpghgbbiaaDoor
