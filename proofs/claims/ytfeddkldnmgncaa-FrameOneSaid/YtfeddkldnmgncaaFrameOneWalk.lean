/- The walk of FrameOne: it returns true and writes nothing that was there. Conditions: the slices read as rows of bytes. -/
import Derived.Test.YtfeddkldnmgncaaFrameBegun
namespace Go.Proofs.Ytfeddkldnmgncaa
open Go.RowKit Crc
set_option linter.unusedVariables false

theorem one_same {A C : List Nat} : (decide (seal1 A = seal1 C) == decide (A = C)) = true := by
  by_cases h : A = C
  · subst h; simp
  · have : ¬ seal1 A = seal1 C := fun e => h (seal1_inj e)
    simp [h, this]

set_option maxHeartbeats 4000000 in
theorem frameOne_walk (a0 : Option Addr) (len0 cap0 : Nat) (z0 : List Int) (a1 : Option Addr) (len1 cap1 : Nat) (z1 : List Int) (w : World) (w0 : IsRow .u8 w a0 len0 cap0 z0) (w1 : IsRow .u8 w a1 len1 cap1 z1) :
    Calls Try.prog 13 #[.slice a0 len0 cap0, .slice a1 len1 cap1] w fun e w' => e = .returned (.bool true) ∧ Below w.heap.size w w' := by
  obtain ⟨l0, rfl, hc0, hm0, hr0⟩ := isrow_rd w0
  obtain ⟨l1, rfl, hc1, hm1, hr1⟩ := isrow_rd w1
  clear w0 w1
  obtain ⟨i0, hi, hz0, hz1, hz2⟩ := info_parts Try.infoF
  go_enter Try.func13, Try.ntmps13
  go_wp2_with fail
  refine (fbegun_any _).mono ?_
  rintro e w1 ⟨rfl, hb1⟩
  obtain ⟨L0, hL0, hle0, _, hr0'⟩ := short_rd (k := 200) hr0 hb1
  go_wp2_with fail
  refine (short_any a0 l0 L0 cap0 200 w1 hc0 hL0).mono ?_
  rintro e w2 ⟨rfl, rfl⟩
  go_wp2_with (first
    | (at_builtin; refine wpList_app _ rfl (.const (.slice none 0 0)) (.tmp 12) _ rfl w.heap.size 5 i0 Try.underlying24 hi hz0 hz1 hz2 (.slice none 0 0) [] rfl (Own.nil _ _ _) _ a0 L0 _ cap0 rfl rfl hr0' L0 (by simp) (by omega) hb1.size ?_; intro v1 w2 hown1 hb2 hg1 hat1)
    | fail)
  have hb2' := hb1.trans hb2
  obtain ⟨L1, hL1, hle1, _, hr1'⟩ := short_rd (k := 200) hr1 hb2'
  refine (short_any a1 l1 L1 cap1 200 w2 hc1 hL1).mono ?_
  rintro e w3 ⟨rfl, rfl⟩
  go_wp2_with (first
    | (at_builtin; refine wpList_app _ rfl (.const (.slice none 0 0)) (.tmp 15) _ rfl w.heap.size 5 i0 Try.underlying24 hi hz0 hz1 hz2 (.slice none 0 0) [] rfl (Own.nil _ _ _) _ a1 L1 _ cap1 rfl rfl hr1' L1 (by simp) (by omega) hb2'.size ?_; intro v2 w3 hown2 hb3 hg2 hat2)
    | fail)
  have hown1' := hown1.keep hg2 (by rcases h : v1.ownBlock with _ | k <;> simp [Value.ownBlock])
  have hbw := hb2'.trans hb3
  obtain ⟨b1, c1, rfl, _, _, hrA, _⟩ := hown1'.form
  obtain ⟨b2, c2, rfl, _, _, hrC, _⟩ := hown2.form
  clear hg1 hat1 hg2 hat2 hown1 hb2 hb3
  (with_reducible refine (seal_yes b1 L0 _ c1 w3 _ (hidr _) hrA (by omega) (Nat.le_refl _)).mono ?_)
  rintro e w4 ⟨v4, rfl, hown4, hb4⟩
  have hrC' := hrC.below hb4
  have hrA' := hrA.below hb4
  go_wp2_with fail
  (with_reducible refine (seal_yes b2 L1 _ c2 w4 _ (hidr _) hrC' (by omega) hb4.size).mono ?_)
  rintro e w5 ⟨v5, rfl, hown5, hb5⟩
  have hown4' := hown4.below' hb5
  have hb45 := hb4.trans (hb5.mono hb4.size)
  have hrC2 := hrC.below hb45
  have hrA2 := hrA.below hb45
  have hb := hbw.trans (hb45.mono hbw.size)
  obtain ⟨b4, c4, rfl, _, _, hr4, _⟩ := hown4'.form
  obtain ⟨b5, c5, rfl, _, _, hr5, _⟩ := hown5.form
  have hlaw := one_same (A := L0) (C := L1)
  have hn4 := seal1_length L0
  have hn5 := seal1_length L1
  generalize seal1 L0 = S at hr4 hlaw hn4
  generalize seal1 L1 = T at hr5 hlaw hn5
  have hq4 : ((S.length : Int) == (L0.length : Int) + 8) = true := by rw [beq_iff_eq]; omega
  have hq5 : ((T.length : Int) == (L1.length : Int) + 8) = true := by rw [beq_iff_eq]; omega
  have s4 := run_str (P := Try.prog) hr4 _ c4 rfl 24 5 9 Try.underlying24 Try.underlying5 Try.underlying9
  have s5 := run_str (P := Try.prog) hr5 _ c5 rfl 24 5 9 Try.underlying24 Try.underlying5 Try.underlying9
  have sA := run_str (P := Try.prog) hrA2 _ c1 rfl 24 5 9 Try.underlying24 Try.underlying5 Try.underlying9
  have sC := run_str (P := Try.prog) hrC2 _ c2 rfl 24 5 9 Try.underlying24 Try.underlying5 Try.underlying9
  have hS4 : S.length ≤ 208 := by omega
  have hS5 : T.length ≤ 208 := by omega
  have hfin : ((((str S).toList == (str T).toList)) == ((str L0).toList == (str L1).toList)) = true := by
    rw [Lib.toList_data, Lib.toList_data, Lib.toList_data, Lib.toList_data, str_beq hr4.1 hr5.1, str_beq hrA.1 hrC.1]
    exact hlaw
  have Hfin := Lib.hid hfin
  clear hfin hlaw hn4 hn5 hown4 hown5 hown4' hown1' hown2 hrA hrC hrC' hrA'
  go_wp2_with fail
  go_ret
  exact ⟨congrArg (fun b => Ending.returned (.bool b)) Hfin.out, hb⟩

end Go.Proofs.Ytfeddkldnmgncaa
