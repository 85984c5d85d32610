/- The walk of FrameTwice: it returns true and writes nothing that was there. Condition: the slice reads as a row of bytes. -/
import Derived.Test.YtfeddkldnmgncaaFrameBegun
namespace Go.Proofs.Ytfeddkldnmgncaa
open Go.RowKit Crc
set_option linter.unusedVariables false

theorem seal1_opens {l : List Nat} (h : l.length ≤ 60000) : opens (seal1 l) = true ∧ inner (seal1 l) = l := by
  have e : sealed l = seal1 l := by unfold sealed; rw [if_pos h]
  have := opens_sealed h
  rwa [e] at this

set_option maxHeartbeats 4000000 in
theorem frameTwice_walk (a0 : Option Addr) (len0 cap0 : Nat) (z0 : List Int) (w : World) (w0 : IsRow .u8 w a0 len0 cap0 z0) :
    Calls Try.prog 14 #[.slice a0 len0 cap0] w fun e w' => e = .returned (.bool true) ∧ Below w.heap.size w w' := by
  obtain ⟨l0, rfl, hc0, hm0, hr0⟩ := isrow_rd w0
  clear w0
  obtain ⟨i0, hi, hz0, hz1, hz2⟩ := info_parts Try.infoF
  go_enter Try.func14, Try.ntmps14
  go_wp2_with fail
  refine (fbegun_any _).mono ?_
  rintro e w1 ⟨rfl, hb1⟩
  obtain ⟨L0, hL0, hle0, _, hr0'⟩ := short_rd (k := 200) hr0 hb1
  go_wp2_with fail
  refine (short_any a0 l0 L0 cap0 200 w1 hc0 hL0).mono ?_
  rintro e w2 ⟨rfl, rfl⟩
  go_wp2_with (first
    | (at_builtin; refine wpList_app _ rfl (.const (.slice none 0 0)) (.tmp 14) _ rfl w.heap.size 5 i0 Try.underlying24 hi hz0 hz1 hz2 (.slice none 0 0) [] rfl (Own.nil _ _ _) _ a0 L0 _ cap0 rfl rfl hr0' L0 (by simp) (by omega) hb1.size ?_; intro v1 w2 hown1 hb2 hg1 hat1)
    | fail)
  have hb2' := hb1.trans hb2
  obtain ⟨b1, c1, rfl, _, _, hrA, _⟩ := hown1.form
  clear hg1 hat1 hown1 hb2 hb1
  (with_reducible refine (seal_yes b1 L0 _ c1 w2 _ (hidr _) hrA (by omega) (Nat.le_refl _)).mono ?_)
  rintro e w3 ⟨v3, rfl, hown3, hb3⟩
  have hb3' := hb2'.trans (hb3.mono hb2'.size)
  have hrA3 := hrA.below hb3
  obtain ⟨b3, c3, rfl, hnc3, _, hr3, _⟩ := hown3.form
  obtain ⟨hopS, hinS⟩ := seal1_opens (l := L0) (by omega)
  have hlenS : (seal1 L0).length ≤ 208 := by rw [seal1_length]; omega
  have h8S : 8 ≤ (seal1 L0).length := by rw [seal1_length]; omega
  generalize seal1 L0 = S at *
  have HopS := Lib.hid hopS; clear hopS
  have HinS := Lib.hid hinS; clear hinS
  go_wp2_with (first
    | (at_builtin; refine wpList_app _ rfl (.const (.slice none 0 0)) (.tmp 18) _ rfl w.heap.size 5 i0 Try.underlying24 hi hz0 hz1 hz2 (.slice none 0 0) [] rfl (Own.nil _ _ _) _ b3 S _ c3 rfl rfl hr3 S (by simp) (by omega) hb3'.size ?_; intro v4 w4 hown4 hb4 hg4 hat4)
    | fail)
  have hb4r : Below w3.heap.size w3 w4 := (Below.refl _ _).grown hg4 (Nat.le_refl _) (by intro k h; cases h)
  have hb4' := hb3'.trans hb4
  obtain ⟨b4, c4, rfl, _, _, hr4, _⟩ := hown4.form
  have hr3' := hr3.below hb4r
  have hrA4 := hrA3.below (hb4r.mono hb3.size)
  clear hg4 hat4 hb4
  (with_reducible refine (seal_yes b4 S _ c4 w4 _ (hidr _) hr4 (by omega) (Nat.le_refl _)).mono ?_)
  rintro e w5 ⟨v5, rfl, hown5, hb5⟩
  have hb5' := hb4'.trans (hb5.mono hb4'.size)
  obtain ⟨b5, c5, rfl, hnc5, _, hr5, _⟩ := hown5.form
  obtain ⟨hopT, hinT⟩ := seal1_opens (l := S) (by omega)
  have hlenT : (seal1 S).length ≤ 216 := by rw [seal1_length]; omega
  have h8T : 8 ≤ (seal1 S).length := by rw [seal1_length]; omega
  generalize seal1 S = T at *
  have HopT := Lib.hid hopT; clear hopT
  have HinT := Lib.hid hinT; clear hinT
  go_wp2_with fail
  (with_reducible refine (open_long b5 T _ c5 w5 _ (hidr _) hr5 h8T (by omega) hnc5 (Nat.le_refl _)).mono ?_)
  rintro e w6 ⟨⟨v6, hv⟩, hb6⟩
  rcases hv with ⟨_, rfl, hown6⟩ | ⟨hf, _⟩
  · rw [HinT.out] at hown6
    have hb6' := hb5'.trans (hb6.mono hb5'.size)
    obtain ⟨b6, c6, rfl, hnc6, _, hr6, _⟩ := hown6.form
    go_wp2_with fail
    (with_reducible refine (open_long b6 S _ c6 w6 _ (hidr _) hr6 h8S (by omega) hnc6 (Nat.le_refl _)).mono ?_)
    rintro e w7 ⟨⟨v7, hv⟩, hb7⟩
    rcases hv with ⟨_, rfl, hown7⟩ | ⟨hf, _⟩
    · rw [HinS.out] at hown7
      have hb7' := hb6'.trans (hb7.mono hb6'.size)
      obtain ⟨b7, c7, rfl, _, _, hr7, _⟩ := hown7.form
      have hb57 := (hb6.trans (hb7.mono hb6.size))
      have hb47 := hb5.trans (hb57.mono hb5.size)
      have q3 := hr3'.below (hb47.mono hb4r.size)
      have qA := hrA4.below (hb47.mono (Nat.le_trans hb3.size hb4r.size))
      have q6 := hr6.below hb7
      have s3 := run_str (P := Try.prog) q3 _ c3 rfl 24 5 9 Try.underlying24 Try.underlying5 Try.underlying9
      have sA := run_str (P := Try.prog) qA _ c1 rfl 24 5 9 Try.underlying24 Try.underlying5 Try.underlying9
      have s6 := run_str (P := Try.prog) q6 _ c6 rfl 24 5 9 Try.underlying24 Try.underlying5 Try.underlying9
      have s7 := run_str (P := Try.prog) hr7 _ c7 rfl 24 5 9 Try.underlying24 Try.underlying5 Try.underlying9
      clear hr0 hr0' hrA hrA3 hown3 hr3 hown4 hr4 hr3' hrA4 hown5 hr5 hown6 hr6 hown7 hr7 q3 qA q6
      go_wp2_with fail
      go_ret
      exact ⟨rfl, hb7'⟩
    · rw [HopS.out] at hf; cases hf
  · rw [HopT.out] at hf; cases hf

end Go.Proofs.Ytfeddkldnmgncaa
