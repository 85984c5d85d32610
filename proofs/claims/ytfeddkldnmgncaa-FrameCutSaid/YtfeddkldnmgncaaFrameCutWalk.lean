/- The walk of FrameCut: it returns true and writes nothing that was there. Conditions: the slices read as rows of bytes, the number fits int. -/
import Derived.Test.YtfeddkldnmgncaaFrameCutReg
import Derived.RegionTactic
namespace Go.Proofs.Ytfeddkldnmgncaa
open Go.RowKit Crc
set_option linter.unusedVariables false

theorem seal1_opens3 {l : List Nat} (h : l.length ≤ 60000) : opens (seal1 l) = true ∧ inner (seal1 l) = l := by
  have e : sealed l = seal1 l := by unfold sealed; rw [if_pos h]
  have := opens_sealed h
  rwa [e] at this

theorem sealed_back {t : List Nat} (h : opens t = true) (hl : t.length ≤ 60008) : seal1 (inner t) = t ∧ (inner t).length ≤ 60000 := by
  unfold opens at h
  simp only [Bool.and_eq_true, decide_eq_true_eq] at h
  have h1 := inner_length t h.1
  have h2 : (inner t).length ≤ 60000 := by omega
  have h3 := h.2
  unfold sealed at h3
  rw [if_pos h2] at h3
  exact ⟨h3, h2⟩

/-- Open, of whatever bytes, long or short. -/
theorem open_both (a : Option Addr) (t : List Nat) (n c : Nat) (w : World) (B : Nat) (hn : Hid (n = t.length)) (hr : Rd w B a t) (hl : n ≤ 60008) (hnc : n ≤ c) (hB : B ≤ w.heap.size) :
    Calls Try.prog 22 #[.slice a n c] w fun e w' => (∃ v, (opens t = true ∧ e = .returned (.tuple #[v, .int .i64 0]) ∧ Own w' w.heap.size 5 v (inner t) ∨ opens t = false ∧ e = .returned (.tuple #[.slice none 0 0, .int .i64 11]))) ∧ Below w.heap.size w w' := by
  by_cases h8 : 8 ≤ n
  · exact open_long a t n c w B hn hr h8 hl hnc hB
  · exact (open_short a n c w (by omega)).mono fun e w' ⟨he, hw⟩ => ⟨⟨.nilIface, .inr ⟨opens_short (by have := hn.out; omega), he⟩⟩, by subst hw; exact Below.refl _ _⟩

set_option maxHeartbeats 4000000 in
theorem frameCut_walk (a0 : Option Addr) (len0 cap0 : Nat) (z0 : List Int) (a1 : Option Addr) (len1 cap1 : Nat) (z1 : List Int) (a2 : Int) (w : World) (w0 : IsRow .u8 w a0 len0 cap0 z0) (w1 : IsRow .u8 w a1 len1 cap1 z1) (w2 : (Lit.int .i64 a2).wf = true) :
    Calls Try.prog 11 #[.slice a0 len0 cap0, .slice a1 len1 cap1, .int .i64 a2] w fun e w' => e = .returned (.bool true) ∧ Below w.heap.size w w' := by
  obtain ⟨l0, rfl, hc0, hm0, hr0⟩ := isrow_rd w0
  obtain ⟨l1, rfl, hc1, hm1, hr1⟩ := isrow_rd w1
  have hbd := bounds_i64 w2
  clear w0 w1 w2
  obtain ⟨i0, hi, hz0, hz1, hz2⟩ := info_parts Try.infoF
  go_enter Try.func11, Try.ntmps11
  go_wp2_with fail
  refine (fbegun_any _).mono ?_
  rintro e w1 ⟨rfl, hb1⟩
  obtain ⟨L0, hL0, hle0, _, hr0'⟩ := short_rd (k := 200) hr0 hb1
  go_wp2_with fail
  refine (short_any a0 l0 L0 cap0 200 w1 hc0 hL0).mono ?_
  rintro e w2 ⟨rfl, rfl⟩
  go_wp2_with (first
    | (at_builtin; refine wpList_app _ rfl (.const (.slice none 0 0)) (.tmp 18) _ rfl w.heap.size 5 i0 Try.underlying24 hi hz0 hz1 hz2 (.slice none 0 0) [] rfl (Own.nil _ _ _) _ a0 L0 _ cap0 rfl rfl hr0' L0 (by simp) (by omega) hb1.size ?_; intro v1 w2 hown1 hb2 hg1 hat1)
    | fail)
  have hb2' := hb1.trans hb2
  obtain ⟨b1, c1, rfl, _, _, hrA, _⟩ := hown1.form
  clear hg1 hat1 hown1 hb2 hb1
  (with_reducible refine (seal_yes b1 L0 _ c1 w2 _ (hidr _) hrA (by omega) (Nat.le_refl _)).mono ?_)
  rintro e w3 ⟨v3, rfl, hown3, hb3⟩
  have hb3' := hb2'.trans (hb3.mono hb2'.size)
  obtain ⟨b3, c3, rfl, hnc3, _, hr3, _⟩ := hown3.form
  obtain ⟨hopS, hinS⟩ := seal1_opens3 (l := L0) (by omega)
  have hlenS : (seal1 L0).length ≤ 208 := by rw [seal1_length]; omega
  generalize seal1 L0 = S at *
  have HopS := Lib.hid hopS; clear hopS hinS hrA
  by_cases hlo : a2 < 0
  · go_wp2_with fail
    go_ret
    exact ⟨rfl, hb3'⟩
  · have hlod : decide (a2 < 0) = false := decide_eq_false hlo
    by_cases hhi : (S.length : Int) < a2
    · have hhid : decide ((S.length : Int) < a2) = true := decide_eq_true hhi
      go_wp2_with fail
      go_ret
      exact ⟨rfl, hb3'⟩
    · have hhid : decide ((S.length : Int) < a2) = false := decide_eq_false hhi
      go_upto_region 7 with fail
      clear hlod hhid
      obtain ⟨k, rfl⟩ := Int.eq_ofNat_of_zero_le (show 0 ≤ a2 by omega)
      have hk : k ≤ S.length := by omega
      obtain ⟨L1, hL1, hle1, _, hr1'⟩ := short_rd (k := 20) hr1 hb3'
      go_wp2_with fail
      refine (short_any a1 l1 L1 cap1 20 w3 hc1 hL1).mono ?_
      rintro e w4 ⟨rfl, rfl⟩
      have hrk := hr3.take (S.length - k)
      have hkl : S.length - k = (S.take (S.length - k)).length := by simp
      obtain ⟨T, hT⟩ : ∃ T, T = S.take (S.length - k) ++ L1 := ⟨_, rfl⟩
      have hTl : T.length ≤ 228 := by rw [hT, List.length_append, ← hkl]; omega
      have HT := Lib.hid hT.symm; clear hT
      generalize S.take (S.length - k) = K at hrk hkl HT
      have Hkl := Lib.hid hkl; clear hkl
      go_wp2_with (first
        | (at_builtin; refine wpList_app _ rfl (.const (.slice none 0 0)) (.tmp 36) _ rfl w.heap.size 5 i0 Try.underlying24 hi hz0 hz1 hz2 (.slice none 0 0) [] rfl (Own.nil _ _ _) _ b3 K _ c3 Hkl.out rfl hrk K (by simp) (by have := Hkl.out; omega) hb3'.size ?_; intro v5 w5 hown5 hb5 hg5 hat5; have hb5r : Below w3.heap.size w3 w5 := (Below.refl _ _).grown hg5 (Nat.le_refl _) (by intro k h; cases h))
        | (at_builtin; refine wpList_app _ rfl (.tmp 37) (.tmp 38) _ rfl w.heap.size 5 i0 Try.underlying24 hi hz0 hz1 hz2 v5 K rfl hown5 _ a1 L1 _ cap1 rfl rfl (hr1'.below hb5) T HT.out (by omega) (Nat.le_trans hb3'.size hb5.size) ?_; intro v6 w6 hown6 hb6 hg6 hat6)
        | fail)
      have hb6' := (hb3'.trans hb5).trans hb6
      obtain ⟨b6, c6, rfl, hnc6, _, hr6, _⟩ := hown6.form
      have hgr6 : v5.ownBlock = none ∨ ∀ k, v5.ownBlock = some k → w3.heap.size ≤ k := by
        rcases hat5 with h | h
        · left; rw [h]; rfl
        · right; intro k hk; rw [h] at hk; injection hk with hk; omega
      have hb6r : Below w3.heap.size w5 w6 := (Below.refl _ _).grown hg6 hb5r.size (by
        intro k hk
        rcases hgr6 with h | h
        · rw [h] at hk; cases hk
        · exact h k hk)
      have hrS6 := hr3.below (hb5r.trans hb6r)
      clear hg5 hat5 hg6 hat6 hown5 hgr6 hr1' hrk HT
      (with_reducible refine (open_both b6 T _ c6 w6 _ (hidr _) hr6 (by omega) hnc6 (Nat.le_refl _)).mono ?_)
      rintro e w7 ⟨⟨v7, hv⟩, hb7⟩
      have hb7' := hb6'.trans (hb7.mono hb6'.size)
      have hrS7 := hrS6.below (hb7.mono (hb5r.trans hb6r).size)
      have hrT7 := hr6.below hb7
      have sT := run_str (P := Try.prog) hrT7 _ c6 rfl 24 5 9 Try.underlying24 Try.underlying5 Try.underlying9
      have sS := run_str (P := Try.prog) hrS7 _ c3 rfl 24 5 9 Try.underlying24 Try.underlying5 Try.underlying9
      have hcmp : ((str T).toList == (str S).toList) = decide (T = S) := by
        rw [Lib.toList_data, Lib.toList_data, str_beq hrT7.1 hrS7.1]
      clear hrS6 hrS7 hr6 hr3
      by_cases hTS : T = S
      · rw [decide_eq_true hTS] at hcmp
        have HTS := Lib.hid hTS; clear hTS
        rcases hv with ⟨_, rfl, _⟩ | ⟨hf, _⟩
        · go_wp2_with fail
          go_ret
          exact ⟨rfl, hb7'⟩
        · rw [HTS.out, HopS.out] at hf; cases hf
      · rw [decide_eq_false hTS] at hcmp
        clear hTS
        rcases hv with ⟨hop, rfl, hown7⟩ | ⟨hop, rfl⟩
        · have Hop := Lib.hid hop; clear hop
          go_wp2_with fail
          (with_reducible refine (open_both b6 T _ c6 w7 _ (hidr _) hrT7 (by omega) hnc6 hb7.size).mono ?_)
          rintro e w8 ⟨⟨v8, hv⟩, hb8⟩
          rcases hv with ⟨_, rfl, hown8⟩ | ⟨hf, _⟩
          · obtain ⟨hbk, hil⟩ := sealed_back Hop.out (by omega)
            obtain ⟨I, hI⟩ : ∃ I, I = inner T := ⟨_, rfl⟩
            rw [← hI] at hown8 hbk hil
            clear hI
            obtain ⟨b8, c8, rfl, _, _, hr8, _⟩ := hown8.form
            have hrT8 := hrT7.below (hb8.mono hb7.size)
            have hw6 : w6.heap.size ≤ w8.heap.size := Nat.le_trans hb7.size hb8.size
            have hb8' := hb7'.trans (hb8.mono hb7'.size)
            have hw8 : w.heap.size ≤ w8.heap.size := hb8'.size
            have Hbk := Lib.hid hbk; clear hbk
            clear sT sS hcmp hown8 hown7 hrT7
            have sT8 := run_str (P := Try.prog) (w := w8.drew) hrT8 _ c6 rfl 24 5 9 Try.underlying24 Try.underlying5 Try.underlying9
            go_upto_region 13 with fail
            refine Code.wp_mono ?_ (cut_region b6 b8 T I c6 c8 w6.heap.size w8 hr8 hil hrT8 hw6 Hbk _ _ _ _ _ _ _ _ _ _ _ _ _ _ _ _ _ _ _ _ _ _ _ _ _ _ _ _ _ _ _ _ _ _ _ _ _ _ _ _ _ _ _ _ _ _ _ _ _ _ _ _ _ _ _ _ _ _ _ _ _ _ _)
            intro e a w' hq
            cases e <;> first | exact hq.elim | skip
            obtain ⟨hb9, v57, v58, v59, v60, v61, v62, v63, v64, v65, v66, rfl⟩ := hq
            clear sT8
            go_wp2
            go_ret
            exact ⟨rfl, hb8'.trans (hb9.mono hw8)⟩
          · rw [Hop.out] at hf; cases hf
        · have Hop := Lib.hid hop; clear hop
          go_wp2_with fail
          (with_reducible refine (open_both b6 T _ c6 w7 _ (hidr _) hrT7 (by omega) hnc6 hb7.size).mono ?_)
          rintro e w8 ⟨⟨v8, hv⟩, hb8⟩
          rcases hv with ⟨hf, _⟩ | ⟨_, rfl⟩
          · rw [Hop.out] at hf; cases hf
          · go_wp2_with fail
            go_quiet (fail)
            go_wp2
            go_ret
            exact ⟨rfl, below_drewN (hb7'.trans (hb8.mono hb7'.size)) _⟩

end Go.Proofs.Ytfeddkldnmgncaa
