/- The walk of FrameAll: it returns true and writes nothing that was there. Conditions: the slices read as rows of bytes. -/
import Derived.Test.YtfeddkldnmgncaaFrameAllReg
import Derived.BigQuiet
import Derived.Deep.DeepCutAuto
import Derived.Outline
namespace Go.Proofs.Ytfeddkldnmgncaa
open Go.RowKit Crc
set_option linter.unusedVariables false

theorem seal1_opens4 {l : List Nat} (h : l.length ≤ 60000) : opens (seal1 l) = true ∧ inner (seal1 l) = l := by
  have e : sealed l = seal1 l := by unfold sealed; rw [if_pos h]
  have := opens_sealed h
  rwa [e] at this
theorem open_both4 (a : Option Addr) (t : List Nat) (n c : Nat) (w : World) (B : Nat) (hn : Hid (n = t.length)) (hr : Rd w B a t) (hl : n ≤ 60008) (hnc : n ≤ c) (hB : B ≤ w.heap.size) :
    Calls Try.prog 22 #[.slice a n c] w fun e w' => (∃ v, (opens t = true ∧ e = .returned (.tuple #[v, .int .i64 0]) ∧ Own w' w.heap.size 5 v (inner t) ∨ opens t = false ∧ e = .returned (.tuple #[.slice none 0 0, .int .i64 11]))) ∧ Below w.heap.size w w' := by
  by_cases h8 : 8 ≤ n
  · exact open_long a t n c w B hn hr h8 hl hnc hB
  · exact (open_short a n c w (by omega)).mono fun e w' ⟨he, hw⟩ => ⟨⟨.nilIface, .inr ⟨opens_short (by have := hn.out; omega), he⟩⟩, by subst hw; exact Below.refl _ _⟩

theorem sealed_back {t : List Nat} (h : opens t = true) (hl : t.length ≤ 60008) : seal1 (inner t) = t ∧ (inner t).length ≤ 60000 := by
  unfold opens at h
  simp only [Bool.and_eq_true, decide_eq_true_eq] at h
  have h1 := inner_length t h.1
  have h2 : (inner t).length ≤ 60000 := by omega
  have h3 := h.2
  unfold sealed at h3
  rw [if_pos h2] at h3
  exact ⟨h3, h2⟩

set_option maxHeartbeats 4000000 in
theorem frameAll_walk (a0 : Option Addr) (len0 cap0 : Nat) (z0 : List Int) (a1 : Option Addr) (len1 cap1 : Nat) (z1 : List Int) (w : World) (w0 : IsRow .u8 w a0 len0 cap0 z0) (w1 : IsRow .u8 w a1 len1 cap1 z1) :
    Calls Try.prog 9 #[.slice a0 len0 cap0, .slice a1 len1 cap1] w fun e w' => e = .returned (.bool true) ∧ Below w.heap.size w w' := by
  obtain ⟨l0, rfl, hc0, hm0, hr0⟩ := isrow_rd w0
  obtain ⟨l1, rfl, hc1, hm1, hr1⟩ := isrow_rd w1
  clear w0 w1
  obtain ⟨i0, hi, hz0, hz1, hz2⟩ := info_parts Try.infoF
  go_enter Try.func9, Try.ntmps9
  go_wp2_with fail
  refine (fbegun_any _).mono ?_
  rintro e w1 ⟨rfl, hb1⟩
  obtain ⟨L0, hL0, hle0, _, hr0'⟩ := short_rd (k := 300) hr0 hb1
  go_wp2_with fail
  refine (short_any a0 l0 L0 cap0 300 w1 hc0 hL0).mono ?_
  rintro e w2 ⟨rfl, rfl⟩
  go_wp2_with (first
    | (at_builtin; refine wpList_app _ rfl (.const (.slice none 0 0)) (.tmp 17) _ rfl w.heap.size 5 i0 Try.underlying24 hi hz0 hz1 hz2 (.slice none 0 0) [] rfl (Own.nil _ _ _) _ a0 L0 _ cap0 rfl rfl hr0' L0 (by simp) (by omega) hb1.size ?_; intro v1 w2 hown1 hb2 hg1 hat1)
    | fail)
  have hb2' := hb1.trans hb2
  obtain ⟨b1, c1, rfl, _, _, hrA, _⟩ := hown1.form
  clear hg1 hat1 hown1 hb2 hb1
  obtain ⟨L1, hL1, hle1, hll1, hr1'⟩ := short_rd (k := 60) hr1 hb2'
  refine (short_any a1 l1 L1 cap1 60 w2 hc1 hL1).mono ?_
  rintro e w3 ⟨rfl, rfl⟩
  go_wp2_with fail
  (with_reducible refine (seal_yes b1 L0 _ c1 w2 _ (hidr _) hrA (by omega) (Nat.le_refl _)).mono ?_)
  rintro e w3 ⟨v3, rfl, hown3, hb3⟩
  have hb3' := hb2'.trans (hb3.mono hb2'.size)
  have hrA3 := hrA.below hb3
  have hrR3 := hr1'.below (hb3.mono hb2'.size)
  obtain ⟨b3, c3, rfl, hnc3, _, hr3, _⟩ := hown3.form
  obtain ⟨hopS, hinS⟩ := seal1_opens4 (l := L0) (by omega)
  have hlenS : (seal1 L0).length ≤ 308 := by rw [seal1_length]; omega
  obtain ⟨S, hS⟩ : ∃ S, S = seal1 L0 := ⟨_, rfl⟩
  rw [← hS] at hopS hinS hlenS hr3 hnc3 ⊢
  have HS := Lib.hid hS; clear hS hown3
  have HopS := Lib.hid hopS; clear hopS
  have HinS := Lib.hid hinS; clear hinS
  go_wp2_with fail
  (with_reducible refine (open_both4 b3 S _ c3 w3 _ (hidr _) hr3 (by omega) hnc3 (Nat.le_refl _)).mono ?_)
  rintro e w4 ⟨⟨v4, hv⟩, hb4⟩
  rcases hv with ⟨_, rfl, hown4⟩ | ⟨hf, _⟩
  · rw [HinS.out] at hown4
    have hb4' := hb3'.trans (hb4.mono hb3'.size)
    obtain ⟨b4, c4, rfl, _, _, hr4, _⟩ := hown4.form
    clear hown4
    have hrR4 := hrR3.below (hb4.mono hb3'.size)
    go_wp2_with fail
    (with_reducible refine (open_both4 a1 L1 _ cap1 w4 _ (hidr _) hrR4 (by omega) (by omega) hb4'.size).mono ?_)
    rintro e w5 ⟨⟨v5, hv⟩, hb5⟩
    have hb5' := hb4'.trans (hb5.mono hb4'.size)
    rcases hv with ⟨hop, rfl, hown5⟩ | ⟨hop, rfl⟩
    · obtain ⟨hbk, hil⟩ := sealed_back hop (by omega)
      have Hop := Lib.hid hop; clear hop
      obtain ⟨I, hI⟩ : ∃ I, I = inner L1 := ⟨_, rfl⟩
      rw [← hI] at hown5 hbk hil
      clear hI
      obtain ⟨b5, c5, rfl, _, _, hr5, _⟩ := hown5.form
      clear hown5
      have hrR5 := hrR4.below (hb5.mono hb4'.size)
      have Hbk := Lib.hid hbk; clear hbk
      go_wp2_with fail
      refine wp_region_noPanic (all_region8 a1 b5 L1 I cap1 c5 _ w5 hr5 hil hrR5 ?_ Hbk _ _ _ _ _ _ _ _ _ _ _ _ _ _ _ _ _ _ _ _ _ _ _ _ _ _ _ _ _ _ _ _ _ _ _ _ _ _ _ _ _ _ _ _ _ _ _ _ _ _ _ _ _ _ _ _ _ _ _ _ _ _ _ _ _ _ _ _ _ _ _ _ _ _ _ _ _ _ _ _ _ _ _ _ _ _ _ _ (fun _ _ _ h => h) ?_)
      · exact hb5'.size
      intro w9 v33 v34 v35 v36 v37 v38 v39 v40 v41 v42 v43 v44 v45 v46 v47 v48 v49 v50 v51 v52 v53 v54 hb9
      refine NoPanic.normal ?_
      go_wp2_with fail
      have hb9' := hb5'.trans (hb9.mono hb5'.size)
      have hb39 : Below w3.heap.size w3 w9 := (hb4.trans (hb5.mono hb4.size)).trans (hb9.mono (Nat.le_trans hb4.size hb5.size))
      have hb49 : Below w4.heap.size w4 w9 := hb5.trans (hb9.mono hb5.size)
      have g3 := (hr3.below hb39).more hb39.size
      have g1 := ((hrA3.more hb3.size).below hb39).more hb39.size
      have g4 := (hr4.below hb49).more hb49.size
      have gR := ((hrR4.below (hb5.mono hb4'.size)).below (hb9.mono hb5'.size)).more hb9'.size
      clear hb39 hb49
      (with_reducible refine (refseal_yes a1 L1 _ cap1 w9 _ (hidr _) gR (by omega) (Nat.le_refl _)).mono ?_)
      rintro e w10 ⟨v10, rfl, hown10, hb10⟩
      obtain ⟨hopT, hinT⟩ := seal1_opens4 (l := L1) (by omega)
      have hlenT : (seal1 L1).length ≤ 68 := by rw [seal1_length]; omega
      generalize seal1 L1 = T at hopT hinT hlenT hown10
      have HopT := Lib.hid hopT; clear hopT
      have HinT := Lib.hid hinT; clear hinT
      obtain ⟨b10, c10, rfl, hnc10, _, hr10, _⟩ := hown10.form
      clear hown10
      have q3 := (g3.below hb10).more hb10.size
      have q1 := (g1.below hb10).more hb10.size
      have q4 := (g4.below hb10).more hb10.size
      have qR := (gR.below hb10).more hb10.size
      have hb10' := hb9'.trans (hb10.mono hb9'.size)
      go_wp2_with fail
      (with_reducible refine (open_both4 b10 T _ c10 w10 _ (hidr _) hr10 (by omega) hnc10 (Nat.le_refl _)).mono ?_)
      rintro e w11 ⟨⟨v11, hv⟩, hb11⟩
      rcases hv with ⟨_, rfl, hown11⟩ | ⟨hf, _⟩
      · rw [HinT.out] at hown11
        obtain ⟨b11, c11, rfl, _, _, hr11, _⟩ := hown11.form
        clear hown11
        have p3 := (q3.below hb11).more hb11.size
        have p1 := (q1.below hb11).more hb11.size
        have p4 := (q4.below hb11).more hb11.size
        have pR := (qR.below hb11).more hb11.size
        have hb11' := hb10'.trans (hb11.mono hb10'.size)
        have Hbk2 : Hid (seal1 L0 = S) := HS.out.symm
        go_wp2_with fail
        refine wp_region_noPanic (all_region11 b1 b3 b4 b11 a1 S L0 L1 c1 c3 c4 c11 cap1 _ w11 (by omega) p3 p1 p4 hr11 pR (Nat.le_refl _) Hbk2 _ _ _ _ _ _ _ _ _ _ _ _ _ _ _ _ _ _ _ _ _ _ _ _ _ _ _ _ _ _ _ _ _ _ _ _ _ _ _ _ _ _ _ _ _ _ _ _ _ _ _ _ _ _ _ _ _ _ _ _ _ _ _ _ _ _ _ _ _ _ _ _ _ _ _ _ _ _ _ _ _ _ _ _ (fun _ _ _ h => h) ?_)
        intro w12 v62 v63 v64 v65 v66 v67 v68 v69 v70 v71 v72 v73 v74 v75 v76 v77 v78 v79 v80 v81 v82 v83 v84 v85 v86 v87 v88 v89 hb12
        refine NoPanic.normal ?_
        go_wp2_with fail
        go_ret
        exact ⟨rfl, hb11'.trans (hb12.mono hb11'.size)⟩
      · rw [HopT.out] at hf; cases hf
    · have Hop := Lib.hid hop; clear hop
      go_wp2_with fail
      go_quiet (fail)
      have hb9 := below_drewN (Below.refl w5.heap.size w5) nq
      generalize w5.drewN nq = w9 at hb9 ⊢
      go_wp2_with fail
      have hb9' := hb5'.trans (hb9.mono hb5'.size)
      have hb39 : Below w3.heap.size w3 w9 := (hb4.trans (hb5.mono hb4.size)).trans (hb9.mono (Nat.le_trans hb4.size hb5.size))
      have hb49 : Below w4.heap.size w4 w9 := hb5.trans (hb9.mono hb5.size)
      have g3 := (hr3.below hb39).more hb39.size
      have g1 := ((hrA3.more hb3.size).below hb39).more hb39.size
      have g4 := (hr4.below hb49).more hb49.size
      have gR := ((hrR4.below (hb5.mono hb4'.size)).below (hb9.mono hb5'.size)).more hb9'.size
      clear hb39 hb49
      (with_reducible refine (refseal_yes a1 L1 _ cap1 w9 _ (hidr _) gR (by omega) (Nat.le_refl _)).mono ?_)
      rintro e w10 ⟨v10, rfl, hown10, hb10⟩
      obtain ⟨hopT, hinT⟩ := seal1_opens4 (l := L1) (by omega)
      have hlenT : (seal1 L1).length ≤ 68 := by rw [seal1_length]; omega
      generalize seal1 L1 = T at hopT hinT hlenT hown10
      have HopT := Lib.hid hopT; clear hopT
      have HinT := Lib.hid hinT; clear hinT
      obtain ⟨b10, c10, rfl, hnc10, _, hr10, _⟩ := hown10.form
      clear hown10
      have q3 := (g3.below hb10).more hb10.size
      have q1 := (g1.below hb10).more hb10.size
      have q4 := (g4.below hb10).more hb10.size
      have qR := (gR.below hb10).more hb10.size
      have hb10' := hb9'.trans (hb10.mono hb9'.size)
      go_wp2_with fail
      (with_reducible refine (open_both4 b10 T _ c10 w10 _ (hidr _) hr10 (by omega) hnc10 (Nat.le_refl _)).mono ?_)
      rintro e w11 ⟨⟨v11, hv⟩, hb11⟩
      rcases hv with ⟨_, rfl, hown11⟩ | ⟨hf, _⟩
      · rw [HinT.out] at hown11
        obtain ⟨b11, c11, rfl, _, _, hr11, _⟩ := hown11.form
        clear hown11
        have p3 := (q3.below hb11).more hb11.size
        have p1 := (q1.below hb11).more hb11.size
        have p4 := (q4.below hb11).more hb11.size
        have pR := (qR.below hb11).more hb11.size
        have hb11' := hb10'.trans (hb11.mono hb10'.size)
        have Hbk2 : Hid (seal1 L0 = S) := HS.out.symm
        go_wp2_with fail
        refine wp_region_noPanic (all_region11 b1 b3 b4 b11 a1 S L0 L1 c1 c3 c4 c11 cap1 _ w11 (by omega) p3 p1 p4 hr11 pR (Nat.le_refl _) Hbk2 _ _ _ _ _ _ _ _ _ _ _ _ _ _ _ _ _ _ _ _ _ _ _ _ _ _ _ _ _ _ _ _ _ _ _ _ _ _ _ _ _ _ _ _ _ _ _ _ _ _ _ _ _ _ _ _ _ _ _ _ _ _ _ _ _ _ _ _ _ _ _ _ _ _ _ _ _ _ _ _ _ _ _ _ (fun _ _ _ h => h) ?_)
        intro w12 v62 v63 v64 v65 v66 v67 v68 v69 v70 v71 v72 v73 v74 v75 v76 v77 v78 v79 v80 v81 v82 v83 v84 v85 v86 v87 v88 v89 hb12
        refine NoPanic.normal ?_
        go_wp2_with fail
        go_ret
        exact ⟨rfl, hb11'.trans (hb12.mono hb11'.size)⟩
      · rw [HopT.out] at hf; cases hf
  · rw [HopS.out] at hf; cases hf

end Go.Proofs.Ytfeddkldnmgncaa
