/- The walk of FrameLong: it returns true and writes nothing that was there. Condition: the number fits int. -/
import Derived.Test.YtfeddkldnmgncaaFrameBegun
namespace Go.Proofs.Ytfeddkldnmgncaa
open Go.RowKit Crc
set_option linter.unusedVariables false

theorem seal1_opens2 {l : List Nat} (h : l.length ≤ 60000) : opens (seal1 l) = true ∧ inner (seal1 l) = l := by
  have e : sealed l = seal1 l := by unfold sealed; rw [if_pos h]
  have := opens_sealed h
  rwa [e] at this

theorem zeros_read {w : World} {base E g n : Nat} (h : w.ownsRow base E 1 (.slice (some ⟨g, 0, none⟩) n n) n (madeCells (Value.int .u8 0).cells (n * 1)).toList) :
    ∃ L : List Nat, n = L.length ∧ Rd w w.heap.size (some ⟨g, 0, none⟩) L := by
  have h0 := own_of_made h
  obtain ⟨a, c, hv, _, _, hr, _⟩ := h0.form
  simp only [Value.slice.injEq] at hv
  obtain ⟨rfl, h1, rfl⟩ := hv
  exact ⟨_, h1, hr⟩

set_option maxHeartbeats 4000000 in
theorem frameLong_walk (a0 : Int) (w0 : (Lit.int .i64 a0).wf = true) (w : World) :
    Calls Try.prog 12 #[.int .i64 a0] w fun e w' => e = .returned (.bool true) ∧ Below w.heap.size w w' := by
  have hbd := bounds_i64 w0
  clear w0
  obtain ⟨i0, hi, hz0, hz1, hz2⟩ := info_parts Try.infoF
  go_enter Try.func12, Try.ntmps12
  go_wp2_with fail
  refine (fbegun_any _).mono ?_
  rintro e w1 ⟨rfl, hb1⟩
  by_cases hlo : a0 < 59990
  · go_wp2_with fail
    go_ret
    exact ⟨rfl, hb1⟩
  · by_cases hhi : 60010 < a0
    · go_wp2_with fail
      go_ret
      exact ⟨rfl, hb1⟩
    · go_upto_region 6 with fail
      obtain ⟨n, rfl⟩ := Int.eq_ofNat_of_zero_le (show 0 ≤ a0 by omega)
      go_wp2_with (first
        | (at_make; refine wpList_make_full _ rfl _ _ 24 rfl w.heap.size 5 i0 (.int .u8 0) 1 Try.underlying24 hi hz0 hz1 .i64 .i64 _ _ n rfl rfl rfl rfl (by rw [hz2]; omega) (by simp only [maxLen]; omega) hb1.size ?_; intro w2 hown hg2)
        | fail)
      have hbw := hb1.trans ((Below.refl w.heap.size w1).grown hg2 hb1.size (by intro k h; cases h))
      obtain ⟨L, hLn, hr⟩ := zeros_read hown
      have HLn := Lib.hid hLn
      have hLs := seal1_length L
      rw [← hLn] at hLs
      have hope : n ≤ 60000 → opens (seal1 L) = true ∧ inner (seal1 L) = L := fun h => seal1_opens2 (by omega)
      clear hown hg2 hLn
      by_cases h6 : n ≤ 60000
      · obtain ⟨hop, hin⟩ := hope h6
        clear hope
        (with_reducible refine (seal_yes _ L n n w2 _ HLn hr h6 (Nat.le_refl _)).mono ?_)
        rintro e w3 ⟨v3, rfl, hown3, hb3⟩
        have hb3' := hbw.trans (hb3.mono hbw.size)
        obtain ⟨b3, c3, rfl, hnc3, _, hr3, _⟩ := hown3.form
        generalize seal1 L = S at hown3 hr3 hnc3 hop hin hLs ⊢
        have hS : Hid (n + 8 = S.length) := hLs.symm
        rw [hLs] at hnc3 ⊢
        have Hop := Lib.hid hop; clear hop
        have Hin := Lib.hid hin; clear hin
        clear hLs
        go_wp2_with fail
        (with_reducible refine (open_long b3 S (n + 8) c3 w3 _ hS hr3 (by omega) (by omega) hnc3 (Nat.le_refl _)).mono ?_)
        rintro e w4 ⟨⟨v4, hv⟩, hb4⟩
        rcases hv with ⟨_, rfl, hown4⟩ | ⟨hf, _⟩
        · rw [Hin.out] at hown4
          have hb4' := hb3'.trans (hb4.mono hb3'.size)
          obtain ⟨b4, c4, rfl, _, _, _, _⟩ := hown4.form
          have hln : L.length = n := HLn.out.symm
          rw [hln]
          clear hln hown4 hown3
          have d1 : decide ((n : Int) ≤ 60000) = true := decide_eq_true (by omega)
          have d2 : decide ((60000 : Int) < (n : Int)) = false := decide_eq_false (by omega)
          have d3 : decide ((0 : Int) < (n : Int) + 8) = true := decide_eq_true (by omega)
          clear h6 hlo hhi hbd
          go_wp2_with fail
          go_ret
          exact ⟨rfl, hb4'⟩
        · rw [Hop.out] at hf; cases hf
      · clear hope
        (with_reducible refine (seal_no _ n n w2 (by omega)).mono ?_)
        rintro e w3 ⟨rfl, rfl⟩
        go_wp2_with fail
        (with_reducible refine (open_short none 0 0 w2 (by decide)).mono ?_)
        rintro e w4 ⟨rfl, rfl⟩
        have d1 : decide ((n : Int) ≤ 60000) = false := decide_eq_false (by omega)
        have d2 : decide ((60000 : Int) < (n : Int)) = true := decide_eq_true (by omega)
        clear h6 hlo hhi hbd
        go_wp2_with fail
        go_ret
        exact ⟨rfl, hbw⟩

end Go.Proofs.Ytfeddkldnmgncaa
