/- The walk of CrcAll: it returns true and writes nothing that was there. Conditions: both slices read as rows of bytes. -/
import Derived.Test.YtfeddkldnmgncaaCrcBase
namespace Go.Proofs.Ytfeddkldnmgncaa
open Go.RowKit Crc

theorem Try.infoB : (Try.prog.info? 5).map (fun i => (i.zero, i.size, i.bytes)) = some (some (.int .u8 0), 1, 1) := by kernel_rfl

set_option maxHeartbeats 1000000 in
theorem crcAll_walk (a0 : Option Addr) (len0 cap0 : Nat) (z0 : List Int) (a1 : Option Addr) (len1 cap1 : Nat) (z1 : List Int) (w : World) (w0 : IsRow .u8 w a0 len0 cap0 z0) (w1 : IsRow .u8 w a1 len1 cap1 z1) :
    Calls Try.prog 4 #[.slice a0 len0 cap0, .slice a1 len1 cap1] w fun e w' => e = .returned (.bool true) ∧ Below w.heap.size w w' := by
  obtain ⟨l0, rfl, hc0, _, hr0⟩ := isrow_rd w0
  obtain ⟨l1, rfl, hc1, _, hr1⟩ := isrow_rd w1
  clear w0 w1
  obtain ⟨i0, hi, hz0, hz1, hz2⟩ := info_parts Try.infoB
  go_enter Try.func4, Try.ntmps4
  go_wp2_with fail
  refine (begun_any _).mono ?_
  rintro e w1 ⟨rfl, hb1⟩
  obtain ⟨L0, hL0, hle0, _, hr0'⟩ := short_rd (k := 300) hr0 hb1
  obtain ⟨L1, hL1, hle1, _, hr1'⟩ := short_rd (k := 300) hr1 hb1
  go_wp2_with fail
  refine (short_any a0 l0 L0 cap0 300 w1 hc0 hL0).mono ?_
  rintro e w2 ⟨rfl, rfl⟩
  go_wp2_with fail
  refine (short_any a1 l1 L1 cap1 300 w1 hc1 hL1).mono ?_
  rintro e w2 ⟨rfl, rfl⟩
  have hbl : (L0 ++ L1).length ≤ 600 := by rw [List.length_append]; omega
  go_wp2_with (first
    | (at_builtin; refine wpList_app _ rfl (.const (.slice none 0 0)) (.tmp 14) _ rfl w.heap.size 5 i0 Try.underlying24 hi hz0 hz1 hz2 (.slice none 0 0) [] rfl (Own.nil _ _ _) _ a0 L0 _ cap0 rfl rfl hr0' L0 (by simp) (by omega) hb1.size ?_; intro v1 w2 hown1 hb2 hg1 hat1)
    | (at_builtin; refine wpList_app _ rfl (.tmp 15) (.tmp 16) _ rfl w.heap.size 5 i0 Try.underlying24 hi hz0 hz1 hz2 v1 L0 rfl hown1 _ a1 L1 _ cap1 rfl rfl (hr1'.below hb2) (L0 ++ L1) rfl (by omega) (Nat.le_trans hb1.size hb2.size) ?_; intro v2 w3 hown2 hb3 hg2 hat2)
    | fail)
  obtain ⟨a2, c2, rfl, _, _, hr2, _⟩ := hown2.form
  have hs0 := more_sum L0 L1
  generalize hS : L0 ++ L1 = S at *
  have HS := Lib.hid hs0; clear hs0 hS
  have hr0'' := (hr0'.below hb2).below hb3
  have hr1'' := (hr1'.below hb2).below hb3
  have hb := (hb1.trans hb2).trans hb3
  clear hown1 hown2 hg1 hg2 hat1 hat2
  refine (sum_any a2 S c2 w3 _ hr2 (by omega)).mono ?_
  rintro e w4 ⟨rfl, rfl⟩
  go_wp2_with fail
  refine (refsum_any a2 S c2 w3 _ hr2 (by omega)).mono ?_
  rintro e w4 ⟨rfl, rfl⟩
  go_wp2_with fail
  refine (sum_any a0 L0 cap0 w3 _ hr0'' (by omega)).mono ?_
  rintro e w4 ⟨rfl, rfl⟩
  go_wp2_with fail
  refine (more_any _ a1 L1 cap1 w3 _ (sum_lt _ hr0''.1) hr1'' (by omega)).mono ?_
  rintro e w4 ⟨rfl, rfl⟩
  rw [HS.out]
  go_wp2_with fail
  refine (sum_any a2 S c2 w3 _ hr2 (by omega)).mono ?_
  rintro e w4 ⟨rfl, rfl⟩
  go_wp2_with fail
  go_ret
  exact ⟨by simp, hb⟩

end Go.Proofs.Ytfeddkldnmgncaa
