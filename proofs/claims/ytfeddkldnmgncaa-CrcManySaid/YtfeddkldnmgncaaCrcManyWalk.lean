/- The walk of CrcMany: it returns true and writes nothing that was there. Conditions: the slices read as rows. -/
import Derived.Test.YtfeddkldnmgncaaCrcBase
import Derived.BigQuiet
import Derived.Deep.DeepCutAuto
import Derived.Deep.LoopGhost
namespace Go.Proofs.Ytfeddkldnmgncaa
open Go.RowKit Crc

set_option maxHeartbeats 2000000 in
theorem crcMany_walk (a0 : Option Addr) (len0 cap0 : Nat) (z0 : List Int) (a1 : Option Addr) (len1 cap1 : Nat) (z1 : List Int) (w : World) (w0 : IsRow .u8 w a0 len0 cap0 z0) (w1 : IsRow .i64 w a1 len1 cap1 z1) :
    Calls Try.prog 7 #[.slice a0 len0 cap0, .slice a1 len1 cap1] w fun e w' => e = .returned (.bool true) ∧ Below w.heap.size w w' := by
  obtain ⟨l0, rfl, hc0, hm0, hr0⟩ := isrow_rd w0
  obtain ⟨hc1, hm1, hz1⟩ := isrow_ints w1
  clear w0 w1
  go_enter Try.func7, Try.ntmps7
  go_wp2_with fail
  refine (begun_any _).mono ?_
  rintro e w1 ⟨rfl, hb1⟩
  obtain ⟨L, hL, hLe, hLl, hr⟩ := short_rd (k := 300) hr0 hb1
  go_wp2_with fail
  refine (short_any a0 l0 L cap0 300 w1 hc0 hL).mono ?_
  rintro e w2 ⟨rfl, rfl⟩
  have hcL : L.length ≤ cap0 := by omega
  clear hr0 hL
  go_wp2_with fail
  have hs0 : (0 : Int) = ((sum (L.take 0) : Nat) : Int) := by simp [sum, more_nil]
  go_loopg [6, 7, 8] 40 (fun m s t i wr => ∃ k p : Nat, m = 40 - k ∧ k ≤ len1 ∧ k ≤ 40 ∧ p ≤ L.length ∧ i = .int .i64 k ∧ t = .int .i64 p ∧ s = .int .u32 (sum (L.take p) : Nat) ∧ wr = w1)
  case atStart => exact ⟨0, 0, rfl, by omega, by omega, by omega, rfl, rfl, u32_eq hs0, rfl⟩
  case round =>
    obtain ⟨k, p, hgk, hk, hk40, hp, rfl, rfl, rfl, rfl⟩ := hrel
    have HG := Lib.hid hgk; clear hgk
    clear hs0
    have hsL := sum_lt (L.take p) (bytes_take hr.1 p)
    by_cases hlt : k < len1 ∧ k < 40
    · obtain ⟨hlt1, hlt2⟩ := hlt
      obtain ⟨b1, off1, rfl, hbb1, hcell1⟩ := hz1.resolve_left (by omega)
      obtain ⟨hk1, hx1, hx2⟩ := hcell1 k hlt1
      have hck := (hb1.cell (p := ⟨b1, off1 + k, none⟩) hbb1).trans hk1
      clear hcell1 hz1 hk1
      generalize z1.getD k 0 = x at hck hx1 hx2
      have hltB : ((k : Int) < (len1 : Int)) := by omega
      have hlt40 : ((k : Int) < 40) := by omega
      have hy1 : -40 < x.tmod 40 := by have := Int.lt_tmod_of_pos x (show (0 : Int) < 40 by decide); omega
      have hy2 : x.tmod 40 < 40 := Int.tmod_lt_of_pos x (by decide)
      go_upto_region 10 with fail
      go_cut [9] (fun s9 wx => ∃ m : Nat, s9 = .int .i64 m ∧ p + m ≤ L.length ∧ wx = wr)
      case first =>
        go_wp2_with fail
        all_goals go_meet
        · exact ⟨((x.tmod 40 + 40) % 40).toNat, by congr 1; omega, by omega, rfl⟩
        · exact ⟨L.length - p, by congr 1; omega, by omega, rfl⟩
      case rest =>
        obtain ⟨m, rfl, hm, rfl⟩ := hcut
        have hlen : m = ((L.drop p).take m).length := by simp; omega
        have hrd : cap0 = p → Rd wc w.heap.size a0 ((L.drop p).take m) := fun h => Rd.cut0 hm hcL h
        have hrd2 : Rd wc w.heap.size (a0.map fun x => x.add p) ((L.drop p).take m) := hr.cut hm
        have hmore : more (sum (L.take p)) ((L.drop p).take m) = sum (L.take (p + m)) := by rw [more_sum, List.take_add]
        obtain ⟨M, hM⟩ : ∃ M, M = (L.drop p).take m := ⟨_, rfl⟩
        rw [← hM] at hlen hrd hrd2 hmore
        have hrt := hr.take (p + m)
        have hlt2 : p + m = (L.take (p + m)).length := by simp; omega
        have hst := sum_lt _ hrt.1
        obtain ⟨T, hT⟩ : ∃ T, T = L.take (p + m) := ⟨_, rfl⟩
        rw [← hT] at hrt hlt2 hst hmore
        generalize L.take p = T0 at hsL hmore
        clear hM
        have HT := Lib.hid hT; clear hT
        have Hlen := Lib.hid hlen; clear hlen
        have Hlt2 := Lib.hid hlt2; clear hlt2
        have Hmore := Lib.hid hmore; clear hmore
        by_cases hcp : cap0 = p
        · have hrd' := hrd hcp
          clear hrd hrd2
          subst hcp
          go_wp2_with fail
          refine (more_n _ _ M m _ wc _ Hlen.out hsL hrd' (by omega)).mono ?_
          rintro e w2 ⟨rfl, rfl⟩
          rw [Hmore.out]
          go_wp2_with fail
          refine (sum_n _ T _ _ wc _ Hlt2.out hrt (by omega)).mono ?_
          rintro e w2 ⟨rfl, rfl⟩
          go_wp2_with fail
          go_roundg (40 - (k + 1))
          case measure => have := HG.out; omega
          case rel => exact ⟨k + 1, _, rfl, by omega, by omega, hm, by go_num, by go_num, by rw [HT.out], rfl⟩
        · clear hrd
          go_wp2_with fail
          refine (more_n _ _ M m _ wc _ Hlen.out hsL hrd2 (by omega)).mono ?_
          rintro e w2 ⟨rfl, rfl⟩
          rw [Hmore.out]
          go_wp2_with fail
          refine (sum_n _ T _ _ wc _ Hlt2.out hrt (by omega)).mono ?_
          rintro e w2 ⟨rfl, rfl⟩
          go_wp2_with fail
          go_roundg (40 - (k + 1))
          case measure => have := HG.out; omega
          case rel => exact ⟨k + 1, p + m, rfl, by omega, by omega, hm, by go_num, by go_num, by rw [HT.out], rfl⟩
    · have hlen : L.length - p = ((L.drop p).take (L.length - p)).length := by simp
      have hrd2 : Rd wr w.heap.size (a0.map fun x => x.add p) ((L.drop p).take (L.length - p)) := hr.cut (by omega)
      have hmore : more (sum (L.take p)) ((L.drop p).take (L.length - p)) = sum L := by
        rw [more_sum, List.take_of_length_le (show (L.drop p).length ≤ L.length - p by simp), List.take_append_drop]
      generalize (L.drop p).take (L.length - p) = M at hlen hrd2 hmore
      have Hlen := Lib.hid hlen; clear hlen
      have Hmore := Lib.hid hmore; clear hmore
      clear hz1
      by_cases hcp : cap0 = p
      · clear hrd2
        subst hcp
        have h0 : more (sum (L.take cap0)) [] = sum L := by rw [more_nil, List.take_of_length_le (by omega)]
        have H0 := Lib.hid h0; clear h0
        go_wp2_with fail
        all_goals
          refine (more_n _ _ [] 0 _ wr 0 rfl hsL (Rd.nil _ _ _) (by omega)).mono ?_
          rintro e w2 ⟨rfl, rfl⟩
          rw [H0.out]
          go_wp2_with fail
          refine (sum_any _ L _ wr _ hr (by omega)).mono ?_
          rintro e w2 ⟨rfl, rfl⟩
          go_wp2_with fail
          go_ret
          exact ⟨by simp, hb1⟩
      · go_wp2_with fail
        all_goals
          refine (more_n _ _ M _ _ wr _ Hlen.out hsL hrd2 (by omega)).mono ?_
          rintro e w2 ⟨rfl, rfl⟩
          rw [Hmore.out]
          go_wp2_with fail
          refine (sum_any _ L _ wr _ hr (by omega)).mono ?_
          rintro e w2 ⟨rfl, rfl⟩
          go_wp2_with fail
          go_ret
          exact ⟨by simp, hb1⟩

end Go.Proofs.Ytfeddkldnmgncaa
