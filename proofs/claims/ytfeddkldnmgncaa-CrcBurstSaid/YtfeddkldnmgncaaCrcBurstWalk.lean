/- The walk of CrcBurst: it returns true and writes nothing that was there. Conditions: the slices read as rows of bytes, the number fits int. -/
import Derived.Test.YtfeddkldnmgncaaCrcBase
import Derived.Test.YtfeddkldnmgncaaBurst
import Derived.BigQuiet
import Derived.RegionTactic
import Derived.ChangeAlike
import Derived.Deep.DeepCutAuto
import Derived.Deep.LoopGhost
namespace Go.Proofs.Ytfeddkldnmgncaa
open Go.RowKit Crc

theorem Try.infoB4 : (Try.prog.info? 5).map (fun i => (i.zero, i.size, i.bytes)) = some (some (.int .u8 0), 1, 1) := by kernel_rfl

def nz (l : List Nat) : Bool := l.any fun b => b != 0
theorem nz_snoc (l : List Nat) (b : Nat) : nz (l ++ [b]) = (nz l || b != 0) := by simp [nz]
theorem cast_nz (C : Nat) : ((C : Int) != 0) = (C != 0) := by rw [Bool.eq_iff_iff]; simp
theorem nz_ex {l : List Nat} (h : nz l = true) : ∃ b ∈ l, b ≠ 0 := by simpa [nz] using h

set_option maxHeartbeats 4000000 in
theorem crcBurst_walk (a0 : Option Addr) (len0 cap0 : Nat) (z0 : List Int) (a1 : Int) (a2 : Option Addr) (len2 cap2 : Nat) (z2 : List Int) (w : World) (w0 : IsRow .u8 w a0 len0 cap0 z0) (w1 : (Lit.int .i64 a1).wf = true) (w2 : IsRow .u8 w a2 len2 cap2 z2) :
    Calls Try.prog 5 #[.slice a0 len0 cap0, .int .i64 a1, .slice a2 len2 cap2] w fun e w' => e = .returned (.bool true) ∧ Below w.heap.size w w' := by
  obtain ⟨l0, rfl, hc0, hm0, hr0⟩ := isrow_rd w0
  obtain ⟨l2, rfl, hc2, hm2, hr2⟩ := isrow_rd w2
  have hbd := bounds_i64 w1
  clear w0 w1 w2
  obtain ⟨i0, hi, hz0, hz1, hz2⟩ := info_parts Try.infoB4
  go_enter Try.func5, Try.ntmps5
  go_wp2_with fail
  refine (begun_any _).mono ?_
  rintro e w1 ⟨rfl, hb1⟩
  obtain ⟨L, hL, hLe, hLl, hr⟩ := short_rd (k := 200) hr0 hb1
  obtain ⟨X, hX, hXe, hXl, hx⟩ := short_rd (k := 4) hr2 hb1
  go_wp2_with fail
  refine (short_any a0 l0 L cap0 200 w1 hc0 hL).mono ?_
  rintro e w2 ⟨rfl, rfl⟩
  go_wp2_with fail
  refine (short_any a2 l2 X cap2 4 w1 hc2 hX).mono ?_
  rintro e w2 ⟨rfl, rfl⟩
  have hcL : L.length ≤ cap0 := by omega
  clear hr0 hL hX hr2
  have hxw : Rd w w.heap.size a2 X := hx.keep fun p hp => (hb1.cell hp).symm
  have hrw : Rd w w.heap.size a0 L := hr.keep fun p hp => (hb1.cell hp).symm
  go_wp2_with fail
  go_loopg [8, 9] 4 (fun m t i wr => ∃ k : Nat, ∃ sb : Bool, m = 4 - k ∧ k ≤ X.length ∧ i = .int .i64 k ∧ t = .bool sb ∧ Hid (sb = nz (X.take k)) ∧ wr = w1)
  case atStart => exact ⟨0, false, rfl, by omega, rfl, rfl, rfl, rfl⟩
  case round =>
    obtain ⟨k, sb, hgk, hk, rfl, rfl, hsb, rfl⟩ := hrel
    have HG := Lib.hid hgk; clear hgk
    by_cases hlt : k < X.length
    · obtain ⟨bx, ox, rfl, _, hcell⟩ := hx.2.resolve_left (by intro h; rw [h] at hlt; simp at hlt)
      have hck := hcell k hlt
      have hbk := bytes_getD hx.1 k
      have HS : Hid (nz (X.take (k + 1)) = (nz (X.take k) || X.getD k 0 != 0)) := by
        show _ = _
        rw [List.take_succ_eq_append_getElem hlt, nz_snoc, List.getD_eq_getElem?_getD, List.getElem?_eq_getElem hlt]
        rfl
      generalize X.getD k 0 = C at hck hbk HS
      clear hcell
      cases sb
      · go_wp2
        go_roundg (4 - (k + 1))
        case measure => have := HG.out; omega
        case rel => exact ⟨k + 1, _, rfl, hlt, by go_num, rfl, by show _ = _; rw [HS.out, ← hsb.out, cast_nz]; rfl, rfl⟩
      · go_wp2
        go_roundg (4 - (k + 1))
        case measure => have := HG.out; omega
        case rel => exact ⟨k + 1, _, rfl, hlt, by go_num, rfl, by show _ = _; rw [HS.out, ← hsb.out]; rfl, rfl⟩
    · have hkX : Hid (sb = nz X) := by
        have := hsb.out
        rw [List.take_of_length_le (by omega)] at this
        exact this
      clear hsb
      by_cases hat : 0 ≤ a1 ∧ a1 ≤ (L.length : Int) - (X.length : Int)
      · obtain ⟨hat0, hat1⟩ := hat
        cases sb
        · go_wp2
          go_ret
          exact ⟨rfl, hb1⟩
        · obtain ⟨p, rfl⟩ := Int.eq_ofNat_of_zero_le hat0
          have hpx : p + X.length ≤ L.length := by omega
          have hX0 : 0 < X.length := by
            rcases Nat.eq_zero_or_pos X.length with h | h
            · rw [List.eq_nil_of_length_eq_zero h] at hkX; cases hkX.out
            · exact h
          go_upto_region 12 with fail
          go_wp2_with (first
            | (at_builtin; refine wpList_app _ rfl (.const (.slice none 0 0)) (.tmp 48) _ rfl w.heap.size 5 i0 Try.underlying24 hi hz0 hz1 hz2 (.slice none 0 0) [] rfl (Own.nil _ _ _) _ a0 L _ cap0 rfl rfl hr L (by simp) (by omega) hb1.size ?_; intro v1 w2 hown1 hb2 hg1 hat1)
            | fail)
          obtain ⟨g, cg, rfl, _, _, hg, hgs⟩ := hown1.form1 (by omega)
          have hbw := hb1.trans hb2
          clear hb2 hg1 hat1
          go_loopg [11] 4 (fun m i wr' => ∃ j : Nat, m = 4 - j ∧ j ≤ X.length ∧ i = .int .i64 j ∧ Own wr' w.heap.size 5 (.slice (some ⟨g, 0, none⟩) L.length cg) (burst L p (X.take j)) ∧ Below w.heap.size w wr')
          case atStart => exact ⟨0, rfl, by omega, rfl, by rw [List.take_zero, burst_nil]; exact hown1, hbw⟩
          case round =>
            obtain ⟨j, hgj, hj, rfl, hownj, hbj⟩ := hrel
            clear HG
            have HG := Lib.hid hgj; clear hgj
            by_cases hjl : j < X.length
            · obtain ⟨bx, ox, rfl, _, hcell⟩ := (hxw.below hbj).2.resolve_left (by intro h; rw [h] at hX0; simp at hX0)
              have hcx := hcell j hjl
              have hbx := bytes_getD hxw.1 j
              have hjt : (X.take j).length = j := by simp; omega
              have hlen : L.length = (burst L p (X.take j)).length := (burst_length L p _ (by omega)).symm
              have hcc := hownj.cell hlen (j := p + j) (by omega)
              have hfc := hownj.free hlen (p + j)
              have hsn := burst_snoc L p (X.take j) (X.getD j 0) (by omega)
              rw [hjt] at hsn
              have htk : X.take j ++ [X.getD j 0] = X.take (j + 1) := by
                rw [List.take_succ_eq_append_getElem hjl, List.getD_eq_getElem?_getD, List.getElem?_eq_getElem hjl]
                rfl
              rw [htk] at hsn
              rw [hsn.1] at hcc
              have hbl := bytes_getD hrw.1 (p + j)
              generalize X.getD j 0 = C at hcx hbx hsn
              generalize L.getD (p + j) 0 = D at hcc hbl hsn
              have hxb : D ^^^ C < 256 := Nat.xor_lt_two_pow (n := 8) hbl hbx
              have hown2 := (hownj.set_ hlen (p + j) (D ^^^ C) hxb).drew
              rw [← hsn.2] at hown2
              have hbj2 := (hbj.setCell (p := ⟨g, p + j, none⟩) hg (.int .u8 ((D ^^^ C : Nat) : Int))).drew
              have hex : bits .xor .u8 (D : Int) (C : Int) = ((D ^^^ C : Nat) : Int) := u8_xor_nat D C hbl hbx
              have Hsn := Lib.hid hsn; clear hsn htk
              have Hlen := Lib.hid hlen; clear hlen
              have Hjt := Lib.hid hjt; clear hjt
              have Hex := Lib.hid hex; clear hex
              have HXX := Lib.hid hX0
              clear hcell hx hr hxw hrw hown1
              go_wp2
              go_region
              go_wp2
              rw [Hex.out]
              go_roundg (4 - (j + 1))
              case measure => have := HG.out; omega
              case rel => exact ⟨j + 1, rfl, hjl, by go_num, hown2, hbj2⟩
            · have hXt : X.take j = X := List.take_of_length_le (by omega)
              rw [hXt] at hownj
              obtain ⟨a3, c3, hv3, _, _, hr3, _⟩ := hownj.form
              simp only [Value.slice.injEq] at hv3
              obtain ⟨rfl, hv4, rfl⟩ := hv3
              have hne := burst_sum hrw.1 hxw.1 hpx hXe (nz_ex hkX.out.symm)
              have hrL := hrw.below hbj
              generalize burst L p X = T at hr3 hv4 hne
              have Hne := Lib.hid hne; clear hne
              have Hv4 := Lib.hid hv4; clear hv4
              clear hownj hx hr hxw hrw hown1 hXt
              go_wp2_with fail
              refine (sum_any a0 L cap0 _ _ hrL (by omega)).mono ?_
              rintro e w4 ⟨rfl, rfl⟩
              go_wp2_with fail
              refine (sum_n _ T _ _ _ _ Hv4.out hr3 (by omega)).mono ?_
              rintro e w4 ⟨rfl, rfl⟩
              go_wp2_with fail
              go_ret
              have hb : (((sum L : Nat) : Int) != ((sum T : Nat) : Int)) = true := by
                rw [bne_iff_ne]
                intro h
                exact Hne.out (by omega)
              exact ⟨congrArg (fun b => Ending.returned (.bool b)) hb, hbj⟩
      · by_cases hat0 : a1 < 0
        · cases sb
          all_goals
            go_wp2
            go_ret
            exact ⟨rfl, hb1⟩
        · have hat1 : (L.length : Int) - (X.length : Int) < a1 := by omega
          cases sb
          all_goals
            go_wp2
            go_ret
            exact ⟨rfl, hb1⟩

end Go.Proofs.Ytfeddkldnmgncaa
