/- The walk of CrcThree: it returns true and writes nothing that was there. Conditions: the three slices read as rows of bytes. -/
import Derived.Test.YtfeddkldnmgncaaCrcBase
import Derived.BigQuiet
import Derived.RegionTactic
import Derived.ChangeAlike
import Derived.Deep.DeepCutAuto
namespace Go.Proofs.Ytfeddkldnmgncaa
open Go.RowKit Crc

theorem Try.infoB3 : (Try.prog.info? 5).map (fun i => (i.zero, i.size, i.bytes)) = some (some (.int .u8 0), 1, 1) := by kernel_rfl

def three (l0 l1 l2 : List Nat) (n : Nat) : List Nat := List.zipWith (· ^^^ ·) (List.zipWith (· ^^^ ·) (l0.take n) (l1.take n)) (l2.take n)

theorem three_facts {l0 l1 l2 : List Nat} {n : Nat} (h0 : n ≤ l0.length) (h1 : n ≤ l1.length) (h2 : n ≤ l2.length) :
    (three l0 l1 l2 n).length = n ∧ ∀ k, k < n → (three l0 l1 l2 n).getD k 0 = (l0.getD k 0 ^^^ l1.getD k 0) ^^^ l2.getD k 0 := by
  refine ⟨by simp [three]; omega, fun k hk => ?_⟩
  have k0 : k < l0.length := by omega
  have k1 : k < l1.length := by omega
  have k2 : k < l2.length := by omega
  simp [three, List.getElem?_zipWith, hk, List.getElem?_eq_getElem k0, List.getElem?_eq_getElem k1, List.getElem?_eq_getElem k2]

set_option maxHeartbeats 2000000 in
theorem crcThree_walk (a0 : Option Addr) (len0 cap0 : Nat) (z0 : List Int) (a1 : Option Addr) (len1 cap1 : Nat) (z1 : List Int) (a2 : Option Addr) (len2 cap2 : Nat) (z2 : List Int) (w : World) (w0 : IsRow .u8 w a0 len0 cap0 z0) (w1 : IsRow .u8 w a1 len1 cap1 z1) (w2 : IsRow .u8 w a2 len2 cap2 z2) :
    Calls Try.prog 6 #[.slice a0 len0 cap0, .slice a1 len1 cap1, .slice a2 len2 cap2] w fun e w' => e = .returned (.bool true) ∧ Below w.heap.size w w' := by
  obtain ⟨l0, rfl, hc0, hm0, hr0⟩ := isrow_rd w0
  obtain ⟨l1, rfl, hc1, hm1, hr1⟩ := isrow_rd w1
  obtain ⟨l2, rfl, hc2, hm2, hr2⟩ := isrow_rd w2
  clear w0 w1 w2
  obtain ⟨i0, hi, hz0, hz1, hz2⟩ := info_parts Try.infoB3
  go_enter Try.func6, Try.ntmps6
  go_wp2_with fail
  refine (begun_any _).mono ?_
  rintro e w1 ⟨rfl, hb1⟩
  go_upto_region 4 with fail
  go_cut [8] (fun s8 wx => ∃ n : Nat, s8 = .int .i64 n ∧ n ≤ 100 ∧ n ≤ l0.length ∧ n ≤ l1.length ∧ n ≤ l2.length ∧ wx = w1)
  case first =>
    go_wp2_with fail
    all_goals (go_meet; first | exact ⟨_, rfl, by omega, by omega, by omega, by omega, rfl⟩ | exact ⟨100, rfl, by omega, by omega, by omega, by omega, rfl⟩)
  case rest =>
    obtain ⟨n, rfl, hn, h0, h1, h2, rfl⟩ := hcut
    go_wp2_with (first
      | (at_make; refine wpList_make_full _ rfl _ _ 24 rfl w.heap.size 5 i0 (.int .u8 0) 1 Try.underlying24 hi hz0 hz1 .i64 .i64 _ _ n rfl rfl rfl rfl (by rw [hz2]; omega) (by simp only [maxLen]; omega) hb1.size ?_; intro w2 hown hg2)
      | fail)
    have hown0 := own_of_made hown
    obtain ⟨X, hX⟩ : ∃ X, X = three l0 l1 l2 n := ⟨_, rfl⟩
    obtain ⟨hXl, hXk⟩ := three_facts h0 h1 h2
    rw [← hX] at hXl hXk
    have hbw := hb1.trans ((Below.refl w.heap.size wc).grown hg2 hb1.size (by intro k h; cases h))
    have hg : w.heap.size ≤ wc.heap.size := hb1.size
    generalize wc.heap.size = g at *
    have HX := Lib.hid hX; clear hX
    have HXl := Lib.hid hXl; clear hXl
    have HXk := Lib.hid hXk; clear hXk
    clear hown
    go_loopw [10] (fun i wr => ∃ k : Nat, k ≤ n ∧ i = .int .i64 k ∧ Own wr w.heap.size 5 (.slice (some ⟨g, 0, none⟩) n n) (X.take k ++ List.replicate (n - k) 0) ∧ Below w.heap.size w wr) (fun i _ => n - (intOf i).toNat)
    case atStart => exact ⟨0, Nat.zero_le _, rfl, by simpa using hown0, hbw⟩
    case round =>
      obtain ⟨k, hk, rfl, hownk, hbk⟩ := hrel
      by_cases hlt : k < n
      · obtain ⟨b0, off0, rfl, _, hcell0⟩ := (hr0.below hbk).2.resolve_left (by intro h; rw [h] at h0; simp at h0; omega)
        obtain ⟨b1, off1, rfl, _, hcell1⟩ := (hr1.below hbk).2.resolve_left (by intro h; rw [h] at h1; simp at h1; omega)
        obtain ⟨b2, off2, rfl, _, hcell2⟩ := (hr2.below hbk).2.resolve_left (by intro h; rw [h] at h2; simp at h2; omega)
        have hk0 := hcell0 k (by omega)
        have hk1 := hcell1 k (by omega)
        have hk2 := hcell2 k (by omega)
        have hlen : n = (X.take k ++ List.replicate (n - k) 0).length := by have := HXl.out; simp; omega
        have hcd := hownk.cell hlen (j := k) (by omega)
        have hfd := hownk.free hlen k
        have hx0 := bytes_getD hr0.1 k
        have hx1 := bytes_getD hr1.1 k
        have hx2 := bytes_getD hr2.1 k
        have e := HXk.out k hlt
        generalize l0.getD k 0 = x0 at *
        generalize l1.getD k 0 = x1 at *
        generalize l2.getD k 0 = x2 at *
        have He := Lib.hid e; clear e
        have Hlen := Lib.hid hlen; clear hlen
        generalize (X.take k ++ List.replicate (n - k) 0).getD k 0 = xd at hcd
        clear hcell0 hcell1 hcell2 hr0 hr1 hr2 hown0
        go_wp2
        go_region
        go_wp2
        have ex : bits .xor .u8 (bits .xor .u8 (x0 : Int) (x1 : Int)) (x2 : Int) = ((x0 ^^^ x1 ^^^ x2 : Nat) : Int) := by
          rw [u8_xor_nat x0 x1 hx0 hx1, u8_xor_nat _ x2 (Nat.xor_lt_two_pow (n := 8) hx0 hx1) hx2]
        have hxx : X.getD k 0 < 256 := by
          rw [He.out]; exact Nat.xor_lt_two_pow (n := 8) (Nat.xor_lt_two_pow (n := 8) hx0 hx1) hx2
        have hown2 := (hownk.set_ Hlen.out k (X.getD k 0) hxx).drew
        rw [fill_set X n k HXl.out hlt _ rfl] at hown2
        have hbk2 := (hbk.setCell (p := ⟨g, k, none⟩) hg (.int .u8 ((X.getD k 0 : Nat) : Int))).drew
        rw [ex, ← He.out]
        go_roundw
        case rel => exact ⟨k + 1, hlt, by go_num, hown2, hbk2⟩
        case measure => simp [intOf]; omega
      · have hkn : k = n := by omega
        subst hkn
        have hr0' := (hr0.below hbk).take k
        have hr1' := (hr1.below hbk).take k
        have hr2' := (hr2.below hbk).take k
        have e0 : k = (l0.take k).length := by simp; omega
        have e1 : k = (l1.take k).length := by simp; omega
        have e2 : k = (l2.take k).length := by simp; omega
        have hXt : X.take k ++ List.replicate (k - k) 0 = X := by rw [Nat.sub_self]; simp [List.take_of_length_le (Nat.le_of_eq HXl.out)]
        rw [hXt] at hownk
        obtain ⟨a3, c3, hv3, _, _, hr3, _⟩ := hownk.form
        simp only [Value.slice.injEq] at hv3
        obtain ⟨rfl, hv4, rfl⟩ := hv3
        have hfin : sum X = sum (l0.take k) ^^^ sum (l1.take k) ^^^ sum (l2.take k) := by
          rw [HX.out]
          have b0 := bytes_take hr0.1 k
          have b1 := bytes_take hr1.1 k
          have b2 := bytes_take hr2.1 k
          have b01 : Bytes (List.zipWith (· ^^^ ·) (l0.take k) (l1.take k)) := bytes_zip b0 b1
          refine sum_three _ _ _ _ b0 b1 b2 (bytes_zip b01 b2) (by simp; omega) (by simp; omega) (by simp [three]; omega) ?_
          unfold three
          rw [num_zip _ _ b01 b2 (by simp; omega), num_zip _ _ b0 b1 (by simp; omega)]
        have hs0 := sum_lt _ hr0'.1
        have hs1 := sum_lt _ hr1'.1
        have hs2 := sum_lt _ hr2'.1
        generalize l0.take k = L0 at *
        generalize l1.take k = L1 at *
        generalize l2.take k = L2 at *
        have E0 := Lib.hid e0; clear e0
        have E1 := Lib.hid e1; clear e1
        have E2 := Lib.hid e2; clear e2
        have E3 := Lib.hid hv4; clear hv4
        have HF := Lib.hid hfin; clear hfin hXt
        clear hown0
        go_wp2
        go_quiet ((first
          | (go_at_call 17; exact quiet_left (sum_n _ _ _ _ _ _ E0.out (hr0'.drewN _) (by omega)))
          | (go_at_call 17; exact quiet_left (sum_n _ _ _ _ _ _ E1.out (hr1'.drewN _) (by omega)))
          | (go_at_call 17; exact quiet_left (sum_n _ _ _ _ _ _ E2.out (hr2'.drewN _) (by omega)))
          | (go_at_call 17; exact quiet_left (sum_n _ _ _ _ _ _ E3.out (hr3.drewN _) (by omega)))))
        go_wp2
        go_ret
        have hb : (((sum X : Nat) : Int) == bits .xor .u32 (bits .xor .u32 ((sum L0 : Nat) : Int) ((sum L1 : Nat) : Int)) ((sum L2 : Nat) : Int)) = true := by
          rw [beq_iff_eq, u32_xor_nat _ _ hs0 hs1, u32_xor_nat _ _ (Nat.xor_lt_two_pow (n := 32) hs0 hs1) hs2, HF.out]
        exact ⟨congrArg (fun b => Ending.returned (.bool b)) hb, below_drewN hbk _⟩

end Go.Proofs.Ytfeddkldnmgncaa
