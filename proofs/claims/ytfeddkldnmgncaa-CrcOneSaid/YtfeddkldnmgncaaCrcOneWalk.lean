/- The walk of CrcOne: it returns true and writes nothing that was there. Conditions: the slice reads as a row of bytes, the numbers fit int. -/
import Derived.Test.YtfeddkldnmgncaaCrcBase
import Derived.Test.YtfeddkldnmgncaaOneBit
import Derived.BigQuiet
import Derived.RegionTactic
import Derived.ChangeAlike
import Derived.Deep.DeepCutAuto
namespace Go.Proofs.Ytfeddkldnmgncaa
open Go.RowKit Crc

theorem Try.infoB5 : (Try.prog.info? 5).map (fun i => (i.zero, i.size, i.bytes)) = some (some (.int .u8 0), 1, 1) := by kernel_rfl

theorem pow_cast (j : Nat) (h : 2 ^ j < 256) : (2 : Int) ^ j % 256 = ((2 ^ j : Nat) : Int) := by
  have e : (2 : Int) ^ j = ((2 ^ j : Nat) : Int) := by rw [Int.natCast_pow]; rfl
  rw [e]
  generalize (2 ^ j : Nat) = m at h
  omega
theorem bit_bits (x i : Nat) (hx : x < 256) : bits .xor .u8 (x : Int) (2 ^ (i % 8) % 256) = ((x ^^^ 2 ^ (i % 8) : Nat) : Int) := by
  rw [pow_cast _ (pow_lt8 i)]
  exact u8_xor_nat x _ hx (pow_lt8 i)

theorem one_law {L : List Nat} (hL : Bytes L) (hl : L.length ≤ 100) {i k : Nat} (hi : i < 8 * L.length) (hk : k < 8 * L.length) :
    (((sum (turn L i) : Nat) : Int) != ((sum L : Nat) : Int)) = true ∧ (((i : Int) == (k : Int)) == (((sum (turn L i) : Nat) : Int) == ((sum (turn L k) : Nat) : Int))) = true := by
  refine ⟨by rw [bne_iff_ne]; intro h; exact turn_sum hL i hi (by omega), ?_⟩
  rcases Nat.lt_trichotomy i k with h | h | h
  · have h1 := turn_two hL hl i k h hk
    have a1 : ((i : Int) == (k : Int)) = false := beq_eq_false_iff_ne.2 (by omega)
    have a2 : (((sum (turn L i) : Nat) : Int) == ((sum (turn L k) : Nat) : Int)) = false := beq_eq_false_iff_ne.2 (by omega)
    rw [a1, a2]
    rfl
  · subst h; simp
  · have h1 := turn_two hL hl k i h hi
    have a1 : ((i : Int) == (k : Int)) = false := beq_eq_false_iff_ne.2 (by omega)
    have a2 : (((sum (turn L i) : Nat) : Int) == ((sum (turn L k) : Nat) : Int)) = false := beq_eq_false_iff_ne.2 (by omega)
    rw [a1, a2]
    rfl

theorem two_apart {s g1 g2 n c : Nat} (h : (Value.slice (some ⟨g2, 0, none⟩) n c).ownBlock = (Value.slice none 0 0).ownBlock ∨ (Value.slice (some ⟨g2, 0, none⟩) n c).ownBlock = some s) (h1 : g1 < s) : g1 ≠ g2 := by
  rcases h with h | h
  · cases h
  · have : g2 = s := by injection h
    omega

set_option maxHeartbeats 4000000 in
theorem crcOne_walk (a0 : Option Addr) (len0 cap0 : Nat) (z0 : List Int) (a1 : Int) (a2 : Int) (w : World) (w0 : IsRow .u8 w a0 len0 cap0 z0) (w1 : (Lit.int .i64 a1).wf = true) (w2 : (Lit.int .i64 a2).wf = true) :
    Calls Try.prog 8 #[.slice a0 len0 cap0, .int .i64 a1, .int .i64 a2] w fun e w' => e = .returned (.bool true) ∧ Below w.heap.size w w' := by
  obtain ⟨l0, rfl, hc0, hm0, hr0⟩ := isrow_rd w0
  have hbd1 := bounds_i64 w1
  have hbd2 := bounds_i64 w2
  clear w0 w1 w2
  obtain ⟨i0, hi, hz0, hz1, hz2⟩ := info_parts Try.infoB5
  go_enter Try.func8, Try.ntmps8
  go_wp2_with fail
  refine (begun_any _).mono ?_
  rintro e w1 ⟨rfl, hb1⟩
  obtain ⟨L, hL, hLe, hLl, hr⟩ := short_rd (k := 100) hr0 hb1
  have hrw : Rd w w.heap.size a0 L := hr.keep fun p hp => (hb1.cell hp).symm
  go_upto_if 15 with fail
  go_cut [0] (fun s0 wx => s0 = .slice a0 L.length cap0 ∧ wx = w1)
  case first =>
    have hL' := hL.out
    by_cases h100 : l0.length ≤ 100
    · have e : L.length = l0.length := by rw [hL']; simp; omega
      have HE := Lib.hid e; clear e
      clear hL' hL
      go_wp2_with fail
      go_meet
      exact ⟨by rw [HE.out], rfl⟩
    · have e : L.length = 100 := by rw [hL']; simp; omega
      have HE := Lib.hid e; clear e
      clear hL' hL
      go_wp2_with fail
      go_meet
      exact ⟨by rw [HE.out], rfl⟩
  case rest =>
    obtain ⟨rfl, rfl⟩ := hcut
    have hcL : L.length ≤ cap0 := by omega
    clear hL hr0
    by_cases hok : 0 < L.length ∧ 0 ≤ a1 ∧ 0 ≤ a2
    · obtain ⟨hL0, h1, h2⟩ := hok
      have hg0 : ((L.length : Int) == 0) = false := by rw [beq_eq_false_iff_ne]; omega
      go_upto_region 8 with fail
      go_cut [1, 2] (fun s1 s2 wx => ∃ i k : Nat, s1 = .int .i64 i ∧ s2 = .int .i64 k ∧ i < 8 * L.length ∧ k < 8 * L.length ∧ Below w.heap.size w wx)
      case first =>
        obtain ⟨p, rfl⟩ := Int.eq_ofNat_of_zero_le h1
        obtain ⟨q, rfl⟩ := Int.eq_ofNat_of_zero_le h2
        go_quiet (fail)
        go_wp2
        go_meet
        exact ⟨p % (8 * L.length), q % (8 * L.length), by go_num, by go_num, Nat.mod_lt _ (by omega), Nat.mod_lt _ (by omega), below_drewN hb1 _⟩
      case rest =>
        obtain ⟨i, k, rfl, rfl, hi8, hk8, hbw⟩ := hcut
        have hrc := hrw.below hbw
        clear hr hb1
        go_upto_region 10 with (first
          | (at_builtin; refine wpList_app _ rfl (.const (.slice none 0 0)) (.tmp 39) _ rfl w.heap.size 5 i0 Try.underlying24 hi hz0 hz1 hz2 (.slice none 0 0) [] rfl (Own.nil _ _ _) _ a0 L _ cap0 rfl rfl hrc L (by simp) (by omega) hbw.size ?_; intro v1 w2 hown1 hb2 hg1 hat1)
          | (at_builtin; refine wpList_app _ rfl (.const (.slice none 0 0)) (.tmp 41) _ rfl w.heap.size 5 i0 Try.underlying24 hi hz0 hz1 hz2 (.slice none 0 0) [] rfl (Own.nil _ _ _) _ a0 L _ cap0 rfl rfl (hrc.below hb2) L (by simp) (by omega) (Nat.le_trans hbw.size hb2.size) ?_; intro v2 w3 hown2 hb3 hg2 hat2; obtain ⟨g1, c1, rfl, hlc1, hmc1, hgl1, hgs1⟩ := hown1.form1 (by omega); obtain ⟨g2, c2, rfl, hlc2, hmc2, hgl2, hgs2⟩ := hown2.form1 (by omega); have hne : g1 ≠ g2 := two_apart hat2 hgs1; have hown1' := hown1.keep hg2 (.inr (by simp [Value.ownBlock])); have hbw3 := (hbw.trans hb2).trans hb3; clear hg1 hat1 hg2 hat2 hb2 hb3 hown1)
          | fail)
        have hcc := hown1'.cell rfl (j := i / 8) (by omega)
        have hfc := hown1'.free rfl (i / 8)
        have hLi := bytes_getD hrw.1 (i / 8)
        have hti : turn L i = L.set (i / 8) (L.getD (i / 8) 0 ^^^ 2 ^ (i % 8)) := rfl
        have hp8 := pow_lt8 i
        generalize L.getD (i / 8) 0 = x at hcc hLi hti
        have hxi : x ^^^ 2 ^ (i % 8) < 256 := Nat.xor_lt_two_pow (n := 8) hLi hp8
        have hexi := bit_bits x i hLi
        have hownA := hown1'.set_ rfl (i / 8) _ hxi
        rw [← hti] at hownA
        have hownB := hown2.far (p := ⟨g1, i / 8, none⟩) (by intro k' hk'; injection hk' with hk'; subst hk'; exact fun h => hne h.symm) (.int .u8 ((x ^^^ 2 ^ (i % 8) : Nat) : Int))
        have hbwA := hbw3.setCell (p := ⟨g1, i / 8, none⟩) hgl1 (.int .u8 ((x ^^^ 2 ^ (i % 8) : Nat) : Int))
        have Hti := Lib.hid hti; clear hti
        have Hexi := Lib.hid hexi; clear hexi
        go_upto_region 11 with fail
        rw [Hexi.out]
        have hcc2 := hownB.cell rfl (j := k / 8) (by omega)
        have hfc2 := hownB.free rfl (k / 8)
        have hLk := bytes_getD hrw.1 (k / 8)
        have htk : turn L k = L.set (k / 8) (L.getD (k / 8) 0 ^^^ 2 ^ (k % 8)) := rfl
        generalize L.getD (k / 8) 0 = y at hcc2 hLk htk
        have hyk : y ^^^ 2 ^ (k % 8) < 256 := Nat.xor_lt_two_pow (n := 8) hLk (pow_lt8 k)
        have hexk := bit_bits y k hLk
        have hownC := hownB.set_ rfl (k / 8) _ hyk
        rw [← htk] at hownC
        have hownD := hownA.far (p := ⟨g2, k / 8, none⟩) (by intro k' hk'; injection hk' with hk'; subst hk'; exact hne) (.int .u8 ((y ^^^ 2 ^ (k % 8) : Nat) : Int))
        have hbwC := hbwA.setCell (p := ⟨g2, k / 8, none⟩) hgl2 (.int .u8 ((y ^^^ 2 ^ (k % 8) : Nat) : Int))
        have Htk := Lib.hid htk; clear htk
        have Hexk := Lib.hid hexk; clear hexk
        clear hownA hownB hown1' hown2 hbwA hbw3 hcc hfc
        go_upto_region 12 with fail
        rw [Hexk.out]
        generalize hW : (w3.setCell ⟨g1, i / 8, none⟩ (.int .u8 ((x ^^^ 2 ^ (i % 8) : Nat) : Int))).setCell ⟨g2, k / 8, none⟩ (.int .u8 ((y ^^^ 2 ^ (k % 8) : Nat) : Int)) = W at hownC hownD hbwC ⊢
        clear hW
        have hlaw := one_law hrw.1 hLe hi8 hk8
        have e1 := (turn_length L i).symm
        have e2 := (turn_length L k).symm
        obtain ⟨a3, c3, hv3, _, _, hr3, _⟩ := hownD.form
        obtain ⟨a4, c4, hv4, _, _, hr4, _⟩ := hownC.form
        simp only [Value.slice.injEq] at hv3 hv4
        obtain ⟨rfl, -, rfl⟩ := hv3
        obtain ⟨rfl, -, rfl⟩ := hv4
        have hrL := hrw.below hbwC
        generalize turn L i = T at hlaw e1 hr3
        generalize turn L k = U at hlaw e2 hr4
        obtain ⟨hlaw1, hlaw2⟩ := hlaw
        have E1 := Lib.hid e1; clear e1
        have E2 := Lib.hid e2; clear e2
        have HL2 := Lib.hid hlaw2; clear hlaw2
        clear hownC hownD hrw Hti Htk hcc2 hfc2 Hexi Hexk hne
        go_wp2_with fail
        (with_reducible refine (sum_n _ T _ _ _ _ E1.out hr3 (by omega)).mono ?_)
        rintro e w4 ⟨rfl, rfl⟩
        go_wp2_with fail
        (with_reducible refine (sum_any a0 L cap0 _ _ hrL (by omega)).mono ?_)
        rintro e w4 ⟨rfl, rfl⟩
        go_wp2_with fail
        (with_reducible refine (sum_n _ T _ _ _ _ E1.out hr3 (by omega)).mono ?_)
        rintro e w4 ⟨rfl, rfl⟩
        go_wp2_with fail
        (with_reducible refine (sum_n _ U _ _ _ _ E2.out hr4 (by omega)).mono ?_)
        rintro e w4 ⟨rfl, rfl⟩
        go_wp2_with fail
        go_ret
        exact ⟨congrArg (fun b => Ending.returned (.bool b)) HL2.out, hbwC⟩
    · by_cases hL0 : L.length = 0
      · have hg0 : ((L.length : Int) == 0) = true := by rw [beq_iff_eq]; omega
        have HH := Lib.hid hL0; clear hL0
        clear hok
        go_wp2
        go_ret
        exact ⟨rfl, hb1⟩
      · have hg0 : ((L.length : Int) == 0) = false := by rw [beq_eq_false_iff_ne]; omega
        by_cases h1 : a1 < 0
        · clear hok
          go_wp2
          go_ret
          exact ⟨rfl, hb1⟩
        · have h2 : a2 < 0 := by omega
          clear hok
          go_wp2
          go_ret
          exact ⟨rfl, hb1⟩

end Go.Proofs.Ytfeddkldnmgncaa
