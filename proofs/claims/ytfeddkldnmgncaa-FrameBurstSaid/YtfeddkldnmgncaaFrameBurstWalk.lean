/- The walk of FrameBurst: it returns true and writes nothing that was there. Conditions: the slice reads as a row of bytes, the numbers fit their kinds. -/
import Derived.Test.YtfeddkldnmgncaaFrameBegun
namespace Go.Proofs.Ytfeddkldnmgncaa
open Go.RowKit Crc
set_option linter.unusedVariables false

/-- What the loop knows behind i bits: the text differs from S, from bit p on, in v. -/
def Turned (S T : List Nat) (p i v : Nat) : Prop := T.length = S.length ∧ num S ^^^ num T = 2 ^ p * v ∧ v < 2 ^ i
theorem turned_start (S : List Nat) (p : Nat) : Turned S S p 0 0 := ⟨rfl, by rw [Nat.xor_self, Nat.mul_zero], by decide⟩
theorem turned_skip {S T : List Nat} {p i v : Nat} (h : Turned S T p i v) : Turned S T p (i + 1) v :=
  ⟨h.1, h.2.1, Nat.lt_of_lt_of_le h.2.2 (Nat.pow_le_pow_right (by decide) (by omega))⟩
theorem turned_one {S T : List Nat} {p i v : Nat} (h : Turned S T p i v) (hT : Bytes T) (hk : p + i < 8 * T.length) : Turned S (turn T (p + i)) p (i + 1) (v + 2 ^ i) := by
  obtain ⟨h1, h2, h3⟩ := h
  refine ⟨by rw [turn_length, h1], ?_, by rw [Nat.pow_succ]; omega⟩
  have e1 := turn_num hT (p + i) hk
  have e2 : num S ^^^ num (turn T (p + i)) = (num S ^^^ num T) ^^^ (num T ^^^ num (turn T (p + i))) := by
    rw [Nat.xor_assoc, ← Nat.xor_assoc (num T), Nat.xor_self, Nat.zero_xor]
  rw [e2, h2, e1, Nat.pow_add, show 2 ^ p * 2 ^ i = 2 ^ p * (2 ^ i) from rfl, mul_xor]
  congr 1
  have := xor_add_of_lt i v 1 h3
  rw [Nat.mul_one] at this
  exact this.symm
theorem turned_none {S T : List Nat} {p i : Nat} (h : Turned S T p i 0) (hS : Bytes S) (hT : Bytes T) : T = S := by
  have := h.2.1
  rw [Nat.mul_zero] at this
  exact (num_inj hS hT h.1.symm (xor_eq_zero this)).symm
theorem turned_some {l T : List Nat} {p i v : Nat} (hl : Bytes l) (hle : l.length ≤ 60000) (h : Turned (seal1 l) T p i v) (hT : Bytes T) (hi : i ≤ 32) (hv : v ≠ 0) : opens T = false := by
  have e : sealed l = seal1 l := by unfold sealed; rw [if_pos hle]
  refine burst_opens hl hle hT (by rw [e]; exact h.1) p v (Nat.lt_of_lt_of_le h.2.2 (Nat.pow_le_pow_right (by decide) hi)) hv (by rw [e]; exact h.2.1)

theorem pow_cast2 (j : Nat) (h : 2 ^ j < 256) : (2 : Int) ^ j % 256 = ((2 ^ j : Nat) : Int) := by
  have e : (2 : Int) ^ j = ((2 ^ j : Nat) : Int) := by rw [Int.natCast_pow]; rfl
  rw [e]
  generalize (2 ^ j : Nat) = m at h
  omega
theorem bit_bits2 (x i : Nat) (hx : x < 256) : bits .xor .u8 (x : Int) (2 ^ (i % 8) % 256) = ((x ^^^ 2 ^ (i % 8) : Nat) : Int) := by
  rw [pow_cast2 _ (pow_lt8 i)]
  exact u8_xor_nat x _ hx (pow_lt8 i)

set_option maxHeartbeats 4000000 in
theorem frameBurst_walk (a0 : Option Addr) (len0 cap0 : Nat) (z0 : List Int) (a1 : Int) (a2 : Int) (w : World) (w0 : IsRow .u8 w a0 len0 cap0 z0) (w1 : (Lit.int .i64 a1).wf = true) (w2 : (Lit.int .u32 a2).wf = true) :
    Calls Try.prog 10 #[.slice a0 len0 cap0, .int .i64 a1, .int .u32 a2] w fun e w' => e = .returned (.bool true) ∧ Below w.heap.size w w' := by
  obtain ⟨l0, rfl, hc0, hm0, hr0⟩ := isrow_rd w0
  have hbd := bounds_i64 w1
  have hbd2 := bounds_u32 w2
  obtain ⟨bb, rfl⟩ := Int.eq_ofNat_of_zero_le (show 0 ≤ a2 by omega)
  clear w0 w1 w2
  obtain ⟨i0, hi, hz0, hz1, hz2⟩ := info_parts Try.infoF
  go_enter Try.func10, Try.ntmps10
  go_wp2_with fail
  refine (fbegun_any _).mono ?_
  rintro e w1 ⟨rfl, hb1⟩
  obtain ⟨L0, hL0, hle0, _, hr0'⟩ := short_rd (k := 300) hr0 hb1
  go_wp2_with fail
  refine (short_any a0 l0 L0 cap0 300 w1 hc0 hL0).mono ?_
  rintro e w2 ⟨rfl, rfl⟩
  go_wp2_with (first
    | (at_builtin; refine wpList_app _ rfl (.const (.slice none 0 0)) (.tmp 18) _ rfl w.heap.size 5 i0 Try.underlying24 hi hz0 hz1 hz2 (.slice none 0 0) [] rfl (Own.nil _ _ _) _ a0 L0 _ cap0 rfl rfl hr0' L0 (by simp) (by omega) hb1.size ?_; intro v1 w2 hown1 hb2 hg1 hat1)
    | fail)
  have hb2' := hb1.trans hb2
  obtain ⟨b1, c1, rfl, _, _, hrA, _⟩ := hown1.form
  clear hg1 hat1 hown1 hb2 hb1
  have hLb := hr0'.1
  (with_reducible refine (seal_yes b1 L0 _ c1 w2 _ (hidr _) hrA (by omega) (Nat.le_refl _)).mono ?_)
  rintro e w3 ⟨v3, rfl, hown3, hb3⟩
  have hb3' := hb2'.trans (hb3.mono hb2'.size)
  have h8 : 8 ≤ (seal1 L0).length := by rw [seal1_length]; omega
  have hlS : (seal1 L0).length ≤ 308 := by rw [seal1_length]; omega
  have hopS : opens (seal1 L0) = true := by
    have e : sealed L0 = seal1 L0 := by unfold sealed; rw [if_pos (by omega)]
    have := (opens_sealed (l := L0) (by omega)).1
    rwa [e] at this
  obtain ⟨g, c, rfl, hnc, _, hg0, hgs⟩ := hown3.form1 (by omega)
  have hgw : w.heap.size ≤ g := Nat.le_trans hb2'.size hg0
  obtain ⟨S, hS⟩ : ∃ S, S = seal1 L0 := ⟨_, rfl⟩
  rw [← hS] at h8 hlS hopS hnc hown3 ⊢
  have HS := Lib.hid hS; clear hS
  have HopS := Lib.hid hopS; clear hopS
  by_cases hlo : a1 < 0
  · have hlod : decide (a1 < 0) = true := decide_eq_true hlo
    go_wp2_with fail
    go_ret
    exact ⟨rfl, hb3'⟩
  · have hlod : decide (a1 < 0) = false := decide_eq_false hlo
    have hS0 : ((S.length : Int) == 0) = false := by rw [beq_eq_false_iff_ne]; omega
    go_upto_region 7 with fail
    obtain ⟨q, rfl⟩ := Int.eq_ofNat_of_zero_le (show 0 ≤ a1 by omega)
    clear hlod
    go_upto_region 8 with fail
    have hp : ((q : Int) % (8 * (S.length : Int))) = ((q % (8 * S.length) : Nat) : Int) := by simp
    have hpl : q % (8 * S.length) < 8 * S.length := Nat.mod_lt _ (by omega)
    rw [hp]
    obtain ⟨p, hpp⟩ : ∃ p, p = q % (8 * S.length) := ⟨_, rfl⟩
    rw [← hpp] at hpl ⊢
    clear hp hpp hS0
    go_wp2_with fail
    go_loopg [9, 10] 32 (fun m t i wr => ∃ (k : Nat) (T : List Nat) (v : Nat), m = 32 - k ∧ k ≤ 32 ∧ i = .int .i64 k ∧ t = .bool (decide (v ≠ 0)) ∧ Own wr w2.heap.size 5 (.slice (some ⟨g, 0, none⟩) S.length c) T ∧ Turned S T p k v ∧ Below w.heap.size w wr)
    case atStart => exact ⟨0, S, 0, rfl, by omega, rfl, rfl, hown3, turned_start S p, hb3'⟩
    case round =>
      obtain ⟨k, T, v, hgk, hk, rfl, rfl, hown, htu, hb⟩ := hrel
      have HG := Lib.hid hgk; clear hgk
      have HT := Lib.hid htu
      have hTl : T.length = S.length := htu.1
      clear htu
      by_cases hlt : k < 32
      · cases hbit : (bits .and .u32 ((bb : Int) / 2 ^ k) 1 == 1)
        · go_wp2_with fail
          go_roundg (32 - (k + 1))
          case measure => have := HG.out; omega
          case rel => exact ⟨k + 1, T, v, rfl, by omega, by go_num, rfl, hown, turned_skip HT.out, hb⟩
        · by_cases hkl : p + k < 8 * S.length
          · have hkld : decide ((p : Int) + (k : Int) < 8 * (S.length : Int)) = true := decide_eq_true (by omega)
            have hTb := hown.2
            have hlen : S.length = T.length := hTl.symm
            have hcc := hown.cell hlen (j := (p + k) / 8) (by omega)
            have hfc := hown.free hlen ((p + k) / 8)
            have hx := bytes_getD hTb ((p + k) / 8)
            have htt : turn T (p + k) = T.set ((p + k) / 8) (T.getD ((p + k) / 8) 0 ^^^ 2 ^ ((p + k) % 8)) := rfl
            have htu := turned_one HT.out hTb (by omega)
            generalize T.getD ((p + k) / 8) 0 = x at hcc hx htt
            have hxx : x ^^^ 2 ^ ((p + k) % 8) < 256 := Nat.xor_lt_two_pow (n := 8) hx (pow_lt8 _)
            have hown2 := hown.set_ hlen ((p + k) / 8) _ hxx
            rw [← htt] at hown2
            have hbit2 := bit_bits2 x (p + k) hx
            have hb2 := hb.setCell (p := ⟨g, (p + k) / 8, none⟩) hgw (.int .u8 ((x ^^^ 2 ^ ((p + k) % 8) : Nat) : Int))
            have Hbit2 := Lib.hid hbit2; clear hbit2
            have Htt := Lib.hid htt; clear htt
            have HTU := Lib.hid htu; clear htu
            have HTl := Lib.hid hTl; clear hTl hlen
            have hv1 : (true = decide (v + 2 ^ k ≠ 0)) := by
              rw [decide_eq_true]
              have := Nat.two_pow_pos k
              omega
            have HV := Lib.hid hv1; clear hv1
            have hin : ((p : Int) + (k : Int)) / 8 < (S.length : Int) := by omega
            clear hTb
            go_wp2_with fail
            rw [Hbit2.out]
            go_roundg (32 - (k + 1))
            case measure => have := HG.out; omega
            case rel => exact ⟨k + 1, turn T (p + k), v + 2 ^ k, rfl, by omega, by go_num, by rw [← HV.out], hown2, HTU.out, hb2⟩
          · have hkld : decide ((p : Int) + (k : Int) < 8 * (S.length : Int)) = false := decide_eq_false (by omega)
            clear hkl
            go_wp2_with fail
            go_roundg (32 - (k + 1))
            case measure => have := HG.out; omega
            case rel => exact ⟨k + 1, T, v, rfl, by omega, by go_num, rfl, hown, turned_skip HT.out, hb⟩
      · have hk32 : k ≤ 32 := hk
        have hTr := hown.form
        obtain ⟨a4, c4, hv4, _, _, hr4, _⟩ := hTr
        simp only [Value.slice.injEq] at hv4
        obtain ⟨rfl, hv5, rfl⟩ := hv4
        have Hv5 := Lib.hid hv5; clear hv5
        have HTl := Lib.hid hTl; clear hTl
        by_cases hv0 : v = 0
        · have hTS : Hid (T = S) := turned_none (by have := HT.out; rw [hv0] at this; exact this) hown3.2 hr4.1
          have hvd : Hid (decide (v ≠ 0) = false) := by show _ = _; rw [hv0]; rfl
          rw [hvd.out]
          clear hv0 hvd
          go_wp2_with fail
          (with_reducible refine (open_long _ T _ _ wr _ Hv5 hr4 (by omega) (by omega) hnc (Nat.le_refl _)).mono ?_)
          rintro e w5 ⟨⟨v5, hv⟩, hb5⟩
          rcases hv with ⟨_, rfl, _⟩ | ⟨hf, _⟩
          · go_wp2_with fail
            go_ret
            exact ⟨rfl, hb.trans (hb5.mono hb.size)⟩
          · rw [hTS.out, HopS.out] at hf; cases hf
        · have hop : Hid (opens T = false) := turned_some hLb (by omega) (by rw [← HS.out]; exact HT.out) hr4.1 hk hv0
          have hvd : Hid (decide (v ≠ 0) = true) := decide_eq_true hv0
          rw [hvd.out]
          clear hv0 hvd
          go_wp2_with fail
          (with_reducible refine (open_long _ T _ _ wr _ Hv5 hr4 (by omega) (by omega) hnc (Nat.le_refl _)).mono ?_)
          rintro e w5 ⟨⟨v5, hv⟩, hb5⟩
          rcases hv with ⟨hf, _⟩ | ⟨_, rfl⟩
          · rw [hop.out] at hf; cases hf
          · go_wp2_with fail
            go_ret
            exact ⟨rfl, hb.trans (hb5.mono hb.size)⟩

end Go.Proofs.Ytfeddkldnmgncaa
