/- The contract of the reference's Sum: the same plain function 'sum' as the program's. Conditions: the slice reads as a list of bytes (Rd). -/
import Derived.Test.YtfeddkldnmgncaaCrcWalks
namespace Go.Proofs.Ytfeddkldnmgncaa
open Go.RowKit Crc

theorem rnd_odd {Y : Nat} (hY : Y < 4294967296) (h : Y % 2 = 1) : bits .xor .u32 ((Y : Int) / 2) 3988292384 = ((rnd Y : Nat) : Int) := by
  unfold rnd
  rw [Nat.shiftRight_eq_div_pow, if_pos h]
  exact u32_xor_nat (Y / 2) 3988292384 (by omega) (by omega)

theorem rnd_noodd {Y : Nat} (h : ¬ Y % 2 = 1) : (Y : Int) / 2 = ((rnd Y : Nat) : Int) := by
  unfold rnd
  rw [Nat.shiftRight_eq_div_pow, if_neg h]
  simp

set_option maxHeartbeats 400000 in
theorem refsum_any (a : Option Addr) (l : List Nat) (c : Nat) (w : World) (B : Nat) (hr : Rd w B a l) (hl : l.length ≤ 9223372036854775807) :
    Calls Try.prog 18 #[.slice a l.length c] w fun e w' => e = .returned (.int .u32 (sum l : Nat)) ∧ w = w' := by
  go_enter Try.func18, Try.ntmps18
  go_wp2
  go_loop [3, 4] (fun x i => ∃ k : Nat, k ≤ l.length ∧ i = .int .i64 k ∧ x = .int .u32 (run full (l.take k) : Nat)) (fun _ i => l.length - (intOf i).toNat)
  case atStart => exact ⟨0, Nat.zero_le _, rfl, rfl⟩
  case round =>
    obtain ⟨k, hk, rfl, rfl⟩ := hrel
    have hx : run full (l.take k) < 4294967296 := run_lt _ (bytes_take hr.1 k) full_lt
    by_cases hlt : k < l.length
    · obtain ⟨b, off, rfl, _, hc⟩ := hr.2.resolve_left (by intro h; rw [h] at hlt; simp at hlt)
      have hck := hc k hlt
      have hbk := bytes_getD hr.1 k
      have HS : Hid (run full (l.take (k + 1)) = byte (run full (l.take k)) (l.getD k 0)) := by
        show _ = _
        rw [List.take_succ_eq_append_getElem hlt, run_append, List.getD_eq_getElem?_getD, List.getElem?_eq_getElem hlt]
        rfl
      generalize hX : run full (l.take k) = X at hx HS ⊢
      generalize hC : l.getD k 0 = C at hck hbk HS
      clear hc hr
      have HX := Lib.hid hX; clear hX
      have HC := Lib.hid hC; clear hC
      go_wp2
      go_loop [3, 5] (fun x i => ∃ j : Nat, j ≤ 8 ∧ i = .int .i64 j ∧ x = .int .u32 (rnds j (X ^^^ C) : Nat)) (fun _ i => 8 - (intOf i).toNat)
      case atStart => exact ⟨0, Nat.zero_le _, rfl, u32_eq (u32_xor_nat X C hx (by omega))⟩
      case round =>
        obtain ⟨j, hj, rfl, rfl⟩ := hrel
        have hY : rnds j (X ^^^ C) < 4294967296 := rnds_lt (x := X ^^^ C) j (Nat.xor_lt_two_pow (n := 32) hx (by omega))
        generalize hE : rnds j (X ^^^ C) = Y at hY ⊢
        have HE := Lib.hid hE; clear hE
        by_cases hj8 : j < 8
        · by_cases hodd : Y % 2 = 1
          · have ht : (((Y : Int) % 2) == 1) = true := by rw [beq_iff_eq]; omega
            have HO := Lib.hid hodd; clear hodd
            go_wp2
            go_round
            case rel => exact ⟨j + 1, by omega, by go_num, u32_eq (by rw [rnd_odd hY HO.out, rnds_succ', HE.out])⟩
            case measure => simp [intOf]; omega
          · have ht : (((Y : Int) % 2) == 1) = false := by rw [beq_eq_false_iff_ne]; omega
            have HO := Lib.hid hodd; clear hodd
            go_wp2
            go_round
            case rel => exact ⟨j + 1, by omega, by go_num, u32_eq (by rw [rnd_noodd HO.out, rnds_succ', HE.out])⟩
            case measure => simp [intOf]; omega
        · go_wp2
          go_round
          case rel => exact ⟨k + 1, by omega, by go_num, u32_eq (by rw [HS.out, ← HE.out, show j = 8 from by omega]; rfl)⟩
          case measure => simp [intOf]; omega
    · have hkl : k = l.length := by omega
      clear hr
      generalize hX : run full (l.take k) = X at hx ⊢
      have HX := Lib.hid hX; clear hX
      have HK := Lib.hid hkl; clear hkl
      go_wp2
      go_ret
      refine ⟨?_, rfl⟩
      rw [not32 hx, ← HX.out, HK.out, List.take_length]
      unfold sum more
      rw [Nat.zero_xor]
      rfl

end Go.Proofs.Ytfeddkldnmgncaa
