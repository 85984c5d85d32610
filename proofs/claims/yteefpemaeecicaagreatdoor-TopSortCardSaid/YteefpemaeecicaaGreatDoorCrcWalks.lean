/- The contracts of crc.More, crc.Sum, the reference's Sum, and Short: what each gives, as the plain functions 'more', 'sum' of the bytes that are read. Conditions: the slice reads as a list of bytes (Rd). -/
import Derived.Test.YteefpemaeecicaaGreatDoorWords
import Derived.Test.YteefpemaeecicaaGreatDoorProg
import Derived.Laws.BitsAll
import Derived.Outline
namespace Go.Proofs.YteefpemaeecicaaGreatDoor
open Go.RowKit Crc

theorem not32 {s : Nat} (hs : s < 4294967296) : bits .xor .u32 IntKind.u32.max (s : Int) = ((s ^^^ full : Nat) : Int) := by
  have := u32_xor_nat 4294967295 s (by omega) hs
  rw [Nat.xor_comm] at this
  exact this

theorem rnd_bits {Y : Nat} (hY : Y < 4294967296) :
    bits .xor .u32 ((Y : Int) / 2) (bits .and .u32 3988292384 (-bits .and .u32 (Y : Int) 1 % 4294967296)) = ((rnd Y : Nat) : Int) := by
  have e1 : bits .and .u32 (Y : Int) 1 = ((Y % 2 : Nat) : Int) := by
    have := u32_and_nat Y 1 hY (by omega)
    rw [nat_mask1] at this
    exact this
  rw [e1]
  unfold rnd
  rw [Nat.shiftRight_eq_div_pow]
  rcases Nat.mod_two_eq_zero_or_one Y with h | h
  · rw [h]
    have e2 : bits .and .u32 3988292384 (-((0 : Nat) : Int) % 4294967296) = ((0 : Nat) : Int) := by decide
    rw [e2]
    exact u32_xor_nat (Y / 2) 0 (by omega) (by omega)
  · rw [h]
    have e2 : bits .and .u32 3988292384 (-((1 : Nat) : Int) % 4294967296) = ((3988292384 : Nat) : Int) := by decide
    rw [e2]
    exact u32_xor_nat (Y / 2) 3988292384 (by omega) (by omega)

theorem u32_eq {a b : Int} (h : a = b) : Value.int .u32 a = .int .u32 b := by rw [h]

set_option maxHeartbeats 400000 in
theorem more_any (s : Nat) (a : Option Addr) (l : List Nat) (c : Nat) (w : World) (B : Nat) (hs : s < 4294967296) (hr : Rd w B a l) (hl : l.length ≤ 9223372036854775807) :
    Calls Tryz.prog 498 #[.int .u32 s, .slice a l.length c] w fun e w' => e = .returned (.int .u32 (more s l : Nat)) ∧ w = w' := by
  go_enter Tryz.func498, Tryz.ntmps498
  go_wp2
  go_loop [5, 12] (fun x i => ∃ k : Nat, k ≤ l.length ∧ i = .int .i64 k ∧ x = .int .u32 (run (s ^^^ full) (l.take k) : Nat)) (fun _ i => l.length - (intOf i).toNat)
  case atStart => exact ⟨0, Nat.zero_le _, rfl, by rw [not32 hs]; rfl⟩
  case round =>
    obtain ⟨k, hk, rfl, rfl⟩ := hrel
    have hx : run (s ^^^ full) (l.take k) < 4294967296 := run_lt _ (bytes_take hr.1 k) (Nat.xor_lt_two_pow (n := 32) hs full_lt)
    by_cases hlt : k < l.length
    · obtain ⟨b, off, rfl, _, hc⟩ := hr.2.resolve_left (by intro h; rw [h] at hlt; simp at hlt)
      have hck := hc k hlt
      have hbk := bytes_getD hr.1 k
      have HS : Hid (run (s ^^^ full) (l.take (k + 1)) = byte (run (s ^^^ full) (l.take k)) (l.getD k 0)) := by
        show _ = _
        rw [List.take_succ_eq_append_getElem hlt, run_append, List.getD_eq_getElem?_getD, List.getElem?_eq_getElem hlt]
        rfl
      generalize hX : run (s ^^^ full) (l.take k) = X at hx HS ⊢
      generalize hC : l.getD k 0 = C at hck hbk HS
      clear hc hr
      have HX := Lib.hid hX; clear hX
      have HC := Lib.hid hC; clear hC
      go_wp2
      go_loop [5, 20] (fun x i => ∃ j : Nat, j ≤ 8 ∧ i = .int .i64 j ∧ x = .int .u32 (rnds j (X ^^^ C) : Nat)) (fun _ i => 8 - (intOf i).toNat)
      case atStart => exact ⟨0, Nat.zero_le _, rfl, u32_eq (u32_xor_nat X C hx (by omega))⟩
      case round =>
        obtain ⟨j, hj, rfl, rfl⟩ := hrel
        have hY : rnds j (X ^^^ C) < 4294967296 := rnds_lt (x := X ^^^ C) j (Nat.xor_lt_two_pow (n := 32) hx (by omega))
        generalize hE : rnds j (X ^^^ C) = Y at hY ⊢
        have HE := Lib.hid hE; clear hE
        by_cases hj8 : j < 8
        · go_wp2
          go_round
          case rel => exact ⟨j + 1, by omega, by go_num, u32_eq (by rw [rnd_bits hY, rnds_succ', HE.out])⟩
          case measure => simp [intOf]; omega
        · go_wp2
          go_round
          case rel => exact ⟨k + 1, by omega, by go_num, u32_eq (by rw [HS.out, ← HE.out, show j = 8 from by omega]; rfl)⟩
          case measure => simp [intOf]; omega
    · have hkl : k = l.length := by omega
      clear hr
      generalize hX : run (s ^^^ full) (l.take k) = X at hx ⊢
      have HX := Lib.hid hX; clear hX
      have HK := Lib.hid hkl; clear hkl
      go_wp2
      go_ret
      refine ⟨?_, rfl⟩
      rw [not32 hx, ← HX.out, HK.out, List.take_length]
      rfl

theorem sum_any (a : Option Addr) (l : List Nat) (c : Nat) (w : World) (B : Nat) (hr : Rd w B a l) (hl : l.length ≤ 9223372036854775807) :
    Calls Tryz.prog 449 #[.slice a l.length c] w fun e w' => e = .returned (.int .u32 (sum l : Nat)) ∧ w = w' := by
  go_enter Tryz.func449, Tryz.ntmps449
  go_wp2_with fail
  refine (more_any 0 a l c w B (by omega) hr hl).mono ?_
  rintro e w' ⟨rfl, rfl⟩
  go_wp2_with fail
  go_ret
  exact ⟨rfl, rfl⟩


theorem sum_n (a : Option Addr) (l : List Nat) (n c : Nat) (w : World) (B : Nat) (hn : n = l.length) (hr : Rd w B a l) (hl : n ≤ 9223372036854775807) :
    Calls Tryz.prog 449 #[.slice a n c] w fun e w' => e = .returned (.int .u32 (sum l : Nat)) ∧ w = w' := by
  subst hn; exact sum_any a l c w B hr hl
theorem more_n (s : Nat) (a : Option Addr) (l : List Nat) (n c : Nat) (w : World) (B : Nat) (hn : n = l.length) (hs : s < 4294967296) (hr : Rd w B a l) (hl : n ≤ 9223372036854775807) :
    Calls Tryz.prog 498 #[.int .u32 s, .slice a n c] w fun e w' => e = .returned (.int .u32 (more s l : Nat)) ∧ w = w' := by
  subst hn; exact more_any s a l c w B hs hr hl

end Go.Proofs.YteefpemaeecicaaGreatDoor
