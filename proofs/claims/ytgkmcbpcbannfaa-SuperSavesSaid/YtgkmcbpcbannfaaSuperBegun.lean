/- The contract of begun. -/
import Derived.Test.YtgkmcbpcbannfaaSuperOn
namespace Go.Proofs.Ytgkmcbpcbannfaa
open Go.RowKit Crc
set_option linter.unusedVariables false
set_option maxHeartbeats 4000000
set_option maxRecDepth 100000

theorem begun18 (w : World) : Calls Try.prog 26 #[] w fun e w' => e = .returned (.bool true) ∧ Below w.heap.size w w' := by
  have kc := fun (w : World) (C : Array Value) (n c : Nat) => Lib.run_convert_bytes_const (P := Try.prog) w 22 5 C n c Try.underlying22 Try.underlying5
  go_enter Try.func26, Try.ntmps26
  go_wp2_with fail
  refine (new_any 4 4 w (by omega) (.inr (.inl rfl))).mono ?_
  rintro e w1 ⟨p, q, rfl, hd1, hp, hq, hb1⟩
  have HD1 := Lib.hid hd1
  have ltp := hd1.ltp
  have ltq := hd1.ltq
  clear hd1
  go_wp2_with fail
  refine (make_on (at_ := 1) (l := List.replicate 4 zeros) (b := [97, 98]) (B := w1.heap.size + 1) _ (HD1.out.alloc _) (fresh_live 4).1 (clean_fresh 4).now (by simp) (Rd.lit w1 [97, 98] (fun b hb => by simp at hb; omega) #[.int .u8 97, .int .u8 98] rfl 5 (2, 3)) (by simp) (fun x hx => by cases hx; exact .inr ⟨by simp; omega, by simp; omega⟩) rfl (by decide) (by decide)).mono ?_
  rintro e w2 ⟨s, a, c, M2, rfl, ho2, hk2, hs2, hf2, hc2⟩
  have hb2 : Below w.heap.size w w2 := below_kept (hb1.alloc hb1.size _) hk2 hp hq (hb1.alloc hb1.size _).size
  have hsw : w.heap.size ≤ s := by have := hb1.size; simp at hs2; omega
  obtain ⟨l2, hl2⟩ : ∃ l2, (((List.replicate 4 zeros).set 1 zeros).set (1 + 1) zeros).set 1 (slotBytes 1 [97, 98]) = l2 := ⟨_, rfl⟩
  rw [hl2] at ho2
  have HO2 := Lib.hid ho2
  have HC2 := Lib.hid hc2
  have hlt2p := ho2.dev.ltp
  have hlt2q := ho2.dev.ltq
  have ll2 : l2.length = 4 := by rw [← hl2]; simp
  clear hl2 ho2 hc2 hk2 hb1 hs2 hf2
  go_wp2_with fail
  refine (save_on (b := [99, 100]) (B := w2.heap.size + 1) _ (HO2.out.below' ((Below.refl _ _).alloc (Nat.le_refl _) _)) (Rd.lit w2 [99, 100] (fun b hb => by simp at hb; omega) #[.int .u8 99, .int .u8 100] rfl 5 (2, 3)) (by simp) (fun x hx => by cases hx; exact .inr ⟨by simp; omega, by simp; omega⟩) rfl (by decide) (by decide) (by rw [HC2.out]; decide)).mono ?_
  rintro e w3 ⟨a3, c3, M3, rfl, ho3, hk3, hf3, hc3⟩
  have hb3 : Below w.heap.size w w3 := (hb2.alloc hb2.size _).trans (hk3.below hp hq hsw (hb2.alloc hb2.size _).size)
  have hl3 : (l2.set (1 + (1 - 0)) (slotBytes (1 + 1) [99, 100])).length = 4 := by rw [List.length_set]; exact ll2
  obtain ⟨l3, e3⟩ : ∃ l3, l2.set (1 + (1 - 0)) (slotBytes (1 + 1) [99, 100]) = l3 := ⟨_, rfl⟩
  rw [e3] at ho3 hl3
  have HO3 := Lib.hid ho3
  clear ho3 hk3 hf3 hc3 HO2 HD1 e3 hb2
  go_wp2_with fail
  refine (crash_any [] none 0 0 _ HO3.out.dev (Lib.hid rfl) (RdV.nil _ _ _) (Nat.le_refl _) (by decide)).mono ?_
  rintro e w4 ⟨pc, qc, rfl, hdc, hpc, hqc, hb4⟩
  have HD4 := Lib.hid hdc
  have HO4 := Lib.hid (HO3.out.below' hb4)
  have hb4w := hb3.trans (hb4.mono hb3.size)
  clear hdc hb4 HO3
  go_wp2_with fail
  refine (open_sup (at_ := 1) _ HD4.out (HO4.out.clean.crash []) HO4.out.two).mono ?_
  rintro e w5 ⟨s5, a5, c5, rfl, ho5⟩
  have HO5 := Lib.hid (HO4.out.below' ho5.below)
  have HS5 := Lib.hid ho5.sup
  have hb5 := hb4w.trans (ho5.below.mono hb4w.size)
  clear ho5 HO4 HD4 hb4w
  go_wp2_with fail
  refine (new_any 4 4 w5 (by omega) (.inr (.inl rfl))).mono ?_
  rintro e w6 ⟨p6, q6, rfl, hd6, hp6, hq6, hb6⟩
  have HD6 := Lib.hid hd6
  have HO6 := Lib.hid (HO5.out.below' hb6)
  have HS6 := Lib.hid (HS5.out.below' hb6)
  have hb6w := hb5.trans (hb6.mono hb5.size)
  clear hd6 hb6 HO5 HS5 hb5
  go_wp2_with fail
  refine (open_zero (at_ := 1) _ HD6.out (clean_fresh 4) (by simp) (by simp)).mono ?_
  rintro e w7 ⟨rfl, hb7⟩
  have HO7 := Lib.hid (HO6.out.below' hb7)
  have HS7 := Lib.hid (HS6.out.below' hb7)
  have hb7w := hb6w.trans (hb7.mono hb6w.size)
  clear hb7 HO6 HS6 hb6w HD6
  go_wp2_with fail
  refine (make_no 3 none 0 0 _ HO7.out.dev (by omega) (by rw [HO7.out.clean.len, hl3]; omega)).mono ?_
  rintro e w8 ⟨rfl, rfl⟩
  go_wp2_with fail
  refine (text_any HS7.out).mono ?_
  rintro e w9 ⟨v, rfl, hown, hb9⟩
  obtain ⟨a9, n9, c9, rfl, hn9, hcv, hnc⟩ := own_str hown
  have hn9' : n9 = 2 := hn9
  subst hn9'
  clear hn9
  have HS9 := Lib.hid (HS7.out.below' hb9)
  have hb9w := hb7w.trans (hb9.mono hb7w.size)
  have hst : (str [99, 100] == (⟨#[99, 100]⟩ : ByteArray)) = true := by decide
  clear hb9 HS7 hb7w hown HO7
  have hst2 : str [99, 100] = (⟨#[99, 100]⟩ : ByteArray) := by rfl
  rw [hst2] at hcv
  go_wp2_with fail
  refine (turn_any HS9.out).mono ?_
  rintro e w10 ⟨rfl, rfl⟩
  go_wp2_with fail
  go_ret
  exact ⟨rfl, hb9w⟩
end Go.Proofs.Ytgkmcbpcbannfaa
