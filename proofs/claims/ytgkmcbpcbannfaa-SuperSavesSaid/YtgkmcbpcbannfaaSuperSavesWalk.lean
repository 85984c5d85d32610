/- The walk of SuperSaves: it returns true and writes nothing that was there. -/
import Derived.Test.YtgkmcbpcbannfaaSuperBegun
import Derived.Test.YtgkmcbpcbannfaaByteRows
import Derived.Test.YtgkmcbpcbannfaaShort
namespace Go.Proofs.Ytgkmcbpcbannfaa
open Go.RowKit Crc
set_option linter.unusedVariables false
set_option maxHeartbeats 8000000
set_option maxRecDepth 100000

theorem saves_core (n X : Int) (N : Nat) (hN : 1 ≤ N ∧ N ≤ 8) (e8 : (if (8 : Int) < n then 8 else n) = X) (eN : (if (1 : Int) < X then X else 1) = (N : Int)) (at_ : Int) (hat : -9223372036854775808 ≤ at_ ∧ at_ ≤ 9223372036854775807) (a : Option Addr) (m c : Nat) (rows : List (Option Addr × Nat × List Nat)) (w : World) (hr : ByteRows w a m c rows) :
    Calls Try.prog 11 #[.int .i64 n, .int .i64 at_, .slice a m c] w fun e w' => e = .returned (.bool true) ∧ Below w.heap.size w w' := by
  have HR := Lib.hid hr
  have Hm := Lib.hid hr.len
  have hmc := hr.cap
  have hcc := hr.most
  have hfl : (freshM N).secs.length = N := by simp [freshM]
  clear hr
  by_cases hin : 0 ≤ at_ ∧ at_ < (N : Int) - 1
  case neg =>
    have hcase : (decide (at_ < 0) = true ∧ at_ < 0) ∨ (decide (at_ < 0) = false ∧ ¬ at_ < 0 ∧ decide ((N : Int) - 2 < at_) = true ∧ (N : Int) - 2 < at_) := by
      by_cases h1 : at_ < 0
      · exact .inl ⟨decide_eq_true h1, h1⟩
      · exact .inr ⟨decide_eq_false h1, h1, decide_eq_true (by omega), by omega⟩
    rcases hcase with ⟨e1, e2⟩ | ⟨e1, e2, e3, e4⟩
    all_goals (
      go_enter Try.func11, Try.ntmps11
      go_wp2_with fail
      refine (begun18 w).mono ?_
      rintro e wb ⟨rfl, hbb⟩
      go_wp2_with fail
      refine (new_any N N _ (by omega) (.inr (.inl rfl))).mono ?_
      rintro e wn ⟨p, q, rfl, hdn, hp, hq, hbn⟩
      have HDN := Lib.hid hdn
      have hbw := hbb.trans (hbn.mono hbb.size)
      clear hdn hbn hbb
      go_wp2_with fail
      refine (make_no at_ none 0 0 _ HDN.out (by omega) (by rw [hfl]; omega)).mono ?_
      rintro e w' ⟨rfl, rfl⟩
      go_wp2_with fail
      go_ret
      exact ⟨rfl, hbw⟩)
  case pos =>
  obtain ⟨hin0, hin1⟩ := hin
  obtain ⟨A, rfl⟩ := Int.eq_ofNat_of_zero_le hin0
  have HIN := Lib.hid hin1
  clear hat hin0 hin1
  go_enter Try.func11, Try.ntmps11
  go_wp2_with fail
  refine (begun18 w).mono ?_
  rintro e wb ⟨rfl, hbb⟩
  go_wp2_with fail
  refine (new_any N N _ (by omega) (.inr (.inl rfl))).mono ?_
  rintro e wn ⟨p, q, rfl, hdn, hp, hq, hbn⟩
  have HDN := Lib.hid hdn
  have hbw := hbb.trans (hbn.mono hbb.size)
  have hszb := hbb.size
  replace hp : w.heap.size ≤ p := by omega
  replace hq : w.heap.size ≤ q := by omega
  clear hdn hbn hbb
  go_wp2_with fail
  refine (make_on (at_ := A) (l := List.replicate N zeros) (b := []) (B := 0) wn HDN.out (fresh_live N).1 (clean_fresh N).now (by rw [List.length_replicate]; have := HIN.out; omega) (Rd.nil _ _ _) (Nat.zero_le _) (fun x hx => by cases hx) rfl (by decide) (by show (0 : Int) + 4 ≤ _; decide)).mono ?_
  rintro e wm ⟨s, am, cm, M0, rfl, hom, hkm, hsm, hfm, hcm⟩
  have hbm := below_kept hbw hkm hp hq hbw.size
  have hsw : w.heap.size ≤ s := by have := hbw.size; omega
  have hcalls : M0.calls = 4 := by rw [hcm]; rfl
  obtain ⟨l0, hl⟩ : ∃ l0, (((List.replicate N zeros).set A zeros).set (A + 1) zeros).set A (slotBytes 1 []) = l0 := ⟨_, rfl⟩
  rw [hl] at hom
  have HOM := Lib.hid hom
  clear hom hkm hsm hfm hcm hl HDN hbw
  have hin1 := HIN.out
  have d1 : decide ((A : Int) < 0) = false := decide_eq_false (by omega)
  have d1' : ¬ (A : Int) < 0 := by omega
  have d2 : decide ((N : Int) - 2 < (A : Int)) = false := decide_eq_false (by omega)
  have d2' : ¬ (N : Int) - 2 < (A : Int) := by omega
  go_wp2_with fail
  go_loopw [11, 12, 13] (fun v t i wr => ∃ (j k T : Nat) (txt : List Nat) (M : DevM) (l : List (List Nat)) (asd : Option Addr) (cs : Nat), j ≤ 12 ∧ j ≤ m ∧ i = .int .i64 (j : Nat) ∧ v = .string (str txt) ∧ t = .int .i64 (T : Nat) ∧ SOn wr p q s A k T M l txt asd cs ∧ M.calls ≤ 4 + 2 * (j : Int) ∧ T ≤ 1 + j ∧ Below w.heap.size w wr) (fun _ _ i _ => 12 - (intOf i).toNat)
  case atStart => exact ⟨0, 0, 1, [], M0, l0, am, cm, by omega, by omega, rfl, rfl, rfl, HOM.out, by omega, by omega, hbm⟩
  case round =>
    obtain ⟨j, k, T, txt, M, l, asd, cs, hj, hjm, rfl, rfl, rfl, ho, hcl, hT, hb⟩ := hrel
    have HO := Lib.hid ho
    clear ho HOM
    by_cases hlt : j < m ∧ j < 12
    · obtain ⟨hlt, hlt12⟩ := hlt
      obtain ⟨r, hr⟩ : ∃ r, rows[j]? = some r := ⟨_, List.getElem?_eq_getElem (by rw [← Hm.out]; exact hlt)⟩
      obtain ⟨b0, o0, rfl, hb0, hcell, hrd, hrc⟩ := HR.out.row j r hr
      have ck := (hb.cell (p := ⟨b0, o0 + j, none⟩) hb0).trans hcell
      obtain ⟨ra, rc, rl⟩ := r
      obtain ⟨L, hL, hL45, hLl, hrL⟩ := short_rd (k := 45) hrd (Below.refl _ _)
      have HRL := Lib.hid hrL
      have hrc' : rl.length ≤ rc := hrc
      have ck' : wr.cell? ⟨b0, o0 + j, none⟩ = some (.slice ra rl.length rc) := ck
      clear hcell hrd hrL hr ck hrc
      go_wp2_with fail
      refine (short_any _ rl L _ 45 _ hrc' hL).mono ?_
      rintro e w' ⟨rfl, rfl⟩
      clear ck'
      go_wp2_with fail
      by_cases h40 : L.length ≤ 40
      · have d40 : decide ((L.length : Int) ≤ 40) = true := decide_eq_true (by omega)
        refine (save_on wr HO.out (HRL.out.below hb) hb.size (HRL.out.or hp hq) rfl h40 (by omega) (by omega)).mono ?_
        rintro e w5 ⟨a5, c5, M5, rfl, ho5, hk5, hf5, hcl5⟩
        have hb5 : Below w.heap.size w w5 := hb.trans (hk5.below hp hq hsw hb.size)
        have hcv := rd_str (c := rc) (HRL.out.below hb5) rfl
        obtain ⟨l5, hl5⟩ : ∃ l5, l.set (A + (1 - k)) (slotBytes (T + 1) L) = l5 := ⟨_, rfl⟩
        rw [hl5] at ho5
        have HO5 := Lib.hid ho5
        clear ho5 hk5 hf5 hl5 HO hb
        go_wp2_with fail
        refine (open_sup (at_ := A) _ HO5.out.dev HO5.out.clean HO5.out.two).mono ?_
        rintro e w6 ⟨st, at6, ct, rfl, hot⟩
        have HT6 := Lib.hid hot.sup
        have HO6 := Lib.hid (HO5.out.below' hot.below)
        have hb6 := hb5.trans (hot.below.mono hb5.size)
        clear hot HO5 hb5
        go_wp2_with fail
        refine (crash_any [] none 0 0 _ HO6.out.dev (Lib.hid rfl) (RdV.nil _ _ _) (Nat.le_refl _) (by decide)).mono ?_
        rintro e w7 ⟨pc, qc, rfl, hdc, hpc, hqc, hb7⟩
        have HD7 := Lib.hid hdc
        have HCL7 := Lib.hid (HO6.out.clean.crash [])
        have HT7 := Lib.hid (HT6.out.below' hb7)
        have HO7 := Lib.hid (HO6.out.below' hb7)
        have hb7w := hb6.trans (hb7.mono hb6.size)
        clear hdc hb7 HO6 HT6 hb6 hpc hqc
        go_wp2_with fail
        refine (open_sup (at_ := A) _ HD7.out HCL7.out HO7.out.two).mono ?_
        rintro e w8 ⟨su, au, cu, rfl, hou⟩
        have HU8 := Lib.hid hou.sup
        have HT8 := Lib.hid (HT7.out.below' hou.below)
        have HO8 := Lib.hid (HO7.out.below' hou.below)
        have hb8 := hb7w.trans (hou.below.mono hb7w.size)
        clear hou HD7 HCL7 HT7 HO7 hb7w
        go_wp2_with fail
        refine (text_any HT8.out).mono ?_
        rintro e w9 ⟨v9, rfl, hown9, hb9⟩
        obtain ⟨a9, n9, c9, rfl, hn9, hcv9, hle9⟩ := own_str hown9
        subst hn9
        have HT9 := Lib.hid (HT8.out.below' hb9)
        have HU9 := Lib.hid (HU8.out.below' hb9)
        have HO9 := Lib.hid (HO8.out.below' hb9)
        have hb9w := hb8.trans (hb9.mono hb8.size)
        clear hown9 hb9 HT8 HU8 HO8 hb8
        go_wp2_with fail
        refine (turn_any HT9.out).mono ?_
        rintro e w' ⟨rfl, rfl⟩
        go_wp2_with fail
        refine (text_any HU9.out).mono ?_
        rintro e w10 ⟨v10, rfl, hown10, hb10⟩
        obtain ⟨a10, n10, c10, rfl, hn10, hcv10, hle10⟩ := own_str hown10
        subst hn10
        have HO10 := Lib.hid (HO9.out.below' hb10)
        have hb10w := hb9w.trans (hb10.mono hb9w.size)
        clear hown10 hb10 HT9 HU9 HO9 hb9w hcv9
        go_wp2_with fail
        refine (text_any HO10.out.sup).mono ?_
        rintro e w11 ⟨v11, rfl, hown11, hb11⟩
        obtain ⟨a11, n11, c11, rfl, hn11, hcv11, hle11⟩ := own_str hown11
        subst hn11
        have HO11 := Lib.hid (HO10.out.below' hb11)
        have hb11w := hb10w.trans (hb11.mono hb10w.size)
        clear hown11 hb11 HO10 hb10w hcv10
        go_wp2_with fail
        refine (turn_any HO11.out.sup).mono ?_
        rintro e w' ⟨rfl, rfl⟩
        go_wp2_with fail
        go_roundw
        case rel => exact ⟨j + 1, 1 - k, T + 1, L, M5, l5, a5, c5, by omega, by omega, by go_num, rfl, by go_num, HO11.out, by omega, by omega, hb11w⟩
        case measure => simp [intOf]; omega
      · have d40 : decide ((L.length : Int) ≤ 40) = false := decide_eq_false (by omega)
        refine (save_long wr (by omega)).mono ?_
        rintro e w5 ⟨rfl, rfl⟩
        have HO5 := HO
        have hb5 := hb
        clear HO hb
        go_wp2_with fail
        refine (open_sup (at_ := A) _ HO5.out.dev HO5.out.clean HO5.out.two).mono ?_
        rintro e w6 ⟨st, at6, ct, rfl, hot⟩
        have HT6 := Lib.hid hot.sup
        have HO6 := Lib.hid (HO5.out.below' hot.below)
        have hb6 := hb5.trans (hot.below.mono hb5.size)
        clear hot HO5 hb5
        go_wp2_with fail
        refine (crash_any [] none 0 0 _ HO6.out.dev (Lib.hid rfl) (RdV.nil _ _ _) (Nat.le_refl _) (by decide)).mono ?_
        rintro e w7 ⟨pc, qc, rfl, hdc, hpc, hqc, hb7⟩
        have HD7 := Lib.hid hdc
        have HCL7 := Lib.hid (HO6.out.clean.crash [])
        have HT7 := Lib.hid (HT6.out.below' hb7)
        have HO7 := Lib.hid (HO6.out.below' hb7)
        have hb7w := hb6.trans (hb7.mono hb6.size)
        clear hdc hb7 HO6 HT6 hb6 hpc hqc
        go_wp2_with fail
        refine (open_sup (at_ := A) _ HD7.out HCL7.out HO7.out.two).mono ?_
        rintro e w8 ⟨su, au, cu, rfl, hou⟩
        have HU8 := Lib.hid hou.sup
        have HT8 := Lib.hid (HT7.out.below' hou.below)
        have HO8 := Lib.hid (HO7.out.below' hou.below)
        have hb8 := hb7w.trans (hou.below.mono hb7w.size)
        clear hou HD7 HCL7 HT7 HO7 hb7w
        go_wp2_with fail
        refine (text_any HT8.out).mono ?_
        rintro e w9 ⟨v9, rfl, hown9, hb9⟩
        obtain ⟨a9, n9, c9, rfl, hn9, hcv9, hle9⟩ := own_str hown9
        subst hn9
        have HT9 := Lib.hid (HT8.out.below' hb9)
        have HU9 := Lib.hid (HU8.out.below' hb9)
        have HO9 := Lib.hid (HO8.out.below' hb9)
        have hb9w := hb8.trans (hb9.mono hb8.size)
        clear hown9 hb9 HT8 HU8 HO8 hb8
        go_wp2_with fail
        refine (turn_any HT9.out).mono ?_
        rintro e w' ⟨rfl, rfl⟩
        go_wp2_with fail
        refine (text_any HU9.out).mono ?_
        rintro e w10 ⟨v10, rfl, hown10, hb10⟩
        obtain ⟨a10, n10, c10, rfl, hn10, hcv10, hle10⟩ := own_str hown10
        subst hn10
        have HO10 := Lib.hid (HO9.out.below' hb10)
        have hb10w := hb9w.trans (hb10.mono hb9w.size)
        clear hown10 hb10 HT9 HU9 HO9 hb9w hcv9
        go_wp2_with fail
        refine (text_any HO10.out.sup).mono ?_
        rintro e w11 ⟨v11, rfl, hown11, hb11⟩
        obtain ⟨a11, n11, c11, rfl, hn11, hcv11, hle11⟩ := own_str hown11
        subst hn11
        have HO11 := Lib.hid (HO10.out.below' hb11)
        have hb11w := hb10w.trans (hb11.mono hb10w.size)
        clear hown11 hb11 HO10 hb10w hcv10
        go_wp2_with fail
        refine (turn_any HO11.out.sup).mono ?_
        rintro e w' ⟨rfl, rfl⟩
        go_wp2_with fail
        go_roundw
        case rel => exact ⟨j + 1, k, T, txt, M, l, asd, cs, by omega, by omega, by go_num, rfl, rfl, HO11.out, by omega, by omega, hb11w⟩
        case measure => simp [intOf]; omega
    · have hcase : (decide ((j : Int) < m) = false ∧ decide (j < m) = false ∧ m ≤ j) ∨ (decide ((j : Int) < m) = true ∧ decide (j < m) = true ∧ j < m ∧ decide ((j : Int) < 12) = false ∧ ¬ (j : Int) < 12) := by
        by_cases h1 : j < m
        · exact .inr ⟨decide_eq_true (by omega), decide_eq_true (by omega), h1, decide_eq_false (by omega), by omega⟩
        · exact .inl ⟨decide_eq_false (by omega), decide_eq_false (by omega), by omega⟩
      clear hlt
      rcases hcase with ⟨e1, e3, e4⟩ | ⟨e1, e2, e3, e4, e5⟩
      all_goals (
        go_wp2_with fail
        refine (loose_any _ HO.out.dev).mono ?_
        rintro e w7 ⟨v7, rfl, hown7, hb7⟩
        rw [HO.out.clean.loose] at hown7
        obtain ⟨a7, c7, rfl, _, _, _, _⟩ := hown7.form
        have hbn := hb.trans (hb7.mono hb.size)
        clear hown7 hb7
        rw [show (ints []).length = 0 from rfl]
        go_wp2_with fail
        go_ret
        exact ⟨rfl, hbn⟩)
theorem superSaves_walk (n at_ : Int) (a : Option Addr) (m c : Nat) (rows : List (Option Addr × Nat × List Nat)) (w : World) (w0 : (Lit.int .i64 n).wf = true) (w1 : (Lit.int .i64 at_).wf = true) (hr : ByteRows w a m c rows) :
    Calls Try.prog 11 #[.int .i64 n, .int .i64 at_, .slice a m c] w fun e w' => e = .returned (.bool true) ∧ Below w.heap.size w w' := by
  have b1 := bounds_i64 w1
  by_cases h8 : 8 < n
  · exact saves_core n 8 8 (by omega) (if_pos h8) (by decide) at_ (by omega) a m c rows w hr
  · by_cases h1 : 1 < n
    · obtain ⟨N, rfl⟩ := Int.eq_ofNat_of_zero_le (show 0 ≤ n by omega)
      exact saves_core N N N (by omega) (if_neg h8) (if_pos h1) at_ (by omega) a m c rows w hr
    · exact saves_core n n 1 (by omega) (if_neg h8) (if_neg h1) at_ (by omega) a m c rows w hr
end Go.Proofs.Ytgkmcbpcbannfaa
