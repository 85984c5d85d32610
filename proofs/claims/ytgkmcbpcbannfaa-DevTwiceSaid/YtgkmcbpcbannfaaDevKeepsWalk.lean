/- The walk of DevKeeps: it returns true and writes nothing that was there. -/
import Derived.Test.YtgkmcbpcbannfaaDevBegun
import Derived.Test.YtgkmcbpcbannfaaBoolRow
namespace Go.Proofs.Ytgkmcbpcbannfaa
open Go.RowKit Crc
set_option linter.unusedVariables false
set_option maxHeartbeats 4000000
set_option maxRecDepth 100000

/-- A sector of the law's device behind k writes. -/
def keepSec (k j : Nat) : Sec := if j % 2 = 1 ∧ (39 - j) / 2 < k then zsec.write [(39 - j) / 2 + 1] else zsec
def keepSecs (k : Nat) : List Sec := (List.range 40).map (keepSec k)
def keepM (k : Nat) : DevM := ⟨keepSecs k, k, false, 0, false⟩
theorem keepM_zero : freshM 40 = keepM 0 := by
  unfold freshM keepM keepSecs
  congr 1
theorem keepSecs_get (k j : Nat) (h : j < 40) : (keepSecs k)[j]? = some (keepSec k j) := by simp [keepSecs, h]
theorem keepSec_at (k i : Nat) (h : i < k) (hk : k ≤ 20) : keepSec k (39 - 2 * i) = zsec.write [i + 1] := by
  unfold keepSec
  have e : (39 - (39 - 2 * i)) / 2 = i := by omega
  rw [e, if_pos ⟨by omega, h⟩]
theorem keepSec_not (k : Nat) (hk : k < 20) : keepSec k (39 - 2 * k) = zsec := by
  unfold keepSec
  rw [if_neg (by omega)]
theorem keepM_next (k : Nat) (hk : k < 20) : (keepM k).write (39 - 2 * k) zsec [k + 1] = keepM (k + 1) := by
  have e : (keepSecs k).set (39 - 2 * k) (zsec.write [k + 1]) = keepSecs (k + 1) := by
    apply List.ext_getElem?
    intro j
    by_cases hj : j < 40
    · rw [keepSecs_get _ _ hj, List.getElem?_set]
      by_cases he : 39 - 2 * k = j
      · rw [if_pos he, if_pos (by simp [keepSecs]; omega), ← he, keepSec_at (k + 1) k (by omega) (by omega)]
      · rw [if_neg he, keepSecs_get _ _ hj]
        congr 1
        unfold keepSec
        by_cases h1 : j % 2 = 1 ∧ (39 - j) / 2 < k
        · rw [if_pos h1, if_pos ⟨h1.1, by omega⟩]
        · rw [if_neg h1, if_neg (by omega)]
    · rw [List.getElem?_eq_none (by simp [keepSecs]; omega), List.getElem?_eq_none (by simp [keepSecs]; omega)]
  show (⟨(keepSecs k).set (39 - 2 * k) (zsec.write [k + 1]), (k : Int) + 1, false, 0, false⟩ : DevM) = _
  rw [e]
  rfl
theorem loose_count : ∀ n < 21, ∀ i < 20, i < n → (looseTo (keepSecs n) (39 - 2 * i)).length = n - 1 - i := by decide +kernel
theorem loose_all : ∀ n < 21, (looseIdx (keepSecs n)).length = n := by decide +kernel
theorem crash_get (M : DevM) (keep : List Bool) (i : Nat) (h : i < M.secs.length) : (M.crash keep).secs[i]? = some (crashSec M.secs keep i) := by
  show (crashTo M.secs keep M.secs.length)[i]? = _
  unfold crashTo
  rw [List.getElem?_append_left (by simpa using h)]
  simp [h]
theorem crash_len (M : DevM) (keep : List Bool) : (M.crash keep).secs.length = M.secs.length := crashTo_len M.secs keep M.secs.length (Nat.le_refl _)
theorem crash_loose (M : DevM) (keep : List Bool) : looseIdx (M.crash keep).secs = [] := by
  unfold looseIdx looseTo
  rw [List.filter_eq_nil_iff]
  intro i hi
  rw [List.mem_range, crash_len] at hi
  rw [List.getD_eq_getElem?_getD, crash_get M keep i hi]
  simp [crashSec]
theorem keeps_read (n i : Nat) (keep : List Bool) (hi : i < n) (hn : n ≤ 20) : ∃ x : List Nat, ((keepM n).crash keep).secs[39 - 2 * i]? = some ⟨x, x, false⟩ ∧ x.getD 0 0 = if keep.getD (n - 1 - i) false then i + 1 else 0 := by
  refine ⟨crashPick (keepSecs n) keep (39 - 2 * i), crash_get (keepM n) keep _ (by simp [keepM, keepSecs]; omega), ?_⟩
  have e : (keepSecs n).getD (39 - 2 * i) zsec = zsec.write [i + 1] := by
    rw [List.getD_eq_getElem?_getD, keepSecs_get _ _ (by omega), keepSec_at n i hi hn]; rfl
  unfold crashPick
  rw [e, loose_count n (by omega) i (by omega) hi]
  cases keep.getD (n - 1 - i) false
  · rfl
  · rfl
theorem keeps_main (N : Nat) (hN : N ≤ 20) (a : Option Addr) (m c : Nat) (keep : List Bool) (w : World) (hr : BoolRow w a m c keep) : Calls Try.prog 7 #[.int .i64 N, .slice a m c] w fun e w' => e = .returned (.bool true) ∧ Below w.heap.size w w' := by
  have Hm := Lib.hid hr.len
  have hmc := hr.cap
  have hcc := hr.most
  have HR := Lib.hid hr.rd
  clear hr
  go_enter Try.func7, Try.ntmps7
  go_wp2_with fail
  refine (begun17 w).mono ?_
  rintro e w0 ⟨rfl, hb0⟩
  go_wp2_with fail
  refine (new_any 40 40 _ (by omega) (.inr (.inl rfl))).mono ?_
  rintro e w1 ⟨p, q, rfl, hd1, hp, hq, hb1⟩
  replace hp : w.heap.size ≤ p := by have := hb0.size; omega
  replace hq : w.heap.size ≤ q := by have := hb0.size; omega
  replace hb0 := hb0.trans (hb1.mono hb0.size)
  rw [keepM_zero] at hd1
  have HD0 := Lib.hid hd1
  clear hd1 hb1
  go_wp2_with fail
  go_loopw [7] (fun i wr => ∃ k : Nat, k ≤ N ∧ i = .int .i64 k ∧ DevAt wr p q (keepM k) ∧ Below w.heap.size w wr) (fun i _ => N - (intOf i).toNat)
  case atStart => exact ⟨0, Nat.zero_le _, rfl, HD0.out, hb0⟩
  case round =>
    obtain ⟨k, hk, rfl, hd, hb⟩ := hrel
    have HD := Lib.hid hd
    have ltp := hd.ltp
    have ltq := hd.ltq
    have hbase := hb.size
    clear hd
    by_cases hlt : k < N
    · have hs : (keepM k).secs[39 - 2 * k]? = some zsec := by
        show (keepSecs k)[39 - 2 * k]? = _
        rw [keepSecs_get _ _ (by omega), keepSec_not k (by omega)]
      have HS := Lib.hid hs
      have hroom : (keepM k).Room := ⟨by show (k : Int) < 1000000000; omega, rfl⟩
      have HRo := Lib.hid hroom
      clear hs hroom
      go_wp2_with fail
      refine (write_any _ (39 - 2 * k) zsec [k + 1] _ 1 1 (wr.heap.size + 1) _ (HD.out.alloc _) (by omega) HS.out HRo.out (Lib.hid rfl) (Rd.lit wr [k + 1] (fun b hb => by simp at hb; omega) #[.int .u8 ((k : Int) + 1)] rfl 5 (0, 0)) (by simp) (fun x hx => by cases hx; exact ⟨by simp; omega, by simp; omega⟩) (by omega)).mono ?_
      rintro e w3 ⟨rfl, hd3, hk3⟩
      rw [keepM_next k (by omega)] at hd3
      have HD3 := Lib.hid hd3
      have hb3 := below_kept (hb.alloc hb.size _) hk3 hp hq (hb.alloc hb.size _).size
      clear hd3 hk3
      go_wp2_with fail
      go_roundw
      case rel => exact ⟨k + 1, by omega, by go_num, HD3.out, hb3⟩
      case measure => simp [intOf]; omega
    · have : k = N := by omega
      subst this
      have HR2 := Lib.hid (HR.out.below hb)
      go_wp2_with fail
      refine (crash_any keep a m c _ HD.out Hm (HR2.out.more hb.size) hmc hcc).mono ?_
      rintro e w4 ⟨pc, qc, rfl, hdc, hpc, hqc, hb4⟩
      have HD4 := Lib.hid (HD.out.below' hb4)
      have HC4 := Lib.hid hdc
      have hb5 := hb.trans (hb4.mono hb.size)
      clear hdc hb4 HR2
      have hNk : k ≤ 20 := hN
      go_wp2_with fail
      go_loopw [9] (fun i wr => ∃ j : Nat, j ≤ k ∧ i = .int .i64 j ∧ DevAt wr p q (keepM k) ∧ DevAt wr pc qc ((keepM k).crash keep) ∧ Below w.heap.size w wr) (fun i _ => k - (intOf i).toNat)
      case atStart => exact ⟨0, Nat.zero_le _, rfl, HD4.out, HC4.out, hb5⟩
      case round =>
        obtain ⟨j, hj, rfl, hdj, hcj, hbj⟩ := hrel
        have HDJ := Lib.hid hdj
        have HCJ := Lib.hid hcj
        clear hdj hcj
        by_cases hlt2 : j < k
        · obtain ⟨x, hx, hx0⟩ := keeps_read k j keep hlt2 hNk
          have HX := Lib.hid hx
          have HX0 := Lib.hid hx0
          have hxl : x.length = 64 := (HCJ.out.ok.secs _ (List.mem_of_getElem? hx)).n
          have HXL := Lib.hid hxl
          clear hx hx0 hxl
          go_wp2_with fail
          refine (read_any _ (39 - 2 * j) ⟨x, x, false⟩ _ HCJ.out (by omega) HX.out).mono ?_
          rintro e w6 ⟨v6, rfl, hown6, hb6⟩
          obtain ⟨g6, x6, rfl, hx6, hx6', hg6, hg6'⟩ := hown6.form1 (by show 0 < x.length; rw [HXL.out]; decide)
          have r6 : w6.cell? ⟨g6, 0, none⟩ = some (.int .u8 (x.getD 0 0 : Nat)) := hown6.cell rfl (j := 0) (by show 0 < x.length; rw [HXL.out]; decide)
          rw [show (⟨x, x, false⟩ : Sec).now.length = 64 from HXL.out] at hx6 ⊢
          have HD6 := Lib.hid (HDJ.out.below' hb6)
          have HC6 := Lib.hid (HCJ.out.below' hb6)
          have hbn := hbj.trans (hb6.mono hbj.size)
          clear hb6 hown6 hx6'
          by_cases hin : k - 1 - j < m
          · obtain ⟨b0, o0, rfl, hb0', _⟩ := HR.out.at (i := k - 1 - j) (by rw [List.length_map, ← Hm.out]; exact hin)
            have ck := (HR.out.below hbn).bool (J := k - 1 - j) (by rw [← Hm.out]; exact hin)
            cases hv : keep.getD (k - 1 - j) false
            · rw [HX0.out, hv, if_neg (by simp)] at r6
              rw [hv] at ck
              have e1 : ((k : Int) - 1 - j) = ((k - 1 - j : Nat) : Int) := by omega
              clear hv
              go_wp2_with fail
              go_roundw
              case rel => exact ⟨j + 1, by omega, by go_num, HD6.out, HC6.out, hbn⟩
              case measure => simp [intOf]; omega
            · rw [HX0.out, hv, if_pos rfl] at r6
              rw [hv] at ck
              clear hv
              go_wp2_with fail
              go_roundw
              case rel => exact ⟨j + 1, by omega, by go_num, HD6.out, HC6.out, hbn⟩
              case measure => simp [intOf]; omega
          · have hv : keep.getD (k - 1 - j) false = false := by rw [List.getD_eq_getElem?_getD, List.getElem?_eq_none (by rw [← Hm.out]; omega)]; rfl
            rw [HX0.out, hv, if_neg (by simp)] at r6
            clear hv
            go_wp2_with fail
            go_roundw
            case rel => exact ⟨j + 1, by omega, by go_num, HD6.out, HC6.out, hbn⟩
            case measure => simp [intOf]; omega
        · have : j = k := by omega
          subst this
          go_wp2_with fail
          refine (loose_any _ HCJ.out).mono ?_
          rintro e w7 ⟨v7, rfl, hown7, hb7⟩
          rw [crash_loose] at hown7
          obtain ⟨a7, c7, rfl, _, _, _, _⟩ := hown7.form
          have HD7 := Lib.hid (HDJ.out.below' hb7)
          have hbn := hbj.trans (hb7.mono hbj.size)
          clear hown7 hb7
          rw [show (ints []).length = 0 from rfl]
          go_wp2_with fail
          refine (loose_any _ HD7.out).mono ?_
          rintro e w8 ⟨v8, rfl, hown8, hb8⟩
          obtain ⟨a8, c8, rfl, _, _, _, _⟩ := hown8.form
          have el : (ints (looseIdx (keepM j).secs)).length = j := by
            unfold ints
            rw [List.length_map]
            exact loose_all j (by omega)
          rw [el]
          have hbn2 := hbn.trans (hb8.mono hbn.size)
          clear hown8 hb8
          go_wp2_with fail
          go_ret
          exact ⟨rfl, hbn2⟩
theorem devKeeps_walk (n : Int) (a : Option Addr) (m c : Nat) (keep : List Bool) (w : World) (w0 : (Lit.int .i64 n).wf = true) (hr : BoolRow w a m c keep) : Calls Try.prog 7 #[.int .i64 n, .slice a m c] w fun e w' => e = .returned (.bool true) ∧ Below w.heap.size w w' := by
  clear w0
  by_cases h0 : n < 0
  · have d0 : decide (n < 0) = true := decide_eq_true h0
    clear h0
    go_enter Try.func7, Try.ntmps7
    go_wp2_with fail
    refine (begun17 w).mono ?_
    rintro e w0 ⟨rfl, hb0⟩
    go_wp2_with fail
    go_ret
    exact ⟨rfl, hb0⟩
  · by_cases h1 : 20 < n
    · have d0 : decide (n < 0) = false := decide_eq_false h0
      have d1 : decide (20 < n) = true := decide_eq_true h1
      clear h0 h1
      go_enter Try.func7, Try.ntmps7
      go_wp2_with fail
      refine (begun17 w).mono ?_
      rintro e w0 ⟨rfl, hb0⟩
      go_wp2_with fail
      go_ret
      exact ⟨rfl, hb0⟩
    · obtain ⟨N, rfl⟩ := Int.eq_ofNat_of_zero_le (show 0 ≤ n by omega)
      exact keeps_main N (by omega) a m c keep w hr
end Go.Proofs.Ytgkmcbpcbannfaa
