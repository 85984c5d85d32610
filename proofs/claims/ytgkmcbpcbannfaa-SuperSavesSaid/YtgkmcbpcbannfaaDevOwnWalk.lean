/- The walk of DevOwn: it returns true and writes nothing that was there. -/
import Derived.Test.YtgkmcbpcbannfaaDevBegun
import Derived.Test.YtgkmcbpcbannfaaShort
namespace Go.Proofs.Ytgkmcbpcbannfaa
open Go.RowKit Crc
set_option linter.unusedVariables false
set_option maxHeartbeats 4000000
set_option maxRecDepth 100000
theorem u8_step (x : Nat) (h : x < 256) : IntKind.u8.wrap ((x : Int) + 1) = (((x + 1) % 256 : Nat) : Int) := by
  simp [IntKind.wrap, IntKind.bits, IntKind.signed]
theorem make_bytes (z : Nat) (hz : z ≤ 64) (w : World) : (Instr.makeSlice 22 (.int .i64 (z : Int)) (.int .i64 (z : Int))).run Try.prog w = .ok (.slice (some ⟨w.heap.size, 0, none⟩) z z) (w.alloc (.cells (vals (List.replicate z 0)).toArray 5)) := by
  obtain ⟨i0, hi, hz0, hz1, hz2⟩ := info_parts Try.infoF
  have hr := run_makeSlice (P := Try.prog) w 22 5 i0 _ Try.underlying22 hi hz0 .i64 .i64 z z (by omega) (by omega) (by rw [hz1]; omega) (by rw [hz2]; omega) (by omega)
  rw [hz1, Int.toNat_natCast] at hr
  have e : madeCells (Value.int .u8 0).cells (z * 1) = (vals (List.replicate z 0)).toArray := by
    rw [Nat.mul_one]
    apply Array.ext'
    exact (toList_madeCells_one (.int .u8 0) z).trans (by simp [vals])
  rw [e] at hr
  exact hr
theorem zero_bytes (z : Nat) : Bytes (List.replicate z 0) := fun b hb => by rw [(List.mem_replicate.1 hb).2]; decide
theorem conv_made (z : Nat) (w : World) : (convert 22 9 (.slice (some ⟨w.heap.size, 0, none⟩) z z)).run Try.prog (w.alloc (.cells (vals (List.replicate z 0)).toArray 5)) = .ok (.string (str (List.replicate z 0))) (w.alloc (.cells (vals (List.replicate z 0)).toArray 5)) :=
  run_str (P := Try.prog) (Rd.lit w (List.replicate z 0) (zero_bytes z) _ rfl _ _) z z (by simp) 22 5 9 Try.underlying22 Try.underlying5 Try.underlying9
theorem crash_get' (M : DevM) (keep : List Bool) (i : Nat) (h : i < M.secs.length) : (M.crash keep).secs[i]? = some (crashSec M.secs keep i) := by
  show (crashTo M.secs keep M.secs.length)[i]? = _
  unfold crashTo
  rw [List.getElem?_append_left (by simpa using h)]
  simp [h]
theorem own_block {a : Option Addr} {n c k : Nat} (h : (Value.slice a n c).ownBlock = some k) : ∃ b off s, a = some ⟨b, off, s⟩ ∧ k = b := by
  cases a with
  | none => cases h
  | some x => exact ⟨x.block, x.off, x.spot, rfl, by simpa [Value.ownBlock] using h.symm⟩
theorem Own.keep3 {w w' : World} {base E : Nat} {v : Value} {l : List Nat} {p q : Nat} (h : Own w base E v l) (hk : Kept p q w w') (hne : ∀ k, v.ownBlock = some k → k ≠ p ∧ k ≠ q) : Own w' base E v l := by
  refine ⟨?_, h.2⟩
  have hx := h.1
  refine ⟨hx.1, ?_⟩
  rcases hx.2 with ⟨rfl, h0⟩ | ⟨g, cap, cur, rfl, hbg, hh, rest⟩
  · exact .inl ⟨rfl, h0⟩
  · obtain ⟨h1, h2⟩ := hne g rfl
    exact .inr ⟨g, cap, cur, rfl, hbg, (hk.block g (hx.lt (k := g) (by rfl)).2 h1 h2).trans hh, rest⟩
theorem own_main (a : Option Addr) (l : List Nat) (c : Nat) (w : World) (hr : Rd w w.heap.size a l) (hc : l.length ≤ c) (hcc : c ≤ 9223372036854775807) :
    Calls Try.prog 3 #[.slice a l.length c] w fun e w' => e = .returned (.bool true) ∧ Below w.heap.size w w' := by
  obtain ⟨i0, hi, hz0, hz1, hz2⟩ := info_parts Try.infoF
  go_enter Try.func3, Try.ntmps3
  go_wp2_with fail
  refine (begun17 w).mono ?_
  rintro e w0 ⟨rfl, hb0⟩
  obtain ⟨L, hL, hL64, hLl, hrd⟩ := short_rd (k := 64) hr hb0
  go_wp2_with fail
  refine (short_any a l L c 64 _ hc hL).mono ?_
  rintro e w0' ⟨rfl, rfl⟩
  go_wp2_with (first
    | (at_builtin; refine wpList_app _ rfl _ _ _ rfl w0.heap.size 5 i0 Try.underlying22 hi hz0 hz1 hz2 _ [] rfl (Own.nil _ _ _) w.heap.size a L L.length c rfl rfl hrd L (by simp) (by omega) (Nat.le_refl _) ?_; intro v1 w1 hown1 hb1 hg1 hat1)
    | fail)
  refine (new_any 2 2 _ (by omega) (.inr (.inl rfl))).mono ?_
  rintro e w2 ⟨p, q, rfl, hd2, hp, hq, hb2⟩
  obtain ⟨g1, c1, rfl, hn1, hc1, hrd1, hblk⟩ := hown1.form
  have hown2 := hown1.below' hb2
  have hrd2 := hrd1.below hb2
  have hbw1 := hb0.trans (hb1.mono hb0.size)
  have hb00 := hb0.size
  have hb01 := hb1.size
  have hbw2 := hbw1.trans (hb2.mono hbw1.size)
  have HD2 := Lib.hid hd2
  have ltp := hd2.ltp
  have ltq := hd2.ltq
  have hne2 := hd2.ne
  have hsz2 := hb2.size
  clear hd2 hb0 hb1 hb2 hg1 hat1 hown1
  have HO2 := Lib.hid hown2
  have HRD2 := Lib.hid hrd2
  clear hown2 hrd2 hrd1 hrd
  go_wp2_with fail
  refine (write_any 0 0 zsec L _ L.length c1 w1.heap.size _ HD2.out rfl rfl ⟨by decide, rfl⟩ (Lib.hid rfl) HRD2.out hsz2 (fun x hx => by
      obtain ⟨b, off, s⟩ := x
      obtain ⟨h1, h2, h3, h4⟩ := hblk b off s hx
      exact ⟨by show b ≠ p; omega, by show b ≠ q; omega⟩) hL64).mono ?_
  rintro e w3 ⟨rfl, hd3, hk3⟩
  have HD3 := Lib.hid hd3
  have hpw : w.heap.size ≤ p := by have := hbw1.size; omega
  have hqw : w.heap.size ≤ q := by have := hbw1.size; omega
  have hbw3 := below_kept hbw2 hk3 hpw hqw hbw2.size
  have hrd3 := HRD2.out.kept hk3 hsz2 (fun x hx => by
      obtain ⟨b, off, s⟩ := x
      obtain ⟨h1, h2, h3, h4⟩ := hblk b off s hx
      exact ⟨by show b ≠ p; omega, by show b ≠ q; omega⟩)
  have hs3 := hk3.size
  obtain ⟨z, hz⟩ : ∃ z : Nat, z = 64 - L.length := ⟨_, rfl⟩
  have hzz : (64 : Int) - (L.length : Int) = (z : Int) := by omega
  have hz64 : z ≤ 64 := by omega
  have hzl : L.length + z = 64 := by omega
  clear hz
  have hmk := make_bytes z hz64
  have hcm := run_str (P := Try.prog) (show Rd (w3.alloc (.cells (vals (List.replicate z 0)).toArray 5)).drew (w3.heap.size + 1) (some ⟨w3.heap.size, 0, none⟩) (List.replicate z 0) from Rd.lit w3 (List.replicate z 0) (zero_bytes z) _ rfl _ _) z z (by simp) 22 5 9 Try.underlying22 Try.underlying5 Try.underlying9
  have cv := run_str (P := Try.prog) (show Rd w3.drew w1.heap.size g1 L from hrd3) L.length c1 rfl 22 5 9 Try.underlying22 Try.underlying5 Try.underlying9
  have cv2 := run_str (P := Try.prog) (show Rd (w3.alloc (.cells (vals (List.replicate z 0)).toArray 5)).drew w1.heap.size g1 L from Rd.alloc hrd3 (by omega) _) L.length c1 rfl 22 5 9 Try.underlying22 Try.underlying5 Try.underlying9
  obtain ⟨R, hR⟩ : ∃ R, L ++ List.replicate z 0 = R := ⟨_, rfl⟩
  have hRl : R.length = 64 := by rw [← hR]; simp; omega
  have hadd := fun w => run_join Try.prog w L (List.replicate z 0) R hR (by omega)
  go_wp2_with fail
  go_region
  have hs4 : w3.heap.size ≤ (w3.alloc (.cells (vals (List.replicate z 0)).toArray 5)).heap.size := by simp
  have hO3 : Own w3 w0.heap.size 5 (.slice g1 L.length c1) L := HO2.out.keep3 hk3 (fun k hk => by
      obtain ⟨b, off, s, rfl, hkb⟩ := own_block hk
      obtain ⟨h1, h2, h3, h4⟩ := hblk b off s rfl
      exact ⟨by omega, by omega⟩)
  have HO4 := Lib.hid (Own.drew (hO3.alloc (.cells (vals (List.replicate z 0)).toArray 5)))
  have HD4 := Lib.hid ((HD3.out.alloc (.cells (vals (List.replicate z 0)).toArray 5)).drewN 1)
  have hbw4 : Below w.heap.size w (w3.alloc (.cells (vals (List.replicate z 0)).toArray 5)).drew := (hbw3.alloc hbw3.size _).drew
  have hnow : (zsec.write L).now = R := by
    rw [← hR]
    show L ++ (List.replicate 64 0).drop L.length = _
    rw [List.drop_replicate, show 64 - L.length = z by omega]
  have HN := Lib.hid hnow
  have HRB : Bytes R := by rw [← hR]; exact bytes_append hrd3.1 (zero_bytes z)
  have hM0 : ((freshM 2).write 0 zsec L).secs[0]? = some (zsec.write L) := rfl
  have hloose : looseIdx ((freshM 2).write 0 zsec L).secs = [0] := rfl
  have hLN : Hid (L.length = L.length) := rfl
  obtain ⟨M, hM⟩ : ∃ M, (freshM 2).write 0 zsec L = M := ⟨_, rfl⟩
  have hMlen : M.secs.length = 2 := by rw [← hM]; rfl
  rw [hM] at hM0 hloose HD4
  have HM0 := Lib.hid hM0
  have HML := Lib.hid hloose
  have HMN := Lib.hid hMlen
  have hw0w1 : w0.heap.size ≤ w1.heap.size := hb01
  have hww0 : w.heap.size ≤ w0.heap.size := hb00
  obtain ⟨N, hN⟩ : ∃ N, N = L.length := ⟨_, rfl⟩
  rw [← hN] at HO4 hzl hn1 hL64
  have HNL := Lib.hid hN
  clear hM0 hloose hMlen hM hnow hO3 hd3 hk3 hrd3 HO2 HRD2 HD2 HD3 cv cv2 hcm hmk hadd hzz hR hbw1 hbw2 hbw3
  go_wp2_with fail
  rw [← hN]
  go_loopw [33] (fun i wr => ∃ (k : Nat) (l' : List Nat), k ≤ N ∧ i = .int .i64 k ∧ l'.length = N ∧ Own wr w0.heap.size 5 (.slice g1 N c1) l' ∧ DevAt wr p q M ∧ Below w.heap.size w wr) (fun i _ => N - (intOf i).toNat)
  case atStart => exact ⟨0, L, Nat.zero_le _, rfl, hN.symm, HO4.out, HD4.out, hbw4⟩
  case round =>
    obtain ⟨k, l', hk, rfl, hl', hown, hd, hb⟩ := hrel
    have HD := Lib.hid hd
    clear hd
    by_cases hlt : k < N
    · obtain ⟨g, c', hv, _, _, hg, hg'⟩ := hown.form1 (by omega)
      simp only [Value.slice.injEq] at hv
      obtain ⟨rfl, -, rfl⟩ := hv
      obtain ⟨_, hgw1, _, _⟩ := hblk g 0 none rfl
      have hx := bytes_getD hown.2 k
      have hcell := hown.cell hl'.symm (j := k) (by omega)
      have hfree := hown.free hl'.symm k
      have HO := Lib.hid hown
      obtain ⟨x, hx0⟩ : ∃ x, l'.getD k 0 = x := ⟨_, rfl⟩
      rw [hx0] at hcell hx
      have hstep := u8_step x hx
      have hset := Lib.hid (HO.out.set_ hl'.symm k ((x + 1) % 256) (Nat.mod_lt _ (by decide)))
      have hdev := Lib.hid (HD.out.keep (w' := wr.setCell ⟨g, k, none⟩ (.int .u8 (((x + 1) % 256 : Nat) : Int))) (heap_setCell_other wr _ p _ (show p ≠ g by omega)) (heap_setCell_other wr _ q _ (show q ≠ g by omega)))
      have hbel := Lib.hid (hb.setCell (p := ⟨g, k, none⟩) (show w.heap.size ≤ g by omega) (.int .u8 (((x + 1) % 256 : Nat) : Int)))
      clear hown hx0 hx
      go_wp2_with fail
      go_roundw
      case rel => exact ⟨k + 1, _, by omega, by go_num, by rw [List.length_set]; exact hl', hset.out, hdev.out, hbel.out⟩
      case measure => simp [intOf]; omega
    · have : k = N := by omega
      subst this
      clear hown hlt
      go_wp2_with fail
      refine (read_any 0 0 (zsec.write L) _ HD.out rfl HM0.out).mono ?_
      rintro e w5 ⟨v5, rfl, hown5, hb5⟩
      rw [HN.out] at hown5
      obtain ⟨g5, c5, rfl, hn5, _, hg5, hg5'⟩ := hown5.form1 (by omega)
      have HD5 := Lib.hid (HD.out.below' hb5)
      have hbw5 := hb.trans (hb5.mono hb.size)
      have HO5 := Lib.hid hown5
      have hpg : p < wr.heap.size := HD.out.ltp
      have hqg : q < wr.heap.size := HD.out.ltq
      have hwr := hb.size
      rw [hRl] at hn5 HO5 ⊢
      clear hown5 hb5 HD
      go_wp2_with fail
      go_loopw [50] (fun i wx => ∃ (j : Nat) (l2 : List Nat), j ≤ 64 ∧ i = .int .i64 j ∧ l2.length = 64 ∧ Own wx wr.heap.size 5 (.slice (some ⟨g5, 0, none⟩) 64 c5) l2 ∧ DevAt wx p q M ∧ Below w.heap.size w wx) (fun i _ => 64 - (intOf i).toNat)
      case atStart => exact ⟨0, R, Nat.zero_le _, rfl, hRl, HO5.out, HD5.out, hbw5⟩
      case round =>
        obtain ⟨j, l2, hj, rfl, hl2, hown, hd, hbq⟩ := hrel
        have HD := Lib.hid hd
        clear hd
        by_cases hlt : j < 64
        · have hx := bytes_getD hown.2 j
          have hcell := hown.cell hl2.symm (j := j) (by omega)
          have hfree := hown.free hl2.symm j
          have HO := Lib.hid hown
          obtain ⟨x, hx0⟩ : ∃ x, l2.getD j 0 = x := ⟨_, rfl⟩
          rw [hx0] at hcell hx
          have hstep := u8_step x hx
          have hset := Lib.hid (HO.out.set_ hl2.symm j ((x + 1) % 256) (Nat.mod_lt _ (by decide)))
          have hdev := Lib.hid (HD.out.keep (w' := wr.setCell ⟨g5, j, none⟩ (.int .u8 (((x + 1) % 256 : Nat) : Int))) (heap_setCell_other wr _ p _ (show p ≠ g5 by omega)) (heap_setCell_other wr _ q _ (show q ≠ g5 by omega)))
          have hbel := Lib.hid (hbq.setCell (p := ⟨g5, j, none⟩) (show w.heap.size ≤ g5 by omega) (.int .u8 (((x + 1) % 256 : Nat) : Int)))
          clear hown hx0 hx
          go_wp2_with fail
          go_roundw
          case rel => exact ⟨j + 1, _, by omega, by go_num, by rw [List.length_set]; exact hl2, hset.out, hdev.out, hbel.out⟩
          case measure => simp [intOf]; omega
        · have : j = 64 := by omega
          subst this
          clear hown hlt
          go_wp2_with fail
          refine (crash_any [true] _ 1 1 _ (HD.out.alloc _) (Lib.hid rfl) (RdV.more (l := [true].map Value.bool) (RdV.lit wr [.bool true] (fun u hu => by simp at hu; subst hu; rfl) #[.bool true] rfl 4 (0, 0)) (by simp)) (by omega) (by omega)).mono ?_
          rintro e w6 ⟨pe, qe, rfl, hde, hpe, hqe, hb6⟩
          have HD6 := Lib.hid ((HD.out.alloc _).below' hb6)
          have HE6 := Lib.hid hde
          have hbw6 := (hbq.alloc hbq.size _).trans (hb6.mono (hbq.alloc hbq.size _).size)
          obtain ⟨s', hs'⟩ : ∃ s', (M.crash [true]).secs[0]? = some s' := ⟨_, crash_get' M [true] 0 (by rw [HMN.out]; decide)⟩
          have HS' := Lib.hid hs'
          have lpe := hde.ltp
          have lqe := hde.ltq
          have hpq : p < wr.heap.size := HD.out.ltp
          have hqq : q < wr.heap.size := HD.out.ltq
          simp only [World.size_alloc] at hpe hqe
          have hwq := hbq.size
          clear hde hb6 HD hs'
          go_wp2_with fail
          refine (write_any 0 0 s' [1, 2, 3] _ 3 3 (w6.heap.size + 1) _ (HE6.out.alloc _) rfl HS'.out ⟨by show (0 : Int) < 1000000000; decide, rfl⟩ (Lib.hid rfl) (Rd.lit w6 [1, 2, 3] (fun b hb => by simp at hb; omega) #[.int .u8 1, .int .u8 2, .int .u8 3] rfl 5 (0, 0)) (by simp) (fun x hx => by cases hx; exact ⟨by simp; omega, by simp; omega⟩) (by omega)).mono ?_
          rintro e w7 ⟨rfl, hd7, hk7⟩
          have HD7 := Lib.hid ((HD6.out.alloc _).kept hk7 (by omega) (by omega) (by omega) (by omega))
          have hbw7 := below_kept (hbw6.alloc hbw6.size _) hk7 (show w.heap.size ≤ pe by omega) (show w.heap.size ≤ qe by omega) (hbw6.alloc hbw6.size _).size
          clear hd7 hk7 HD6 HE6
          go_wp2_with fail
          refine (read_any 0 0 (zsec.write L) _ HD7.out rfl HM0.out).mono ?_
          rintro e w8 ⟨v8, rfl, hown8, hb8⟩
          rw [HN.out] at hown8
          obtain ⟨a8, c8, rfl, _, _, hr8, _⟩ := hown8.form
          have HD8 := Lib.hid (HD7.out.below' hb8)
          have hbw8 := hbw7.trans (hb8.mono hbw7.size)
          have s1 := run_str (P := Try.prog) hr8 64 c8 hRl.symm 22 5 9 Try.underlying22 Try.underlying5 Try.underlying9
          clear hown8 hb8 hr8
          go_wp2_with fail
          refine (loose_any _ HD8.out).mono ?_
          rintro e w9 ⟨v9, rfl, hown9, hb9⟩
          rw [HML.out] at hown9
          obtain ⟨a9, c9, rfl, _, _, _, _⟩ := hown9.form
          have hbw9 := hbw8.trans (hb9.mono hbw8.size)
          rw [show (ints [0]).length = 1 from rfl]
          clear hown9 hb9
          go_wp2_with fail
          go_ret
          exact ⟨rfl, hbw9⟩
theorem devOwn_walk (a : Option Addr) (m c : Nat) (zs : List Int) (w : World) (w0 : IsRow .u8 w a m c zs) :
    Calls Try.prog 3 #[.slice a m c] w fun e w' => e = .returned (.bool true) ∧ Below w.heap.size w w' := by
  obtain ⟨l, rfl, hc, hcc, hr⟩ := isrow_rd w0
  exact own_main a l c w hr hc hcc
end Go.Proofs.Ytgkmcbpcbannfaa
