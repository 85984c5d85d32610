/- The first check 'begun' of the laws of the device. -/
import Derived.Test.YtgkmcbpcbannfaaDevCrash
namespace Go.Proofs.Ytgkmcbpcbannfaa
open Go.RowKit Crc
set_option linter.unusedVariables false
set_option maxHeartbeats 2000000

theorem DevAt.drewN {w : World} {p q : Nat} {M : DevM} (h : DevAt w p q M) (n : Nat) : DevAt (w.drewN n) p q M := ⟨h.ok, h.ne, h.top, h.row⟩
theorem below_kept {B p q : Nat} {a w w' : World} (h : Below B a w) (k : Kept p q w w') (hp : B ≤ p) (hq : B ≤ q) (hB : B ≤ w.heap.size) : Below B a w' := h.trans (k.below hp hq hB)
def M17 : DevM := (freshM 3).write 1 zsec [97, 98]
theorem m17 : M17.secs.length = 3 ∧ looseIdx M17.secs = [1] ∧ M17.calls = 1 ∧ (M17.fused 0).isDead = true ∧ (M17.fused 0).calls = 1 ∧ M17.isDead = false := by decide +kernel
theorem m17c : ((M17.crash []).secs[1]?).map (fun s => (s.now.length, s.now.getD 0 0)) = some (64, 0) ∧ (M17.crash []).isDead = false := by decide +kernel
theorem m17d : ((M17.crash [true]).secs[1]?).map (fun s => (s.now.length, s.now.getD 1 0)) = some (64, 98) := by decide +kernel
theorem begun17 (w : World) : Calls Try.prog 12 #[] w fun e w' => e = .returned (.bool true) ∧ Below w.heap.size w w' := by
  obtain ⟨m1, m2, m3, m4, m5, m6⟩ := m17
  obtain ⟨c1, c2⟩ := m17c
  have d1 := m17d
  obtain ⟨M, hM⟩ : ∃ M, M17 = M := ⟨_, rfl⟩
  rw [hM] at m1 m2 m3 m4 m5 m6 c1 c2 d1
  have HM := Lib.hid hM
  have M1 := Lib.hid m1
  have M2 := Lib.hid m2
  have M3 := Lib.hid m3
  have M4 := Lib.hid m4
  have M5 := Lib.hid m5
  have M6 := Lib.hid m6
  obtain ⟨s, hs, hs'⟩ := Option.map_eq_some_iff.1 c1
  obtain ⟨hs1, hs2⟩ := Prod.mk.inj hs'
  obtain ⟨y, hy, hy'⟩ := Option.map_eq_some_iff.1 d1
  obtain ⟨hy1, hy2⟩ := Prod.mk.inj hy'
  have S0 := Lib.hid hs
  have S1 := Lib.hid hs1
  have S2 := Lib.hid hs2
  have Y0 := Lib.hid hy
  have Y1 := Lib.hid hy1
  have Y2 := Lib.hid hy2
  have C2 := Lib.hid c2
  clear m1 m2 m3 m4 m5 m6 c1 c2 d1 hM hs hs' hs1 hs2 hy hy' hy1 hy2
  have kc := fun (w : World) (C : Array Value) (n c : Nat) => Lib.run_convert_bytes_const (P := Try.prog) w 22 5 C n c Try.underlying22 Try.underlying5
  go_enter Try.func12, Try.ntmps12
  go_wp2_with fail
  refine (new_any 3 3 w (by omega) (.inr (.inl rfl))).mono ?_
  rintro e w1 ⟨p, q, rfl, hd1, hp, hq, hbw⟩
  have hne := hd1.ne
  have HD := Lib.hid hd1
  clear hd1
  go_wp2_with fail
  refine (len_any _ HD.out).mono ?_
  rintro e w1' ⟨rfl, rfl⟩
  rw [show ((freshM 3).secs.length : Int) = 3 from rfl]
  have ltp := HD.out.ltp
  have ltq := HD.out.ltq
  go_wp2_with fail
  refine (write_any 1 1 zsec [97, 98] _ 2 2 (w1.heap.size + 1) _ (HD.out.alloc _) rfl rfl ⟨by decide, rfl⟩ (Lib.hid rfl) (Rd.lit w1 [97, 98] (fun b hb => by simp at hb; omega) #[.int .u8 97, .int .u8 98] rfl 5 (2, 3)) (by simp) (fun x hx => by cases hx; exact ⟨by simp; omega, by simp; omega⟩) (by omega)).mono ?_
  rintro e w2 ⟨rfl, hd2, hk2⟩
  replace hbw := below_kept (hbw.alloc hbw.size _) hk2 hp hq (hbw.alloc hbw.size _).size
  clear HD hk2 kc
  rw [show (freshM 3).write 1 zsec [97, 98] = M from HM.out] at hd2
  have HD := Lib.hid hd2
  have ltp2 := hd2.ltp
  have ltq2 := hd2.ltq
  clear hd2
  go_wp2_with fail
  refine (loose_any _ HD.out).mono ?_
  rintro e w3 ⟨v, rfl, hown, hb3⟩
  rw [M2.out, show ints [1] = [.int .i64 1] from rfl] at hown
  obtain ⟨a, c, rfl, hc1, hc2, hrl, hbl⟩ := hown.form
  obtain ⟨g, o, rfl, hg, cl⟩ := hrl.at (i := 0) (by decide)
  have hgb := (hbl g o none rfl).1
  have cl' : w3.cell? ⟨g, o, none⟩ = some (.int .i64 1) := cl
  replace hbw := hbw.trans (hb3.mono hbw.size)
  have hs3 := hb3.size
  have HD3 := Lib.hid (HD.out.below' hb3)
  clear HD hown hrl hbl cl hb3
  go_wp2_with fail
  refine (crash_any [] none 0 0 _ HD3.out (Lib.hid rfl) (RdV.nil _ _ _) (by omega) (by omega)).mono ?_
  rintro e w4 ⟨pc, qc, rfl, hdc, hpc, hqc, hb4⟩
  have HD4 := Lib.hid (HD3.out.below' hb4)
  have HC4 := Lib.hid hdc
  have cl4 := (hb4.cell (p := ⟨g, o, none⟩) hg).trans cl'
  have hg4 : g < w4.heap.size := Nat.lt_of_lt_of_le hg hb4.size
  replace hbw := hbw.trans (hb4.mono hbw.size)
  clear cl' hb4 HD3 hdc
  go_wp2_with fail
  refine (crash_any [true] _ 1 1 _ (HD4.out.alloc _) (Lib.hid rfl) (RdV.more (l := [true].map Value.bool) (RdV.lit w4 [.bool true] (fun u hu => by simp at hu; subst hu; rfl) #[.bool true] rfl 4 (0, 0)) (by simp)) (by omega) (by omega)).mono ?_
  rintro e w5 ⟨pd, qd, rfl, hdd, hpd, hqd, hb5⟩
  have HD5 := Lib.hid ((HD4.out.alloc _).below' hb5)
  have HC5 := Lib.hid ((HC4.out.alloc _).below' hb5)
  have HX5 := Lib.hid hdd
  have cl5 := (hb5.cell (p := ⟨g, o, none⟩) (by simp; omega)).trans ((World.cell?_alloc_lt _ _ ⟨g, o, none⟩ hg4).trans cl4)
  have hg5 : g < w5.heap.size := Nat.lt_of_lt_of_le (by simp; omega) hb5.size
  replace hbw := (hbw.alloc hbw.size _).trans (hb5.mono (hbw.alloc hbw.size _).size)
  clear cl4 hb5 HD4 HC4 hdd
  go_wp2_with fail
  refine (read_any 1 1 s _ HC5.out rfl S0.out).mono ?_
  rintro e w6 ⟨v6, rfl, hown6, hb6⟩
  obtain ⟨g6, x6, rfl, hx6, hx6', hg6, hg6'⟩ := hown6.form1 (by rw [S1.out]; decide)
  have r6 := hown6.cell rfl (j := 0) (by rw [S1.out]; decide)
  rw [S2.out] at r6
  have HD6 := Lib.hid (HD5.out.below' hb6)
  have HC6 := Lib.hid (HC5.out.below' hb6)
  have HX6 := Lib.hid (HX5.out.below' hb6)
  have cl6 := (hb6.cell (p := ⟨g, o, none⟩) hg5).trans cl5
  have hg6a : g < w6.heap.size := Nat.lt_of_lt_of_le hg5 hb6.size
  replace hbw := hbw.trans (hb6.mono hbw.size)
  rw [S1.out] at hx6 ⊢
  have qs6 := hb6.size
  have ltp5 := HD5.out.ltp
  have ltq5 := HD5.out.ltq
  have r6n : w6.cell? ⟨g6, 0, none⟩ = some (.int .u8 0) := r6
  replace r6 := r6n
  clear r6n
  clear cl5 hb6 HD5 HC5 HX5 hown6 hg5 hx6'
  go_wp2_with fail
  refine (read_any 1 1 y _ HX6.out rfl Y0.out).mono ?_
  rintro e w7 ⟨v7, rfl, hown7, hb7⟩
  obtain ⟨g7, x7, rfl, hx7, hx7', hg7, hg7'⟩ := hown7.form1 (by rw [Y1.out]; decide)
  have r7 := hown7.cell rfl (j := 1) (by rw [Y1.out]; decide)
  rw [Y2.out] at r7
  have HD7 := Lib.hid (HD6.out.below' hb7)
  have HC7 := Lib.hid (HC6.out.below' hb7)
  have cl7 := (hb7.cell (p := ⟨g, o, none⟩) hg6a).trans cl6
  replace r7 : w7.cell? ⟨g7, 1, none⟩ = some (.int .u8 98) := r7
  have r6' := (hb7.cell (p := ⟨g6, 0, none⟩) hg6').trans r6
  have hg7a : g < w7.heap.size := Nat.lt_of_lt_of_le hg6a hb7.size
  replace hbw := hbw.trans (hb7.mono hbw.size)
  rw [Y1.out] at hx7 ⊢
  have qs7 := hb7.size
  clear cl6 r6 hb7 HD6 HC6 HX6 hown7 hg6a hx7'
  have ltp3 := HD7.out.ltp
  have ltq3 := HD7.out.ltq
  have hpq : g6 ≠ p ∧ g6 ≠ q ∧ g7 ≠ p ∧ g7 ≠ q ∧ g ≠ p ∧ g ≠ q ∧ pc ≠ p ∧ pc ≠ q ∧ qc ≠ p ∧ qc ≠ q := by have := hs3; omega
  obtain ⟨n1, n2, n3, n4, n5, n6, n7, n8, n9, n10⟩ := hpq
  go_wp2_with fail
  refine (fuse_any 0 _ HD7.out (by omega)).mono ?_
  rintro e w8 ⟨rfl, hd8, hk8⟩
  have HD8 := Lib.hid hd8
  have HC8 := Lib.hid (HC7.out.kept hk8 n7 n8 n9 n10)
  have cl8 := (hk8.cell (a := ⟨g, o, none⟩) hg7a n5 n6).trans cl7
  have r6'' := (hk8.cell (a := ⟨g6, 0, none⟩) (by simp; omega) n1 n2).trans r6'
  have r7'' := (hk8.cell (a := ⟨g7, 1, none⟩) hg7' n3 n4).trans r7
  replace hbw := below_kept hbw hk8 hp hq hbw.size
  clear r6' r7 cl7 HC7 HD7 hd8 hk8
  go_wp2_with fail
  refine (write_dead 9 _ _ HD8.out M4.out).mono ?_
  rintro e w9 ⟨rfl, rfl⟩
  go_wp2_with fail
  refine (flush_dead _ HD8.out M4.out).mono ?_
  rintro e w9 ⟨rfl, rfl⟩
  go_wp2_with fail
  refine (calls_any _ HD8.out).mono ?_
  rintro e w9 ⟨rfl, rfl⟩
  rw [M5.out]
  go_wp2_with fail
  refine (dead_T _ HD8.out true M4).mono ?_
  rintro e w9 ⟨rfl, rfl⟩
  go_wp2_with fail
  refine (dead_T _ HC8.out false C2).mono ?_
  rintro e w9 ⟨rfl, rfl⟩
  go_wp2_with fail
  go_ret
  exact ⟨rfl, hbw⟩
end Go.Proofs.Ytgkmcbpcbannfaa
