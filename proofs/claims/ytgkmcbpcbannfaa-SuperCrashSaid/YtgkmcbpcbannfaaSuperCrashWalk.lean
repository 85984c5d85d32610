/- The walk of SuperCrash: it returns true and writes nothing that was there. -/
import Derived.Test.YtgkmcbpcbannfaaSuperBegun
import Derived.Test.YtgkmcbpcbannfaaBoolRow
import Derived.Test.YtgkmcbpcbannfaaShort
import Derived.Test.YtgkmcbpcbannfaaSuperCrashReg
import Derived.BigQuiet
namespace Go.Proofs.Ytgkmcbpcbannfaa
open Go.RowKit Crc
set_option linter.unusedVariables false
set_option maxHeartbeats 4000000
set_option maxRecDepth 100000

/-- What a save under a fuse leaves. -/
structure Saved (w w' : World) (p q s : Nat) (a b : List Nat) (l : List (List Nat)) (g : Int) (t : Nat) (M : DevM) : Prop where
  dev : DevAt w' p q M
  sup : ∃ txt ad c k, SupAt w' s p 0 k (t : Nat) txt ad c
  told : (g = 10 ∧ t = 1) ∨ (g = 0 ∧ t = 2)
  kept : Kept3 p q s w w'
  fell : ∀ keep, (g = 10 ∧ Clean (M.crash keep) l) ∨ Clean (M.crash keep) (l.set 1 (slotBytes 2 b))
theorem fused_crash (M : DevM) (f : Int) (keep : List Bool) : (M.fused f).crash keep = M.crash keep := rfl
theorem save_fused {p q s c nb cb : Nat} {M : DevM} {l : List (List Nat)} {x b : List Nat} {a ab : Option Addr} {B : Nat} {f : Int} (w : World) (hf : 0 ≤ f ∧ f ≤ 5) (h2 : Sup2 l 0 0 1 x) (hcl : Clean M l) (hl1 : l[1]? = some zeros)
    (hd : DevAt w p q (M.fused f)) (hs : SupAt w s p 0 0 1 x a c) (hsp : s ≠ p ∧ s ≠ q ∧ ∀ x, a = some x → x.block ≠ p ∧ x.block ≠ q)
    (hrd : Rd w B ab b) (hB : B ≤ w.heap.size) (hbx : ∀ x, ab = some x → b = [] ∨ (x.block ≠ p ∧ x.block ≠ q)) (hb : nb = b.length) (hb40 : nb ≤ 40) (hroom : M.calls + 2 ≤ 1000000000) :
    Calls Try.prog 27 #[.pointer (some ⟨s, 0, none⟩), .slice ab nb cb] w fun e w' => ∃ g t M', e = .returned (.int .i64 g) ∧ Saved w w' p q s x b l g t M' := by
  have hclf : Clean (M.fused f) l := hcl
  have hz : zeros.length = 64 := by simp [zeros]
  refine save_core s p q c nb cb 0 0 1 1 (M.fused f) x b a ab w B hd hs hsp hrd hB hbx hb hb40 (by omega) rfl 1 (fs zeros) (by omega) (hclf.get hl1) hroom (by omega) _ ?_ ?_ ?_
  · intro _ w' hw
    exact ⟨10, 1, _, rfl, hw.dev, ⟨_, _, _, _, hw.sup⟩, .inl ⟨rfl, rfl⟩, Kept3.of_below hw.below, fun keep => .inl ⟨rfl, hclf.crash keep⟩⟩
  · intro _ _ w' hw
    refine ⟨10, 1, _, rfl, hw.dev, ⟨_, _, _, _, hw.sup⟩, .inl ⟨rfl, rfl⟩, Kept3.of hw.kept, fun keep => ?_⟩
    rcases hclf.half hl1 hz (slot_len (n := 1 + 1) (b := b) (by omega)) keep with h | h
    · exact .inr h
    · exact .inl ⟨rfl, h⟩
  · intro _ _ w' a' c' hw
    refine ⟨0, 2, _, rfl, hw.dev, ⟨_, _, _, _, hw.sup⟩, .inr ⟨rfl, rfl⟩, hw.kept, fun keep => .inr ?_⟩
    have := clean_flush ((M.fused f).write 1 (fs zeros) (slotBytes (1 + 1) b))
    rw [write_now (show (fs zeros).now.length = 64 from hz) (slot_len (by omega)), hclf.now] at this
    exact this.crash keep
theorem superCrash_walk (a0 : Option Addr) (len0 cap0 : Nat) (z0 : List Int) (a1 : Option Addr) (len1 cap1 : Nat) (z1 : List Int) (a2 : Option Addr) (len2 cap2 : Nat) (z2 : List Int) (f : Int) (a4 : Option Addr) (m4 c4 : Nat) (keep : List Bool) (w : World)
    (w0 : IsRow .u8 w a0 len0 cap0 z0) (w1 : IsRow .u8 w a1 len1 cap1 z1) (w2 : IsRow .u8 w a2 len2 cap2 z2) (w3 : (Lit.int .i64 f).wf = true) (hr : BoolRow w a4 m4 c4 keep) :
    Calls Try.prog 10 #[.slice a0 len0 cap0, .slice a1 len1 cap1, .slice a2 len2 cap2, .int .i64 f, .slice a4 m4 c4] w fun e w' => e = .returned (.bool true) ∧ Below w.heap.size w w' := by
  obtain ⟨y0, hn0, hc0, hm0, hr0⟩ := isrow_rd w0
  obtain ⟨y1, hn1, hc1, hm1, hr1⟩ := isrow_rd w1
  obtain ⟨y2, hn2, hc2, hm2, hr2⟩ := isrow_rd w2
  have Hm := Lib.hid hr.len
  have hmc := hr.cap
  have hcc := hr.most
  have HR := Lib.hid hr.rd
  subst hn0
  subst hn1
  subst hn2
  have bf := bounds_i64 w3
  clear hr w0 w1 w2 w3
  obtain ⟨x0, hx0, hl0, hle0, hrx0⟩ := short_rd (k := 40) hr0 (Below.refl _ _)
  obtain ⟨x1, hx1, hl1, hle1, hrx1⟩ := short_rd (k := 40) hr1 (Below.refl _ _)
  obtain ⟨x2, hx2, hl2, hle2, hrx2⟩ := short_rd (k := 40) hr2 (Below.refl _ _)
  have HR0 := Lib.hid hrx0
  have HR1 := Lib.hid hrx1
  have HR2 := Lib.hid hrx2
  clear hr0 hr1 hr2 hrx0 hrx1 hrx2
  by_cases hf : f < 0 ∨ 5 < f
  · have hcase : (decide (f < 0) = true ∧ f < 0) ∨ (decide (f < 0) = false ∧ ¬ f < 0 ∧ decide (5 < f) = true ∧ 5 < f) := by
      by_cases h1 : f < 0
      · exact .inl ⟨decide_eq_true h1, h1⟩
      · exact .inr ⟨decide_eq_false h1, h1, decide_eq_true (by omega), by omega⟩
    clear hf
    rcases hcase with ⟨e1, e2⟩ | ⟨e1, e2, e3, e4⟩
    all_goals (
      go_enter Try.func10, Try.ntmps10
      go_wp2_with fail
      refine (begun18 w).mono ?_
      rintro e wb ⟨rfl, hbb⟩
      go_wp2_with fail
      refine (short_any _ y0 x0 _ 40 _ hc0 hx0).mono ?_
      rintro e w' ⟨rfl, rfl⟩
      go_wp2_with fail
      refine (short_any _ y1 x1 _ 40 _ hc1 hx1).mono ?_
      rintro e w' ⟨rfl, rfl⟩
      go_wp2_with fail
      refine (short_any _ y2 x2 _ 40 _ hc2 hx2).mono ?_
      rintro e w' ⟨rfl, rfl⟩
      go_wp2_with fail
      go_ret
      exact ⟨rfl, hbb⟩)
  have e1 : decide (f < 0) = false := decide_eq_false (by omega)
  have e2 : ¬ f < 0 := by omega
  have e3 : decide (5 < f) = false := decide_eq_false (by omega)
  have e4 : ¬ 5 < f := by omega
  go_enter Try.func10, Try.ntmps10
  go_wp2_with fail
  refine (begun18 w).mono ?_
  rintro e wb ⟨rfl, hbb⟩
  go_wp2_with fail
  refine (short_any _ y0 x0 _ 40 _ hc0 hx0).mono ?_
  rintro e w' ⟨rfl, rfl⟩
  go_wp2_with fail
  refine (short_any _ y1 x1 _ 40 _ hc1 hx1).mono ?_
  rintro e w' ⟨rfl, rfl⟩
  go_wp2_with fail
  refine (short_any _ y2 x2 _ 40 _ hc2 hx2).mono ?_
  rintro e w' ⟨rfl, rfl⟩
  go_wp2_with fail
  refine (new_any 2 2 _ (by omega) (.inr (.inl rfl))).mono ?_
  rintro e wn ⟨p, q, rfl, hdn, hp, hq, hbn⟩
  have HDN := Lib.hid hdn
  have hbw := hbb.trans (hbn.mono hbb.size)
  have hszb := hbb.size
  replace hp : w.heap.size ≤ p := by omega
  replace hq : w.heap.size ≤ q := by omega
  clear hdn hbn hbb
  go_wp2_with fail
  refine (make_on (at_ := 0) (l := List.replicate 2 zeros) wn HDN.out (fresh_live 2).1 (clean_fresh 2).now (by simp) (HR0.out.below hbw) hbw.size (HR0.out.or hp hq) rfl (by omega) (by decide)).mono ?_
  rintro e wm ⟨s, am, cm, M, rfl, hom, hkm, hsm, hfm, hcm⟩
  have hbm := below_kept hbw hkm hp hq hbw.size
  have hsw : w.heap.size ≤ s := by have := hbw.size; omega
  have hcalls : M.calls = 4 := by rw [hcm]; rfl
  obtain ⟨l, hl⟩ : ∃ l, (((List.replicate 2 zeros).set 0 zeros).set (0 + 1) zeros).set 0 (slotBytes 1 x0) = l := ⟨_, rfl⟩
  have hlz : l[1]? = some zeros := by rw [← hl]; rfl
  have hll : l.length = 2 := by rw [← hl]; simp
  rw [hl] at hom
  have HOM := Lib.hid hom
  clear hom hkm hsm hfm hcm hl HDN hbw
  go_wp2_with fail
  refine (fuse_any f _ HOM.out.dev (by omega)).mono ?_
  rintro e wf ⟨rfl, hdf, hkf⟩
  have hbf := below_kept hbm hkf hp hq hbm.size
  have HDF := Lib.hid hdf
  have HSF := Lib.hid (HOM.out.sup.kept hkf HOM.out.apart)
  clear hdf hkf hbm
  go_wp2_with fail
  refine (save_fused wf (by omega) HOM.out.two HOM.out.clean hlz HDF.out HSF.out HOM.out.apart (HR1.out.below hbf) hbf.size (HR1.out.or hp hq) rfl (by omega) (by omega)).mono ?_
  rintro e w5 ⟨g, t, M5, rfl, hsv⟩
  have hb5 : Below w.heap.size w w5 := hbf.trans (hsv.kept.below hp hq hsw hbf.size)
  obtain ⟨txt5, a5, c5, k5, hs5⟩ := hsv.sup
  have HS5 := Lib.hid hs5
  have HD5 := Lib.hid hsv.dev
  have hcr : (g = 10 ∧ t = 1 ∧ Sup2 l 0 0 1 x0 ∧ Clean (M5.crash keep) l) ∨ (Sup2 (l.set 1 (slotBytes 2 x1)) 0 1 2 x1 ∧ Clean (M5.crash keep) (l.set 1 (slotBytes 2 x1)) ∧ ((g = 10 ∧ t = 1) ∨ (g = 0 ∧ t = 2))) := by
    rcases hsv.fell keep with ⟨h1, h2⟩ | h
    · rcases hsv.told with ⟨h3, h4⟩ | ⟨h3, h4⟩
      · exact .inl ⟨h1, h4, HOM.out.two, h2⟩
      · omega
    · exact .inr ⟨HOM.out.two.next (HR1.out.1) (by omega) (by omega), h, hsv.told⟩
  have HCR := Lib.hid hcr
  clear hsv hs5 hcr HDF HSF HOM hbf
  go_wp2_with fail
  refine (turn_any HS5.out).mono ?_
  rintro e w' ⟨rfl, rfl⟩
  go_wp2_with fail
  refine (crash_any keep a4 m4 c4 _ HD5.out Hm ((HR.out.below hb5).more hb5.size) hmc hcc).mono ?_
  rintro e w6 ⟨pc, qc, rfl, hdc, hpc, hqc, hb6⟩
  have hbw6 := hb5.trans (hb6.mono hb5.size)
  have hlvC := crash_live M5 keep
  obtain ⟨C, hC⟩ : ∃ C, M5.crash keep = C := ⟨_, rfl⟩
  rw [hC] at hdc HCR hlvC
  have HD6 := Lib.hid hdc
  have hpc' : w.heap.size ≤ pc := by have := hb5.size; omega
  have hqc' : w.heap.size ≤ qc := by have := hb5.size; omega
  clear hdc hC hb6 HD5 HS5 hpc hqc hb5
  -- ENDS
  go_wp2_with fail
  rcases HCR.out with ⟨rfl, rfl, hs2, hcl⟩ | ⟨hs2, hcl, ⟨rfl, rfl⟩ | ⟨rfl, rfl⟩⟩
  · have HS2 := Lib.hid hs2
    have HCL := Lib.hid hcl
    clear hs2 hcl HCR
    refine (open_sup (at_ := 0) w6 HD6.out HCL.out HS2.out).mono ?_
    rintro e w7 ⟨sx, ax, cx, rfl, hox⟩
    have ltp6 := HD6.out.ltp
    have ltq6 := HD6.out.ltq
    have hbw7 := hbw6.trans (hox.below.mono hbw6.size)
    have hnw := hox.new
    have hO7 : SOn w7 pc qc sx 0 0 1 C l x0 ax cx := ⟨HD6.out.below' hox.below, hlvC.1, HCL.out, HS2.out, hox.sup, by omega, by omega, fun y hy => by have := hox.far y hy; omega⟩
    have HO7 := Lib.hid hO7
    have hsx : w.heap.size ≤ sx := by have := hbw6.size; omega
    clear hO7 hox HD6 HS2 HCL hbw6 ltp6 ltq6 hnw
    go_wp2_with fail
    refine wp_region_noPanic (crash_region18 a0 x0.length cap0 sx x0 1 _ (fun w' hb => text_any (HO7.out.sup.below' hb)) (fun w' hb => turn_any (HO7.out.sup.below' hb)) (fun w' hb => rd_str (HR0.out.below (hbw7.trans (hb.mono hbw7.size))) rfl) rfl (fun _ _ _ h => h) ?_)
    intro w8 v73 v74 v75 v76 v77 v78 v79 v80 v81 v82 v83 hb8
    refine NoPanic.normal ?_
    replace hbw7 := hbw7.trans (hb8.mono hbw7.size)
    replace HO7 := Lib.hid (HO7.out.below' hb8)
    clear hb8
    go_wp2_with fail
    go_quiet ((go_at_call 29; exact quiet_left (turn_any (HO7.out.sup.below' (below_drewN (Below.refl _ _) _)))))
    go_wp2_with fail
    have hbw8 := below_drewN hbw7 nq
    have HO8 := Lib.hid (HO7.out.below' (below_drewN (Below.refl _ _) nq))
    clear hbw7 HO7
    refine (turn_any HO8.out.sup).mono ?_
    rintro e w' ⟨rfl, rfl⟩
    go_wp2_with fail
    refine (save_on _ HO8.out (HR2.out.below hbw8) hbw8.size (HR2.out.or hpc' hqc') rfl (by omega) (by decide) (by rw [hlvC.2]; decide)).mono ?_
    rintro e w10 ⟨a10, c10, M10, rfl, ho10, hk10, hf10, hcl10⟩
    have hbw10 := hbw8.trans (hk10.below hpc' hqc' hsx hbw8.size)
    obtain ⟨l10, hl10⟩ : ∃ l10, l.set (0 + (1 - 0)) (slotBytes (1 + 1) x2) = l10 := ⟨_, rfl⟩
    rw [hl10] at ho10
    have HO10 := Lib.hid ho10
    clear ho10 hk10 hf10 hcl10 HO8 hbw8 hl10
    go_wp2_with fail
    refine (crash_any [] none 0 0 _ HO10.out.dev (Lib.hid rfl) (RdV.nil _ _ _) (Nat.le_refl _) (by decide)).mono ?_
    rintro e w11 ⟨pd, qd, rfl, hdd, hpd, hqd, hb11⟩
    have HD11 := Lib.hid hdd
    have HCL11 := Lib.hid (HO10.out.clean.crash [])
    have HS11 := Lib.hid HO10.out.two
    have hbw11 := hbw10.trans (hb11.mono hbw10.size)
    clear hdd hb11 HO10 hbw10
    go_wp2_with fail
    refine (open_sup (at_ := 0) w11 HD11.out HCL11.out HS11.out).mono ?_
    rintro e w12 ⟨su, au, cu, rfl, hou⟩
    have HU12 := Lib.hid hou.sup
    have hbw12 := hbw11.trans (hou.below.mono hbw11.size)
    clear hou HD11 HCL11 HS11 hbw11
    go_wp2_with fail
    refine wp_region_noPanic (crash_region26 a2 x2.length cap2 su x2 2 _ (fun w' hb => text_any (HU12.out.below' hb)) (fun w' hb => turn_any (HU12.out.below' hb)) (fun w' hb => rd_str (HR2.out.below (hbw12.trans (hb.mono hbw12.size))) rfl) 1 (by decide) (fun _ _ _ h => h) ?_)
    intro w13 v121 v122 v123 v124 v125 v126 v127 v128 v129 v130 v131 v132 v133 v134 v135 v136 v137 hb13
    refine NoPanic.normal ?_
    go_wp2_with fail
    go_ret
    exact ⟨rfl, hbw12.trans (hb13.mono hbw12.size)⟩
  · have HS2 := Lib.hid hs2
    have HCL := Lib.hid hcl
    clear hs2 hcl HCR
    refine (open_sup (at_ := 0) w6 HD6.out HCL.out HS2.out).mono ?_
    rintro e w7 ⟨sx, ax, cx, rfl, hox⟩
    have ltp6 := HD6.out.ltp
    have ltq6 := HD6.out.ltq
    have hbw7 := hbw6.trans (hox.below.mono hbw6.size)
    have hnw := hox.new
    have hO7 : SOn w7 pc qc sx 0 1 2 C (l.set 1 (slotBytes 2 x1)) x1 ax cx := ⟨HD6.out.below' hox.below, hlvC.1, HCL.out, HS2.out, hox.sup, by omega, by omega, fun y hy => by have := hox.far y hy; omega⟩
    have HO7 := Lib.hid hO7
    have hsx : w.heap.size ≤ sx := by have := hbw6.size; omega
    clear hO7 hox HD6 HS2 HCL hbw6 ltp6 ltq6 hnw
    go_wp2_with fail
    go_quiet ((go_at_call 29; exact quiet_left (turn_any (HO7.out.sup.below' (below_drewN (Below.refl _ _) _)))))
    have hbq : Below w.heap.size w (w7.drewN nq) := below_drewN hbw7 nq
    have HOq := Lib.hid (HO7.out.below' (below_drewN (Below.refl _ _) nq))
    clear HO7 hbw7
    have HO7 := HOq
    have hbw7 := hbq
    clear HOq hbq
    go_wp2_with fail
    refine wp_region_noPanic (crash_region19 a1 x1.length cap1 sx x1 2 _ (fun w' hb => text_any (HO7.out.sup.below' hb)) (fun w' hb => turn_any (HO7.out.sup.below' hb)) (fun w' hb => rd_str (HR1.out.below (hbw7.trans (hb.mono hbw7.size))) rfl) rfl (fun _ _ _ h => h) ?_)
    intro w8 v84 v85 v86 v87 v88 v89 v90 v91 v92 v93 v94 hb8
    refine NoPanic.normal ?_
    replace hbw7 := hbw7.trans (hb8.mono hbw7.size)
    replace HO7 := Lib.hid (HO7.out.below' hb8)
    clear hb8
    go_wp2_with fail
    have hbw8 := hbw7
    have HO8 := HO7
    clear hbw7 HO7
    refine (turn_any HO8.out.sup).mono ?_
    rintro e w' ⟨rfl, rfl⟩
    go_wp2_with fail
    refine (save_on _ HO8.out (HR2.out.below hbw8) hbw8.size (HR2.out.or hpc' hqc') rfl (by omega) (by decide) (by rw [hlvC.2]; decide)).mono ?_
    rintro e w10 ⟨a10, c10, M10, rfl, ho10, hk10, hf10, hcl10⟩
    have hbw10 := hbw8.trans (hk10.below hpc' hqc' hsx hbw8.size)
    obtain ⟨l10, hl10⟩ : ∃ l10, (l.set 1 (slotBytes 2 x1)).set (0 + (1 - 1)) (slotBytes (2 + 1) x2) = l10 := ⟨_, rfl⟩
    rw [hl10] at ho10
    have HO10 := Lib.hid ho10
    clear ho10 hk10 hf10 hcl10 HO8 hbw8 hl10
    go_wp2_with fail
    refine (crash_any [] none 0 0 _ HO10.out.dev (Lib.hid rfl) (RdV.nil _ _ _) (Nat.le_refl _) (by decide)).mono ?_
    rintro e w11 ⟨pd, qd, rfl, hdd, hpd, hqd, hb11⟩
    have HD11 := Lib.hid hdd
    have HCL11 := Lib.hid (HO10.out.clean.crash [])
    have HS11 := Lib.hid HO10.out.two
    have hbw11 := hbw10.trans (hb11.mono hbw10.size)
    clear hdd hb11 HO10 hbw10
    go_wp2_with fail
    refine (open_sup (at_ := 0) w11 HD11.out HCL11.out HS11.out).mono ?_
    rintro e w12 ⟨su, au, cu, rfl, hou⟩
    have HU12 := Lib.hid hou.sup
    have hbw12 := hbw11.trans (hou.below.mono hbw11.size)
    clear hou HD11 HCL11 HS11 hbw11
    go_wp2_with fail
    refine wp_region_noPanic (crash_region26 a2 x2.length cap2 su x2 3 _ (fun w' hb => text_any (HU12.out.below' hb)) (fun w' hb => turn_any (HU12.out.below' hb)) (fun w' hb => rd_str (HR2.out.below (hbw12.trans (hb.mono hbw12.size))) rfl) 2 (by decide) (fun _ _ _ h => h) ?_)
    intro w13 v121 v122 v123 v124 v125 v126 v127 v128 v129 v130 v131 v132 v133 v134 v135 v136 v137 hb13
    refine NoPanic.normal ?_
    go_wp2_with fail
    go_ret
    exact ⟨rfl, hbw12.trans (hb13.mono hbw12.size)⟩
  · have HS2 := Lib.hid hs2
    have HCL := Lib.hid hcl
    clear hs2 hcl HCR
    refine (open_sup (at_ := 0) w6 HD6.out HCL.out HS2.out).mono ?_
    rintro e w7 ⟨sx, ax, cx, rfl, hox⟩
    have ltp6 := HD6.out.ltp
    have ltq6 := HD6.out.ltq
    have hbw7 := hbw6.trans (hox.below.mono hbw6.size)
    have hnw := hox.new
    have hO7 : SOn w7 pc qc sx 0 1 2 C (l.set 1 (slotBytes 2 x1)) x1 ax cx := ⟨HD6.out.below' hox.below, hlvC.1, HCL.out, HS2.out, hox.sup, by omega, by omega, fun y hy => by have := hox.far y hy; omega⟩
    have HO7 := Lib.hid hO7
    have hsx : w.heap.size ≤ sx := by have := hbw6.size; omega
    clear hO7 hox HD6 HS2 HCL hbw6 ltp6 ltq6 hnw
    go_wp2_with fail
    go_quiet ((go_at_call 29; exact quiet_left (turn_any (HO7.out.sup.below' (below_drewN (Below.refl _ _) _)))))
    have hbq : Below w.heap.size w (w7.drewN nq) := below_drewN hbw7 nq
    have HOq := Lib.hid (HO7.out.below' (below_drewN (Below.refl _ _) nq))
    clear HO7 hbw7
    have HO7 := HOq
    have hbw7 := hbq
    clear HOq hbq
    go_wp2_with fail
    refine wp_region_noPanic (crash_region19 a1 x1.length cap1 sx x1 2 _ (fun w' hb => text_any (HO7.out.sup.below' hb)) (fun w' hb => turn_any (HO7.out.sup.below' hb)) (fun w' hb => rd_str (HR1.out.below (hbw7.trans (hb.mono hbw7.size))) rfl) rfl (fun _ _ _ h => h) ?_)
    intro w8 v84 v85 v86 v87 v88 v89 v90 v91 v92 v93 v94 hb8
    refine NoPanic.normal ?_
    replace hbw7 := hbw7.trans (hb8.mono hbw7.size)
    replace HO7 := Lib.hid (HO7.out.below' hb8)
    clear hb8
    go_wp2_with fail
    have hbw8 := hbw7
    have HO8 := HO7
    clear hbw7 HO7
    refine (turn_any HO8.out.sup).mono ?_
    rintro e w' ⟨rfl, rfl⟩
    go_wp2_with fail
    refine (save_on _ HO8.out (HR2.out.below hbw8) hbw8.size (HR2.out.or hpc' hqc') rfl (by omega) (by decide) (by rw [hlvC.2]; decide)).mono ?_
    rintro e w10 ⟨a10, c10, M10, rfl, ho10, hk10, hf10, hcl10⟩
    have hbw10 := hbw8.trans (hk10.below hpc' hqc' hsx hbw8.size)
    obtain ⟨l10, hl10⟩ : ∃ l10, (l.set 1 (slotBytes 2 x1)).set (0 + (1 - 1)) (slotBytes (2 + 1) x2) = l10 := ⟨_, rfl⟩
    rw [hl10] at ho10
    have HO10 := Lib.hid ho10
    clear ho10 hk10 hf10 hcl10 HO8 hbw8 hl10
    go_wp2_with fail
    refine (crash_any [] none 0 0 _ HO10.out.dev (Lib.hid rfl) (RdV.nil _ _ _) (Nat.le_refl _) (by decide)).mono ?_
    rintro e w11 ⟨pd, qd, rfl, hdd, hpd, hqd, hb11⟩
    have HD11 := Lib.hid hdd
    have HCL11 := Lib.hid (HO10.out.clean.crash [])
    have HS11 := Lib.hid HO10.out.two
    have hbw11 := hbw10.trans (hb11.mono hbw10.size)
    clear hdd hb11 HO10 hbw10
    go_wp2_with fail
    refine (open_sup (at_ := 0) w11 HD11.out HCL11.out HS11.out).mono ?_
    rintro e w12 ⟨su, au, cu, rfl, hou⟩
    have HU12 := Lib.hid hou.sup
    have hbw12 := hbw11.trans (hou.below.mono hbw11.size)
    clear hou HD11 HCL11 HS11 hbw11
    go_wp2_with fail
    refine wp_region_noPanic (crash_region26 a2 x2.length cap2 su x2 3 _ (fun w' hb => text_any (HU12.out.below' hb)) (fun w' hb => turn_any (HU12.out.below' hb)) (fun w' hb => rd_str (HR2.out.below (hbw12.trans (hb.mono hbw12.size))) rfl) 2 (by decide) (fun _ _ _ h => h) ?_)
    intro w13 v121 v122 v123 v124 v125 v126 v127 v128 v129 v130 v131 v132 v133 v134 v135 v136 v137 hb13
    refine NoPanic.normal ?_
    go_wp2_with fail
    go_ret
    exact ⟨rfl, hbw12.trans (hb13.mono hbw12.size)⟩
end Go.Proofs.Ytgkmcbpcbannfaa
