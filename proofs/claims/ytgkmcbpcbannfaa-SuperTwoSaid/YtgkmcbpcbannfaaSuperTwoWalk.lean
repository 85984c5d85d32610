/- The walk of SuperTwo: it returns true and writes nothing that was there. -/
import Derived.Test.YtgkmcbpcbannfaaSuperBegun
import Derived.Test.YtgkmcbpcbannfaaBoolRow
import Derived.Test.YtgkmcbpcbannfaaSuperTwoReg
namespace Go.Proofs.Ytgkmcbpcbannfaa
open Go.RowKit Crc
set_option linter.unusedVariables false
set_option maxHeartbeats 4000000
set_option maxRecDepth 100000

theorem Kept3.rd {p q s B : Nat} {w w' : World} {a : Option Addr} {l : List Nat} (hk : Kept3 p q s w w') (hr : Rd w B a l) (hB : B ≤ w.heap.size) (hne : ∀ x, a = some x → x.block ≠ p ∧ x.block ≠ q ∧ x.block ≠ s) : Rd w' B a l := by
  refine ⟨hr.1, hr.2.imp id fun ⟨b, off, e, hb, hc⟩ => ⟨b, off, e, hb, fun i hi => ?_⟩⟩
  obtain ⟨h1, h2, h3⟩ := hne _ e
  exact (World.cell?_of_block (w := w) (a := ⟨b, off + i, none⟩) (hk.block b (by omega) h1 h2 h3)).trans (hc i hi)
theorem SupAt.kept3 {p q s s' : Nat} {w w' : World} {pp : Nat} {at_ slot turn : Int} {txt : List Nat} {a : Option Addr} {c : Nat} (h : SupAt w s pp at_ slot turn txt a c) (hk : Kept3 p q s' w w') (h1 : s ≠ p ∧ s ≠ q ∧ s ≠ s') (h2 : ∀ x, a = some x → x.block ≠ p ∧ x.block ≠ q ∧ x.block ≠ s') : SupAt w' s pp at_ slot turn txt a c :=
  ⟨(hk.block s h.lt h1.1 h1.2.1 h1.2.2).trans h.top, (hk.rd h.rd (Nat.le_refl _) h2).more hk.size, h.len, h.far, fun x hx => Nat.lt_of_lt_of_le (h.lo x hx) hk.size⟩
def z59 : List Nat := List.replicate 59 0
def leftB : List Nat := [108, 101, 102, 116] ++ List.replicate 60 0
def rightB : List Nat := [114, 105, 103, 104, 116] ++ List.replicate 59 0
def twoM : DevM := ((freshM 6).write 0 zsec [108, 101, 102, 116]).write 5 zsec [114, 105, 103, 104, 116]
def two0 : List (List Nat) := [leftB, zeros, zeros, zeros, zeros, rightB]
theorem two_now : twoM.secs.map (·.now) = two0 ∧ twoM.calls = 2 := by decide +kernel
theorem two_live : Live twoM := ⟨rfl, rfl⟩
/-- Two texts on one device. -/
structure Two (B : Nat) (w : World) (p q s1 s2 t1 t2 : Nat) (x1 x2 : List Nat) (M : DevM) (l : List (List Nat)) (k1 k2 c1 c2 : Nat) (a1 a2 : Option Addr) : Prop where
  one : SOn w p q s1 1 k1 t1 M l x1 a1 c1
  two : SOn w p q s2 3 k2 t2 M l x2 a2 c2
  ne : s1 ≠ s2
  far1 : ∀ x, a1 = some x → x.block ≠ s2
  far2 : ∀ x, a2 = some x → x.block ≠ s1
  new : B ≤ p ∧ B ≤ q ∧ B ≤ s1 ∧ B ≤ s2
  left : l[0]? = some leftB
  right : l[5]? = some rightB
  len : l.length = 6
section
variable {B p q s1 s2 t1 t2 k1 k2 c1 c2 : Nat} {w w' : World} {x1 x2 : List Nat} {M M' : DevM} {l : List (List Nat)} {a1 a2 : Option Addr}
theorem Two.save1 (h : Two B w p q s1 s2 t1 t2 x1 x2 M l k1 k2 c1 c2 a1 a2) {a' : Option Addr} {c' : Nat}
    (ho : SOn w' p q s1 1 (1 - k1) (t1 + 1) M' (l.set (1 + (1 - k1)) (slotBytes (t1 + 1) x1)) x1 a' c') (hk : Kept3 p q s1 w w') (hf : ∀ x, a' = some x → w.heap.size ≤ x.block) :
    Two B w' p q s1 s2 (t1 + 1) t2 x1 x2 M' (l.set (1 + (1 - k1)) (slotBytes (t1 + 1) x1)) (1 - k1) k2 c' c2 a' a2 := by
  have hlt := h.two.sup.lt
  refine ⟨ho, ⟨ho.dev, ho.live, ho.clean, h.two.two.apart _ (by omega) (by omega), h.two.sup.kept3 hk ⟨h.two.apart.1, h.two.apart.2.1, h.ne.symm⟩ (fun x hx => ⟨(h.two.apart.2.2 x hx).1, (h.two.apart.2.2 x hx).2, h.far2 x hx⟩), h.two.apart⟩, h.ne, fun x hx => by have := hf x hx; omega, h.far2, h.new, ?_, ?_, by rw [List.length_set]; exact h.len⟩
  · rw [List.getElem?_set_ne (by omega)]; exact h.left
  · rw [List.getElem?_set_ne (by omega)]; exact h.right
theorem Two.save2 (h : Two B w p q s1 s2 t1 t2 x1 x2 M l k1 k2 c1 c2 a1 a2) {a' : Option Addr} {c' : Nat}
    (ho : SOn w' p q s2 3 (1 - k2) (t2 + 1) M' (l.set (3 + (1 - k2)) (slotBytes (t2 + 1) x2)) x2 a' c') (hk : Kept3 p q s2 w w') (hf : ∀ x, a' = some x → w.heap.size ≤ x.block) :
    Two B w' p q s1 s2 t1 (t2 + 1) x1 x2 M' (l.set (3 + (1 - k2)) (slotBytes (t2 + 1) x2)) k1 (1 - k2) c1 c' a1 a' := by
  have hlt := h.one.sup.lt
  refine ⟨⟨ho.dev, ho.live, ho.clean, h.one.two.apart _ (by omega) (by omega), h.one.sup.kept3 hk ⟨h.one.apart.1, h.one.apart.2.1, h.ne⟩ (fun x hx => ⟨(h.one.apart.2.2 x hx).1, (h.one.apart.2.2 x hx).2, h.far1 x hx⟩), h.one.apart⟩, ho, h.ne, h.far1, fun x hx => by have := hf x hx; omega, h.new, ?_, ?_, by rw [List.length_set]; exact h.len⟩
  · rw [List.getElem?_set_ne (by omega)]; exact h.left
  · rw [List.getElem?_set_ne (by omega)]; exact h.right
end
theorem superTwo_walk (a0 : Option Addr) (len0 cap0 : Nat) (z0 : List Int) (a1 : Option Addr) (len1 cap1 : Nat) (z1 : List Int) (a2 : Option Addr) (m2 c2 : Nat) (keep : List Bool) (w : World) (w0 : IsRow .u8 w a0 len0 cap0 z0) (w1 : IsRow .u8 w a1 len1 cap1 z1) (hr : BoolRow w a2 m2 c2 keep) :
    Calls Try.prog 9 #[.slice a0 len0 cap0, .slice a1 len1 cap1, .slice a2 m2 c2] w fun e w' => e = .returned (.bool true) ∧ Below w.heap.size w w' := by
  obtain ⟨x0, hn0, hc0, hm0, hr0⟩ := isrow_rd w0
  obtain ⟨x1, hn1, hc1, hm1, hr1⟩ := isrow_rd w1
  have Hm := Lib.hid hr.len
  have hmc := hr.cap
  have hcc := hr.most
  have HR := Lib.hid hr.rd
  have HR0 := Lib.hid hr0
  have HR1 := Lib.hid hr1
  subst hn0
  subst hn1
  clear hr w0 w1 hr0 hr1
  have kc := fun (w : World) (C : Array Value) (n c : Nat) => Lib.run_convert_bytes_const (P := Try.prog) w 22 5 C n c Try.underlying22 Try.underlying5
  by_cases hb0 : 40 < x0.length
  · have d0 : decide (40 < (x0.length : Int)) = true := decide_eq_true (by omega)
    go_enter Try.func9, Try.ntmps9
    go_wp2_with fail
    refine (begun18 w).mono ?_
    rintro e w0 ⟨rfl, hb⟩
    go_wp2_with fail
    go_ret
    exact ⟨rfl, hb⟩
  have d0 : decide (40 < (x0.length : Int)) = false := decide_eq_false (by omega)
  by_cases hb1 : 40 < x1.length
  · have d1 : decide (40 < (x1.length : Int)) = true := decide_eq_true (by omega)
    go_enter Try.func9, Try.ntmps9
    go_wp2_with fail
    refine (begun18 w).mono ?_
    rintro e w0 ⟨rfl, hb⟩
    go_wp2_with fail
    go_ret
    exact ⟨rfl, hb⟩
  have d1 : decide (40 < (x1.length : Int)) = false := decide_eq_false (by omega)
  go_enter Try.func9, Try.ntmps9
  go_wp2_with fail
  refine (begun18 w).mono ?_
  rintro e wb ⟨rfl, hbb⟩
  go_wp2_with fail
  refine (new_any 6 6 _ (by omega) (.inr (.inl rfl))).mono ?_
  rintro e wn ⟨p, q, rfl, hdn, hp, hq, hbn⟩
  have HDN := Lib.hid hdn
  have hbw := hbb.trans (hbn.mono hbb.size)
  have hszb := hbb.size
  replace hp : w.heap.size ≤ p := by omega
  replace hq : w.heap.size ≤ q := by omega
  have ltp := hdn.ltp
  have ltq := hdn.ltq
  clear hdn hbn hbb
  go_wp2_with fail
  refine (write_any 0 0 zsec [108, 101, 102, 116] _ 4 4 (wn.heap.size + 1) _ (HDN.out.alloc _) rfl rfl ⟨by decide, rfl⟩ (Lib.hid rfl) (Rd.lit wn [108, 101, 102, 116] (fun b hb => by simp at hb; omega) #[.int .u8 108, .int .u8 101, .int .u8 102, .int .u8 116] rfl 5 (4, 5)) (by simp) (fun x hx => by cases hx; exact ⟨by simp; omega, by simp; omega⟩) (by omega)).mono ?_
  rintro e wl ⟨rfl, hdl, hkl⟩
  have HDL := Lib.hid hdl
  have hbl := below_kept (hbw.alloc hbw.size _) hkl hp hq (hbw.alloc hbw.size _).size
  have ltpl := hdl.ltp
  have ltql := hdl.ltq
  clear hdl hkl HDN hbw
  go_wp2_with fail
  refine (write_any 5 5 zsec [114, 105, 103, 104, 116] _ 5 5 (wl.heap.size + 1) _ (HDL.out.alloc _) rfl rfl ⟨by decide, rfl⟩ (Lib.hid rfl) (Rd.lit wl [114, 105, 103, 104, 116] (fun b hb => by simp at hb; omega) #[.int .u8 114, .int .u8 105, .int .u8 103, .int .u8 104, .int .u8 116] rfl 5 (5, 6)) (by simp) (fun x hx => by cases hx; exact ⟨by simp; omega, by simp; omega⟩) (by omega)).mono ?_
  rintro e wr ⟨rfl, hdr, hkr⟩
  have hbr := below_kept (hbl.alloc hbl.size _) hkr hp hq (hbl.alloc hbl.size _).size
  have hdr' : DevAt wr p q twoM := hdr
  have HDR := Lib.hid hdr'
  have ltpr := hdr.ltp
  have ltqr := hdr.ltq
  clear hdr hdr' hkr HDL hbl kc
  go_wp2_with fail
  refine (make_on (at_ := 1) wr HDR.out two_live two_now.1 (by decide) (HR0.out.below hbr) hbr.size (HR0.out.or hp hq) rfl (by omega) (by rw [two_now.2]; decide)).mono ?_
  rintro e w3 ⟨s1, b1, e1, M1, rfl, ho1, hk1, hs1, hf1, hcl1⟩
  have hb3 := below_kept hbr hk1 hp hq hbr.size
  have hs1w : w.heap.size ≤ s1 := by have := hbr.size; omega
  have hcl1' : M1.calls = 6 := by rw [hcl1, two_now.2]; rfl
  obtain ⟨l1, hl1⟩ : ∃ l1, ((two0.set 1 zeros).set (1 + 1) zeros).set 1 (slotBytes 1 x0) = l1 := ⟨_, rfl⟩
  have hl1l : l1.length = 6 := by rw [← hl1]; simp [two0]
  have hl10 : l1[0]? = some leftB := by rw [← hl1]; rfl
  have hl15 : l1[5]? = some rightB := by rw [← hl1]; rfl
  rw [hl1] at ho1
  have HO1 := Lib.hid ho1
  have hlt1 := ho1.sup.lt
  have hfar1 := Lib.hid hf1
  have hp3 := ho1.dev.ltp
  have hq3 := ho1.dev.ltq
  clear ho1 hk1 hs1 hf1 hcl1 hbr HDR hl1
  go_wp2_with fail
  refine (make_on (at_ := 3) w3 HO1.out.dev HO1.out.live HO1.out.clean.now (by omega) (HR1.out.below hb3) hb3.size (HR1.out.or hp hq) rfl (by omega) (by omega)).mono ?_
  rintro e w4 ⟨s2, b2, e2, M2, rfl, ho2, hk2, hs2, hf2, hcl2⟩
  have hb4 := below_kept hb3 hk2 hp hq hb3.size
  have hcl2' : M2.calls = 10 := by omega
  obtain ⟨l2, hl2⟩ : ∃ l2, ((l1.set 3 zeros).set (3 + 1) zeros).set 3 (slotBytes 1 x1) = l2 := ⟨_, rfl⟩
  have hTwo : Two w.heap.size w4 p q s1 s2 1 1 x0 x1 M2 l2 0 0 e1 e2 b1 b2 := by
    have hlt4 := hk2.size
    refine ⟨⟨ho2.dev, ho2.live, ?_, ?_, HO1.out.sup.kept hk2 HO1.out.apart, HO1.out.apart⟩, ?_, by omega, fun x hx => ?_, fun x hx => ?_, ⟨hp, hq, hs1w, by have := hb3.size; omega⟩, ?_, ?_, ?_⟩
    · rw [← hl2]; exact ho2.clean
    · rw [← hl2]; exact ((HO1.out.two.apart _ (by omega) (by omega)).apart _ (by omega) (by omega)).apart _ (by omega) (by omega)
    · rw [← hl2]; exact ho2
    · have := HO1.out.sup.lo x hx; omega
    · have := hf2 x hx; omega
    · rw [← hl2, List.getElem?_set_ne (by omega), List.getElem?_set_ne (by omega), List.getElem?_set_ne (by omega)]; exact hl10
    · rw [← hl2, List.getElem?_set_ne (by omega), List.getElem?_set_ne (by omega), List.getElem?_set_ne (by omega)]; exact hl15
    · rw [← hl2]; simp [hl1l]
  have HT := Lib.hid hTwo
  clear hTwo ho2 hk2 hs2 hf2 HO1 hb3 hl2 hl10 hl15
  go_wp2_with fail
  go_loopw [13, 14, 15] (fun n m i wr => ∃ j t1 t2 k1 k2 c1 c2 a1 a2 M l, j ≤ 10 ∧ j ≤ m2 ∧ i = .int .i64 (j : Nat) ∧ n = .int .i64 (t1 : Nat) ∧ m = .int .i64 (t2 : Nat) ∧ t1 + t2 = 2 + j ∧ M.calls ≤ 10 + 2 * (j : Int) ∧ Two w.heap.size wr p q s1 s2 t1 t2 x0 x1 M l k1 k2 c1 c2 a1 a2 ∧ Below w.heap.size w wr) (fun _ _ i _ => 10 - (intOf i).toNat)
  case atStart => exact ⟨0, 1, 1, 0, 0, e1, e2, b1, b2, M2, l2, by omega, by omega, rfl, rfl, rfl, rfl, by omega, HT.out, hb4⟩
  case round =>
    obtain ⟨j, t1, t2, k1, k2, c1, c2, a1, a2, M, l, hj, hjm, rfl, rfl, rfl, ht, hcl, htw, hb⟩ := hrel
    have HTW := Lib.hid htw
    clear htw HT
    by_cases hlt : j < m2 ∧ j < 10
    · obtain ⟨hlt, hlt10⟩ := hlt
      obtain ⟨b0, o0, rfl, hb0', _⟩ := HR.out.at (i := j) (by rw [List.length_map, ← Hm.out]; exact hlt)
      have ck := (HR.out.below hb).bool (J := j) (by rw [← Hm.out]; exact hlt)
      have hn := HTW.out.new
      cases hv : keep.getD j false
      · rw [hv] at ck
        clear hv
        go_wp2_with fail
        refine (save_on wr HTW.out.two (HR1.out.below hb) hb.size (HR1.out.or hp hq) rfl (by omega) (by omega) (by omega)).mono ?_
        rintro e w5 ⟨a5, c5, M5, rfl, ho5, hk5, hf5, hcl5⟩
        have HT5 := Lib.hid (HTW.out.save2 ho5 hk5 hf5)
        have hb5 := hb.trans (hk5.below hp hq hn.2.2.2 hb.size)
        clear ho5 hk5 hf5
        go_wp2_with fail
        go_roundw
        case rel => exact ⟨j + 1, t1, t2 + 1, k1, 1 - k2, c1, c5, a1, a5, M5, _, by omega, by omega, by go_num, rfl, by go_num, by omega, by omega, HT5.out, hb5⟩
        case measure => simp [intOf]; omega
      · rw [hv] at ck
        clear hv
        go_wp2_with fail
        refine (save_on wr HTW.out.one (HR0.out.below hb) hb.size (HR0.out.or hp hq) rfl (by omega) (by omega) (by omega)).mono ?_
        rintro e w5 ⟨a5, c5, M5, rfl, ho5, hk5, hf5, hcl5⟩
        have HT5 := Lib.hid (HTW.out.save1 ho5 hk5 hf5)
        have hb5 := hb.trans (hk5.below hp hq hn.2.2.1 hb.size)
        clear ho5 hk5 hf5
        go_wp2_with fail
        go_roundw
        case rel => exact ⟨j + 1, t1 + 1, t2, 1 - k1, k2, c5, c2, a5, a2, M5, _, by omega, by omega, by go_num, by go_num, rfl, by omega, by omega, HT5.out, hb5⟩
        case measure => simp [intOf]; omega
    · have hn := HTW.out.new
      have hcase : (decide ((j : Int) < m2) = false ∧ decide (j < m2) = false ∧ m2 ≤ j) ∨ (decide ((j : Int) < m2) = true ∧ decide (j < m2) = true ∧ j < m2 ∧ decide ((j : Int) < 10) = false ∧ ¬ (j : Int) < 10) := by
        by_cases h1 : j < m2
        · exact .inr ⟨decide_eq_true (by omega), decide_eq_true (by omega), h1, decide_eq_false (by omega), by omega⟩
        · exact .inl ⟨decide_eq_false (by omega), decide_eq_false (by omega), by omega⟩
      have hleft := HTW.out.left
      have hright := HTW.out.right
      clear hlt
      rcases hcase with ⟨e1, e3, e4⟩ | ⟨e1, e2, e3, e4, e5⟩
      all_goals (
        go_wp2_with fail
        refine (crash_any [] none 0 0 _ HTW.out.one.dev (Lib.hid rfl) (RdV.nil _ _ _) (Nat.le_refl _) (by decide)).mono ?_
        rintro e w5 ⟨pc, qc, rfl, hdc, hpc, hqc, hb5⟩
        have hclean : Clean (M.crash []) l := HTW.out.one.clean.crash []
        have hbw5 := hb.trans (hb5.mono hb.size)
        obtain ⟨C, hC⟩ : ∃ C, M.crash [] = C := ⟨_, rfl⟩
        rw [hC] at hdc hclean
        have HD5 := Lib.hid hdc
        have HCL := Lib.hid hclean
        have HS1 := Lib.hid HTW.out.one.two
        have HS2 := Lib.hid HTW.out.two.two
        have HL := Lib.hid (hclean.get hleft)
        have HRt := Lib.hid (hclean.get hright)
        clear hdc hclean hC hb5 hleft hright HTW
        go_wp2_with fail
        refine (open_sup (at_ := 1) _ HD5.out HCL.out HS1.out).mono ?_
        rintro e w6 ⟨sx, ax, cx, rfl, hox⟩
        have HD6 := Lib.hid (HD5.out.below' hox.below)
        have HX6 := Lib.hid hox.sup
        have hbw6 := hbw5.trans (hox.below.mono hbw5.size)
        clear hox HD5 hbw5
        go_wp2_with fail
        refine (open_sup (at_ := 3) _ HD6.out HCL.out HS2.out).mono ?_
        rintro e w7 ⟨sy, ay, cy, rfl, hoy⟩
        have HD7 := Lib.hid (HD6.out.below' hoy.below)
        have HX7 := Lib.hid (HX6.out.below' hoy.below)
        have HY7 := Lib.hid hoy.sup
        have hbw7 := hbw6.trans (hoy.below.mono hbw6.size)
        clear hoy HD6 hbw6 HX6 HCL
        go_wp2_with fail
        refine (read_any 0 0 (fs leftB) _ HD7.out rfl HL.out).mono ?_
        rintro e w8 ⟨vl, rfl, hol, hb8⟩
        have HD8 := Lib.hid (HD7.out.below' hb8)
        have HX8 := Lib.hid (HX7.out.below' hb8)
        have HY8 := Lib.hid (HY7.out.below' hb8)
        have hbw8 := hbw7.trans (hb8.mono hbw7.size)
        have hol' : Own w8 w7.heap.size 5 vl leftB := hol
        obtain ⟨al, cl, rfl, hcl1, _, hrl, _⟩ := hol'.form
        have hrl4 : Rd w8 w8.heap.size al [108, 101, 102, 116] := hrl.take 4
        have hcl4 : 64 ≤ cl := hcl1
        have HRL8 := Lib.hid hrl4
        rw [show leftB.length = 64 from rfl]
        clear hol hol' hb8 HD7 HX7 HY7 hbw7 hrl hrl4 hcl1
        go_wp2_with fail
        refine (read_any 5 5 (fs rightB) _ HD8.out rfl HRt.out).mono ?_
        rintro e w9 ⟨vr, rfl, hor, hb9⟩
        have HX9 := Lib.hid (HX8.out.below' hb9)
        have HY9 := Lib.hid (HY8.out.below' hb9)
        have HRL9 := Lib.hid ((HRL8.out.below hb9).more hb9.size)
        have hbw9 := hbw8.trans (hb9.mono hbw8.size)
        have hor' : Own w9 w8.heap.size 5 vr rightB := hor
        obtain ⟨ar, cr, rfl, hcr1, _, hrr, _⟩ := hor'.form
        have hrr5 : Rd w9 w9.heap.size ar [114, 105, 103, 104, 116] := hrr.take 5
        have hcr5 : 64 ≤ cr := hcr1
        have HRR9 := Lib.hid hrr5
        rw [show rightB.length = 64 from rfl]
        clear hor hor' hb9 HD8 HX8 HY8 hbw8 hrr hrr5 hcr1 HRL8
        go_wp2_with fail
        refine wp_region_noPanic (two_region31 a0 _ al ar x0.length cap0 x1.length cap1 t1 t2 sx sy cl cr x0 x1 w9
          (fun w' hb => text_any (HX9.out.below' hb)) (fun w' hb => turn_any (HX9.out.below' hb)) (fun w' hb => text_any (HY9.out.below' hb)) (fun w' hb => turn_any (HY9.out.below' hb))
          (fun w' hb => rd_str (HR0.out.below (hbw9.trans (hb.mono hbw9.size))) rfl) (fun w' hb => rd_str (HR1.out.below (hbw9.trans (hb.mono hbw9.size))) rfl)
          (fun w' hb => rd_str (HRL9.out.below hb) rfl) (fun w' hb => rd_str (HRR9.out.below hb) rfl) (fun w' => ?_) (fun w' => ?_) (fun _ _ _ h => h) ?_)
        · go_simp
          intro hlt4; omega
        · go_simp
          intro hlt5; omega
        intro wz v115 v116 v117 v118 v119 v120 v121 v122 v123 v124 v125 v126 v127 v128 v129 v130 v131 v132 v133 v134 v135 v136 v137 v138 v139 v140 v141 v142 v143 v144 v145 v146 v147 v148 v149 v150 v151 v152 hbz
        refine NoPanic.normal ?_
        go_wp2_with fail
        go_ret
        exact ⟨rfl, hbw9.trans (hbz.mono hbw9.size)⟩)
end Go.Proofs.Ytgkmcbpcbannfaa
