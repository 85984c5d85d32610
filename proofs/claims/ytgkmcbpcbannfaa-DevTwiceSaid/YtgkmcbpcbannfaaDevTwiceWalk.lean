/- The walk of DevTwice: it returns true and writes nothing that was there. -/
import Derived.Test.YtgkmcbpcbannfaaDevBegun
import Derived.Test.YtgkmcbpcbannfaaBoolRow
import Derived.Test.YtgkmcbpcbannfaaDevKeepsWalk
namespace Go.Proofs.Ytgkmcbpcbannfaa
open Go.RowKit Crc
set_option linter.unusedVariables false
set_option maxHeartbeats 4000000
set_option maxRecDepth 100000

/-- What the law's device is like behind k rounds. -/
structure TwAt (M : DevM) (k : Nat) : Prop where
  len : M.secs.length = 16
  calls : M.calls ≤ 2 * k
  lit : M.lit = false
  dead : M.dead = false
theorem TwAt.isDead {M : DevM} {k : Nat} (h : TwAt M k) : M.isDead = false := by unfold DevM.isDead; rw [h.lit, h.dead]; rfl
theorem twAt_new : TwAt (freshM 16) 0 := ⟨rfl, by decide, rfl, rfl⟩
theorem TwAt.one {M : DevM} {k i : Nat} {s : Sec} {b : List Nat} (h : TwAt M k) : TwAt (M.write i s b) (k + 1) :=
  ⟨by show (M.secs.set i _).length = 16; rw [List.length_set, h.len], by show M.calls + 1 ≤ _; have := h.calls; omega, h.lit, h.dead⟩
theorem TwAt.two {M : DevM} {k i : Nat} {s : Sec} {b : List Nat} (h : TwAt M k) : TwAt (M.write i s b).flush (k + 1) :=
  ⟨by show (flushK _ (M.write i s b).burn).secs.length = 16; rw [flushK_len]; show (M.secs.set i _).length = 16; rw [List.length_set, h.len], by show M.calls + 1 + 1 ≤ _; have := h.calls; omega, h.lit, h.dead⟩
theorem crash_twice (M : DevM) (keep keep2 : List Bool) (i : Nat) (h : i < M.secs.length) : ∃ x : List Nat, (M.crash keep).secs[i]? = some ⟨x, x, false⟩ ∧ ((M.crash keep).crash keep2).secs[i]? = some ⟨x, x, false⟩ := by
  refine ⟨crashPick M.secs keep i, crash_get M keep i h, ?_⟩
  rw [crash_get (M.crash keep) keep2 i (by rw [crash_len]; exact h)]
  have e : (M.crash keep).secs.getD i zsec = ⟨crashPick M.secs keep i, crashPick M.secs keep i, false⟩ := by
    rw [List.getD_eq_getElem?_getD, crash_get M keep i h]; rfl
  have e2 : crashPick (M.crash keep).secs keep2 i = crashPick M.secs keep i := by
    conv => lhs; unfold crashPick
    rw [e]
    rfl
  unfold crashSec
  rw [e2]
theorem devTwice_walk (a0 : Option Addr) (len0 cap0 : Nat) (z0 : List Int) (f : Int) (a2 : Option Addr) (m2 c2 : Nat) (keep : List Bool) (a3 : Option Addr) (m3 c3 : Nat) (keep2 : List Bool) (w : World) (w0 : IsRow .i64 w a0 len0 cap0 z0) (w1 : (Lit.int .i64 f).wf = true) (hr : BoolRow w a2 m2 c2 keep) (hr2 : BoolRow w a3 m3 c3 keep2) :
    Calls Try.prog 5 #[.slice a0 len0 cap0, .int .i64 f, .slice a2 m2 c2, .slice a3 m3 c3] w fun e w' => e = .returned (.bool true) ∧ Below w.heap.size w w' := by
  clear w1
  obtain ⟨hl0, hc0, hcells⟩ := isrow_ints w0
  have HCS := Lib.hid hcells
  have Hm := Lib.hid hr.len
  have hmc := hr.cap
  have hcc := hr.most
  have HR := Lib.hid hr.rd
  have Hm2 := Lib.hid hr2.len
  have hmc2 := hr2.cap
  have hcc2 := hr2.most
  have HR2 := Lib.hid hr2.rd
  clear hr hr2 w0 hcells
  go_enter Try.func5, Try.ntmps5
  go_wp2_with fail
  refine (begun17 w).mono ?_
  rintro e w0 ⟨rfl, hb0⟩
  go_wp2_with fail
  refine (new_any 16 16 _ (by omega) (.inr (.inl rfl))).mono ?_
  rintro e w1 ⟨p, q, rfl, hd1, hp, hq, hb1⟩
  replace hp : w.heap.size ≤ p := by have := hb0.size; omega
  replace hq : w.heap.size ≤ q := by have := hb0.size; omega
  replace hb0 := hb0.trans (hb1.mono hb0.size)
  have HD0 := Lib.hid hd1
  clear hd1 hb1
  go_wp2_with fail
  go_loopw [11] (fun i wr => ∃ (k : Nat) (M : DevM), k ≤ len0 ∧ k ≤ 30 ∧ i = .int .i64 k ∧ DevAt wr p q M ∧ TwAt M k ∧ Below w.heap.size w wr) (fun i _ => len0 - (intOf i).toNat)
  case atStart => exact ⟨0, _, Nat.zero_le _, Nat.zero_le _, rfl, HD0.out, twAt_new, hb0⟩
  case round =>
    obtain ⟨k, M, hk, hk30, rfl, hd, ht, hb⟩ := hrel
    have HD := Lib.hid hd
    have HT := Lib.hid ht
    have ltp := hd.ltp
    have ltq := hd.ltq
    have hbase := hb.size
    clear hd ht
    by_cases hlt : k < len0 ∧ k < 30
    · obtain ⟨hlt, hlt30⟩ := hlt
      obtain ⟨b, off, rfl, hbb, hcl⟩ : ∃ b off, a0 = some ⟨b, off, none⟩ ∧ b < w.heap.size ∧ ∀ i, i < len0 → w.cell? ⟨b, off + i, none⟩ = some (.int .i64 (z0.getD i 0)) ∧ -9223372036854775808 ≤ z0.getD i 0 ∧ z0.getD i 0 ≤ 9223372036854775807 := by
        rcases HCS.out with h | h
        · omega
        · exact h
      obtain ⟨hcl, hx0, hx1⟩ := hcl k hlt
      have ck := (hb.cell (p := ⟨b, off + k, none⟩) hbb).trans hcl
      obtain ⟨x, hx⟩ : ∃ x, z0.getD k 0 = x := ⟨_, rfl⟩
      rw [hx] at ck hx0 hx1
      obtain ⟨y, hy⟩ : ∃ y, x.tmod 16 = y := ⟨_, rfl⟩
      have hy0 : -16 < y := by
        rw [← hy]
        have := Int.tmod_lt_of_pos (-x) (show (0 : Int) < 16 by decide)
        rw [Int.neg_tmod] at this
        omega
      have hy1 : y < 16 := by rw [← hy]; exact Int.tmod_lt_of_pos _ (by decide)
      obtain ⟨z, hz⟩ : ∃ z : Nat, (z : Int) = y % 16 := ⟨(y % 16).toNat, by omega⟩
      have hz16 : z < 16 := by omega
      have e1 : (y + 16).tmod 16 = z := by rw [Int.tmod_eq_emod_of_nonneg (by omega)]; omega
      have e2 : y % 16 = z := hz.symm
      obtain ⟨s, hs⟩ : ∃ s, M.secs[z]? = some s := ⟨_, List.getElem?_eq_getElem (by rw [HT.out.len]; exact hz16)⟩
      have HS := Lib.hid hs
      have hroom : M.Room := ⟨by have := HT.out.calls; omega, HT.out.isDead⟩
      have HRo := Lib.hid hroom
      clear hs hroom hx hcl hz
      go_wp2_with fail
      refine (write_any _ z s [k + 1] _ 1 1 (wr.heap.size + 1) _ (HD.out.alloc _) (by omega) HS.out HRo.out (Lib.hid rfl) (Rd.lit wr [k + 1] (fun b hb => by simp at hb; omega) #[.int .u8 ((k : Int) + 1)] rfl 5 (0, 0)) (by simp) (fun x hx => by cases hx; exact ⟨by simp; omega, by simp; omega⟩) (by omega)).mono ?_
      rintro e w3 ⟨rfl, hd3, hk3⟩
      have HD3 := Lib.hid hd3
      have hb3 := below_kept (hb.alloc hb.size _) hk3 hp hq (hb.alloc hb.size _).size
      clear hd3 hk3 ck
      by_cases hf : (k : Int) = f
      · have d1 : ((k : Int) == f) = true := beq_iff_eq.2 hf
        have hroom2 : (M.write z s [k + 1]).Room := ⟨by show M.calls + 1 < 1000000000; have := HT.out.calls; omega, by unfold DevM.isDead; show (M.dead || (M.lit && _)) = false; rw [HT.out.dead, HT.out.lit]; rfl⟩
        have HRo2 := Lib.hid hroom2
        clear hf hroom2
        go_wp2_with fail
        refine (flush_any _ HD3.out HRo2.out).mono ?_
        rintro e w4 ⟨rfl, hd4, hk4⟩
        have HD4 := Lib.hid hd4
        have HT4 := Lib.hid (HT.out.two (i := z) (s := s) (b := [k + 1]))
        have hb4 := below_kept hb3 hk4 hp hq hb3.size
        clear hd4 hk4
        go_wp2_with fail
        go_roundw
        case rel => exact ⟨k + 1, _, by omega, by omega, by go_num, HD4.out, HT4.out, hb4⟩
        case measure => simp [intOf]; omega
      · have d1 : ((k : Int) == f) = false := beq_eq_false_iff_ne.2 hf
        have HT4 := Lib.hid (HT.out.one (i := z) (s := s) (b := [k + 1]))
        clear hf
        go_wp2_with fail
        go_roundw
        case rel => exact ⟨k + 1, _, by omega, by omega, by go_num, HD3.out, HT4.out, hb3⟩
        case measure => simp [intOf]; omega
    · have hstop : (decide ((k : Int) < len0) && decide ((k : Int) < 30)) = false := by
        rw [Bool.and_eq_false_iff, decide_eq_false_iff_not, decide_eq_false_iff_not]; omega
      have after : ∀ (_ : True), True := fun _ => trivial
      have HRb := Lib.hid (HR.out.below hb)
      have HRb2 := Lib.hid (HR2.out.below hb)
      have hlen := HT.out.len
      have HL := Lib.hid hlen
      have hcase : (decide ((k : Int) < len0) = false ∧ decide (k < len0) = false ∧ len0 ≤ k) ∨ (decide ((k : Int) < len0) = true ∧ decide (k < len0) = true ∧ k < len0 ∧ decide ((k : Int) < 30) = false ∧ 30 ≤ k) := by
        by_cases h1 : k < len0
        · exact .inr ⟨decide_eq_true (by omega), decide_eq_true (by omega), h1, decide_eq_false (by omega), by omega⟩
        · exact .inl ⟨decide_eq_false (by omega), decide_eq_false (by omega), by omega⟩
      clear hlen hstop after hlt
      rcases hcase with ⟨d1, d3, d4⟩ | ⟨d1, d2, d3, d4, d5⟩
      all_goals (
        go_wp2_with fail
        refine (crash_any keep a2 m2 c2 _ HD.out Hm (HRb.out.more hb.size) hmc hcc).mono ?_
        rintro e w4 ⟨pc, qc, rfl, hdc, hpc, hqc, hb4⟩
        have HC4 := Lib.hid hdc
        have hb5 := hb.trans (hb4.mono hb.size)
        clear hdc hb4 HRb HRb2
        go_wp2_with fail
        refine (crash_any keep2 a3 m3 c3 _ HC4.out Hm2 ((HR2.out.below hb5).more hb5.size) hmc2 hcc2).mono ?_
        rintro e w5 ⟨pd, qd, rfl, hdd, hpd, hqd, hb6⟩
        have HC5 := Lib.hid (HC4.out.below' hb6)
        have HX5 := Lib.hid hdd
        have hb7 := hb5.trans (hb6.mono hb5.size)
        clear hdd hb6 HC4
        obtain ⟨C, hC⟩ : ∃ C, M.crash keep = C := ⟨_, rfl⟩
        obtain ⟨X, hX⟩ : ∃ X, (M.crash keep).crash keep2 = X := ⟨_, rfl⟩
        have htw : ∀ i, i < 16 → ∃ x : List Nat, C.secs[i]? = some ⟨x, x, false⟩ ∧ X.secs[i]? = some ⟨x, x, false⟩ := fun i hi => by
          obtain ⟨x, h1, h2⟩ := crash_twice M keep keep2 i (by rw [HL.out]; exact hi)
          rw [hC] at h1; rw [hX] at h2
          exact ⟨x, h1, h2⟩
        have hxl : looseIdx X.secs = [] := by rw [← hX]; exact crash_loose _ _
        have hxc : X.calls = 0 := by rw [← hX]; rfl
        have hxd : X.isDead = false := by rw [← hX]; rfl
        rw [hC] at HC5
        rw [hX] at HX5
        have HTW := Lib.hid htw
        have HXL := Lib.hid hxl
        have HXC := Lib.hid hxc
        have HXD := Lib.hid hxd
        clear htw hxl hxc hxd hC hX HL
        go_wp2_with fail
        go_loopw [14] (fun i wr => ∃ j : Nat, j ≤ 16 ∧ i = .int .i64 j ∧ DevAt wr pc qc C ∧ DevAt wr pd qd X ∧ Below w.heap.size w wr) (fun i _ => 16 - (intOf i).toNat)
        case atStart => exact ⟨0, Nat.zero_le _, rfl, HC5.out, HX5.out, hb7⟩
        case round =>
          obtain ⟨j, hj, rfl, hcj, hxj, hbj⟩ := hrel
          have HCJ := Lib.hid hcj
          have HXJ := Lib.hid hxj
          clear hcj hxj
          by_cases hlt2 : j < 16
          · obtain ⟨x, hx1, hx2⟩ := HTW.out j hlt2
            have H1 := Lib.hid hx1
            have H2 := Lib.hid hx2
            clear hx1 hx2
            go_wp2_with fail
            refine (read_any _ j ⟨x, x, false⟩ _ HCJ.out rfl H1.out).mono ?_
            rintro e w8 ⟨v8, rfl, hown8, hb8⟩
            obtain ⟨a8, c8, rfl, _, _, hr8, _⟩ := hown8.form
            have HC8 := Lib.hid (HCJ.out.below' hb8)
            have HX8 := Lib.hid (HXJ.out.below' hb8)
            have hb9 := hbj.trans (hb8.mono hbj.size)
            have HR8 := Lib.hid hr8
            clear hb8 hown8 hr8
            go_wp2_with fail
            refine (read_any _ j ⟨x, x, false⟩ _ HX8.out rfl H2.out).mono ?_
            rintro e w9 ⟨v9, rfl, hown9, hb10⟩
            obtain ⟨a9, c9, rfl, _, _, hr9, _⟩ := hown9.form
            have HC9 := Lib.hid (HC8.out.below' hb10)
            have HX9 := Lib.hid (HX8.out.below' hb10)
            have hb11 := hb9.trans (hb10.mono hb9.size)
            have s1 := run_str (P := Try.prog) (HR8.out.below hb10) x.length c8 rfl 22 5 9 Try.underlying22 Try.underlying5 Try.underlying9
            have s2 := run_str (P := Try.prog) hr9 x.length c9 rfl 22 5 9 Try.underlying22 Try.underlying5 Try.underlying9
            clear hb10 hown9 hr9
            go_wp2_with fail
            go_roundw
            case rel => exact ⟨j + 1, by omega, by go_num, HC9.out, HX9.out, hb11⟩
            case measure => simp [intOf]; omega
          · have : j = 16 := by omega
            subst this
            go_wp2_with fail
            refine (calls_any _ HXJ.out).mono ?_
            rintro e w8 ⟨rfl, rfl⟩
            rw [HXC.out]
            go_wp2_with fail
            refine (dead_T _ HXJ.out false HXD).mono ?_
            rintro e w8 ⟨rfl, rfl⟩
            go_wp2_with fail
            refine (loose_any _ HXJ.out).mono ?_
            rintro e w8 ⟨v8, rfl, hown8, hb8⟩
            rw [HXL.out] at hown8
            obtain ⟨a8, c8, rfl, _, _, _, _⟩ := hown8.form
            have hb9 := hbj.trans (hb8.mono hbj.size)
            clear hown8 hb8
            rw [show (ints []).length = 0 from rfl]
            go_wp2_with fail
            go_ret
            exact ⟨rfl, hb9⟩)
end Go.Proofs.Ytgkmcbpcbannfaa
