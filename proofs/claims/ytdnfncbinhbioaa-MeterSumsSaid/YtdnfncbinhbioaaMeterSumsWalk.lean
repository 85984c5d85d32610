/- The walk of MeterSums: it returns true and writes nothing that was there. Conditions: the slices read as rows of ints. -/
import Derived.Test.YtdnfncbinhbioaaMeterSumsReg
import Derived.Deep.QuietTactic
import Derived.BigQuiet
import Derived.StillTailTactics
import Derived.Deep.RegionHeld3
import Derived.Deep.AppendLies
namespace Go.Proofs.Ytdnfncbinhbioaa
open Go.RowKit
set_option linter.unusedVariables false
attribute [local irreducible] floatOfInt

/-- All parts lie below 2^30. -/
def Parts (zs : List (Int × Int)) : Prop := ∀ p ∈ zs, (-1073741824 < p.1 ∧ p.1 < 1073741824) ∧ (-1073741824 < p.2 ∧ p.2 < 1073741824)
theorem parts_nil : Parts [] := fun p hp => by cases hp
theorem parts_snoc {zs : List (Int × Int)} (h : Parts zs) {a b : Int} (h1 : -1073741824 < a) (h2 : a < 1073741824) (h3 : -1073741824 < b) (h4 : b < 1073741824) : Parts (zs ++ [(a, b)]) := by
  intro p hp
  rcases List.mem_append.1 hp with hp | hp
  · exact h p hp
  · rw [List.mem_singleton.1 hp]; exact ⟨⟨h1, h2⟩, h3, h4⟩
theorem parts_sum : ∀ {zs : List (Int × Int)}, Parts zs → (-(1073741824 * (zs.length : Int)) ≤ s1 zs ∧ s1 zs ≤ 1073741824 * (zs.length : Int)) ∧ (-(1073741824 * (zs.length : Int)) ≤ s2 zs ∧ s2 zs ≤ 1073741824 * (zs.length : Int))
  | [], _ => by simp [s1, s2]
  | p :: zs, h => by
    obtain ⟨⟨h1, h2⟩, h3, h4⟩ := parts_sum (zs := zs) fun q hq => h q (List.mem_cons_of_mem _ hq)
    obtain ⟨⟨g1, g2⟩, g3, g4⟩ := h p (List.mem_cons_self ..)
    have e1 : s1 (p :: zs) = p.1 + s1 zs := by simp [s1]
    have e2 : s2 (p :: zs) = p.2 + s2 zs := by simp [s2]
    rw [e1, e2, List.length_cons]
    have e3 : ((zs.length + 1 : Nat) : Int) = zs.length + 1 := by omega
    rw [e3]
    omega
theorem parts_small {zs : List (Int × Int)} (h : Parts zs) (hl : zs.length ≤ 40) : Small zs := by
  intro j
  have hp : Parts (zs.take j) := fun p hp => h p (List.mem_of_mem_take hp)
  obtain ⟨⟨h1, h2⟩, h3, h4⟩ := parts_sum hp
  have : (zs.take j).length ≤ 40 := by rw [List.length_take]; omega
  have e : (2 : Nat) ^ 53 = 9007199254740992 := by decide
  rw [e]
  omega
theorem parts_cxs {zs : List (Int × Int)} (h : Parts zs) : Cxs (zs.map cxv) zs := by
  refine cxs_map fun p hp => ?_
  obtain ⟨⟨h1, h2⟩, h3, h4⟩ := h p hp
  have e : (2 : Nat) ^ 53 = 9007199254740992 := by decide
  rw [e]
  omega

theorem Try.infoC : (Try.prog.info? 26).map (fun i => (i.zero, i.size, i.bytes)) = some (some (.complex .f64 0 0), 1, 16) := by kernel_rfl

theorem step_appV {P : Program} (w : World) {ops : Array Oper} {o : Oper} {a : Act} {K : Act → World → Prop} {Q : Exit → Act → World → Prop} {E : Prop} (hgd : o.guard = none) (s x : Operand) (t : TypeId)
    (ho : o.op = .call { callee := .builtin .append, args := #[s, x], argTypes := #[t, t] })
    (base : Nat) (e : TypeId) (i : TypeInfo) (z : Value) (by_ : Nat) (ht : P.underlying t = some (.slice e)) (hi : P.info? e = some i) (hz : i.zero = some z) (hzs : z.cells.size = 1) (hs : i.size = 1) (hby : i.bytes = by_)
    (v : Value) (l : List Value) (hsv : a.eval s = v) (hown : OwnV w base e v l) (B : Nat) (A : Option Addr) (m : List Value) (n c : Nat) (hn : n = m.length) (hx : a.eval x = .slice A n c) (hr : RdV w B A m)
    (r : List Value) (hlm : l ++ m = r) (hlen : r.length ≤ maxLen) (hbytes : r.length * by_ ≤ 140737488355328) (hbase : base ≤ w.heap.size)
    (h : ∀ v' w', OwnV w' base e v' r → Below base w w' → w.grownBy w' v.ownBlock → (v'.ownBlock = v.ownBlock ∨ v'.ownBlock = some w.heap.size) → K (a.put o.dst v') w') :
    if Region.wanted o (yielded ops a.tmps) = true then Oper.wp P o a w K Q else E := by
  have hw : Region.wanted o (yielded ops a.tmps) = true := by simp [Region.wanted, hgd]
  rw [if_pos hw]
  subst hn
  subst hlm
  rw [List.length_append] at hbytes hlen
  obtain ⟨v', w', hrun, h2, h3, h4⟩ := run_appV (P := P) w base t o.type e i z by_ ht hi hz hzs hs hby v l hown B A m c hr hlen hbytes hbase
  unfold Oper.wp execOp
  simp only [ho, resolve, invoke, builtin, Sem.run_bind, Sem.run_pure, Result.andThen_ok, List.map_toArray, List.map_cons, List.map_nil, hsv, hx, hrun]
  exact h v' w' h2 ((Below.refl _ _).grown h3 hbase fun k hk => (hown.1.lt k hk).1) h3 h4

theorem s1_rev (zs : List (Int × Int)) : s1 zs.reverse = s1 zs := by simp [s1, List.map_reverse, List.sum_reverse]
theorem s2_rev (zs : List (Int × Int)) : s2 zs.reverse = s2 zs := by simp [s2, List.map_reverse, List.sum_reverse]
theorem parts_rev {zs : List (Int × Int)} (h : Parts zs) : Parts zs.reverse := fun p hp => h p (List.mem_reverse.1 hp)
theorem parts_take {zs : List (Int × Int)} (h : Parts zs) (n : Nat) : Parts (zs.take n) := fun p hp => h p (List.mem_of_mem_take hp)
theorem parts_drop {zs : List (Int × Int)} (h : Parts zs) (n : Nat) : Parts (zs.drop n) := fun p hp => h p (List.mem_of_mem_drop hp)

theorem addW_all {vs : List Value} {zs : List (Int × Int)} (c : Cxs vs zs) (s : Small zs) : Fl (addW vs).1 (s1 zs) ∧ Fl (addW vs).2 (s2 zs) := by
  have h := addW_fl c s vs.length (Nat.le_refl _)
  rwa [List.take_length, List.take_of_length_le (by rw [c.1]; exact Nat.le_refl _)] at h

theorem add_nil (w : World) : Calls Try.prog 13 #[.slice none 0 0] w fun e w' => e = .returned (.complex .f64 0 0) ∧ w = w' :=
  add_det none [] [] 0 0 w 0 rfl (by decide) (RdV.nil _ _ _) ⟨rfl, fun i hi => absurd hi (by simp)⟩ (fun j => by rw [List.take_nil]; exact ⟨by decide, by decide⟩)

/-- The sums of both parts, as a row of two. -/
def two (vs : List Value) (p : Nat) : List Value := [.complex .f64 (addW (vs.take p)).1 (addW (vs.take p)).2, .complex .f64 (addW (vs.drop p)).1 (addW (vs.drop p)).2]
def zwo (zs : List (Int × Int)) (p : Nat) : List (Int × Int) := [(s1 (zs.take p), s2 (zs.take p)), (s1 (zs.drop p), s2 (zs.drop p))]
theorem zwo_s1 (zs : List (Int × Int)) (p : Nat) : s1 (zwo zs p) = s1 zs := by
  have h := s1_snoc (zs.take p) (zs.drop p)
  rw [List.take_append_drop] at h
  rw [h]; simp [zwo, s1]
theorem zwo_s2 (zs : List (Int × Int)) (p : Nat) : s2 (zwo zs p) = s2 zs := by
  have h := s2_snoc (zs.take p) (zs.drop p)
  rw [List.take_append_drop] at h
  rw [h]; simp [zwo, s2]
theorem two_facts {zs : List (Int × Int)} (h : Parts zs) (hl : zs.length ≤ 30) {vs : List Value} (hv : vs = zs.map cxv) (p : Nat) :
    (Cxs (vs.take p) (zs.take p) ∧ Small (zs.take p)) ∧ (Cxs (vs.drop p) (zs.drop p) ∧ Small (zs.drop p)) ∧ Cxs (two vs p) (zwo zs p) ∧ Small (zwo zs p) ∧ One1 (two vs p) := by
  have et : (zs.take p).map cxv = vs.take p := by rw [hv]; simp
  have ed : (zs.drop p).map cxv = vs.drop p := by rw [hv]; simp
  have ct := parts_cxs (parts_take h p)
  have cd := parts_cxs (parts_drop h p)
  rw [et] at ct
  rw [ed] at cd
  have st := parts_small (parts_take h p) (by rw [List.length_take]; omega)
  have sd := parts_small (parts_drop h p) (by rw [List.length_drop]; omega)
  obtain ⟨f1, f2⟩ := addW_all ct st
  obtain ⟨f3, f4⟩ := addW_all cd sd
  obtain ⟨⟨g1, g2⟩, g3, g4⟩ := parts_sum (parts_take h p)
  obtain ⟨⟨k1, k2⟩, k3, k4⟩ := parts_sum (parts_drop h p)
  have l1 : (zs.take p).length ≤ 30 := by rw [List.length_take]; omega
  have l2 : (zs.drop p).length ≤ 30 := by rw [List.length_drop]; omega
  refine ⟨⟨ct, st⟩, ⟨cd, sd⟩, ⟨rfl, fun i hi => ?_⟩, fun j => ?_, fun u hu => ?_⟩
  · have : i = 0 ∨ i = 1 := by simp only [zwo, List.length_cons, List.length_nil] at hi; omega
    rcases this with rfl | rfl
    · exact ⟨_, _, rfl, f1, f2⟩
    · exact ⟨_, _, rfl, f3, f4⟩
  · have e : (2 : Nat) ^ 53 = 9007199254740992 := by decide
    rw [e]
    have : j = 0 ∨ j = 1 ∨ 2 ≤ j := by omega
    rcases this with rfl | rfl | hj
    · rw [List.take_zero]; exact ⟨by decide, by decide⟩
    · simp only [zwo, List.take_succ_cons, List.take_zero, s1_one, s2_one]
      omega
    · rw [List.take_of_length_le (by simpa [zwo] using hj)]
      simp only [zwo, s1, s2, List.map_cons, List.map_nil, List.sum_cons, List.sum_nil] at *
      omega
  · simp only [two, List.mem_cons, List.not_mem_nil, or_false] at hu
    rcases hu with rfl | rfl <;> rfl

/-- Where a row that is cut from l on begins. -/
def cutA (a : Option Addr) (cap l : Nat) : Option Addr := if cap = l then a else a.map (·.add l)
theorem run_cut_to {P : Program} (t e : TypeId) (i : TypeInfo) (ht : P.underlying t = some (.slice e)) (hi : P.info? e = some i) (a : Option Addr) (len cap h : Nat) (hh : h ≤ cap) (w : World) :
    (Instr.slice t (.slice a len cap) none (some (.int .i64 (h : Int))) none).run P w = .ok (.slice a h cap) w := by
  have h1 : (0 : Int) ≤ (h : Int) ∧ (h : Int) ≤ (cap : Int) := by omega
  have e1 : a.map (fun x => x.add 0) = a := by cases a <;> simp [Addr.add]
  simp [Instr.slice, run_underlying ht, Instr.sliceBounds, Instr.sliceBound, asIntOf, h1, sizeOf, typeInfo, hi, e1]
  intro h; omega
theorem run_cut_from {P : Program} (t e : TypeId) (i : TypeInfo) (ht : P.underlying t = some (.slice e)) (hi : P.info? e = some i) (hs : i.size = 1) (a : Option Addr) (len cap l : Nat) (hl : l ≤ len) (w : World) :
    (Instr.slice t (.slice a len cap) (some (.int .i64 (l : Int))) none none).run P w = .ok (.slice (cutA a cap l) (len - l) (cap - l)) w := by
  have h1 : (0 : Int) ≤ (l : Int) ∧ (l : Int) ≤ (len : Int) := by omega
  simp [Instr.slice, run_underlying ht, Instr.sliceBounds, Instr.sliceBound, asIntOf, h1, sizeOf, typeInfo, hi, hs, cutA]
  intro h; omega
theorem RdV.cutFrom {w : World} {B : Nat} {a : Option Addr} {vs : List Value} (h : RdV w B a vs) {cap l : Nat} (hc : vs.length ≤ cap) (hl : l ≤ vs.length) : RdV w B (cutA a cap l) (vs.drop l) := by
  unfold cutA
  split
  · have : vs.drop l = [] := List.drop_eq_nil_of_le (by omega)
    rw [this]; exact RdV.nil _ _ _
  · rcases a with _ | ⟨b, off, sp⟩
    · rcases h.2 with h0 | ⟨_, _, e, _⟩
      · rw [h0, List.drop_nil]; exact RdV.nil _ _ _
      · cases e
    · rcases h.2 with h0 | ⟨b', off', e, _⟩
      · rw [h0, List.drop_nil]; exact RdV.nil _ _ _
      · injection e with e
        injection e with e1 e2 e3
        subst e1 e2 e3
        have := h.drop l
        by_cases hz : l = 0
        · subst hz; simpa [Addr.add] using this
        · simpa [Addr.add, hz] using this

set_option maxRecDepth 100000 in
set_option maxHeartbeats 2000000 in
theorem meterSums_walk (a0 : Option Addr) (len0 cap0 : Nat) (z0 : List Int) (a1 : Option Addr) (len1 cap1 : Nat) (z1 : List Int) (at_ : Int) (w : World) (w0 : IsRow .i64 w a0 len0 cap0 z0) (w1 : IsRow .i64 w a1 len1 cap1 z1) (w2 : (Lit.int .i64 at_).wf = true) :
    Calls Try.prog 6 #[.slice a0 len0 cap0, .slice a1 len1 cap1, .int .i64 at_] w fun e w' => e = .returned (.bool true) ∧ Below w.heap.size w w' := by
  obtain ⟨l, rfl, hl1, hl2, _, hr⟩ := isrow_list w0
  obtain ⟨m, rfl, hm1, hm2, _, hq⟩ := isrow_list w1
  clear w0 w1 w2
  obtain ⟨i0, hi, hz0, hz1, hz2⟩ := info_parts Try.infoC
  go_enter Try.func6, Try.ntmps6
  go_wp2_with fail
  refine (begun_any w).mono ?_
  rintro e w1 ⟨rfl, hb1⟩
  go_wp2_with fail
  go_loopw [8, 10] (fun cs i wr => ∃ (j : Nat) (zs : List (Int × Int)), j ≤ 30 ∧ j ≤ l.length ∧ zs.length = j ∧ i = .int .i64 j ∧ Parts zs ∧ OwnV wr w.heap.size 26 cs (zs.map cxv) ∧ Below w.heap.size w wr) (fun _ i _ => l.length - (intOf i).toNat)
  case atStart => exact ⟨0, [], by omega, by omega, rfl, rfl, parts_nil, OwnV.nil _ _ _, hb1⟩
  case round =>
    obtain ⟨j, zs, hj30, hjl, hzl, rfl, hP, hown, hbw⟩ := hrel
    have Hzl := Lib.hid hzl; clear hzl
    by_cases hgo : j < l.length ∧ j < m.length ∧ j < 30
    · obtain ⟨g1, g2, g3⟩ := hgo
      have d1 : decide (j < l.length) = true := decide_eq_true g1
      have d2 : decide (j < m.length) = true := decide_eq_true g2
      have d3 : decide ((j : Int) < 30) = true := decide_eq_true (by omega)
      obtain ⟨bb, off, rfl, hbb, hcell⟩ := (hr.below hbw).at (i := j) (by simpa using g1)
      obtain ⟨bb', off', rfl, hbb', hcell'⟩ := (hq.below hbw).at (i := j) (by simpa using g2)
      obtain ⟨n, hn⟩ : ∃ n, n = l.getD j 0 := ⟨_, rfl⟩
      obtain ⟨n', hn'⟩ : ∃ n, n = m.getD j 0 := ⟨_, rfl⟩
      have hc : wr.cell? ⟨bb, off + j, none⟩ = some (.int .i64 n) := by
        rw [hcell, hn]; simp [List.getElem?_eq_getElem g1]
      have hc' : wr.cell? ⟨bb', off' + j, none⟩ = some (.int .i64 n') := by
        rw [hcell', hn']; simp [List.getElem?_eq_getElem g2]
      clear hcell hcell' hn hn'
      have n1 := Int.lt_tmod_of_pos n (show (0:Int) < 1073741824 by decide)
      have n2 := Int.tmod_lt_of_pos n (show (0:Int) < 1073741824 by decide)
      have n3 := Int.lt_tmod_of_pos n' (show (0:Int) < 1073741824 by decide)
      have n4 := Int.tmod_lt_of_pos n' (show (0:Int) < 1073741824 by decide)
      have hsn : zs.map cxv ++ [cxv (n.tmod 1073741824, n'.tmod 1073741824)] = (zs ++ [(n.tmod 1073741824, n'.tmod 1073741824)]).map cxv := by simp
      have hlen : ((zs ++ [(n.tmod 1073741824, n'.tmod 1073741824)]).map cxv).length ≤ 41 := by
        rw [List.length_map, List.length_append, Hzl.out]; simp; omega
      have Hsn := Lib.hid hsn; clear hsn
      have one : One1 [cxv (n.tmod 1073741824, n'.tmod 1073741824)] := one1_cxv [(n.tmod 1073741824, n'.tmod 1073741824)]
      have hP' := parts_snoc hP n1 n2 n3 n4
      have hB := hbw.size
      clear hq hr
      go_wp2_with fail
      go_region_held3 (fun w' => w'.cell? ⟨bb, off + j, none⟩ = some (.int .i64 n) ∧ w'.cell? ⟨bb', off' + j, none⟩ = some (.int .i64 n'))
        (first
          | exact ⟨hc, hc'⟩
          | (simp [*, World.cell?_alloc_some]; done)
          | exact ⟨(hb4.cell (p := ⟨bb, off + j, none⟩) hbb).trans (by simp [*]), (hb4.cell (p := ⟨bb', off' + j, none⟩) hbb').trans (by simp [*])⟩)
        (first
          | (go_at_call 9; refine (part_any _ _).mono ?_; rintro e wx ⟨rfl, rfl⟩)
          | (go_at_call 10; refine (of_any _ _ _).mono ?_; rintro e wx ⟨rfl, rfl⟩)
          | (refine step_appV _ rfl (.tmp 31) (.tmp 43) _ rfl w.heap.size 26 i0 _ 16 Try.underlying24 hi hz0 rfl hz1 hz2 _ _ rfl (hown.alloc _) _ _ [cxv (n.tmod 1073741824, n'.tmod 1073741824)] 1 1 rfl rfl (RdV.lit wr _ one _ rfl _ _) _ Hsn.out (by unfold maxLen; omega) (by omega) (by simp; omega) ?_; intro v4 w4 hown4 hb4 hg4 hat4))
      go_wp2_with fail
      go_roundw
      case rel =>
        exact ⟨j + 1, zs ++ [(n.tmod 1073741824, n'.tmod 1073741824)], by omega, by omega, by simp [Hzl.out], by go_num, hP', hown4, (below_drewN (hbw.alloc hB _) 1).trans hb4⟩
      case measure => simp [intOf]; omega
    · have hend : ((decide (j < l.length) = false) ∨ (decide (j < l.length) = true ∧ decide (j < m.length) = false)) ∨ (decide (j < l.length) = true ∧ decide (j < m.length) = true ∧ decide ((j : Int) < 30) = false) := by
        by_cases g1 : j < l.length
        · by_cases g2 : j < m.length
          · exact .inr ⟨decide_eq_true g1, decide_eq_true g2, decide_eq_false (by omega)⟩
          · exact .inl (.inr ⟨decide_eq_true g1, decide_eq_false g2⟩)
        · exact .inl (.inl (decide_eq_false g1))
      obtain ⟨wo, rfl⟩ : ∃ wo : World, wo = wr := ⟨_, rfl⟩
      obtain ⟨vs, hvs⟩ : ∃ vs, vs = zs.map cxv := ⟨_, rfl⟩
      rw [← hvs] at hown
      obtain ⟨vA, vc, rfl, hvc, hvm, hrz, _⟩ := hown.form
      have hvl : vs.length = j := by rw [hvs, List.length_map, Hzl.out]
      have hll : vs.length ≤ 30 := by omega
      have Hvs := Lib.hid hvs; clear hvs
      have Hvl := Lib.hid hvl; clear hvl
      clear hown hgo hr hq
      rcases hend with (d1 | ⟨d1, d2⟩) | ⟨d1, d2, d3⟩
      all_goals
        go_wp2_with fail
        go_loopw [9, 11] (fun ms i w3 => ∃ I : Int, -1 ≤ I ∧ I < vs.length ∧ i = .int .i64 I ∧ OwnV w3 wo.heap.size 26 ms ((zs.drop (I + 1).toNat).reverse.map cxv) ∧ Below wo.heap.size wo w3) (fun _ i _ => (intOf i + 1).toNat)
        case atStart =>
          refine ⟨_, ?_, ?_, rfl, ?_, Below.refl _ _⟩
          · omega
          · omega
          · have e : ((vs.length : Int) - 1 + 1).toNat = zs.length := by rw [Hzl.out, ← Hvl.out]; omega
            rw [e, List.drop_length]
            exact OwnV.nil _ _ _
        case round =>
          obtain ⟨I, hI1, hI2, rfl, hownm, hbm⟩ := hrel
          by_cases h0 : 0 ≤ I
          · obtain ⟨p, rfl⟩ := Int.eq_ofNat_of_zero_le h0
            have hp : p < vs.length := by omega
            obtain ⟨bb, off, rfl, hbb, hcell⟩ := (hrz.below hbm).at (i := p) hp
            have hpz : p < zs.length := by rw [Hzl.out, ← Hvl.out]; exact hp
            obtain ⟨q, hq⟩ : ∃ q, q = zs[p] := ⟨_, rfl⟩
            have hc : wr.cell? ⟨bb, off + p, none⟩ = some (.complex .f64 (floatOfInt .f64 q.1) (floatOfInt .f64 q.2)) := by
              rw [hcell, Hvs.out, hq]; simp [List.getElem?_eq_getElem hpz, cxv]
            have hsn : (zs.drop (p + 1)).reverse.map cxv ++ [cxv q] = (zs.drop p).reverse.map cxv := by
              rw [List.drop_eq_getElem_cons hpz, List.reverse_cons, List.map_append, hq]; rfl
            have e1 : ((p : Int) + 1).toNat = p + 1 := by omega
            rw [e1] at hownm
            have hlen : ((zs.drop p).reverse.map cxv).length ≤ 41 := by
              rw [List.length_map, List.length_reverse, List.length_drop, Hzl.out, ← Hvl.out]; omega
            have Hsn := Lib.hid hsn
            have one : One1 [cxv q] := one1_cxv [q]
            clear hcell hq e1 hsn
            go_wp2_with (first
              | (at_builtin; refine wpList_appV _ rfl (.tmp 52) (.tmp 57) _ rfl wo.heap.size 26 i0 _ 16 Try.underlying24 hi hz0 rfl hz1 hz2 _ _ rfl (hownm.alloc _) _ _ [cxv q] 1 1 rfl rfl (RdV.lit wr _ one _ rfl _ _) _ Hsn.out (by unfold maxLen; omega) (by omega) (by have := hbm.size; simp; omega) ?_; intro v4 w4 hown4 hb4 hg4 hat4)
              | fail)
            go_roundw
            case rel =>
              refine ⟨(p : Int) - 1, by omega, by omega, rfl, ?_, (hbm.alloc hbm.size _).trans hb4⟩
              have e2 : ((p : Int) - 1 + 1).toNat = p := by omega
              rw [e2]
              exact hown4
            case measure => simp [intOf]
          · have hI0 : (I + 1).toNat = 0 := by omega
            rw [hI0, List.drop_zero] at hownm
            obtain ⟨ms, hms⟩ : ∃ ms, ms = zs.reverse.map cxv := ⟨_, rfl⟩
            rw [← hms] at hownm
            obtain ⟨mA, mc, rfl, hmc, hmm, hrm, _⟩ := hownm.form
            have hrl := hrz.below hbm
            have hml : ms.length = vs.length := by rw [hms, Hvs.out]; simp
            have c1 := parts_cxs hP
            rw [← Hvs.out] at c1
            have c2 := parts_cxs (parts_rev hP)
            rw [← hms] at c2
            have sm1 := parts_small hP (by rw [Hzl.out, ← Hvl.out]; omega)
            have sm2 := parts_small (parts_rev hP) (by rw [List.length_reverse, Hzl.out, ← Hvl.out]; omega)
            have f1 := addW_fl c1 sm1 vs.length (Nat.le_refl _)
            have f2 := addW_fl c2 sm2 ms.length (Nat.le_refl _)
            rw [List.take_length, List.take_of_length_le (by rw [Hzl.out, ← Hvl.out]; omega)] at f1
            rw [List.take_length, List.take_of_length_le (by rw [List.length_reverse, Hzl.out, ← Hvl.out, hml]; omega), s1_rev, s2_rev] at f2
            have o1 := order_yes f1.1 f2.1 rfl
            have o2 := order_yes f1.2 f2.2 rfl
            have hmlb : ms.length ≤ 30 := by omega
            have hbW := hbw.trans (hbm.mono hbw.size)
            clear hml hownm hms hI0
            by_cases hneg : at_ < 0
            · have dn : decide (at_ < 0) = true := decide_eq_true hneg
              go_wp2_with fail
              (with_reducible refine (add_det vA vs zs _ vc wr _ (hidr _) (by omega) hrl c1 sm1).mono ?_)
              rintro e w5 ⟨rfl, rfl⟩
              go_wp2_with fail
              (with_reducible refine (add_det mA ms zs.reverse _ mc wr _ (hidr _) (by omega) hrm c2 sm2).mono ?_)
              rintro e w5 ⟨rfl, rfl⟩
              go_wp2_with fail
              go_ret
              exact ⟨rfl, hbW⟩
            · have dn : decide (at_ < 0) = false := decide_eq_false hneg
              by_cases hbig : (vs.length : Int) < at_
              · have db : decide ((vs.length : Int) < at_) = true := decide_eq_true hbig
                go_wp2_with fail
                (with_reducible refine (add_det vA vs zs _ vc wr _ (hidr _) (by omega) hrl c1 sm1).mono ?_)
                rintro e w5 ⟨rfl, rfl⟩
                go_wp2_with fail
                (with_reducible refine (add_det mA ms zs.reverse _ mc wr _ (hidr _) (by omega) hrm c2 sm2).mono ?_)
                rintro e w5 ⟨rfl, rfl⟩
                go_wp2_with fail
                go_ret
                exact ⟨rfl, hbW⟩
              · have db : decide ((vs.length : Int) < at_) = false := decide_eq_false hbig
                obtain ⟨p, rfl⟩ := Int.eq_ofNat_of_zero_le (show 0 ≤ at_ by omega)
                have hp1 : p ≤ vs.length := by omega
                have hp2 : p ≤ vc := by omega
                clear hneg hbig
                obtain ⟨⟨ct, st⟩, ⟨cd, sd⟩, c2x, s2x, one2⟩ := two_facts hP (by rw [Hzl.out, ← Hvl.out]; omega) Hvs.out p
                obtain ⟨x1, x2⟩ := addW_all c2x s2x
                rw [zwo_s1] at x1
                rw [zwo_s2] at x2
                have o3 := order_yes x1 f1.1 rfl
                have o4 := order_yes x2 f1.2 rfl
                have o5 := order_yes fl_zero fl_zero rfl
                clear x1 x2 f1 f2
                have hBm := hbm.size
                have hpt : Hid (p = (vs.take p).length) := by show p = (vs.take p).length; rw [List.length_take]; omega
                have hpd : Hid (vs.length - p = (vs.drop p).length) := by show vs.length - p = (vs.drop p).length; rw [List.length_drop]
                have q1 := run_cut_to (P := Try.prog) 24 26 i0 Try.underlying24 hi vA vs.length vc p hp2
                have q2 := run_cut_from (P := Try.prog) 24 26 i0 Try.underlying24 hi hz1 vA vs.length vc p hp1
                have hrd := hrl.cutFrom hvc hp1
                have HL : Hid (∀ w', Below wr.heap.size wr w' → Calls Try.prog 13 #[.slice vA vs.length vc] w' fun e w'' => e = .returned (.complex .f64 (addW vs).1 (addW vs).2) ∧ w' = w'') := by
                  intro w' hb
                  exact add_det vA vs zs _ vc w' wo.heap.size (hidr _) (by omega) (hrl.below (hb.mono hBm)) c1 sm1
                have HM : Hid (∀ w', Below wr.heap.size wr w' → Calls Try.prog 13 #[.slice mA ms.length mc] w' fun e w'' => e = .returned (.complex .f64 (addW ms).1 (addW ms).2) ∧ w' = w'') := by
                  intro w' hb
                  exact add_det mA ms zs.reverse _ mc w' wr.heap.size (hidr _) (by omega) (hrm.below hb) c2 sm2
                have HT : Hid (∀ w', Below wr.heap.size wr w' → Calls Try.prog 13 #[.slice vA p vc] w' fun e w'' => e = .returned (.complex .f64 (addW (vs.take p)).1 (addW (vs.take p)).2) ∧ w' = w'') := by
                  intro w' hb
                  exact add_det vA (vs.take p) (zs.take p) p vc w' wo.heap.size hpt (by omega) ((hrl.below (hb.mono hBm)).take p) ct st
                have HD : Hid (∀ w', Below wr.heap.size wr w' → Calls Try.prog 13 #[.slice (cutA vA vc p) (vs.length - p) (vc - p)] w' fun e w'' => e = .returned (.complex .f64 (addW (vs.drop p)).1 (addW (vs.drop p)).2) ∧ w' = w'') := by
                  intro w' hb
                  exact add_det _ (vs.drop p) (zs.drop p) _ _ w' wo.heap.size hpd (by omega) (hrd.below (hb.mono hBm)) cd sd
                have HX : Hid (∀ w', Below wr.heap.size wr w' → Calls Try.prog 13 #[.slice (some ⟨w'.heap.size, 0, none⟩) 2 2] (w'.alloc (.cells #[.complex .f64 (addW (vs.take p)).1 (addW (vs.take p)).2, .complex .f64 (addW (vs.drop p)).1 (addW (vs.drop p)).2] 26)) fun e w'' => e = .returned (.complex .f64 (addW (two vs p)).1 (addW (two vs p)).2) ∧ (w'.alloc (.cells #[.complex .f64 (addW (vs.take p)).1 (addW (vs.take p)).2, .complex .f64 (addW (vs.drop p)).1 (addW (vs.drop p)).2] 26)) = w'') := by
                  intro w' hb
                  exact add_det _ (two vs p) (zwo zs p) 2 2 _ _ rfl (by decide) (RdV.lit w' (two vs p) one2 _ rfl _ _) c2x s2x
                have HN : Hid (∀ w', Calls Try.prog 13 #[.slice none 0 0] w' fun e w'' => e = .returned (.complex .f64 0 0) ∧ w' = w'') := fun w' => add_nil w'
                clear c1 c2 ct cd c2x sm1 sm2 st sd s2x one2 hrl hrm hrd hpt hpd
                go_wp2_with fail
                refine wp_region_noPanic (sums_region15 vA mA (cutA vA vc p) vs.length ms.length p (vs.length - p) vc mc (vc - p) _ _ _ _ _ _ _ _ _ _ wr HL HM HT HD HX HN q1 q2 o1 o2 o3 o4 o5 _ _ _ _ _ _ _ _ _ _ _ _ _ _ _ _ _ _ _ _ _ _ _ _ _ _ _ _ _ _ _ _ _ _ _ _ _ _ _ _ _ _ _ _ _ _ _ _ _ _ _ _ _ _ _ _ _ _ _ _ _ _ _ _ _ _ _ _ _ _ _ _ _ _ _ _ _ _ _ _ _ _ _ _ _ _ _ _ _ _ _ _ _ _ (fun _ _ _ h => h) ?_)
                intro w9 v72 v73 v74 v75 v76 v77 v78 v79 v80 v81 v82 v83 v84 v85 v86 v87 v88 v89 v90 v91 v92 v93 v94 v95 hb9
                refine NoPanic.normal ?_
                go_wp2_with fail
                go_ret
                exact ⟨rfl, hbW.trans (hb9.mono hbW.size)⟩

end Go.Proofs.Ytdnfncbinhbioaa
