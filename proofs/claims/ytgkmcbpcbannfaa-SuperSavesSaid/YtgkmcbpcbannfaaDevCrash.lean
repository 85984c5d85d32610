/- The contract of the device's Crash. Printed by gen_devcrashw.py. -/
import Derived.Test.YtgkmcbpcbannfaaDevCrashReg
namespace Go.Proofs.Ytgkmcbpcbannfaa
open Go.RowKit Crc
set_option linter.unusedVariables false
set_option maxHeartbeats 2000000

theorem Try.infoArr : (Try.prog.info? 57).map (fun i => (i.zero, i.size, i.bytes)) = some (some (.agg (vals zsec.now).toArray), 64, 64) := by kernel_rfl
theorem zero_sec (w : World) : (zeroValue 59).run Try.prog w = .ok (.agg zsec.cells.toArray) w := by
  obtain ⟨i0, hi, hz0, hz1, hz2⟩ := info_parts Try.infoSec
  simp [zeroValue, typeInfo, hi, hz0]
theorem zero_arr (w : World) : (zeroValue 57).run Try.prog w = .ok (.agg (vals zsec.now).toArray) w := by
  obtain ⟨i0, hi, hz0, hz1, hz2⟩ := info_parts Try.infoArr
  simp [zeroValue, typeInfo, hi, hz0]
theorem alloc_setRow (w : World) (A B : Array Value) (t : TypeId) : (w.alloc (.cells A t)).setRow w.heap.size B = w.alloc (.cells B t) := by
  unfold World.setRow World.alloc
  congr 1
  apply Array.ext_getElem?
  intro i
  simp only [Array.getElem?_modify, Array.getElem?_push]
  by_cases h : w.heap.size = i
  · subst h; simp
  · simp [h, show ¬ i = w.heap.size from fun e => h e.symm]
theorem splice_all (A B : List Value) (h : B.length = A.length) : splice A 0 B = B := by
  unfold splice
  rw [List.drop_of_length_le (by omega)]
  simp
/-- What lasts of a sector behind a crash. -/
def crashPick (l : List Sec) (keep : List Bool) (i : Nat) : List Nat :=
  if (l.getD i zsec).loose && keep.getD (looseTo l i).length false then (l.getD i zsec).now else (l.getD i zsec).lasts
def crashSec (l : List Sec) (keep : List Bool) (i : Nat) : Sec := ⟨crashPick l keep i, crashPick l keep i, false⟩
def crashTo (l : List Sec) (keep : List Bool) (k : Nat) : List Sec := (List.range k).map (crashSec l keep) ++ List.replicate (l.length - k) zsec
def crashM (l : List Sec) (keep : List Bool) (k : Nat) : DevM := ⟨crashTo l keep k, 0, false, 0, false⟩
def DevM.crash (M : DevM) (keep : List Bool) : DevM := crashM M.secs keep M.secs.length
theorem crashTo_zero (l : List Sec) (keep : List Bool) : crashM l keep 0 = freshM l.length := by simp [crashM, crashTo, freshM]
theorem crashTo_at (l : List Sec) (keep : List Bool) (k : Nat) (h : k < l.length) : (crashTo l keep k)[k]? = some zsec := by
  unfold crashTo
  rw [List.getElem?_append_right (by simp)]
  rw [List.getElem?_replicate, if_pos (by simp; omega)]
theorem crashTo_succ (l : List Sec) (keep : List Bool) (k : Nat) (h : k < l.length) : (crashTo l keep k).set k (crashSec l keep k) = crashTo l keep (k + 1) := by
  unfold crashTo
  have e : l.length - k = (l.length - (k + 1)) + 1 := by omega
  rw [List.set_append_right _ _ (by simp), List.range_succ, List.map_append, e, List.replicate_succ]
  simp
theorem crashTo_len (l : List Sec) (keep : List Bool) (k : Nat) (h : k ≤ l.length) : (crashTo l keep k).length = l.length := by simp [crashTo]; omega
theorem crash_done {W : World} {pc qc k : Nat} {l : List Sec} {keep : List Bool} {x : List Nat} (h : DevAt W pc qc (crashM l keep k)) (hk : k < l.length) (hx : crashPick l keep k = x) (hlen : x.length = 64) (hb : Bytes x) :
    DevAt (W.drew.setRow qc (splice (flat (crashTo l keep k)) (k * 129) (⟨x, x, false⟩ : Sec).cells).toArray) pc qc (crashM l keep (k + 1)) := by
  have hok : (⟨x, x, false⟩ : Sec).Ok := ⟨hlen, hlen, hb, hb⟩
  have hat : (crashM l keep k).secs[k]? = some zsec := crashTo_at l keep k hk
  have hcl := Sec.cells_length hok
  have f1 := flat_splice h.ok.secs hat (s' := ⟨x, x, false⟩) 0 (⟨x, x, false⟩ : Sec).cells (by omega) (splice_all _ _ (by rw [hcl, Sec.cells_length zsec_ok])).symm
  rw [Nat.add_zero, Nat.mul_comm] at f1
  have hD := h.write_row (w' := W.drew.setRow qc (splice (flat (crashTo l keep k)) (k * 129) (⟨x, x, false⟩ : Sec).cells).toArray) hat hok f1.symm (setRow_other _ _ _ _ h.ne) (setRow_heap W.drew qc _ _ _ _ h.row)
  have e : ({ (crashM l keep k) with secs := (crashM l keep k).secs.set k ⟨x, x, false⟩ } : DevM) = crashM l keep (k + 1) := by
    have e1 : (⟨x, x, false⟩ : Sec) = crashSec l keep k := by unfold crashSec; rw [hx]
    rw [e1]
    show (⟨(crashTo l keep k).set k (crashSec l keep k), 0, false, 0, false⟩ : DevM) = _
    rw [crashTo_succ l keep k hk]; rfl
  rw [e] at hD
  exact hD
theorem part_of_sec {s : Sec} (h : s.Ok) : (∀ j v, (vals s.now)[j]? = some v → s.cells[0 + j]? = some v) ∧ (∀ j v, (vals s.lasts)[j]? = some v → s.cells[64 + j]? = some v) := by
  refine ⟨fun j v hv => ?_, fun j v hv => ?_⟩
  · have hj : j < 64 := by
      rcases Nat.lt_or_ge j 64 with h1 | h1
      · exact h1
      · rw [List.getElem?_eq_none (by rw [vals_length, h.n]; omega)] at hv; cases hv
    rw [vals_get _ _ (by rw [h.n]; exact hj)] at hv
    rw [Nat.zero_add, cells_now h hj]; exact hv
  · have hj : j < 64 := by
      rcases Nat.lt_or_ge j 64 with h1 | h1
      · exact h1
      · rw [List.getElem?_eq_none (by rw [vals_length, h.l]; omega)] at hv; cases hv
    rw [vals_get _ _ (by rw [h.l]; exact hj)] at hv
    rw [cells_lasts h hj]; exact hv
theorem crash_nil (v : Value) (w : World) : Calls Try.prog 17 #[.pointer none, v] w fun e w' => e = .returned (.pointer none) ∧ w = w' := by
  go_enter Try.func17, Try.ntmps17
  go_wp2_with fail
  go_ret
  exact ⟨rfl, rfl⟩
/-- The block of a sector's copy: what it tells. -/
structure Blk (W : World) (g : Nat) (cs : List Value) (t : TypeId) : Prop where
  row : W.heap[g]? = some (.cells cs.toArray t (0, 0))
theorem Blk.cell {W : World} {g : Nat} {cs : List Value} {t : TypeId} (h : Blk W g cs t) (i : Nat) : W.cell? ⟨g, i, none⟩ = cs[i]? := by rw [cell_of_row W g i _ _ _ h.row]; simp
theorem Blk.lt {W : World} {g : Nat} {cs : List Value} {t : TypeId} (h : Blk W g cs t) : g < W.heap.size := lt_of_heap h.row
theorem Blk.new (W : World) (cs : List Value) (t : TypeId) : Blk (W.alloc (.cells cs.toArray t)) W.heap.size cs t := ⟨heap_alloc_new W _⟩
theorem Blk.old {W : World} {g : Nat} {cs : List Value} {t : TypeId} (h : Blk W g cs t) (o : Obj) : Blk (W.alloc o) g cs t := ⟨(Below.heap_alloc W o g h.lt).trans h.row⟩
theorem bool_cell {W : World} {g : Nat} {s : Sec} (h : s.Ok) (hb : Blk W g s.cells 59) : W.cell? ⟨g, 128, none⟩ = some (.bool s.loose) := (hb.cell 128).trans (cells_loose h)
/-- A store of a whole value into a block that was just laid. -/
theorem wpList_store_new {P : Program} {ops : Array Oper} {rest : List Oper} {o : Oper} {a : Act} {w0 w : World} {Q : Exit → Act → World → Prop} (hgd : o.guard = none) (ty : TypeId) (x y : Operand) (ho : o.op = .store ty x y) (C : List Value) (t : TypeId) (hw : w = w0.alloc (.cells C.toArray t)) (hx : a.eval x = .pointer (some ⟨w0.heap.size, 0, none⟩)) (part : List Value)
    (hi : (P.info? ty).map (·.size) = some part.length) (h1 : ∀ v ∈ part, v.oneCell' = true) (hl : part.length = C.length) (hy : (a.eval y).cells = part.toArray)
    (h : ∀ w', w' = w0.alloc (.cells part.toArray t) → wpList P ops Q rest (a.put o.dst undef) w') : wpList P ops Q (o :: rest) a w := by
  subst hw
  refine wpList_store_part hgd ty x y ho w0.heap.size 0 hx C t part (heap_alloc_new w0 _) hi h1 (by omega) hy ?_
  rw [splice_all _ _ hl, alloc_setRow]
  exact h _ rfl
/-- A store of a whole value into a block that is known. -/
theorem wpList_store_over {P : Program} {ops : Array Oper} {rest : List Oper} {o : Oper} {a : Act} {w : World} {Q : Exit → Act → World → Prop} (hgd : o.guard = none) (ty : TypeId) (x y : Operand) (ho : o.op = .store ty x y) (g : Nat) (C : List Value) (t : TypeId) (hg : Blk w g C t) (hx : a.eval x = .pointer (some ⟨g, 0, none⟩)) (part : List Value)
    (hi : (P.info? ty).map (·.size) = some part.length) (h1 : ∀ v ∈ part, v.oneCell' = true) (hl : part.length = C.length) (hy : (a.eval y).cells = part.toArray)
    (h : ∀ w', w' = w.setRow g part.toArray → wpList P ops Q rest (a.put o.dst undef) w') : wpList P ops Q (o :: rest) a w := by
  refine wpList_store_part hgd ty x y ho g 0 hx C t part hg.row hi h1 (by omega) hy ?_
  rw [splice_all _ _ hl]
  exact h _ rfl
/-- All that is known of the world behind the sector's copy. -/
structure Mid8 (w wr W8 : World) (pc qc : Nat) (C : DevM) (s : Sec) (B : Nat) (a : Option Addr) (ks : List Value) : Prop where
  b : Blk W8 wr.heap.size s.cells 59
  hb : Below w.heap.size w W8
  hd : DevAt W8 pc qc C
  hk : RdV W8 B a ks
theorem mid8 {w wr W8 : World} {pc qc : Nat} {C : DevM} {s : Sec} {a : Option Addr} {ks : List Value} (e : W8 = wr.alloc (.cells s.cells.toArray 59)) (hb : Below w.heap.size w wr) (hd : DevAt wr pc qc C) (hk : RdV wr w.heap.size a ks) : Mid8 w wr W8 pc qc C s w.heap.size a ks := by
  subst e
  exact ⟨Blk.new wr s.cells _, hb.alloc hb.size _, hd.alloc _, hk.alloc hb.size _⟩
structure Mid9 (w wr W8 W9 : World) (pc qc : Nat) (C : DevM) (s : Sec) (B : Nat) (a : Option Addr) (ks : List Value) : Prop where
  b9 : Blk W9 W8.heap.size (vals s.lasts) 57
  b8 : Blk W9 wr.heap.size s.cells 59
  hb : Below w.heap.size w W9
  hd : DevAt W9 pc qc C
  hk : RdV W9 B a ks
  lt8 : wr.heap.size < W8.heap.size
  base : w.heap.size ≤ W8.heap.size
  ltp : pc < W8.heap.size
  ltq : qc < W8.heap.size
theorem mid9 {w wr W8 W9 : World} {pc qc : Nat} {C : DevM} {s : Sec} {a : Option Addr} {ks : List Value} (e : W9 = W8.alloc (.cells (vals s.lasts).toArray 57)) (h : Mid8 w wr W8 pc qc C s w.heap.size a ks) : Mid9 w wr W8 W9 pc qc C s w.heap.size a ks := by
  subst e
  exact ⟨Blk.new W8 _ _, h.b.old _, h.hb.alloc h.hb.size _, h.hd.alloc _, h.hk.alloc h.hb.size _, h.b.lt, h.hb.size, h.hd.ltp, h.hd.ltq⟩
structure MidA (w wr W8 WA : World) (pc qc : Nat) (C : DevM) (xs : List Nat) : Prop where
  b9 : Blk WA W8.heap.size (vals xs) 57
  hb : Below w.heap.size w WA
  hd : DevAt WA pc qc C
theorem midA {w wr W8 W9 WA : World} {pc qc : Nat} {C : DevM} {s : Sec} {a : Option Addr} {ks : List Value} (xs : List Nat) (e : WA = W9.setRow W8.heap.size (vals xs).toArray) (h : Mid9 w wr W8 W9 pc qc C s w.heap.size a ks) : MidA w wr W8 WA pc qc C xs := by
  subst e
  have h1 := h.base
  have h2 := h.ltp
  have h3 := h.ltq
  exact ⟨⟨setRow_heap W9 _ _ _ _ _ h.b9.row⟩, below_setRow h.hb h.base _, h.hd.keep (setRow_other W9 _ pc _ (by omega)) (setRow_other W9 _ qc _ (by omega))⟩
theorem RdV.bool {w : World} {B J : Nat} {keep : List Bool} {b0 o0 : Nat} (h : RdV w B (some ⟨b0, o0, none⟩) (keep.map Value.bool)) (hJ : J < keep.length) : w.cell? ⟨b0, o0 + J, none⟩ = some (.bool (keep.getD J false)) := by
  rw [h.get (by simpa using hJ), List.getElem?_map, List.getD_eq_getElem?_getD, List.getElem?_eq_getElem hJ]
  rfl
set_option maxRecDepth 100000 in
set_option maxHeartbeats 20000000 in
theorem crash_at {p q n : Nat} {M : DevM} {l : List Sec} (keep : List Bool) (a : Option Addr) (m c : Nat) (w : World) (h : DevAt w p q M) (HL : Hid (M.secs = l)) (HN : Hid (l.length = n)) (Hm : Hid (m = keep.length)) (hk : RdV w w.heap.size a (keep.map Value.bool)) (hlen : m ≤ c) (hc : c ≤ 9223372036854775807) :
    Calls Try.prog 17 #[.pointer (some ⟨p, 0, none⟩), .slice a m c] w fun e w' => ∃ pc qc, e = .returned (.pointer (some ⟨pc, 0, none⟩)) ∧ DevAt w' pc qc (crashM l keep n) ∧ w.heap.size ≤ pc ∧ w.heap.size ≤ qc ∧ Below w.heap.size w w' := by
  have c0 := h.c0
  have h2048 := h.ok.most
  have hpos := h.ok.pos
  rw [HL.out, HN.out] at c0 h2048 hpos
  have H := Lib.hid h
  have HK := Lib.hid hk
  clear h hk
  have hsz : Hid ((Try.prog.info? 57).map (·.size) = some 64) := by show (Try.prog.info? 57).map (·.size) = some 64; kernel_rfl
  have hsz2 : Hid ((Try.prog.info? 59).map (·.size) = some 129) := by show (Try.prog.info? 59).map (·.size) = some 129; kernel_rfl
  go_enter Try.func17, Try.ntmps17
  go_wp2_with fail
  refine (new_any n n w ⟨hpos, h2048⟩ (.inr (.inl rfl))).mono ?_
  rintro e w1 ⟨pc, qc, rfl, hnew, hpc, hqc, hb1⟩
  have c0' := (hb1.cell (p := ⟨p, 0, none⟩) H.out.ltp).trans c0
  have HB1 := Lib.hid hb1
  have HNEW := Lib.hid hnew
  clear c0 hb1 hnew
  go_wp2_with fail
  go_loopw [6, 23] (fun j i wr => ∃ k : Nat, k ≤ n ∧ i = .int .i64 k ∧ j = .int .i64 (looseTo l k).length ∧ DevAt wr pc qc (crashM l keep k) ∧ Below w.heap.size w wr) (fun _ i _ => n - (intOf i).toNat)
  case atStart => exact ⟨0, Nat.zero_le _, rfl, rfl, by rw [crashTo_zero, HN.out]; exact HNEW.out, HB1.out⟩
  case round =>
    obtain ⟨k, hk', rfl, rfl, hdc, hb⟩ := hrel
    clear c0'
    have HDC := Lib.hid hdc
    have HB := Lib.hid hb
    clear hdc hb
    by_cases hlt : k < n
    · obtain ⟨s, hs⟩ : ∃ s, l[k]? = some s := ⟨_, List.getElem?_eq_getElem (by rw [HN.out]; exact hlt)⟩
      have hd := H.out.below' HB.out
      have hs0 := hs
      rw [← HL.out] at hs0
      have hsok : s.Ok := hd.ok.secs s (List.mem_of_getElem? hs0)
      have hrow := hd.row
      rw [HL.out] at hrow
      have HROW := Lib.hid hrow
      have hp59 : Hid (∀ j v, s.cells[j]? = some v → (flat l)[k * 129 + j]? = some v) := fun j v hv => by
        have hj : j < 129 := by
          rcases Nat.lt_or_ge j 129 with h1 | h1
          · exact h1
          · rw [List.getElem?_eq_none (by rw [Sec.cells_length hsok]; exact h1)] at hv; cases hv
        rw [Nat.mul_comm, flat_get (by rw [← HL.out]; exact hd.ok.secs) hs hj]; exact hv
      have hsl := Lib.hid (Sec.cells_length hsok)
      have hvl : Hid ((vals s.lasts).length = 64) := by show (vals s.lasts).length = 64; rw [vals_length, hsok.l]
      have hvn : Hid ((vals s.now).length = 64) := by show (vals s.now).length = 64; rw [vals_length, hsok.n]
      obtain ⟨hp1, hp2⟩ := part_of_sec hsok
      have HP1 := Lib.hid hp1
      have HP2 := Lib.hid hp2
      obtain ⟨Z, hZ⟩ : ∃ Z, Z = zsec.cells := ⟨_, rfl⟩
      obtain ⟨Y, hY⟩ : ∃ Y, Y = vals zsec.now := ⟨_, rfl⟩
      have z1 := zero_sec
      have z2 := zero_arr
      rw [← hZ] at z1
      rw [← hY] at z2
      have hzl : Z.length = 129 := by rw [hZ]; exact Sec.cells_length zsec_ok
      have hyl : Y.length = 64 := by rw [hY, vals_length, zsec_ok.n]
      have HZL : Hid (s.cells.length = Z.length) := by show s.cells.length = Z.length; rw [hzl, hsl.out]
      have HYL : Hid ((vals s.lasts).length = Y.length) := by show (vals s.lasts).length = Y.length; rw [hyl, hvl.out]
      have hone := Lib.hid (Sec.cells_one s)
      have hol := Lib.hid (vals_one s.lasts)
      have hon := Lib.hid (vals_one s.now)
      have hget : l.getD k zsec = s := by rw [List.getD_eq_getElem?_getD, hs]; rfl
      have HPICK : Hid (crashPick l keep k = if s.loose && keep.getD (looseTo l k).length false then s.now else s.lasts) := by
        show crashPick l keep k = _
        unfold crashPick; rw [hget]
      have hJ := looseTo_len l k
      have hsucc : (looseTo l (k + 1)).length = (looseTo l k).length + (if s.loose then 1 else 0) := by
        have := congrArg List.length (looseTo_succ l k s hs)
        rw [List.length_append] at this
        simp only [ints, List.length_map] at this
        rw [this]
        cases s.loose <;> rfl
      have HSUCC := Lib.hid hsucc
      generalize (looseTo l k).length = J at *
      have HKB := Lib.hid (HK.out.below HB.out)
      have hneq := Lib.hid (show pc ≠ qc from HDC.out.ne)
      clear hd hs hs0 hZ hY hzl hyl hsucc hget hrow hp1 hp2
      cases hl : s.loose
      · -- not loose
        go_wp2_with (first
          | ((with_reducible show wpList _ _ _ (⟨some 27, _, _, _, _, _⟩ :: _) _ _); refine wpList_load_part (o := ⟨some 27, _, _, _, _, _⟩) rfl 59 (.tmp 26) (by rfl) q (k * 129) (by rfl) (flat l) 59 (0, 0) _ s.cells HROW.out Try.underlying59 rfl (by rw [hsz2.out, hsl.out]) hp59.out ?_)
          | ((with_reducible show wpList _ _ _ (⟨none, Op.store _ (Operand.tmp 8) (Operand.tmp 27), _, _, _, _⟩ :: _) _ _); refine wpList_store_new (o := ⟨none, .store 59 (.tmp 8) (.tmp 27), _, _, _, _⟩) rfl 59 (.tmp 8) (.tmp 27) rfl Z 59 (by rfl) (by rfl) s.cells (by rw [hsz2.out, hsl.out]) hone.out HZL.out (by rfl) ?_; intro W8 e8; have m8 := mid8 e8 HB.out HDC.out HKB.out; clear e8)
          | ((with_reducible show wpList _ _ _ (⟨some 29, _, _, _, _, _⟩ :: _) _ _); refine wpList_load_part (o := ⟨some 29, _, _, _, _, _⟩) rfl 57 (.tmp 28) (by rfl) wr.heap.size 64 (by rfl) s.cells 59 (0, 0) _ (vals s.lasts) m8.b.row Try.underlying57 rfl (by rw [hsz.out, hvl.out]) HP2.out ?_)
          | ((with_reducible show wpList _ _ _ (⟨none, Op.store _ (Operand.tmp 9) (Operand.tmp 29), _, _, _, _⟩ :: _) _ _); refine wpList_store_new (o := ⟨none, .store 57 (.tmp 9) (.tmp 29), _, _, _, _⟩) rfl 57 (.tmp 9) (.tmp 29) rfl Y 57 (by rfl) (by rfl) (vals s.lasts) (by rw [hsz.out, hvl.out]) hol.out HYL.out (by rfl) ?_; intro W9 e9; have m9 := mid9 e9 m8; clear e9; have cl := bool_cell hsok m9.b8; rw [hl] at cl)
          | fail)
        have hpk : crashPick l keep k = s.lasts := by rw [HPICK.out, hl]; rfl
        have hfl : Hid ((flat (crashTo l keep k)).length = 129 * n) := by show (flat (crashTo l keep k)).length = 129 * n; rw [flat_length (show ∀ x ∈ crashTo l keep k, x.Ok from m9.hd.ok.secs), crashTo_len l keep k (by rw [HN.out]; omega), HN.out]
        have cpc := m9.hd.c0
        have hls : (crashM l keep k).secs.length = n := by show (crashTo l keep k).length = n; rw [crashTo_len l keep k (by rw [HN.out]; omega), HN.out]
        rw [hls] at cpc
        have hrq : Hid (W9.heap[qc]? = some (.cells (flat (crashTo l keep k)).toArray 59 (0, 0))) := m9.hd.row
        have hfin := Lib.hid (crash_done m9.hd (show k < l.length by rw [HN.out]; exact hlt) hpk hsok.l hsok.bl)
        have hbel := Lib.hid (below_setRow (Below.drew m9.hb) (show w.heap.size ≤ qc by omega) (splice (flat (crashTo l keep k)) (k * 129) (⟨s.lasts, s.lasts, false⟩ : Sec).cells).toArray)
        refine wp_region_noPanic (crash_region pc qc W8.heap.size k n (flat (crashTo l keep k)) (s.lasts) W9 hlt h2048 hneq.out (by have := m9.ltq; omega) cpc hrq (Lib.hid m9.b9.row) (Lib.hid hsok.l) hsok.bl hfl _ _ _ _ _ _ _ _ _ _ _ _ _ _ _ _ _ _ _ _ _ _ _ _ _ _ _ _ _ _ _ _ _ _ _ _ _ _ _ _ _ _ _ _ _ _ _ _ _ _ _ _ _ _ _ (fun _ _ _ h => h) ?_)
        intro v46 v47 v48 v49 v50 v51 v52 v53 v54
        refine NoPanic.normal ?_
        clear cpc hls hpk
        go_wp2_with fail
        go_roundw
        case rel => exact ⟨k + 1, by omega, by go_num, by rw [HSUCC.out, hl]; rfl, hfin.out, hbel.out⟩
        case measure => simp [intOf]; omega
      · by_cases hj : J < m
        · have hjk : J < keep.length := by have := Hm.out; omega
          obtain ⟨b0, o0, rfl, hb0, _⟩ := HKB.out.at (i := J) (by simp; exact hjk)
          cases hv : keep.getD J false
          · -- told to drop
            go_wp2_with (first
              | ((with_reducible show wpList _ _ _ (⟨some 27, _, _, _, _, _⟩ :: _) _ _); refine wpList_load_part (o := ⟨some 27, _, _, _, _, _⟩) rfl 59 (.tmp 26) (by rfl) q (k * 129) (by rfl) (flat l) 59 (0, 0) _ s.cells HROW.out Try.underlying59 rfl (by rw [hsz2.out, hsl.out]) hp59.out ?_)
              | ((with_reducible show wpList _ _ _ (⟨none, Op.store _ (Operand.tmp 8) (Operand.tmp 27), _, _, _, _⟩ :: _) _ _); refine wpList_store_new (o := ⟨none, .store 59 (.tmp 8) (.tmp 27), _, _, _, _⟩) rfl 59 (.tmp 8) (.tmp 27) rfl Z 59 (by rfl) (by rfl) s.cells (by rw [hsz2.out, hsl.out]) hone.out HZL.out (by rfl) ?_; intro W8 e8; have m8 := mid8 e8 HB.out HDC.out HKB.out; clear e8)
              | ((with_reducible show wpList _ _ _ (⟨some 29, _, _, _, _, _⟩ :: _) _ _); refine wpList_load_part (o := ⟨some 29, _, _, _, _, _⟩) rfl 57 (.tmp 28) (by rfl) wr.heap.size 64 (by rfl) s.cells 59 (0, 0) _ (vals s.lasts) m8.b.row Try.underlying57 rfl (by rw [hsz.out, hvl.out]) HP2.out ?_)
              | ((with_reducible show wpList _ _ _ (⟨none, Op.store _ (Operand.tmp 9) (Operand.tmp 29), _, _, _, _⟩ :: _) _ _); refine wpList_store_new (o := ⟨none, .store 57 (.tmp 9) (.tmp 29), _, _, _, _⟩) rfl 57 (.tmp 9) (.tmp 29) rfl Y 57 (by rfl) (by rfl) (vals s.lasts) (by rw [hsz.out, hvl.out]) hol.out HYL.out (by rfl) ?_; intro W9 e9; have m9 := mid9 e9 m8; clear e9; have cl := bool_cell hsok m9.b8; rw [hl] at cl; have ck := m9.hk.bool (J := J) hjk; rw [hv] at ck)
              | fail)
            have hpk : crashPick l keep k = s.lasts := by rw [HPICK.out, hl, hv]; rfl
            have hfl : Hid ((flat (crashTo l keep k)).length = 129 * n) := by show (flat (crashTo l keep k)).length = 129 * n; rw [flat_length (show ∀ x ∈ crashTo l keep k, x.Ok from m9.hd.ok.secs), crashTo_len l keep k (by rw [HN.out]; omega), HN.out]
            have cpc := m9.hd.c0
            have hls : (crashM l keep k).secs.length = n := by show (crashTo l keep k).length = n; rw [crashTo_len l keep k (by rw [HN.out]; omega), HN.out]
            rw [hls] at cpc
            have hrq : Hid (W9.heap[qc]? = some (.cells (flat (crashTo l keep k)).toArray 59 (0, 0))) := m9.hd.row
            have hfin := Lib.hid (crash_done m9.hd (show k < l.length by rw [HN.out]; exact hlt) hpk hsok.l hsok.bl)
            have hbel := Lib.hid (below_setRow (Below.drew m9.hb) (show w.heap.size ≤ qc by omega) (splice (flat (crashTo l keep k)) (k * 129) (⟨s.lasts, s.lasts, false⟩ : Sec).cells).toArray)
            refine wp_region_noPanic (crash_region pc qc W8.heap.size k n (flat (crashTo l keep k)) (s.lasts) W9 hlt h2048 hneq.out (by have := m9.ltq; omega) cpc hrq (Lib.hid m9.b9.row) (Lib.hid hsok.l) hsok.bl hfl _ _ _ _ _ _ _ _ _ _ _ _ _ _ _ _ _ _ _ _ _ _ _ _ _ _ _ _ _ _ _ _ _ _ _ _ _ _ _ _ _ _ _ _ _ _ _ _ _ _ _ _ _ _ _ (fun _ _ _ h => h) ?_)
            intro v46 v47 v48 v49 v50 v51 v52 v53 v54
            refine NoPanic.normal ?_
            clear cpc hls hpk
            go_wp2_with fail
            go_roundw
            case rel => exact ⟨k + 1, by omega, by go_num, by rw [HSUCC.out, hl]; go_num, hfin.out, hbel.out⟩
            case measure => simp [intOf]; omega
          · -- told to keep
            go_wp2_with (first
              | ((with_reducible show wpList _ _ _ (⟨some 27, _, _, _, _, _⟩ :: _) _ _); refine wpList_load_part (o := ⟨some 27, _, _, _, _, _⟩) rfl 59 (.tmp 26) (by rfl) q (k * 129) (by rfl) (flat l) 59 (0, 0) _ s.cells HROW.out Try.underlying59 rfl (by rw [hsz2.out, hsl.out]) hp59.out ?_)
              | ((with_reducible show wpList _ _ _ (⟨none, Op.store _ (Operand.tmp 8) (Operand.tmp 27), _, _, _, _⟩ :: _) _ _); refine wpList_store_new (o := ⟨none, .store 59 (.tmp 8) (.tmp 27), _, _, _, _⟩) rfl 59 (.tmp 8) (.tmp 27) rfl Z 59 (by rfl) (by rfl) s.cells (by rw [hsz2.out, hsl.out]) hone.out HZL.out (by rfl) ?_; intro W8 e8; have m8 := mid8 e8 HB.out HDC.out HKB.out; clear e8)
              | ((with_reducible show wpList _ _ _ (⟨some 29, _, _, _, _, _⟩ :: _) _ _); refine wpList_load_part (o := ⟨some 29, _, _, _, _, _⟩) rfl 57 (.tmp 28) (by rfl) wr.heap.size 64 (by rfl) s.cells 59 (0, 0) _ (vals s.lasts) m8.b.row Try.underlying57 rfl (by rw [hsz.out, hvl.out]) HP2.out ?_)
              | ((with_reducible show wpList _ _ _ (⟨none, Op.store _ (Operand.tmp 9) (Operand.tmp 29), _, _, _, _⟩ :: _) _ _); refine wpList_store_new (o := ⟨none, .store 57 (.tmp 9) (.tmp 29), _, _, _, _⟩) rfl 57 (.tmp 9) (.tmp 29) rfl Y 57 (by rfl) (by rfl) (vals s.lasts) (by rw [hsz.out, hvl.out]) hol.out HYL.out (by rfl) ?_; intro W9 e9; have m9 := mid9 e9 m8; clear e9; have cl := bool_cell hsok m9.b8; rw [hl] at cl; have ck := m9.hk.bool (J := J) hjk; rw [hv] at ck)
              | ((with_reducible show wpList _ _ _ (⟨some 43, _, _, _, _, _⟩ :: _) _ _); refine wpList_load_part (o := ⟨some 43, _, _, _, _, _⟩) rfl 57 (.tmp 42) (by rfl) wr.heap.size 0 (by rfl) s.cells 59 (0, 0) _ (vals s.now) m9.b8.row Try.underlying57 rfl (by rw [hsz.out, hvn.out]) HP1.out ?_)
              | ((with_reducible show wpList _ _ _ (⟨none, Op.store _ (Operand.tmp 9) (Operand.tmp 43), _, _, _, _⟩ :: _) _ _); refine wpList_store_over (o := ⟨none, .store 57 (.tmp 9) (.tmp 43), _, _, _, _⟩) rfl 57 (.tmp 9) (.tmp 43) rfl W8.heap.size (vals s.lasts) 57 m9.b9 (by rfl) (vals s.now) (by rw [hsz.out, hvn.out]) hon.out (by rw [hvn.out, hvl.out]) (by rfl) ?_; intro WA eA; have mA := midA s.now eA m9; clear eA)
              | fail)
            have hpk : crashPick l keep k = s.now := by rw [HPICK.out, hl, hv]; rfl
            have hfl : Hid ((flat (crashTo l keep k)).length = 129 * n) := by show (flat (crashTo l keep k)).length = 129 * n; rw [flat_length (show ∀ x ∈ crashTo l keep k, x.Ok from mA.hd.ok.secs), crashTo_len l keep k (by rw [HN.out]; omega), HN.out]
            have cpc := mA.hd.c0
            have hls : (crashM l keep k).secs.length = n := by show (crashTo l keep k).length = n; rw [crashTo_len l keep k (by rw [HN.out]; omega), HN.out]
            rw [hls] at cpc
            have hrq : Hid (WA.heap[qc]? = some (.cells (flat (crashTo l keep k)).toArray 59 (0, 0))) := mA.hd.row
            have hfin := Lib.hid (crash_done mA.hd (show k < l.length by rw [HN.out]; exact hlt) hpk hsok.n hsok.bn)
            have hbel := Lib.hid (below_setRow (Below.drew mA.hb) (show w.heap.size ≤ qc by omega) (splice (flat (crashTo l keep k)) (k * 129) (⟨s.now, s.now, false⟩ : Sec).cells).toArray)
            refine wp_region_noPanic (crash_region pc qc W8.heap.size k n (flat (crashTo l keep k)) (s.now) WA hlt h2048 hneq.out (by have := m9.ltq; omega) cpc hrq (Lib.hid mA.b9.row) (Lib.hid hsok.n) hsok.bn hfl _ _ _ _ _ _ _ _ _ _ _ _ _ _ _ _ _ _ _ _ _ _ _ _ _ _ _ _ _ _ _ _ _ _ _ _ _ _ _ _ _ _ _ _ _ _ _ _ _ _ _ _ _ _ _ (fun _ _ _ h => h) ?_)
            intro v46 v47 v48 v49 v50 v51 v52 v53 v54
            refine NoPanic.normal ?_
            clear cpc hls hpk
            go_wp2_with fail
            go_roundw
            case rel => exact ⟨k + 1, by omega, by go_num, by rw [HSUCC.out, hl]; go_num, hfin.out, hbel.out⟩
            case measure => simp [intOf]; omega
        · -- not told
          have hv : keep.getD J false = false := by rw [List.getD_eq_getElem?_getD, List.getElem?_eq_none (by have := Hm.out; omega)]; rfl
          have HV := Lib.hid hv
          clear hv
          go_wp2_with (first
            | ((with_reducible show wpList _ _ _ (⟨some 27, _, _, _, _, _⟩ :: _) _ _); refine wpList_load_part (o := ⟨some 27, _, _, _, _, _⟩) rfl 59 (.tmp 26) (by rfl) q (k * 129) (by rfl) (flat l) 59 (0, 0) _ s.cells HROW.out Try.underlying59 rfl (by rw [hsz2.out, hsl.out]) hp59.out ?_)
            | ((with_reducible show wpList _ _ _ (⟨none, Op.store _ (Operand.tmp 8) (Operand.tmp 27), _, _, _, _⟩ :: _) _ _); refine wpList_store_new (o := ⟨none, .store 59 (.tmp 8) (.tmp 27), _, _, _, _⟩) rfl 59 (.tmp 8) (.tmp 27) rfl Z 59 (by rfl) (by rfl) s.cells (by rw [hsz2.out, hsl.out]) hone.out HZL.out (by rfl) ?_; intro W8 e8; have m8 := mid8 e8 HB.out HDC.out HKB.out; clear e8)
            | ((with_reducible show wpList _ _ _ (⟨some 29, _, _, _, _, _⟩ :: _) _ _); refine wpList_load_part (o := ⟨some 29, _, _, _, _, _⟩) rfl 57 (.tmp 28) (by rfl) wr.heap.size 64 (by rfl) s.cells 59 (0, 0) _ (vals s.lasts) m8.b.row Try.underlying57 rfl (by rw [hsz.out, hvl.out]) HP2.out ?_)
            | ((with_reducible show wpList _ _ _ (⟨none, Op.store _ (Operand.tmp 9) (Operand.tmp 29), _, _, _, _⟩ :: _) _ _); refine wpList_store_new (o := ⟨none, .store 57 (.tmp 9) (.tmp 29), _, _, _, _⟩) rfl 57 (.tmp 9) (.tmp 29) rfl Y 57 (by rfl) (by rfl) (vals s.lasts) (by rw [hsz.out, hvl.out]) hol.out HYL.out (by rfl) ?_; intro W9 e9; have m9 := mid9 e9 m8; clear e9; have cl := bool_cell hsok m9.b8; rw [hl] at cl)
            | fail)
          have hpk : crashPick l keep k = s.lasts := by rw [HPICK.out, hl, HV.out]; rfl
          have hfl : Hid ((flat (crashTo l keep k)).length = 129 * n) := by show (flat (crashTo l keep k)).length = 129 * n; rw [flat_length (show ∀ x ∈ crashTo l keep k, x.Ok from m9.hd.ok.secs), crashTo_len l keep k (by rw [HN.out]; omega), HN.out]
          have cpc := m9.hd.c0
          have hls : (crashM l keep k).secs.length = n := by show (crashTo l keep k).length = n; rw [crashTo_len l keep k (by rw [HN.out]; omega), HN.out]
          rw [hls] at cpc
          have hrq : Hid (W9.heap[qc]? = some (.cells (flat (crashTo l keep k)).toArray 59 (0, 0))) := m9.hd.row
          have hfin := Lib.hid (crash_done m9.hd (show k < l.length by rw [HN.out]; exact hlt) hpk hsok.l hsok.bl)
          have hbel := Lib.hid (below_setRow (Below.drew m9.hb) (show w.heap.size ≤ qc by omega) (splice (flat (crashTo l keep k)) (k * 129) (⟨s.lasts, s.lasts, false⟩ : Sec).cells).toArray)
          refine wp_region_noPanic (crash_region pc qc W8.heap.size k n (flat (crashTo l keep k)) (s.lasts) W9 hlt h2048 hneq.out (by have := m9.ltq; omega) cpc hrq (Lib.hid m9.b9.row) (Lib.hid hsok.l) hsok.bl hfl _ _ _ _ _ _ _ _ _ _ _ _ _ _ _ _ _ _ _ _ _ _ _ _ _ _ _ _ _ _ _ _ _ _ _ _ _ _ _ _ _ _ _ _ _ _ _ _ _ _ _ _ _ _ _ (fun _ _ _ h => h) ?_)
          intro v46 v47 v48 v49 v50 v51 v52 v53 v54
          refine NoPanic.normal ?_
          clear cpc hls hpk
          go_wp2_with fail
          go_roundw
          case rel => exact ⟨k + 1, by omega, by go_num, by rw [HSUCC.out, hl]; go_num, hfin.out, hbel.out⟩
          case measure => simp [intOf]; omega
    · have : k = n := by omega
      subst this
      go_wp2_with fail
      go_ret
      exact ⟨pc, qc, rfl, HDC.out, hpc, hqc, HB.out⟩
theorem crash_any {p q : Nat} {M : DevM} (keep : List Bool) (a : Option Addr) (m c : Nat) (w : World) (h : DevAt w p q M) (Hm : Hid (m = keep.length)) (hk : RdV w w.heap.size a (keep.map Value.bool)) (hlen : m ≤ c) (hc : c ≤ 9223372036854775807) :
    Calls Try.prog 17 #[.pointer (some ⟨p, 0, none⟩), .slice a m c] w fun e w' => ∃ pc qc, e = .returned (.pointer (some ⟨pc, 0, none⟩)) ∧ DevAt w' pc qc (M.crash keep) ∧ w.heap.size ≤ pc ∧ w.heap.size ≤ qc ∧ Below w.heap.size w w' :=
  crash_at keep a m c w h (Lib.hid rfl) (Lib.hid rfl) Hm hk hlen hc

end Go.Proofs.Ytgkmcbpcbannfaa
