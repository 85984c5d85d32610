/- The contract of super's write. -/
import Derived.Test.YtgkmcbpcbannfaaSuperRow
import Derived.Test.YtgkmcbpcbannfaaDevOwnWalk
import Derived.StillTailTactics
namespace Go.Proofs.Ytgkmcbpcbannfaa
open Go.RowKit Crc
set_option linter.unusedVariables false
set_option maxHeartbeats 2000000
set_option maxRecDepth 100000

theorem own_made64 (w : World) : Own (w.alloc (.cells (vals (List.replicate 64 0)).toArray 5)) w.heap.size 5 (.slice (some ⟨w.heap.size, 0, none⟩) 64 64) (List.replicate 64 0) := by
  have h1 := World.ownsRow_lit (base := w.heap.size) (e := 5) (size := 1) w (vals (List.replicate 64 0)).toArray 64 (Nat.le_refl _) (by simp [maxLen]) (by simp [vals_length])
  exact ⟨by simpa [vals_length] using h1, zero_bytes 64⟩
theorem vals_splice (X b : List Nat) (off : Nat) (h : off + b.length ≤ X.length) : splice (vals X) off (vals b) = vals (X.take off ++ (b ++ X.drop (off + b.length))) := by
  unfold splice
  simp [vals]
/-- The bytes of a slot, but for their sum; with it. -/
def slot1 (n : Nat) (b : List Nat) : List Nat := ((putTo (List.replicate 64 0) 4 8 n 8).set 12 b.length).take 13 ++ (b ++ ((putTo (List.replicate 64 0) 4 8 n 8).set 12 b.length).drop (13 + b.length))
def slotBytes (n : Nat) (b : List Nat) : List Nat := putTo (slot1 n b) 0 4 (sum ((slot1 n b).drop 4)) 4
/-- All blocks but three are as they were. -/
structure Kept3 (p q s : Nat) (w w' : World) : Prop where
  os : w'.os = w.os
  tape : w'.tape = w.tape
  output : w'.output = w.output
  size : w.heap.size ≤ w'.heap.size
  block : ∀ k, k < w.heap.size → k ≠ p → k ≠ q → k ≠ s → w'.heap[k]? = w.heap[k]?
theorem Kept3.of {p q s : Nat} {w w' : World} (h : Kept p q w w') : Kept3 p q s w w' := ⟨h.os, h.tape, h.output, h.size, fun k hk h1 h2 _ => h.block k hk h1 h2⟩
theorem Kept3.trans {p q s : Nat} {a b c : World} (h : Kept3 p q s a b) (k : Kept3 p q s b c) : Kept3 p q s a c :=
  ⟨k.os.trans h.os, k.tape.trans h.tape, k.output.trans h.output, Nat.le_trans h.size k.size, fun i hi h1 h2 h3 => (k.block i (Nat.lt_of_lt_of_le hi h.size) h1 h2 h3).trans (h.block i hi h1 h2 h3)⟩
theorem Kept3.sets {p q s : Nat} {a w : World} (h : Kept3 p q s a w) (i : Nat) (u : Value) : Kept3 p q s a (w.setCell ⟨s, i, none⟩ u) :=
  ⟨h.os, h.tape, h.output, by have := h.size; simpa [World.setCell] using this, fun k hk h1 h2 h3 => (Below.heap_setCell w ⟨s, i, none⟩ u k h3).trans (h.block k hk h1 h2 h3)⟩
theorem Kept3.of_below {p q s : Nat} {w w' : World} (h : Below w.heap.size w w') : Kept3 p q s w w' := ⟨h.os, h.tape, h.output, h.size, fun k hk _ _ _ => h.block k hk⟩
theorem Kept3.below {p q s B : Nat} {w w' : World} (h : Kept3 p q s w w') (hp : B ≤ p) (hq : B ≤ q) (hs : B ≤ s) (hB : B ≤ w.heap.size) : Below B w w' :=
  ⟨h.os, h.tape, h.output, h.size, fun k hk => h.block k (by omega) (by omega) (by omega) (by omega)⟩
theorem Rd.kept_or {w w' : World} {B p q : Nat} {a : Option Addr} {l : List Nat} (hr : Rd w B a l) (hk : Kept p q w w') (hB : B ≤ w.heap.size) (hne : ∀ x, a = some x → l = [] ∨ (x.block ≠ p ∧ x.block ≠ q)) : Rd w' B a l := by
  rcases hr.2 with h | ⟨b, off, e, hb, hc⟩
  · exact ⟨hr.1, .inl h⟩
  · rcases hne _ e with h | h
    · exact ⟨hr.1, .inl h⟩
    · exact hr.kept hk hB fun x hx => by rw [e] at hx; cases hx; exact h
theorem Rd.or {w : World} {B p q : Nat} {a : Option Addr} {l : List Nat} (hr : Rd w B a l) (hp : B ≤ p) (hq : B ≤ q) : ∀ x, a = some x → l = [] ∨ (x.block ≠ p ∧ x.block ≠ q) := fun x hx => by
  rcases hr.2 with h | ⟨b, off, e, hb, hc⟩
  · exact .inl h
  · rw [hx] at e; cases e
    exact .inr ⟨by show b ≠ p; omega, by show b ≠ q; omega⟩
theorem SupAt.kept {w w' : World} {s p q : Nat} {at_ slot turn : Int} {txt : List Nat} {a : Option Addr} {c : Nat} (h : SupAt w s p at_ slot turn txt a c) (hk : Kept p q w w') (hsp : s ≠ p ∧ s ≠ q ∧ ∀ x, a = some x → x.block ≠ p ∧ x.block ≠ q) : SupAt w' s p at_ slot turn txt a c :=
  ⟨(hk.block s h.lt hsp.1 hsp.2.1).trans h.top, (h.rd.kept hk (Nat.le_refl _) hsp.2.2).more hk.size, h.len, h.far, fun x hx => Nat.lt_of_lt_of_le (h.lo x hx) hk.size⟩
theorem heap_set_self {w : World} {s : Nat} {cs : Array Value} {T : TypeId} {fr : Nat × Nat} (h : w.heap[s]? = some (.cells cs T fr)) (i : Nat) (u : Value) : (w.setCell ⟨s, i, none⟩ u).heap[s]? = some (.cells (cs.setIfInBounds i u) T fr) := by
  simp [World.setCell, Array.getElem?_modify, h]
theorem wrote_sup {w0 w8 : World} {s p c0 c8 : Nat} {at_ slot0 turn0 slot : Int} {n : Nat} {txt b : List Nat} {a a8 : Option Addr} (hb40 : b.length ≤ 40)
    (hs : SupAt w8 s p at_ slot0 turn0 txt a c0) (ho : Own w8 w0.heap.size 5 (.slice a8 b.length c8) b) (hsl : s < w0.heap.size)
    (hg : ∀ x off r, a8 = some ⟨x, off, r⟩ → w0.heap.size ≤ x ∧ x < w8.heap.size ∧ off = 0 ∧ r = none) :
    SupAt (((w8.setCell ⟨s, 2, none⟩ (.int .i64 slot)).setCell ⟨s, 3, none⟩ (.int .i64 n)).setCell ⟨s, 4, none⟩ (.slice a8 b.length c8)) s p at_ slot n b a8 c8 := by
  have h1 := heap_set_self (heap_set_self (heap_set_self hs.top 2 (.int .i64 slot)) 3 (.int .i64 n)) 4 (.slice a8 b.length c8)
  have hob : ∀ k, (Value.slice a8 b.length c8).ownBlock = some k → k ≠ s := fun k hk => by
    have := (ho.1.lt k hk).1
    omega
  have ho2 := ((ho.far (p := ⟨s, 2, none⟩) hob (.int .i64 slot)).far (p := ⟨s, 3, none⟩) hob (.int .i64 n)).far (p := ⟨s, 4, none⟩) hob (.slice a8 b.length c8)
  obtain ⟨a9, c9, e9, _, _, hr9, _⟩ := ho2.form
  cases e9
  refine ⟨h1, hr9, hb40, fun x hx => ?_, fun x hx => ?_⟩
  · obtain ⟨xb, xo, xs⟩ := x
    have := (hg xb xo xs hx).1
    show xb ≠ s
    omega
  · obtain ⟨xb, xo, xs⟩ := x
    have := (hg xb xo xs hx).2.1
    simpa [World.setCell] using this
structure WroteNone (w w' : World) (p q s : Nat) (at_ slot turn0 : Int) (M : DevM) (txt : List Nat) (a : Option Addr) (c0 : Nat) : Prop where
  dev : DevAt w' p q M
  sup : SupAt w' s p at_ slot turn0 txt a c0
  below : Below w.heap.size w w'
structure WroteHalf (w w' : World) (p q s : Nat) (at_ slot turn0 : Int) (M : DevM) (txt : List Nat) (a : Option Addr) (c0 : Nat) : Prop where
  dev : DevAt w' p q M
  sup : SupAt w' s p at_ slot turn0 txt a c0
  kept : Kept p q w w'
structure WroteAll (w w' : World) (p q s : Nat) (at_ slot n : Int) (M : DevM) (b : List Nat) (a : Option Addr) (c0 : Nat) : Prop where
  dev : DevAt w' p q M
  sup : SupAt w' s p at_ slot n b a c0
  kept : Kept3 p q s w w'
  new : ∀ x, a = some x → w.heap.size ≤ x.block
theorem write_core (s p q c0 nb cb : Nat) (at_ slot slot0 turn0 : Int) (M : DevM) (txt b : List Nat) (a ab : Option Addr) (n : Nat) (w : World) (B : Nat) (hd : DevAt w p q M) (hs : SupAt w s p at_ slot0 turn0 txt a c0) (hsp : s ≠ p ∧ s ≠ q ∧ ∀ x, a = some x → x.block ≠ p ∧ x.block ≠ q) (hrd : Rd w B ab b) (hB : B ≤ w.heap.size) (hbx : ∀ x, ab = some x → b = [] ∨ (x.block ≠ p ∧ x.block ≠ q)) (hb : nb = b.length) (hb40 : nb ≤ 40) (hn : n < 9223372036854775808) (ix : Nat) (sc : Sec) (hix : at_ + slot = ix) (hsc : M.secs[ix]? = some sc) (hroom : M.calls + 2 ≤ 1000000000) (hwr : wrap64 (at_ + slot) = at_ + slot) (hdw : DevAt w p q M)
    (R : Ending → World → Prop)
    (h0 : M.isDead = true → ∀ w', WroteNone w w' p q s at_ slot0 turn0 M txt a c0 → R (.returned (.int .i64 10)) w')
    (h1 : M.isDead = false → (M.write ix sc (slotBytes n b)).isDead = true → ∀ w', WroteHalf w w' p q s at_ slot0 turn0 (M.write ix sc (slotBytes n b)) txt a c0 → R (.returned (.int .i64 10)) w')
    (h2 : M.isDead = false → (M.write ix sc (slotBytes n b)).isDead = false → ∀ w' a' c', WroteAll w w' p q s at_ slot n (M.write ix sc (slotBytes n b)).flush b a' c' → R (.returned (.int .i64 0)) w') :
    Calls Try.prog 34 #[.pointer (some ⟨s, 0, none⟩), .int .i64 slot, .int .i64 n, .slice ab nb cb] w R := by
  have HRD0 := Lib.hid hrd
  have H0 := Lib.hid h0
  have H1 := Lib.hid h1
  have H2 := Lib.hid h2
  have HSLOT : Hid (putTo (slot1 n b) 0 4 (sum ((slot1 n b).drop 4)) 4 = slotBytes n b) := rfl
  clear h0 h1 h2
  have hmk : ∀ w, (Instr.makeSlice 22 (.int .i64 64) (.int .i64 64)).run Try.prog w = .ok (.slice (some ⟨w.heap.size, 0, none⟩) 64 64) (w.alloc (.cells (vals (List.replicate 64 0)).toArray 5)) := make_bytes 64 (by omega)
  have hO : Own (w.alloc (.cells (vals (List.replicate 64 0)).toArray 5)) w.heap.size 5 (.slice (some ⟨w.heap.size, 0, none⟩) 64 64) (List.replicate 64 0) := own_made64 w
  have HO := Lib.hid hO
  have HD := Lib.hid (hd.alloc (.cells (vals (List.replicate 64 0)).toArray 5))
  have hsb : Below w.heap.size w (w.alloc (.cells (vals (List.replicate 64 0)).toArray 5)) := (Below.refl _ _).alloc (Nat.le_refl _) _
  have HS := Lib.hid (hs.below' hsb)
  clear hO hd
  go_enter Try.func34, Try.ntmps34
  go_wp2_with fail
  refine (put_any w.heap.size 4 8 60 64 w.heap.size 5 n (List.replicate 64 0) _ (by simp) HO.out (by omega) (by omega) (by omega) (by omega)).mono ?_
  rintro e w1 ⟨rfl, hO1, hon1⟩
  have hX1l : (putTo (List.replicate 64 0) 4 8 n 8).length = 64 := by rw [putTo_len]; simp
  obtain ⟨X1, hX1⟩ : ∃ X1, putTo (List.replicate 64 0) 4 8 n 8 = X1 := ⟨_, rfl⟩
  rw [hX1] at hO1 hX1l
  have HX1 := Lib.hid hX1
  have c12 := hO1.cell hX1l.symm (j := 12) (by omega)
  have f12 := hO1.free hX1l.symm 12
  have hO2 := hO1.set_ hX1l.symm 12 b.length (by omega)
  have hX2l : (X1.set 12 b.length).length = 64 := by rw [List.length_set, hX1l]
  obtain ⟨X2, hX2⟩ : ∃ X2, X1.set 12 b.length = X2 := ⟨_, rfl⟩
  rw [hX2] at hO2 hX2l
  have HX2 := Lib.hid hX2
  have hrow2 := Lib.hid (own_row hO2 hX2l.symm)
  have hrd2 : Rd (w1.setCell ⟨w.heap.size, 12, none⟩ (.int .u8 (b.length : Int))) B ab b := (hrd.alloc hB (.cells (vals (List.replicate 64 0)).toArray 5)).keep fun x hx => by
    rw [World.cell?_setCell_far _ _ _ _ (show w.heap.size ≠ x.block by omega)]
    exact World.cell?_of_block (hon1.block x.block (by omega))
  have HRD2 := Lib.hid hrd2
  have HO2 := Lib.hid hO2
  have HON1 := Lib.hid hon1
  have hsz : Hid ((Try.prog.info? 5).map (·.size) = some 1) := by show (Try.prog.info? 5).map (·.size) = some 1; kernel_rfl
  have hcs : Hid ((vals b).length = Nat.min b.length 51) := by show (vals b).length = Nat.min b.length 51; rw [vals_length]; exact (Nat.min_eq_left (by omega)).symm
  have hfit : 13 + (vals b).length ≤ (vals X2).length := by rw [vals_length, vals_length, hX2l]; omega
  clear hO1 hO2 hon1 hrd2 hrd
  go_wp2_with (first
    | ((with_reducible show wpList _ _ _ (⟨some 26, _, _, _, _, _⟩ :: _) _ _); refine wpList_copy_only (o := ⟨some 26, _, _, _, _, _⟩) (by rfl) (.tmp 24) (.tmp 25) _ _ (by rfl) 5 Try.underlying22 hsz.out (some ⟨w.heap.size, 13, none⟩) ab 51 51 b.length cb (by rfl) (by rfl) w.heap.size 13 (vals X2) 5 hrow2.out (vals b) hcs.out (fun hh => ⟨rfl, rd_cells HRD2.out (by rw [vals_length] at hh; exact hh)⟩) hfit (vals_one b) ?_; intro w3 hg3 ho3)
    | fail)
  obtain ⟨X3, hX3⟩ : ∃ X3, X2.take 13 ++ (b ++ X2.drop (13 + b.length)) = X3 := ⟨_, rfl⟩
  have HX3 := Lib.hid hX3
  have hX3l : X3.length = 64 := by rw [← hX3]; simp; omega
  have hX3b : Bytes X3 := by rw [← hX3]; exact bytes_append (bytes_take HO2.out.2 _) (bytes_append HRD2.out.1 (bytes_drop HO2.out.2 _))
  have hrow3 : w3.heap[w.heap.size]? = some (.cells (vals X3).toArray 5 (0, 0)) := by
    have := hg3.out
    rw [vals_splice X2 b 13 (by rw [vals_length, vals_length] at hfit; exact hfit), hX3] at this
    exact this
  have HROW3 := Lib.hid hrow3
  have hO3 : Own w3.drew w.heap.size 5 (.slice (some ⟨w.heap.size, 0, none⟩) 64 64) X3 := row_own HO2.out hX2l.symm hX3l hX3b hrow3
  have HO3 := Lib.hid hO3
  have hrs : Rd w3.drew (w.heap.size + 1) (some ⟨w.heap.size, 4, none⟩) (X3.drop 4) := by
    have h0 : Rd w3.drew (w.heap.size + 1) (some ⟨w.heap.size, 0, none⟩) X3 := ⟨hX3b, .inr ⟨_, 0, rfl, by omega, fun i hi => by rw [Nat.zero_add]; exact hO3.cell hX3l.symm hi⟩⟩
    simpa using h0.drop 4
  have HRS := Lib.hid hrs
  have hdl : Hid (60 = (X3.drop 4).length) := by show 60 = (X3.drop 4).length; rw [List.length_drop, hX3l]
  have hsl : sum (X3.drop 4) < 18446744073709551616 := Nat.lt_of_lt_of_le (sum_lt _ hrs.1) (by decide)
  have hsum := fun w (h : Rd w (w.heap.size) (some ⟨0, 0, none⟩) []) => h
  clear hsum
  have SUM : ∀ w', w' = w3.drew → Calls Try.prog 36 #[.slice (some ⟨w.heap.size, 4, none⟩) 60 60] w' fun e w'' => e = .returned (.int .u32 (sum (X3.drop 4) : Nat)) ∧ w' = w'' := fun w' e => by
    subst e; exact sum_n _ (X3.drop 4) 60 60 _ _ hdl.out HRS.out (by omega)
  have PUT : ∀ w', w' = w3.drew → Calls Try.prog 37 #[.slice (some ⟨w.heap.size, 0, none⟩) 4 64, .int .u64 (sum (X3.drop 4) : Nat)] w' fun e w'' => e = .returned (.tuple #[]) ∧ Own w'' w.heap.size 5 (.slice (some ⟨w.heap.size, 0, none⟩) 64 64) (putTo X3 0 4 (sum (X3.drop 4)) 4) ∧ Only w.heap.size w' w'' := fun w' e => by
    subst e; exact put_any w.heap.size 0 4 64 64 w.heap.size 5 (sum (X3.drop 4)) X3 _ hX3l HO3.out (by omega) (by omega) (by omega) hsl
  obtain ⟨S, hS⟩ : ∃ S, sum (X3.drop 4) = S := ⟨_, rfl⟩
  rw [hS] at SUM PUT hsl
  have HSUMEQ := Lib.hid hS
  have hS32 : S < 4294967296 := by rw [← hS]; exact sum_lt _ HRS.out.1
  have hw64 : IntKind.u64.wrap (S : Int) = (S : Int) := by simp [IntKind.wrap, IntKind.bits, IntKind.signed]; omega
  have HSUM := Lib.hid SUM
  have HPUT := Lib.hid PUT
  clear hO3 hrs hg3 hrow3 hrow2 hX3 SUM PUT hS HRS hdl HRD2 HO2 HO hcs hfit hX3b hX2l hX1l hX1 hX2 c12 f12 hmk
  go_region_with (first
    | (go_at_call 36; with_reducible refine (HSUM.out _ rfl).mono ?_; rintro e w5 ⟨rfl, rfl⟩)
    | (go_at_call 37; with_reducible refine (HPUT.out _ rfl).mono ?_; rintro e w5 ⟨rfl, hO5, ho5⟩))
  have hk5 : ∀ k, k < w.heap.size → w5.heap[k]? = w.heap[k]? := fun k hk => by
    rw [ho5.block k (by omega)]
    show w3.heap[k]? = _
    rw [ho3.block k (by omega), heap_setCell_other _ _ _ _ (show k ≠ w.heap.size by omega), HON1.out.block k (by omega)]
    exact Below.heap_alloc _ _ _ hk
  have hlt5 : w.heap.size + 1 ≤ w5.heap.size := by
    rw [ho5.size]; show w.heap.size + 1 ≤ w3.heap.size
    have := lt_of_heap HROW3.out
    omega
  have hsz5 : w.heap.size ≤ w5.heap.size := by
    rw [ho5.size]; show w.heap.size ≤ w3.heap.size
    rw [ho3.size]
    have := HON1.out.size
    simp [World.setCell] at this ⊢
    omega
  have s0 : w5.cell? ⟨s, 0, none⟩ = some (.pointer (some ⟨p, 0, none⟩)) := cell_of_row w5 s 0 _ _ _ ((hk5 s hs.lt).trans hs.top)
  have s1 : w5.cell? ⟨s, 1, none⟩ = some (.int .i64 at_) := cell_of_row w5 s 1 _ _ _ ((hk5 s hs.lt).trans hs.top)
  have hdev : DevAt w5 p q M := hdw.keep (hk5 p hdw.ltp) (hk5 q hdw.ltq)
  have HDEV := Lib.hid hdev
  have hO5l : (putTo X3 0 4 S 4).length = 64 := by rw [putTo_len, hX3l]
  have hrd5 : Rd w5 (w.heap.size + 1) (some ⟨w.heap.size, 0, none⟩) (putTo X3 0 4 S 4) := ⟨hO5.2, .inr ⟨_, 0, rfl, by omega, fun i hi => by rw [Nat.zero_add]; exact hO5.cell hO5l.symm hi⟩⟩
  obtain ⟨X5, hX5⟩ : ∃ X5, putTo X3 0 4 S 4 = X5 := ⟨_, rfl⟩
  rw [hX5] at hO5 hO5l hrd5
  have HX5 : Hid (X5 = slotBytes n b) := by
    show X5 = slotBytes n b
    rw [← hX5, ← HSUMEQ.out, ← HX3.out, ← HX2.out, ← HX1.out]
    rfl
  have hix5 : ix ≤ 2048 := by have := hdw.ok.most; have := (List.getElem?_eq_some_iff.1 hsc).1; omega
  have hadd : IntKind.i64.wrap (ix : Int) = (ix : Int) := by simp [IntKind.wrap, IntKind.bits, IntKind.signed]; omega
  have hbel5 : Below w.heap.size w w5 := by
    refine ⟨?_, ?_, ?_, hsz5, hk5⟩
    · rw [ho5.os]; show w3.os = _; rw [ho3.os]; exact HON1.out.os
    · rw [ho5.tape]; show w3.tape = _; rw [ho3.tape]; exact HON1.out.tape
    · rw [ho5.output]; show w3.output = _; rw [ho3.output]; exact HON1.out.output
  have HBEL5 := Lib.hid hbel5
  have hbel5' := hbel5
  have HRD5 := Lib.hid hrd5
  have HLT5 := Lib.hid hlt5
  have HO5L := Lib.hid hO5l
  clear hrd5 hdev hO5 hX5 hlt5 hO5l hbel5
  go_wp2_with fail
  go_still_tail 11, (by kernel_rfl)
  change wpList _ _ _ _ _ w5.drew
  rename_i K1 HK1 K2 HK2
  cases hdead : M.isDead with
  | true =>
    go_wp2_with fail
    refine (write_dead _ _ w5.drew (HDEV.out.keep rfl rfl) hdead).mono ?_
    rintro e w6 ⟨rfl, rfl⟩
    go_wp2_with fail
    exact H0.out hdead _ ⟨HDEV.out.keep rfl rfl, hs.below' hbel5'.drew, hbel5'.drew⟩
  | false =>
    go_wp2_with fail
    have HWD := (write_any (at_ + slot) ix sc X5 (some ⟨w.heap.size, 0, none⟩) 64 64 (w.heap.size + 1) w5.drew (HDEV.out.keep rfl rfl) hix hsc ⟨by omega, hdead⟩ (Lib.hid HO5L.out.symm) HRD5.out HLT5.out (fun x hx => by simp at hx; subst hx; have := hdw.ltp; have := hdw.ltq; constructor <;> (simp; omega)) (by omega))
    rw [hix] at HWD
    refine HWD.mono ?_
    rintro e w6 ⟨rfl, hd6, hk6⟩
    have e5 := HX5.out
    rw [e5] at hd6
    have hs5 := (hs.below' hbel5'.drew)
    have hs6 := hs5.kept hk6 hsp
    have hrd6 : Rd w6 B ab b := (HRD0.out.keep (fun x hx => hbel5'.drew.cell (by omega))).kept_or hk6 (Nat.le_trans hB hsz5) hbx
    have s06 := hs6.c0
    have hkw6 : Kept p q w w6 := (Kept.of_below hbel5'.drew).trans hk6
    have HKW6 := Lib.hid hkw6
    have HD6 := Lib.hid hd6
    have HS6 := Lib.hid hs6
    have HRD6 := Lib.hid hrd6
    clear HWD hd6 hk6 s0 s1 hs5 hs6 hrd6 hkw6
    go_wp2_with fail
    obtain ⟨M', hM'⟩ : ∃ M', M.write ix sc (slotBytes n b) = M' := ⟨_, rfl⟩
    have hcalls : M'.calls = M.calls + 1 := by rw [← hM']; rfl
    rw [hM'] at HD6
    have HM' := Lib.hid hM'
    clear hM'
    cases hdead2 : M'.isDead with
    | true =>
      refine (flush_dead w6 HD6.out hdead2).mono ?_
      rintro e w7 ⟨rfl, rfl⟩
      go_wp2_with fail
      have e := HM'.out
      subst e
      exact H1.out hdead hdead2 _ ⟨HD6.out, HS6.out, HKW6.out⟩
    | false =>
      refine (flush_any w6 HD6.out ⟨by omega, hdead2⟩).mono ?_
      rintro e w7 ⟨rfl, hd7, hk7⟩
      have hs7 := HS6.out.kept hk7 hsp
      have hrd7 := HRD6.out.kept_or hk7 (by have := HKW6.out.size; omega) hbx
      have hkw7 := HKW6.out.trans hk7
      have HD7 := Lib.hid hd7
      have HS7 := Lib.hid hs7
      have HRD7 := Lib.hid hrd7
      have HKW7 := Lib.hid hkw7
      clear hd7 hk7 hs7 hrd7 hkw7 HKW6 HRD6 HS6
      go_wp2_with fail
      refine (clone_any ab b _ _ w7 B (Lib.hid rfl) HRD7.out (by omega) (by have := HKW7.out.size; omega)).mono ?_
      rintro e w8 ⟨v8, rfl, ho8, hb8⟩
      obtain ⟨a8, c8, rfl, hc8, hc8m, hrd8, hg8⟩ := ho8.form
      have hs8 := HS7.out.below' hb8
      have f2 := hs8.free 2
      have f3 := hs8.free 3
      have f4 := hs8.free 4
      have c2 := hs8.c2
      have c3 := hs8.c3
      have c4 := hs8.c4
      have HS8 := Lib.hid hs8
      have HO8 := Lib.hid ho8
      have HB8 := Lib.hid hb8
      have HRD8 := Lib.hid hrd8
      have HG8 := Lib.hid hg8
      clear hs8 ho8 hb8 hrd8 hg8 hc8 hc8m
      go_wp2_with fail
      have e := HM'.out
      subst e
      have hsw := hs.lt
      have hsz7 := HKW7.out.size
      have hsup9 := wrote_sup (n := n) (slot := slot) (by omega) HS8.out HO8.out (Nat.lt_of_lt_of_le hsw hsz7) HG8.out
      have hd8 := HD7.out.below' HB8.out
      refine H2.out hdead hdead2 _ a8 c8 ⟨hd8.keep ?_ ?_, hsup9, ?_, fun x hx => ?_⟩
      · rw [heap_setCell_other _ _ _ _ hsp.1.symm, heap_setCell_other _ _ _ _ hsp.1.symm, heap_setCell_other _ _ _ _ hsp.1.symm]
      · rw [heap_setCell_other _ _ _ _ hsp.2.1.symm, heap_setCell_other _ _ _ _ hsp.2.1.symm, heap_setCell_other _ _ _ _ hsp.2.1.symm]
      · exact ((((Kept3.of HKW7.out).trans (Kept3.of_below HB8.out)).sets _ _).sets _ _).sets _ _
      · obtain ⟨xb, xo, xs⟩ := x
        have := (HG8.out xb xo xs hx).1
        show w.heap.size ≤ xb
        omega
end Go.Proofs.Ytgkmcbpcbannfaa
