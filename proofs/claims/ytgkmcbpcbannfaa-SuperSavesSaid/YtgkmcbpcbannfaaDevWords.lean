/- Words for the device: 'DevAt w p q M': block p is a device's head, block q its sectors, and they read as M. What is kept beside it: 'Kept p q w w''. No walk here. -/
import Derived.Test.YtgkmcbpcbannfaaWords
import Derived.Laws.CopyOwn
import Derived.Laws.CopyRow
import Derived.Laws.Rows
import Derived.Laws.Tables
namespace Go.Proofs.Ytgkmcbpcbannfaa
open Go.RowKit Crc
set_option linter.unusedVariables false

/-- A sector: as it is now, as it lasts, whether it is loose. -/
structure Sec where
  now : List Nat
  lasts : List Nat
  loose : Bool
structure Sec.Ok (s : Sec) : Prop where
  n : s.now.length = 64
  l : s.lasts.length = 64
  bn : Bytes s.now
  bl : Bytes s.lasts
def Sec.cells (s : Sec) : List Value := vals s.now ++ (vals s.lasts ++ [.bool s.loose])
def flat (l : List Sec) : List Value := (l.map Sec.cells).flatten
/-- A device. -/
structure DevM where
  secs : List Sec
  calls : Int
  lit : Bool
  fuse : Int
  dead : Bool
def DevM.head (M : DevM) (q : Nat) : Array Value := #[.slice (some ⟨q, 0, none⟩) M.secs.length M.secs.length, .int .i64 M.calls, .bool M.lit, .int .i64 M.fuse, .bool M.dead]
structure DevM.Ok (M : DevM) : Prop where
  secs : ∀ s ∈ M.secs, s.Ok
  pos : 1 ≤ M.secs.length
  most : M.secs.length ≤ 2048
  fuse0 : 0 ≤ M.fuse ∧ M.fuse ≤ 9223372036854775807
  calls0 : 0 ≤ M.calls ∧ M.calls ≤ 1000000000
structure DevAt (w : World) (p q : Nat) (M : DevM) : Prop where
  ok : M.Ok
  ne : p ≠ q
  top : w.heap[p]? = some (.cells (M.head q) 55 (0, 0))
  row : w.heap[q]? = some (.cells (flat M.secs).toArray 59 (0, 0))

/-- All blocks but two are as they were. -/
structure Kept (p q : Nat) (w w' : World) : Prop where
  os : w'.os = w.os
  tape : w'.tape = w.tape
  output : w'.output = w.output
  size : w.heap.size ≤ w'.heap.size
  block : ∀ k, k < w.heap.size → k ≠ p → k ≠ q → w'.heap[k]? = w.heap[k]?
theorem Kept.refl (p q : Nat) (w : World) : Kept p q w w := ⟨rfl, rfl, rfl, Nat.le_refl _, fun _ _ _ _ => rfl⟩
theorem Kept.trans {p q : Nat} {a b c : World} (h : Kept p q a b) (k : Kept p q b c) : Kept p q a c :=
  ⟨k.os.trans h.os, k.tape.trans h.tape, k.output.trans h.output, Nat.le_trans h.size k.size, fun i hi h1 h2 => (k.block i (Nat.lt_of_lt_of_le hi h.size) h1 h2).trans (h.block i hi h1 h2)⟩
theorem Kept.of_below {p q : Nat} {w w' : World} (h : Below w.heap.size w w') : Kept p q w w' := ⟨h.os, h.tape, h.output, h.size, fun k hk _ _ => h.block k hk⟩
theorem Kept.below {p q B : Nat} {w w' : World} (h : Kept p q w w') (hp : B ≤ p) (hq : B ≤ q) (hB : B ≤ w.heap.size) : Below B w w' :=
  ⟨h.os, h.tape, h.output, h.size, fun k hk => h.block k (by omega) (by omega) (by omega)⟩
theorem Kept.drew {p q : Nat} {a w : World} (h : Kept p q a w) : Kept p q a w.drew := ⟨h.os, h.tape, h.output, h.size, h.block⟩
theorem Kept.drewN {p q : Nat} {a w : World} (h : Kept p q a w) (n : Nat) : Kept p q a (w.drewN n) := ⟨h.os, h.tape, h.output, h.size, h.block⟩
theorem Kept.setCell {p q : Nat} {a w : World} (h : Kept p q a w) {x : Addr} (hx : x.block = p ∨ x.block = q ∨ a.heap.size ≤ x.block) (u : Value) : Kept p q a (w.setCell x u) :=
  ⟨h.os, h.tape, h.output, by have := h.size; simpa [World.setCell] using this, fun k hk h1 h2 => (Below.heap_setCell w x u k (by rcases hx with e | e | e <;> omega)).trans (h.block k hk h1 h2)⟩
theorem Kept.setRow {p q : Nat} {a w : World} (h : Kept p q a w) {g : Nat} (hx : g = p ∨ g = q ∨ a.heap.size ≤ g) (cs : Array Value) : Kept p q a (w.setRow g cs) :=
  ⟨h.os, h.tape, h.output, by have := h.size; simpa [World.setRow] using this, fun k hk h1 h2 => (setRow_other w g k cs (by rcases hx with e | e | e <;> omega)).trans (h.block k hk h1 h2)⟩
theorem Kept.alloc {p q : Nat} {a w : World} (h : Kept p q a w) (o : Obj) : Kept p q a (w.alloc o) :=
  ⟨h.os, h.tape, h.output, by have := h.size; simp; omega, fun k hk h1 h2 => (Below.heap_alloc w o k (Nat.lt_of_lt_of_le hk h.size)).trans (h.block k hk h1 h2)⟩
theorem Kept.cell {p q : Nat} {w w' : World} (h : Kept p q w w') {a : Addr} (h0 : a.block < w.heap.size) (hp : a.block ≠ p) (hq : a.block ≠ q) : w'.cell? a = w.cell? a := World.cell?_of_block (w := w) (h.block a.block h0 hp hq)

theorem Kept.setp {p q : Nat} {a w : World} (h : Kept p q a w) (i : Nat) (u : Value) : Kept p q a (w.setCell ⟨p, i, none⟩ u) := h.setCell (x := ⟨p, i, none⟩) (.inl rfl) u
theorem Kept.setq {p q : Nat} {a w : World} (h : Kept p q a w) (i : Nat) (u : Value) : Kept p q a (w.setCell ⟨q, i, none⟩ u) := h.setCell (x := ⟨q, i, none⟩) (.inr (.inl rfl)) u
theorem Kept.rowq {p q : Nat} {a w : World} (h : Kept p q a w) (cs : Array Value) : Kept p q a (w.setRow q cs) := h.setRow (.inr (.inl rfl)) cs
/-- One block alone has turned. -/
structure Only (g : Nat) (w w' : World) : Prop where
  os : w'.os = w.os
  tape : w'.tape = w.tape
  output : w'.output = w.output
  size : w'.heap.size = w.heap.size
  block : ∀ k, k ≠ g → w'.heap[k]? = w.heap[k]?
theorem Only.row (w : World) (g : Nat) (cs : Array Value) : Only g w (w.setRow g cs) := ⟨rfl, rfl, rfl, by simp, fun k hk => setRow_other w g k cs hk⟩
theorem Only.keptq {p q : Nat} {a w w' : World} (h : Kept p q a w) (o : Only q w w') : Kept p q a w' :=
  h.trans ⟨o.os, o.tape, o.output, Nat.le_of_eq o.size.symm, fun k _ _ h2 => o.block k h2⟩
theorem lt_of_heap {w : World} {k : Nat} {o : Obj} (h : w.heap[k]? = some o) : k < w.heap.size := (Array.getElem?_eq_some_iff.1 h).1
section
variable {w w' : World} {p q : Nat} {M : DevM}
theorem DevAt.ltp (h : DevAt w p q M) : p < w.heap.size := lt_of_heap h.top
theorem DevAt.ltq (h : DevAt w p q M) : q < w.heap.size := lt_of_heap h.row
theorem DevAt.keep (h : DevAt w p q M) (hp : w'.heap[p]? = w.heap[p]?) (hq : w'.heap[q]? = w.heap[q]?) : DevAt w' p q M := ⟨h.ok, h.ne, hp.trans h.top, hq.trans h.row⟩
theorem DevAt.below (h : DevAt w p q M) {B : Nat} (hb : Below B w w') (hp : p < B) (hq : q < B) : DevAt w' p q M := h.keep (hb.block p hp) (hb.block q hq)
theorem DevAt.below' (h : DevAt w p q M) (hb : Below w.heap.size w w') : DevAt w' p q M := h.below hb h.ltp h.ltq
theorem DevAt.kept {a b : Nat} (h : DevAt w p q M) (hk : Kept a b w w') (h1 : p ≠ a) (h2 : p ≠ b) (h3 : q ≠ a) (h4 : q ≠ b) : DevAt w' p q M := h.keep (hk.block p h.ltp h1 h2) (hk.block q h.ltq h3 h4)
theorem DevAt.alloc (h : DevAt w p q M) (o : Obj) : DevAt (w.alloc o) p q M := h.keep (Below.heap_alloc w o p h.ltp) (Below.heap_alloc w o q h.ltq)
theorem DevAt.c (h : DevAt w p q M) (i : Nat) : w.cell? ⟨p, i, none⟩ = (M.head q)[i]? := cell_of_row w p i _ _ _ h.top
theorem DevAt.c0 (h : DevAt w p q M) : w.cell? ⟨p, 0, none⟩ = some (.slice (some ⟨q, 0, none⟩) M.secs.length M.secs.length) := h.c 0
theorem DevAt.c1 (h : DevAt w p q M) : w.cell? ⟨p, 1, none⟩ = some (.int .i64 M.calls) := h.c 1
theorem DevAt.c2 (h : DevAt w p q M) : w.cell? ⟨p, 2, none⟩ = some (.bool M.lit) := h.c 2
theorem DevAt.c3 (h : DevAt w p q M) : w.cell? ⟨p, 3, none⟩ = some (.int .i64 M.fuse) := h.c 3
theorem DevAt.c4 (h : DevAt w p q M) : w.cell? ⟨p, 4, none⟩ = some (.bool M.dead) := h.c 4
theorem DevAt.free (h : DevAt w p q M) (i : Nat) : w.frozen? ⟨p, i, none⟩ = false := frozen_of_row w p i _ _ h.top
theorem DevAt.freeq (h : DevAt w p q M) (i : Nat) : w.frozen? ⟨q, i, none⟩ = false := frozen_of_row w q i _ _ h.row
theorem DevAt.cq (h : DevAt w p q M) (i : Nat) : w.cell? ⟨q, i, none⟩ = (flat M.secs)[i]? := by
  rw [cell_of_row w q i _ _ _ h.row]; simp
end

theorem Sec.cells_length {s : Sec} (h : s.Ok) : s.cells.length = 129 := by simp [Sec.cells, vals_length, h.n, h.l]
theorem flat_length : ∀ {l : List Sec}, (∀ s ∈ l, s.Ok) → (flat l).length = 129 * l.length
  | [], _ => rfl
  | s :: l, h => by
    have e : flat (s :: l) = s.cells ++ flat l := by simp [flat]
    rw [e, List.length_append, Sec.cells_length (h s (by simp)), flat_length (fun x hx => h x (by simp [hx]))]
    simp; omega
theorem flat_append (l m : List Sec) : flat (l ++ m) = flat l ++ flat m := by simp [flat]
theorem flat_one (s : Sec) : flat [s] = s.cells := by simp [flat]
theorem flat_nil : flat [] = [] := rfl
/-- The sectors, parted at one of them. -/
theorem flat_at {l : List Sec} (h : ∀ s ∈ l, s.Ok) {i : Nat} {s : Sec} (hi : l[i]? = some s) : flat l = flat (l.take i) ++ (s.cells ++ flat (l.drop (i + 1))) ∧ (flat (l.take i)).length = 129 * i := by
  have hlt : i < l.length := by
    rcases Nat.lt_or_ge i l.length with h1 | h1
    · exact h1
    · rw [List.getElem?_eq_none h1] at hi; cases hi
  have hs : l[i] = s := by rw [List.getElem?_eq_getElem hlt] at hi; exact Option.some.inj hi
  refine ⟨?_, ?_⟩
  · have e : l = l.take i ++ (s :: l.drop (i + 1)) := by
      rw [← hs, List.getElem_cons_drop, List.take_append_drop]
    conv => lhs; rw [e]
    rw [flat_append]
    congr 1
  · rw [flat_length (fun x hx => h x (List.mem_of_mem_take hx))]
    simp; omega
theorem flat_get {l : List Sec} (h : ∀ s ∈ l, s.Ok) {i : Nat} {s : Sec} (hi : l[i]? = some s) {j : Nat} (hj : j < 129) : (flat l)[129 * i + j]? = s.cells[j]? := by
  obtain ⟨e, hl⟩ := flat_at h hi
  have hs : s.Ok := h s (List.mem_of_getElem? hi)
  rw [e, List.getElem?_append_right (by omega), hl, Nat.add_sub_cancel_left, List.getElem?_append_left (by rw [Sec.cells_length hs]; exact hj)]
theorem cells_now {s : Sec} (h : s.Ok) {j : Nat} (hj : j < 64) : s.cells[j]? = some (.int .u8 (s.now.getD j 0 : Nat)) := by
  unfold Sec.cells
  rw [List.getElem?_append_left (by rw [vals_length, h.n]; exact hj), vals_get _ _ (by rw [h.n]; exact hj)]
theorem cells_lasts {s : Sec} (h : s.Ok) {j : Nat} (hj : j < 64) : s.cells[64 + j]? = some (.int .u8 (s.lasts.getD j 0 : Nat)) := by
  unfold Sec.cells
  rw [List.getElem?_append_right (by rw [vals_length, h.n]; omega), vals_length, h.n, Nat.add_sub_cancel_left, List.getElem?_append_left (by rw [vals_length, h.l]; exact hj), vals_get _ _ (by rw [h.l]; exact hj)]
theorem cells_loose {s : Sec} (h : s.Ok) : s.cells[128]? = some (.bool s.loose) := by
  unfold Sec.cells
  rw [List.getElem?_append_right (by rw [vals_length, h.n]; omega), vals_length, h.n, List.getElem?_append_right (by rw [vals_length, h.l]; omega), vals_length, h.l]
  rfl
/-- Writing a sector's cells: the whole row behind it. -/
theorem flat_splice {l : List Sec} (h : ∀ s ∈ l, s.Ok) {i : Nat} {s s' : Sec} (hi : l[i]? = some s) (off : Nat) (cs : List Value) (hoff : off + cs.length ≤ 129) (hs' : s'.cells = splice s.cells off cs) :
    splice (flat l) (129 * i + off) cs = flat (l.set i s') := by
  obtain ⟨e, hl⟩ := flat_at h hi
  have hs : s.Ok := h s (List.mem_of_getElem? hi)
  have hc := Sec.cells_length hs
  have hlt : i < l.length := by
    rcases Nat.lt_or_ge i l.length with h1 | h1
    · exact h1
    · rw [List.getElem?_eq_none h1] at hi; cases hi
  have e' : flat (l.set i s') = flat (l.take i) ++ (s'.cells ++ flat (l.drop (i + 1))) := by
    have : l.set i s' = l.take i ++ (s' :: l.drop (i + 1)) := List.set_eq_take_append_cons_drop .. |>.trans (by rw [if_pos hlt])
    rw [this, flat_append]
    congr 1
  rw [e', hs', e]
  unfold splice
  generalize flat (l.take i) = A at *
  generalize flat (l.drop (i + 1)) = Z at *
  generalize s.cells = C at *
  rw [List.take_append, hl, show 129 * i + off - 129 * i = off from by omega, List.take_of_length_le (l := A) (by omega), List.drop_append, hl, show 129 * i + off + cs.length - 129 * i = off + cs.length from by omega, List.drop_of_length_le (l := A) (by omega), List.nil_append, List.take_append_of_le_length (by omega), List.drop_append_of_le_length (by omega)]
  simp
theorem set_splice (L : List Value) (k : Nat) (v : Value) (h : k < L.length) : L.set k v = splice L k [v] := by
  unfold splice
  rw [List.set_eq_take_append_cons_drop, if_pos h]
  simp
theorem sec_now {s : Sec} (h : s.Ok) (b : List Nat) (hb : b.length ≤ 64) : splice s.cells 0 (vals b) = (⟨b ++ s.now.drop b.length, s.lasts, s.loose⟩ : Sec).cells := by
  unfold splice Sec.cells
  rw [vals_length, Nat.zero_add, List.drop_append_of_le_length (by rw [vals_length, h.n]; exact hb)]
  simp [vals]
theorem sec_loose {s : Sec} (h : s.Ok) (x : Bool) : splice s.cells 128 [.bool x] = (⟨s.now, s.lasts, x⟩ : Sec).cells := by
  unfold splice Sec.cells
  have h1 : (vals s.now).length = 64 := by rw [vals_length, h.n]
  have h2 : (vals s.lasts).length = 64 := by rw [vals_length, h.l]
  generalize vals s.now = A at *
  generalize vals s.lasts = B at *
  rw [List.take_append, List.take_append, h1, h2, List.take_of_length_le (l := A) (by omega), List.take_of_length_le (l := B) (by omega), List.drop_append, List.drop_append, h1, h2, List.drop_of_length_le (l := A) (by simp; omega), List.drop_of_length_le (l := B) (by simp; omega)]
  simp
theorem sec_lasts {s : Sec} (h : s.Ok) (b : List Nat) (hb : b.length = 64) : splice s.cells 64 (vals b) = (⟨s.now, b, s.loose⟩ : Sec).cells := by
  unfold splice Sec.cells
  have h1 : (vals s.now).length = 64 := by rw [vals_length, h.n]
  have h2 : (vals s.lasts).length = 64 := by rw [vals_length, h.l]
  have h3 : (vals b).length = 64 := by rw [vals_length, hb]
  generalize vals s.now = A at *
  generalize vals s.lasts = B at *
  generalize vals b = C at *
  rw [List.take_append, h1, List.take_of_length_le (l := A) (by omega), List.drop_append, List.drop_append, h1, h2, h3, List.drop_of_length_le (l := A) (by omega), List.drop_of_length_le (l := B) (by omega)]
  simp
/-- A device's row behind a write of cells into one of its sectors. -/
theorem DevAt.write_row {L : List Value} {w w' : World} {p q : Nat} {M : DevM} (h : DevAt w p q M) {i : Nat} {s s' : Sec} (hi : M.secs[i]? = some s) (hs' : s'.Ok) (hc : flat (M.secs.set i s') = L) (hp : w'.heap[p]? = w.heap[p]?) (hq : w'.heap[q]? = some (.cells L.toArray 59 (0, 0))) :
    DevAt w' p q { M with secs := M.secs.set i s' } := by
  refine ⟨⟨fun x hx => ?_, by simpa using h.ok.pos, by simpa using h.ok.most, h.ok.fuse0, h.ok.calls0⟩, h.ne, ?_, by rw [hq, ← hc]⟩
  · rcases List.mem_or_eq_of_mem_set hx with h1 | h1
    · exact h.ok.secs x h1
    · rw [h1]; exact hs'
  · rw [hp, h.top]
    simp [DevM.head]
end Go.Proofs.Ytgkmcbpcbannfaa
