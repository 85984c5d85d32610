/- The walk of IntsOrder: it returns true and writes nothing that was there. No condition but the kinds' own ranges. -/
import Derived.Test.YtdcpbjpghgbbiaaDoorIntsBegun
import Derived.BigQuiet
import Derived.LoopN
import Derived.Laws.Rows
namespace Go.Proofs.YtdcpbjpghgbbiaaDoor
open Go.RowKit
set_option linter.unusedVariables false
set_option maxHeartbeats 8000000
set_option maxRecDepth 100000

theorem eq_yes (k n : Int) (w : World) : Calls Tryd.prog 23 #[.agg #[.int .i64 k, .int .i64 n], .agg #[.int .i64 k, .int .i64 n]] w fun e w' => e = .returned (.bool true) ∧ Below w.heap.size w w' :=
  (eq_any k n k n w).mono fun _ _ h => ⟨h.1.trans (by simp), h.2⟩
theorem may_2 (n : Int) : Hid (mayB (2, n) = true) := rfl
theorem s32_range (n : Int) : -2147483648 ≤ s32 n ∧ s32 n ≤ 2147483647 := by
  unfold s32
  simp [IntKind.wrap, IntKind.bits, IntKind.signed]
  constructor <;> (split <;> omega)
theorem may_1 (n : Int) (h1 : -2147483648 ≤ n) (h2 : n ≤ 2147483647) : Hid (mayB (1, n) = true) := by
  show mayB (1, n) = true
  simp [mayB, h1, h2]
theorem s32_id (n : Int) (h1 : -2147483648 ≤ n) (h2 : n ≤ 2147483647) : s32 n = n := by
  unfold s32
  simp [IntKind.wrap, IntKind.bits, IntKind.signed]
  split <;> omega
theorem asize (w : World) (o : Obj) : (w.alloc o).heap.size = w.heap.size + 1 := by simp
def RK (k x : Int) : Prop := if k = 1 then -2147483648 ≤ x ∧ x ≤ 2147483647 else -9223372036854775808 ≤ x ∧ x ≤ 9223372036854775807
theorem rk_1 (n : Int) (_h : -9223372036854775808 ≤ n ∧ n ≤ 9223372036854775807) : RK 1 (wk 1 n) := s32_range n
theorem rk_2 (n : Int) (h : -9223372036854775808 ≤ n ∧ n ≤ 9223372036854775807) : RK 2 (wk 2 n) := h
theorem wrap_toNat (v : BitVec 64) : IntKind.i64.wrap (v.toNat : Int) = v.toInt := by
  have := v.isLt
  rw [BitVec.toInt_eq_toNat_cond]
  simp [IntKind.wrap, IntKind.bits, IntKind.signed]
  split <;> split <;> omega
theorem b_and (x y : Int) : bits .and .i64 x y = (BitVec.ofInt 64 x &&& BitVec.ofInt 64 y).toInt := wrap_toNat _
theorem b_or (x y : Int) : bits .or .i64 x y = (BitVec.ofInt 64 x ||| BitVec.ofInt 64 y).toInt := wrap_toNat _
theorem b_xor (x y : Int) : bits .xor .i64 x y = (BitVec.ofInt 64 x ^^^ BitVec.ofInt 64 y).toInt := wrap_toNat _
theorem toInt64 (x : Int) (h : -9223372036854775808 ≤ x ∧ x ≤ 9223372036854775807) : (BitVec.ofInt 64 x).toInt = x := by
  rw [BitVec.toInt_ofInt]
  simp [Int.bmod]
  split <;> omega
theorem toInt32 (x : Int) (h : -2147483648 ≤ x ∧ x ≤ 2147483647) : (BitVec.ofInt 32 x).toInt = x := by
  rw [BitVec.toInt_ofInt]
  simp [Int.bmod]
  split <;> omega
theorem ext32 (x : Int) (h : -2147483648 ≤ x ∧ x ≤ 2147483647) : BitVec.ofInt 64 x = (BitVec.ofInt 32 x).signExtend 64 := by
  apply BitVec.eq_of_toInt_eq
  rw [BitVec.toInt_signExtend_of_le (by decide), toInt32 x h, toInt64 x (by omega)]
theorem range64 (v : BitVec 64) : RK 2 v.toInt := by
  have h1 := @BitVec.toInt_lt 64 v
  have h2 := @BitVec.le_toInt 64 v
  show -9223372036854775808 ≤ v.toInt ∧ v.toInt ≤ 9223372036854775807
  simp at h1 h2
  omega
theorem range32 (v : BitVec 32) : RK 1 (v.signExtend 64).toInt := by
  have h1 := @BitVec.toInt_lt 32 v
  have h2 := @BitVec.le_toInt 32 v
  rw [BitVec.toInt_signExtend_of_le (by decide)]
  show -2147483648 ≤ v.toInt ∧ v.toInt ≤ 2147483647
  simp at h1 h2
  omega
theorem add_and_or (a b : BitVec 64) : (a &&& b) + (a ||| b) = a + b := by
  have h1 : a + (b &&& ~~~a) = a ||| b := by
    rw [BitVec.add_eq_or_of_and_eq_zero]
    · ext i; simp; cases a[i] <;> simp
    · ext i; simp; cases a[i] <;> simp
  have h2 : (a &&& b) + (b &&& ~~~a) = b := by
    rw [BitVec.add_eq_or_of_and_eq_zero]
    · ext i; simp; cases a[i] <;> simp
    · ext i; simp; cases a[i] <;> simp
  rw [← h1]
  have : (a &&& b) + (a + (b &&& ~~~a)) = a + ((a &&& b) + (b &&& ~~~a)) := by rw [← BitVec.add_assoc, BitVec.add_comm (a &&& b) a, BitVec.add_assoc]
  rw [this, h2]
theorem wrap64_add (u v : BitVec 64) : wrap64 (u.toInt + v.toInt) = (u + v).toInt := by
  rw [BitVec.toInt_add]
  unfold wrap64
  simp [Int.bmod]
  split <;> omega
theorem rk_bits (k X Y : Int) (hk : k = 1 ∨ k = 2) (rX : RK k X) (rY : RK k Y) : RK k (bits .and .i64 X Y) ∧ RK k (bits .or .i64 X Y) ∧ RK k (bits .xor .i64 X Y) := by
  rw [b_and, b_or, b_xor]
  rcases hk with rfl | rfl
  · rw [ext32 X rX, ext32 Y rY, ← BitVec.signExtend_and, ← BitVec.signExtend_or, ← BitVec.signExtend_xor]
    exact ⟨range32 _, range32 _, range32 _⟩
  · exact ⟨range64 _, range64 _, range64 _⟩
theorem wk_id (k x : Int) (hk : k = 1 ∨ k = 2) (h : RK k x) : wk k x = x := by
  rcases hk with rfl | rfl
  · exact s32_id x h.1 h.2
  · rfl
theorem may_k (k x : Int) (hk : k = 1 ∨ k = 2) (h : RK k x) : Hid (mayB (k, x) = true) := by
  rcases hk with rfl | rfl
  · exact may_1 x h.1 h.2
  · exact may_2 x
theorem mask_facts (k X Y : Int) (hk : k = 1 ∨ k = 2) (rX : RK k X) (rY : RK k Y) :
    Hid (wk k (reckV k 113 X Y) = bits .and .i64 X Y) ∧ Hid (wk k (reckV k 114 X Y) = bits .or .i64 X Y) ∧ Hid (wk k (reckV k 115 X Y) = bits .xor .i64 X Y) ∧
    Hid (wk k (reckV k 106 (bits .and .i64 X Y) (bits .or .i64 X Y)) = wk k (reckV k 106 X Y)) ∧ Hid (wk k (reckV k 114 (bits .and .i64 X Y) (bits .xor .i64 X Y)) = bits .or .i64 X Y) ∧
    Hid (wk k (reckV k 115 (bits .xor .i64 X Y) Y) = X) ∧ Hid (mayB (k, X) = true) ∧ Hid (mayB (k, Y) = true) ∧ Hid (mayB (k, bits .and .i64 X Y) = true) ∧ Hid (mayB (k, bits .or .i64 X Y) = true) ∧ Hid (mayB (k, bits .xor .i64 X Y) = true) := by
  obtain ⟨r1, r2, r3⟩ := rk_bits k X Y hk rX rY
  have big : ∀ x, RK k x → -9223372036854775808 ≤ x ∧ x ≤ 9223372036854775807 := by
    intro x h
    rcases hk with rfl | rfl
    · have : -2147483648 ≤ x ∧ x ≤ 2147483647 := h
      omega
    · exact h
  have eU : bits .or .i64 (bits .and .i64 X Y) (bits .xor .i64 X Y) = bits .or .i64 X Y := by
    rw [b_or (bits .and .i64 X Y), b_and, b_xor, b_or, BitVec.ofInt_toInt, BitVec.ofInt_toInt]
    congr 1
    ext i; simp; cases (BitVec.ofInt 64 X)[i] <;> simp
  have eV : bits .xor .i64 (bits .xor .i64 X Y) Y = X := by
    rw [b_xor (bits .xor .i64 X Y), b_xor, BitVec.ofInt_toInt]
    have : BitVec.ofInt 64 X ^^^ BitVec.ofInt 64 Y ^^^ BitVec.ofInt 64 Y = BitVec.ofInt 64 X := by
      rw [BitVec.xor_assoc, BitVec.xor_self, BitVec.xor_zero]
    rw [this, toInt64 X (big X rX)]
  have eS : wrap64 (bits .and .i64 X Y + bits .or .i64 X Y) = wrap64 (X + Y) := by
    rw [b_and, b_or, wrap64_add, add_and_or, ← wrap64_add, toInt64 X (big X rX), toInt64 Y (big Y rY)]
  refine ⟨wk_id k _ hk r1, wk_id k _ hk r2, wk_id k _ hk r3, ?_, ?_, ?_, may_k k X hk rX, may_k k Y hk rY, may_k k _ hk r1, may_k k _ hk r2, may_k k _ hk r3⟩
  · exact congrArg (wk k) eS
  · exact (congrArg (wk k) eU).trans (wk_id k _ hk r2)
  · exact (congrArg (wk k) eV).trans (wk_id k _ hk rX)


/-- The truths of the law, up to one of them. -/
def ordCells (k X Y : Int) (j : Nat) : List Value := (List.range 10).map fun i => .bool (if i < j then cmpB (70 + (i : Int)) (k, X) (k, Y) else false)
def OrdRow (w : World) (V : Nat) (k X Y : Int) (j : Nat) : Prop := w.heap[V]? = some (.cells (ordCells k X Y j).toArray 41 (0, 0))
theorem OrdRow.keep {w w' : World} {V j : Nat} {k X Y : Int} (h : OrdRow w V k X Y j) (hk : w'.heap[V]? = w.heap[V]?) : OrdRow w' V k X Y j := hk.trans h
theorem OrdRow.lt {w : World} {V j : Nat} {k X Y : Int} (h : OrdRow w V k X Y j) : V < w.heap.size := (Array.getElem?_eq_some_iff.1 h).1
theorem OrdRow.free {w : World} {V j : Nat} {k X Y : Int} (h : OrdRow w V k X Y j) (i : Nat) : w.frozen? ⟨V, i, none⟩ = false := frozen_of_row w V i _ _ h
theorem OrdRow.cell {w : World} {V j : Nat} {k X Y : Int} (h : OrdRow w V k X Y j) (i : Nat) (hi : i < 10) : w.cell? ⟨V, i, none⟩ = some (.bool (if i < j then cmpB (70 + (i : Int)) (k, X) (k, Y) else false)) := by
  rw [cell_of_row w V i _ _ _ h]
  simp [ordCells, hi]
theorem ord_set (k X Y : Int) (j : Nat) (hj : j < 10) : (ordCells k X Y j).set j (.bool (cmpB (70 + (j : Int)) (k, X) (k, Y))) = ordCells k X Y (j + 1) := by
  apply List.ext_getElem?
  intro i
  by_cases hi : i < 10
  · rw [List.getElem?_set]
    by_cases he : j = i
    · subst he
      rw [if_pos rfl, if_pos (by simp [ordCells]; omega)]
      simp [ordCells, hi]
    · rw [if_neg he]
      by_cases h1 : i < j
      · simp [ordCells, hi, h1, show i < j + 1 by omega]
      · simp [ordCells, hi, h1, show ¬ i < j + 1 by omega]
  · rw [List.getElem?_eq_none (by simp [ordCells]; omega), List.getElem?_eq_none (by simp [ordCells]; omega)]
theorem OrdRow.next {w : World} {V j : Nat} {k X Y : Int} (h : OrdRow w V k X Y j) (hj : j < 10) (b : Bool) (hb : cmpB (70 + (j : Int)) (k, X) (k, Y) = b) : OrdRow (w.setCell ⟨V, j, none⟩ (.bool b)) V k X Y (j + 1) := by
  show (w.setCell ⟨V, j, none⟩ (.bool b)).heap[V]? = _
  rw [heap_setCell_same w V j _ _ _ h, ← hb, ← ord_set k X Y j hj]
  simp
theorem ord_new (k X Y : Int) (w : World) : OrdRow (w.alloc (.cells #[.bool false, .bool false, .bool false, .bool false, .bool false, .bool false, .bool false, .bool false, .bool false, .bool false] 41)) w.heap.size k X Y 0 := heap_alloc_new w _
theorem OrdRow.all {w : World} {V : Nat} {k X Y : Int} (h : OrdRow w V k X Y 10) : w.cell? ⟨V, 0, none⟩ = some (.bool (cmpB 70 (k, X) (k, Y))) ∧ w.cell? ⟨V, 1, none⟩ = some (.bool (cmpB 71 (k, X) (k, Y))) ∧ w.cell? ⟨V, 2, none⟩ = some (.bool (cmpB 72 (k, X) (k, Y))) ∧ w.cell? ⟨V, 3, none⟩ = some (.bool (cmpB 73 (k, X) (k, Y))) ∧ w.cell? ⟨V, 4, none⟩ = some (.bool (cmpB 74 (k, X) (k, Y))) ∧ w.cell? ⟨V, 5, none⟩ = some (.bool (cmpB 75 (k, X) (k, Y))) ∧ w.cell? ⟨V, 6, none⟩ = some (.bool (cmpB 76 (k, X) (k, Y))) ∧ w.cell? ⟨V, 7, none⟩ = some (.bool (cmpB 77 (k, X) (k, Y))) ∧ w.cell? ⟨V, 8, none⟩ = some (.bool (cmpB 78 (k, X) (k, Y))) ∧ w.cell? ⟨V, 9, none⟩ = some (.bool (cmpB 79 (k, X) (k, Y))) :=
  ⟨h.cell 0 (by decide), h.cell 1 (by decide), h.cell 2 (by decide), h.cell 3 (by decide), h.cell 4 (by decide), h.cell 5 (by decide), h.cell 6 (by decide), h.cell 7 (by decide), h.cell 8 (by decide), h.cell 9 (by decide)⟩
theorem ofs_1 : ∀ j < 10, ofV (70 + ((j : Nat) : Int)) = (1, 70 + (j : Int)) ∧ kindsV (70 + (j : Int)) = ([1, 1], 1, true) := by decide
theorem ofs_2 : ∀ j < 10, ofV (81 + ((j : Nat) : Int)) = (2, 70 + (j : Int)) ∧ kindsV (81 + (j : Int)) = ([2, 2], 1, true) := by decide
theorem two_boxes {w : World} {V bx by' : Nat} {k X Y : Int} {j : Nat} (h : Boxes w [(by', k, Y), (bx, k, X)]) (u : Value) (h1 : bx ≠ V) (h2 : by' ≠ V) : Boxes (w.setCell ⟨V, j, none⟩ u) [(by', k, Y), (bx, k, X)] := by
  obtain ⟨⟨a1, a2, a3⟩, ⟨b1, b2, b3⟩, _⟩ := h
  refine ⟨⟨by simpa [World.setCell] using a1, ?_, ?_⟩, ⟨by simpa [World.setCell] using b1, ?_, ?_⟩, trivial⟩
  · rw [World.cell?_setCell_far _ _ _ _ (show V ≠ by' from h2.symm)]; exact a2
  · rw [World.cell?_setCell_far _ _ _ _ (show V ≠ by' from h2.symm)]; exact a3
  · rw [World.cell?_setCell_far _ _ _ _ (show V ≠ bx from h1.symm)]; exact b2
  · rw [World.cell?_setCell_far _ _ _ _ (show V ≠ bx from h1.symm)]; exact b3
theorem ord_A (k X Y : Int) (h : X = Y) : cmpB 70 (k, X) (k, Y) = true ∧ cmpB 71 (k, X) (k, Y) = false ∧ cmpB 72 (k, X) (k, Y) = false ∧ cmpB 73 (k, X) (k, Y) = false ∧ cmpB 74 (k, X) (k, Y) = false ∧ cmpB 75 (k, X) (k, Y) = false ∧ cmpB 76 (k, X) (k, Y) = true ∧ cmpB 77 (k, X) (k, Y) = true ∧ cmpB 78 (k, X) (k, Y) = true ∧ cmpB 79 (k, X) (k, Y) = true := by
  subst h
  refine ⟨?_, ?_, ?_, ?_, ?_, ?_, ?_, ?_, ?_, ?_⟩ <;> simp [cmpB]
theorem ord_B (k X Y : Int) (h : X < Y) (hl : low (k, X) < low (k, Y)) : cmpB 70 (k, X) (k, Y) = false ∧ cmpB 71 (k, X) (k, Y) = true ∧ cmpB 72 (k, X) (k, Y) = true ∧ cmpB 73 (k, X) (k, Y) = true ∧ cmpB 74 (k, X) (k, Y) = false ∧ cmpB 75 (k, X) (k, Y) = false ∧ cmpB 76 (k, X) (k, Y) = true ∧ cmpB 77 (k, X) (k, Y) = true ∧ cmpB 78 (k, X) (k, Y) = false ∧ cmpB 79 (k, X) (k, Y) = false := by
  have e : ¬ X = Y := by omega
  refine ⟨?_, ?_, ?_, ?_, ?_, ?_, ?_, ?_, ?_, ?_⟩ <;> simp [cmpB, e] <;> omega
theorem ord_C (k X Y : Int) (h : X < Y) (hl : low (k, Y) < low (k, X)) : cmpB 70 (k, X) (k, Y) = false ∧ cmpB 71 (k, X) (k, Y) = true ∧ cmpB 72 (k, X) (k, Y) = true ∧ cmpB 73 (k, X) (k, Y) = false ∧ cmpB 74 (k, X) (k, Y) = false ∧ cmpB 75 (k, X) (k, Y) = true ∧ cmpB 76 (k, X) (k, Y) = true ∧ cmpB 77 (k, X) (k, Y) = false ∧ cmpB 78 (k, X) (k, Y) = false ∧ cmpB 79 (k, X) (k, Y) = true := by
  have e : ¬ X = Y := by omega
  refine ⟨?_, ?_, ?_, ?_, ?_, ?_, ?_, ?_, ?_, ?_⟩ <;> simp [cmpB, e] <;> omega
theorem ord_D (k X Y : Int) (h : Y < X) (hl : low (k, Y) < low (k, X)) : cmpB 70 (k, X) (k, Y) = false ∧ cmpB 71 (k, X) (k, Y) = true ∧ cmpB 72 (k, X) (k, Y) = false ∧ cmpB 73 (k, X) (k, Y) = false ∧ cmpB 74 (k, X) (k, Y) = true ∧ cmpB 75 (k, X) (k, Y) = true ∧ cmpB 76 (k, X) (k, Y) = false ∧ cmpB 77 (k, X) (k, Y) = false ∧ cmpB 78 (k, X) (k, Y) = true ∧ cmpB 79 (k, X) (k, Y) = true := by
  have e : ¬ X = Y := by omega
  refine ⟨?_, ?_, ?_, ?_, ?_, ?_, ?_, ?_, ?_, ?_⟩ <;> simp [cmpB, e] <;> omega
theorem ord_E (k X Y : Int) (h : Y < X) (hl : low (k, X) < low (k, Y)) : cmpB 70 (k, X) (k, Y) = false ∧ cmpB 71 (k, X) (k, Y) = true ∧ cmpB 72 (k, X) (k, Y) = false ∧ cmpB 73 (k, X) (k, Y) = true ∧ cmpB 74 (k, X) (k, Y) = true ∧ cmpB 75 (k, X) (k, Y) = false ∧ cmpB 76 (k, X) (k, Y) = false ∧ cmpB 77 (k, X) (k, Y) = true ∧ cmpB 78 (k, X) (k, Y) = true ∧ cmpB 79 (k, X) (k, Y) = false := by
  have e : ¬ X = Y := by omega
  refine ⟨?_, ?_, ?_, ?_, ?_, ?_, ?_, ?_, ?_, ?_⟩ <;> simp [cmpB, e] <;> omega
theorem ord_cases (k X Y : Int) (hk : k = 1 ∨ k = 2) (rX : RK k X) (rY : RK k Y) : X = Y ∨ (X < Y ∧ low (k, X) < low (k, Y)) ∨ (X < Y ∧ low (k, Y) < low (k, X) ∧ X < 0 ∧ 0 ≤ Y) ∨ (Y < X ∧ low (k, Y) < low (k, X)) ∨ (Y < X ∧ low (k, X) < low (k, Y) ∧ 0 ≤ X ∧ Y < 0) := by
  rcases hk with rfl | rfl
  · have a : -2147483648 ≤ X ∧ X ≤ 2147483647 := rX
    have b : -2147483648 ≤ Y ∧ Y ≤ 2147483647 := rY
    have e : ∀ Z, low (1, Z) = Z % 4294967296 := fun _ => rfl
    rw [e, e]; omega
  · have a : -9223372036854775808 ≤ X ∧ X ≤ 9223372036854775807 := rX
    have b : -9223372036854775808 ≤ Y ∧ Y ≤ 9223372036854775807 := rY
    have e : ∀ Z, low (2, Z) = Z % 18446744073709551616 := fun _ => rfl
    rw [e, e]; omega

theorem order_1 (a b : Int) (w0 : (Lit.int .i64 a).wf = true) (w1 : (Lit.int .i64 b).wf = true) (w : World) : Calls Tryd.prog 7 #[.int .i64 a, .int .i64 b, .bool false] w fun e w' => e = .returned (.bool true) ∧ Below w.heap.size w w' := by
  obtain ⟨X, hX⟩ : ∃ X, X = wk 1 a := ⟨_, rfl⟩
  obtain ⟨Y, hY⟩ : ∃ Y, Y = wk 1 b := ⟨_, rfl⟩
  have rX : RK 1 X := by rw [hX]; exact rk_1 a (bounds_i64 w0)
  have rY : RK 1 Y := by rw [hY]; exact rk_1 b (bounds_i64 w1)
  clear w0 w1
  have MX := may_k 1 X (.inl rfl) rX
  have MY := may_k 1 Y (.inl rfl) rY
  have hcases := ord_cases 1 X Y (.inl rfl) rX rY
  have HC := Lib.hid hcases
  have HX := Lib.hid hX.symm
  have HY := Lib.hid hY.symm
  clear hX hY rX rY hcases
  go_enter Tryd.func7, Tryd.ntmps7
  go_wp2_with fail
  refine (begun_any w).mono ?_
  rintro e w1 ⟨rfl, hbw⟩
  go_wp2_with fail
  refine (refwrap_1 a _).mono ?_
  rintro e w2 ⟨rfl, hb2⟩
  replace hbw := hbw.trans (hb2.mono hbw.size)
  clear hb2
  rw [HX.out]
  go_wp2_with fail
  refine (refwrap_1 b _).mono ?_
  rintro e w3 ⟨rfl, hb3⟩
  replace hbw := hbw.trans (hb3.mono hbw.size)
  have hw3 := hbw.size
  clear hb3
  rw [HY.out]
  have hB := Boxes.new (Boxes.new (w := w3) (l := []) trivial 1 X 23) 1 Y 23
  replace hbw := hbw.alloc hbw.size (.cells #[.int .i64 1, .int .i64 X] 23)
  replace hbw := hbw.alloc hbw.size (.cells #[.int .i64 1, .int .i64 Y] 23)
  simp only [asize] at hB
  have hrow0 := ord_new 1 X Y ((w3.alloc (.cells #[.int .i64 1, .int .i64 X] 23)).alloc (.cells #[.int .i64 1, .int .i64 Y] 23))
  simp only [asize] at hrow0
  have hB5 := hB.below (one_block _ (.cells #[.bool false, .bool false, .bool false, .bool false, .bool false, .bool false, .bool false, .bool false, .bool false, .bool false] 41))
  have hbw5 := hbw.alloc hbw.size (.cells #[.bool false, .bool false, .bool false, .bool false, .bool false, .bool false, .bool false, .bool false, .bool false, .bool false] 41)
  clear hB hbw
  have hbase : w.heap.size ≤ w3.heap.size := hw3
  go_wp2_with fail
  go_loopw [13] (fun i wr => ∃ j : Nat, j ≤ 10 ∧ i = .int .i64 j ∧ OrdRow wr (w3.heap.size + 1 + 1) 1 X Y j ∧ Boxes wr [(w3.heap.size + 1, 1, Y), (w3.heap.size, 1, X)] ∧ Below w.heap.size w wr) (fun i _ => 10 - (intOf i).toNat)
  case atStart => exact ⟨0, by omega, rfl, hrow0, hB5, hbw5⟩
  case round =>
    obtain ⟨j, hj, rfl, hrow, hB, hb⟩ := hrel
    clear hrow0 hB5 hbw5
    have hB' := hB
    obtain ⟨⟨z0, x0, y0⟩, ⟨z1, x1, y1⟩, _⟩ := hB'
    have HR := Lib.hid hrow
    have HB := Lib.hid hB
    have hVlt := hrow.lt
    clear hrow hB
    by_cases hlt : j < 10
    · obtain ⟨hof, hkd⟩ := ofs_1 j hlt
      have HO := Lib.hid hof
      have HK := Lib.hid hkd
      clear hof hkd
      go_wp2_with fail
      refine (two_cmp _ 1 (70 + (j : Int)) X Y _ (.inl rfl) HO HK (by omega) MX MY).mono ?_
      rintro e w6 ⟨rfl, hb6⟩
      clear z0 x0 y0 z1 x1 y1
      have hbw6 := hb.trans (hb6.mono hb.size)
      obtain ⟨B, hBv⟩ : ∃ B, cmpB (70 + (j : Int)) (1, X) (1, Y) = B := ⟨_, rfl⟩
      rw [hBv]
      have HBV := Lib.hid hBv
      have HR6 := Lib.hid (HR.out.keep (hb6.block _ hVlt))
      have HB6 := Lib.hid (HB.out.below hb6)
      have hV6 := HR6.out.lt
      clear hBv hb6
      unfold T2
      cases B
      · rw [show b2i false = 0 from rfl]
        have HR7 := Lib.hid (HR6.out.keep (Below.heap_alloc w6 (.cells #[.int .i64 1, .int .i64 0] 23) _ hV6))
        have HB7 := Lib.hid (HB6.out.below (one_block w6 (.cells #[.int .i64 1, .int .i64 0] 23)))
        have hbw7 := hbw6.alloc hbw6.size (.cells #[.int .i64 1, .int .i64 0] 23)
        have cV := HR7.out.cell j hlt
        have fV := HR7.out.free j
        rw [if_neg (Nat.lt_irrefl j)] at cV
        have hnx := HR6.out.next hlt false HBV.out
        have hfin := Lib.hid (hnx.keep (Below.heap_alloc _ (.cells #[.int .i64 1, .int .i64 0] 23) _ hnx.lt))
        have hbox := Lib.hid ((two_boxes (j := j) HB6.out (.bool false) (show w3.heap.size ≠ w3.heap.size + 1 + 1 by omega) (show w3.heap.size + 1 ≠ w3.heap.size + 1 + 1 by omega)).below (one_block _ (.cells #[.int .i64 1, .int .i64 0] 23)))
        clear hnx
        have hbs := hbw6.setCell (p := ⟨w3.heap.size + 1 + 1, j, none⟩) (show w.heap.size ≤ w3.heap.size + 1 + 1 by omega) (.bool false)
        have hbel := Lib.hid (hbs.alloc hbs.size (.cells #[.int .i64 1, .int .i64 0] 23))
        clear hbs
        go_wp2_with fail
        go_roundw
        case rel => exact ⟨j + 1, by omega, by go_num, hfin.out, hbox.out, hbel.out⟩
        case measure => simp [intOf]; omega
      · rw [show b2i true = 1 from rfl]
        have HR7 := Lib.hid (HR6.out.keep (Below.heap_alloc w6 (.cells #[.int .i64 1, .int .i64 1] 23) _ hV6))
        have HB7 := Lib.hid (HB6.out.below (one_block w6 (.cells #[.int .i64 1, .int .i64 1] 23)))
        have hbw7 := hbw6.alloc hbw6.size (.cells #[.int .i64 1, .int .i64 1] 23)
        have cV := HR7.out.cell j hlt
        have fV := HR7.out.free j
        rw [if_neg (Nat.lt_irrefl j)] at cV
        have hnx := HR6.out.next hlt true HBV.out
        have hfin := Lib.hid (hnx.keep (Below.heap_alloc _ (.cells #[.int .i64 1, .int .i64 1] 23) _ hnx.lt))
        have hbox := Lib.hid ((two_boxes (j := j) HB6.out (.bool true) (show w3.heap.size ≠ w3.heap.size + 1 + 1 by omega) (show w3.heap.size + 1 ≠ w3.heap.size + 1 + 1 by omega)).below (one_block _ (.cells #[.int .i64 1, .int .i64 1] 23)))
        clear hnx
        have hbs := hbw6.setCell (p := ⟨w3.heap.size + 1 + 1, j, none⟩) (show w.heap.size ≤ w3.heap.size + 1 + 1 by omega) (.bool true)
        have hbel := Lib.hid (hbs.alloc hbs.size (.cells #[.int .i64 1, .int .i64 1] 23))
        clear hbs
        go_wp2_with fail
        go_roundw
        case rel => exact ⟨j + 1, by omega, by go_num, hfin.out, hbox.out, hbel.out⟩
        case measure => simp [intOf]; omega
    · have : j = 10 := by omega
      subst this
      have call := HR.out.all
      have HCALL := Lib.hid call
      clear call
      rcases HC.out with hc | ⟨hc, hl⟩ | ⟨hc, hl, s1, s2⟩ | ⟨hc, hl⟩ | ⟨hc, hl, s1, s2⟩
      · obtain ⟨c0, c1, c2, c3, c4, c5, c6, c7, c8, c9⟩ := HCALL.out
        obtain ⟨t0, t1, t2, t3, t4, t5, t6, t7, t8, t9⟩ := ord_A 1 X Y hc
        rw [t0] at c0
        rw [t1] at c1
        rw [t2] at c2
        rw [t3] at c3
        rw [t4] at c4
        rw [t5] at c5
        rw [t6] at c6
        rw [t7] at c7
        rw [t8] at c8
        rw [t9] at c9
        subst hc
        have q2 : decide (X < X) = false := decide_eq_false (by omega)
        clear t0 t1 t2 t3 t4 t5 t6 t7 t8 t9
        go_wp2_with fail
        refine wp_loop_rounds 3 ?_
        rw [rounds_succ]
        go_wp2_with fail
        go_quiet (fail)
        go_wp2_with fail
        rw [rounds_succ]
        go_wp2_with fail
        go_quiet (fail)
        go_wp2_with fail
        rw [rounds_succ]
        go_wp2_with fail
        go_ret
        exact ⟨rfl, below_drewN hb _⟩
      · obtain ⟨c0, c1, c2, c3, c4, c5, c6, c7, c8, c9⟩ := HCALL.out
        obtain ⟨t0, t1, t2, t3, t4, t5, t6, t7, t8, t9⟩ := ord_B 1 X Y hc hl
        rw [t0] at c0
        rw [t1] at c1
        rw [t2] at c2
        rw [t3] at c3
        rw [t4] at c4
        rw [t5] at c5
        rw [t6] at c6
        rw [t7] at c7
        rw [t8] at c8
        rw [t9] at c9
        have q1 : (X == Y) = false := beq_eq_false_iff_ne.2 (by omega)
        have q1b : ¬ X = Y := by omega
        have q2 : decide (X < Y) = true := decide_eq_true (by omega)
        clear hc hl t0 t1 t2 t3 t4 t5 t6 t7 t8 t9
        go_wp2_with fail
        refine wp_loop_rounds 3 ?_
        rw [rounds_succ]
        go_wp2_with fail
        go_quiet (fail)
        go_wp2_with fail
        rw [rounds_succ]
        go_wp2_with fail
        go_quiet (fail)
        go_wp2_with fail
        rw [rounds_succ]
        go_wp2_with fail
        go_ret
        exact ⟨rfl, below_drewN hb _⟩
      · obtain ⟨c0, c1, c2, c3, c4, c5, c6, c7, c8, c9⟩ := HCALL.out
        obtain ⟨t0, t1, t2, t3, t4, t5, t6, t7, t8, t9⟩ := ord_C 1 X Y hc hl
        rw [t0] at c0
        rw [t1] at c1
        rw [t2] at c2
        rw [t3] at c3
        rw [t4] at c4
        rw [t5] at c5
        rw [t6] at c6
        rw [t7] at c7
        rw [t8] at c8
        rw [t9] at c9
        have q1 : (X == Y) = false := beq_eq_false_iff_ne.2 (by omega)
        have q1b : ¬ X = Y := by omega
        have q2 : decide (X < Y) = true := decide_eq_true (by omega)
        have q3 : decide (X < 0) = true := decide_eq_true (by omega)
        have q4 : decide (Y < 0) = false := decide_eq_false (by omega)
        clear hc hl s1 s2 t0 t1 t2 t3 t4 t5 t6 t7 t8 t9
        go_wp2_with fail
        refine wp_loop_rounds 3 ?_
        rw [rounds_succ]
        go_wp2_with fail
        go_quiet (fail)
        go_wp2_with fail
        rw [rounds_succ]
        go_wp2_with fail
        go_quiet (fail)
        go_wp2_with fail
        rw [rounds_succ]
        go_wp2_with fail
        go_ret
        exact ⟨rfl, below_drewN hb _⟩
      · obtain ⟨c0, c1, c2, c3, c4, c5, c6, c7, c8, c9⟩ := HCALL.out
        obtain ⟨t0, t1, t2, t3, t4, t5, t6, t7, t8, t9⟩ := ord_D 1 X Y hc hl
        rw [t0] at c0
        rw [t1] at c1
        rw [t2] at c2
        rw [t3] at c3
        rw [t4] at c4
        rw [t5] at c5
        rw [t6] at c6
        rw [t7] at c7
        rw [t8] at c8
        rw [t9] at c9
        have q1 : (X == Y) = false := beq_eq_false_iff_ne.2 (by omega)
        have q1b : ¬ X = Y := by omega
        have q2 : decide (X < Y) = false := decide_eq_false (by omega)
        clear hc hl t0 t1 t2 t3 t4 t5 t6 t7 t8 t9
        go_wp2_with fail
        refine wp_loop_rounds 3 ?_
        rw [rounds_succ]
        go_wp2_with fail
        go_quiet (fail)
        go_wp2_with fail
        rw [rounds_succ]
        go_wp2_with fail
        go_quiet (fail)
        go_wp2_with fail
        rw [rounds_succ]
        go_wp2_with fail
        go_ret
        exact ⟨rfl, below_drewN hb _⟩
      · obtain ⟨c0, c1, c2, c3, c4, c5, c6, c7, c8, c9⟩ := HCALL.out
        obtain ⟨t0, t1, t2, t3, t4, t5, t6, t7, t8, t9⟩ := ord_E 1 X Y hc hl
        rw [t0] at c0
        rw [t1] at c1
        rw [t2] at c2
        rw [t3] at c3
        rw [t4] at c4
        rw [t5] at c5
        rw [t6] at c6
        rw [t7] at c7
        rw [t8] at c8
        rw [t9] at c9
        have q1 : (X == Y) = false := beq_eq_false_iff_ne.2 (by omega)
        have q1b : ¬ X = Y := by omega
        have q2 : decide (X < Y) = false := decide_eq_false (by omega)
        have q3 : decide (X < 0) = false := decide_eq_false (by omega)
        have q4 : decide (Y < 0) = true := decide_eq_true (by omega)
        clear hc hl s1 s2 t0 t1 t2 t3 t4 t5 t6 t7 t8 t9
        go_wp2_with fail
        refine wp_loop_rounds 3 ?_
        rw [rounds_succ]
        go_wp2_with fail
        go_quiet (fail)
        go_wp2_with fail
        rw [rounds_succ]
        go_wp2_with fail
        go_quiet (fail)
        go_wp2_with fail
        rw [rounds_succ]
        go_wp2_with fail
        go_ret
        exact ⟨rfl, below_drewN hb _⟩
theorem order_2 (a b : Int) (w0 : (Lit.int .i64 a).wf = true) (w1 : (Lit.int .i64 b).wf = true) (w : World) : Calls Tryd.prog 7 #[.int .i64 a, .int .i64 b, .bool true] w fun e w' => e = .returned (.bool true) ∧ Below w.heap.size w w' := by
  obtain ⟨X, hX⟩ : ∃ X, X = wk 2 a := ⟨_, rfl⟩
  obtain ⟨Y, hY⟩ : ∃ Y, Y = wk 2 b := ⟨_, rfl⟩
  have rX : RK 2 X := by rw [hX]; exact rk_2 a (bounds_i64 w0)
  have rY : RK 2 Y := by rw [hY]; exact rk_2 b (bounds_i64 w1)
  clear w0 w1
  have MX := may_k 2 X (.inr rfl) rX
  have MY := may_k 2 Y (.inr rfl) rY
  have hcases := ord_cases 2 X Y (.inr rfl) rX rY
  have HC := Lib.hid hcases
  have HX := Lib.hid hX.symm
  have HY := Lib.hid hY.symm
  clear hX hY rX rY hcases
  go_enter Tryd.func7, Tryd.ntmps7
  go_wp2_with fail
  refine (begun_any w).mono ?_
  rintro e w1 ⟨rfl, hbw⟩
  go_wp2_with fail
  refine (refwrap_2 a _).mono ?_
  rintro e w2 ⟨rfl, hb2⟩
  replace hbw := hbw.trans (hb2.mono hbw.size)
  clear hb2
  rw [HX.out]
  go_wp2_with fail
  refine (refwrap_2 b _).mono ?_
  rintro e w3 ⟨rfl, hb3⟩
  replace hbw := hbw.trans (hb3.mono hbw.size)
  have hw3 := hbw.size
  clear hb3
  rw [HY.out]
  have hB := Boxes.new (Boxes.new (w := w3) (l := []) trivial 2 X 23) 2 Y 23
  replace hbw := hbw.alloc hbw.size (.cells #[.int .i64 2, .int .i64 X] 23)
  replace hbw := hbw.alloc hbw.size (.cells #[.int .i64 2, .int .i64 Y] 23)
  simp only [asize] at hB
  have hrow0 := ord_new 2 X Y ((w3.alloc (.cells #[.int .i64 2, .int .i64 X] 23)).alloc (.cells #[.int .i64 2, .int .i64 Y] 23))
  simp only [asize] at hrow0
  have hB5 := hB.below (one_block _ (.cells #[.bool false, .bool false, .bool false, .bool false, .bool false, .bool false, .bool false, .bool false, .bool false, .bool false] 41))
  have hbw5 := hbw.alloc hbw.size (.cells #[.bool false, .bool false, .bool false, .bool false, .bool false, .bool false, .bool false, .bool false, .bool false, .bool false] 41)
  clear hB hbw
  have hbase : w.heap.size ≤ w3.heap.size := hw3
  go_wp2_with fail
  go_loopw [13] (fun i wr => ∃ j : Nat, j ≤ 10 ∧ i = .int .i64 j ∧ OrdRow wr (w3.heap.size + 1 + 1) 2 X Y j ∧ Boxes wr [(w3.heap.size + 1, 2, Y), (w3.heap.size, 2, X)] ∧ Below w.heap.size w wr) (fun i _ => 10 - (intOf i).toNat)
  case atStart => exact ⟨0, by omega, rfl, hrow0, hB5, hbw5⟩
  case round =>
    obtain ⟨j, hj, rfl, hrow, hB, hb⟩ := hrel
    clear hrow0 hB5 hbw5
    have hB' := hB
    obtain ⟨⟨z0, x0, y0⟩, ⟨z1, x1, y1⟩, _⟩ := hB'
    have HR := Lib.hid hrow
    have HB := Lib.hid hB
    have hVlt := hrow.lt
    clear hrow hB
    by_cases hlt : j < 10
    · obtain ⟨hof, hkd⟩ := ofs_2 j hlt
      have HO := Lib.hid hof
      have HK := Lib.hid hkd
      clear hof hkd
      go_wp2_with fail
      refine (two_cmp _ 2 (70 + (j : Int)) X Y _ (.inr rfl) HO HK (by omega) MX MY).mono ?_
      rintro e w6 ⟨rfl, hb6⟩
      clear z0 x0 y0 z1 x1 y1
      have hbw6 := hb.trans (hb6.mono hb.size)
      obtain ⟨B, hBv⟩ : ∃ B, cmpB (70 + (j : Int)) (2, X) (2, Y) = B := ⟨_, rfl⟩
      rw [hBv]
      have HBV := Lib.hid hBv
      have HR6 := Lib.hid (HR.out.keep (hb6.block _ hVlt))
      have HB6 := Lib.hid (HB.out.below hb6)
      have hV6 := HR6.out.lt
      clear hBv hb6
      unfold T2
      cases B
      · rw [show b2i false = 0 from rfl]
        have HR7 := Lib.hid (HR6.out.keep (Below.heap_alloc w6 (.cells #[.int .i64 1, .int .i64 0] 23) _ hV6))
        have HB7 := Lib.hid (HB6.out.below (one_block w6 (.cells #[.int .i64 1, .int .i64 0] 23)))
        have hbw7 := hbw6.alloc hbw6.size (.cells #[.int .i64 1, .int .i64 0] 23)
        have cV := HR7.out.cell j hlt
        have fV := HR7.out.free j
        rw [if_neg (Nat.lt_irrefl j)] at cV
        have hnx := HR6.out.next hlt false HBV.out
        have hfin := Lib.hid (hnx.keep (Below.heap_alloc _ (.cells #[.int .i64 1, .int .i64 0] 23) _ hnx.lt))
        have hbox := Lib.hid ((two_boxes (j := j) HB6.out (.bool false) (show w3.heap.size ≠ w3.heap.size + 1 + 1 by omega) (show w3.heap.size + 1 ≠ w3.heap.size + 1 + 1 by omega)).below (one_block _ (.cells #[.int .i64 1, .int .i64 0] 23)))
        clear hnx
        have hbs := hbw6.setCell (p := ⟨w3.heap.size + 1 + 1, j, none⟩) (show w.heap.size ≤ w3.heap.size + 1 + 1 by omega) (.bool false)
        have hbel := Lib.hid (hbs.alloc hbs.size (.cells #[.int .i64 1, .int .i64 0] 23))
        clear hbs
        go_wp2_with fail
        go_roundw
        case rel => exact ⟨j + 1, by omega, by go_num, hfin.out, hbox.out, hbel.out⟩
        case measure => simp [intOf]; omega
      · rw [show b2i true = 1 from rfl]
        have HR7 := Lib.hid (HR6.out.keep (Below.heap_alloc w6 (.cells #[.int .i64 1, .int .i64 1] 23) _ hV6))
        have HB7 := Lib.hid (HB6.out.below (one_block w6 (.cells #[.int .i64 1, .int .i64 1] 23)))
        have hbw7 := hbw6.alloc hbw6.size (.cells #[.int .i64 1, .int .i64 1] 23)
        have cV := HR7.out.cell j hlt
        have fV := HR7.out.free j
        rw [if_neg (Nat.lt_irrefl j)] at cV
        have hnx := HR6.out.next hlt true HBV.out
        have hfin := Lib.hid (hnx.keep (Below.heap_alloc _ (.cells #[.int .i64 1, .int .i64 1] 23) _ hnx.lt))
        have hbox := Lib.hid ((two_boxes (j := j) HB6.out (.bool true) (show w3.heap.size ≠ w3.heap.size + 1 + 1 by omega) (show w3.heap.size + 1 ≠ w3.heap.size + 1 + 1 by omega)).below (one_block _ (.cells #[.int .i64 1, .int .i64 1] 23)))
        clear hnx
        have hbs := hbw6.setCell (p := ⟨w3.heap.size + 1 + 1, j, none⟩) (show w.heap.size ≤ w3.heap.size + 1 + 1 by omega) (.bool true)
        have hbel := Lib.hid (hbs.alloc hbs.size (.cells #[.int .i64 1, .int .i64 1] 23))
        clear hbs
        go_wp2_with fail
        go_roundw
        case rel => exact ⟨j + 1, by omega, by go_num, hfin.out, hbox.out, hbel.out⟩
        case measure => simp [intOf]; omega
    · have : j = 10 := by omega
      subst this
      have call := HR.out.all
      have HCALL := Lib.hid call
      clear call
      rcases HC.out with hc | ⟨hc, hl⟩ | ⟨hc, hl, s1, s2⟩ | ⟨hc, hl⟩ | ⟨hc, hl, s1, s2⟩
      · obtain ⟨c0, c1, c2, c3, c4, c5, c6, c7, c8, c9⟩ := HCALL.out
        obtain ⟨t0, t1, t2, t3, t4, t5, t6, t7, t8, t9⟩ := ord_A 2 X Y hc
        rw [t0] at c0
        rw [t1] at c1
        rw [t2] at c2
        rw [t3] at c3
        rw [t4] at c4
        rw [t5] at c5
        rw [t6] at c6
        rw [t7] at c7
        rw [t8] at c8
        rw [t9] at c9
        subst hc
        have q2 : decide (X < X) = false := decide_eq_false (by omega)
        clear t0 t1 t2 t3 t4 t5 t6 t7 t8 t9
        go_wp2_with fail
        refine wp_loop_rounds 3 ?_
        rw [rounds_succ]
        go_wp2_with fail
        go_quiet (fail)
        go_wp2_with fail
        rw [rounds_succ]
        go_wp2_with fail
        go_quiet (fail)
        go_wp2_with fail
        rw [rounds_succ]
        go_wp2_with fail
        go_ret
        exact ⟨rfl, below_drewN hb _⟩
      · obtain ⟨c0, c1, c2, c3, c4, c5, c6, c7, c8, c9⟩ := HCALL.out
        obtain ⟨t0, t1, t2, t3, t4, t5, t6, t7, t8, t9⟩ := ord_B 2 X Y hc hl
        rw [t0] at c0
        rw [t1] at c1
        rw [t2] at c2
        rw [t3] at c3
        rw [t4] at c4
        rw [t5] at c5
        rw [t6] at c6
        rw [t7] at c7
        rw [t8] at c8
        rw [t9] at c9
        have q1 : (X == Y) = false := beq_eq_false_iff_ne.2 (by omega)
        have q1b : ¬ X = Y := by omega
        have q2 : decide (X < Y) = true := decide_eq_true (by omega)
        clear hc hl t0 t1 t2 t3 t4 t5 t6 t7 t8 t9
        go_wp2_with fail
        refine wp_loop_rounds 3 ?_
        rw [rounds_succ]
        go_wp2_with fail
        go_quiet (fail)
        go_wp2_with fail
        rw [rounds_succ]
        go_wp2_with fail
        go_quiet (fail)
        go_wp2_with fail
        rw [rounds_succ]
        go_wp2_with fail
        go_ret
        exact ⟨rfl, below_drewN hb _⟩
      · obtain ⟨c0, c1, c2, c3, c4, c5, c6, c7, c8, c9⟩ := HCALL.out
        obtain ⟨t0, t1, t2, t3, t4, t5, t6, t7, t8, t9⟩ := ord_C 2 X Y hc hl
        rw [t0] at c0
        rw [t1] at c1
        rw [t2] at c2
        rw [t3] at c3
        rw [t4] at c4
        rw [t5] at c5
        rw [t6] at c6
        rw [t7] at c7
        rw [t8] at c8
        rw [t9] at c9
        have q1 : (X == Y) = false := beq_eq_false_iff_ne.2 (by omega)
        have q1b : ¬ X = Y := by omega
        have q2 : decide (X < Y) = true := decide_eq_true (by omega)
        have q3 : decide (X < 0) = true := decide_eq_true (by omega)
        have q4 : decide (Y < 0) = false := decide_eq_false (by omega)
        clear hc hl s1 s2 t0 t1 t2 t3 t4 t5 t6 t7 t8 t9
        go_wp2_with fail
        refine wp_loop_rounds 3 ?_
        rw [rounds_succ]
        go_wp2_with fail
        go_quiet (fail)
        go_wp2_with fail
        rw [rounds_succ]
        go_wp2_with fail
        go_quiet (fail)
        go_wp2_with fail
        rw [rounds_succ]
        go_wp2_with fail
        go_ret
        exact ⟨rfl, below_drewN hb _⟩
      · obtain ⟨c0, c1, c2, c3, c4, c5, c6, c7, c8, c9⟩ := HCALL.out
        obtain ⟨t0, t1, t2, t3, t4, t5, t6, t7, t8, t9⟩ := ord_D 2 X Y hc hl
        rw [t0] at c0
        rw [t1] at c1
        rw [t2] at c2
        rw [t3] at c3
        rw [t4] at c4
        rw [t5] at c5
        rw [t6] at c6
        rw [t7] at c7
        rw [t8] at c8
        rw [t9] at c9
        have q1 : (X == Y) = false := beq_eq_false_iff_ne.2 (by omega)
        have q1b : ¬ X = Y := by omega
        have q2 : decide (X < Y) = false := decide_eq_false (by omega)
        clear hc hl t0 t1 t2 t3 t4 t5 t6 t7 t8 t9
        go_wp2_with fail
        refine wp_loop_rounds 3 ?_
        rw [rounds_succ]
        go_wp2_with fail
        go_quiet (fail)
        go_wp2_with fail
        rw [rounds_succ]
        go_wp2_with fail
        go_quiet (fail)
        go_wp2_with fail
        rw [rounds_succ]
        go_wp2_with fail
        go_ret
        exact ⟨rfl, below_drewN hb _⟩
      · obtain ⟨c0, c1, c2, c3, c4, c5, c6, c7, c8, c9⟩ := HCALL.out
        obtain ⟨t0, t1, t2, t3, t4, t5, t6, t7, t8, t9⟩ := ord_E 2 X Y hc hl
        rw [t0] at c0
        rw [t1] at c1
        rw [t2] at c2
        rw [t3] at c3
        rw [t4] at c4
        rw [t5] at c5
        rw [t6] at c6
        rw [t7] at c7
        rw [t8] at c8
        rw [t9] at c9
        have q1 : (X == Y) = false := beq_eq_false_iff_ne.2 (by omega)
        have q1b : ¬ X = Y := by omega
        have q2 : decide (X < Y) = false := decide_eq_false (by omega)
        have q3 : decide (X < 0) = false := decide_eq_false (by omega)
        have q4 : decide (Y < 0) = true := decide_eq_true (by omega)
        clear hc hl s1 s2 t0 t1 t2 t3 t4 t5 t6 t7 t8 t9
        go_wp2_with fail
        refine wp_loop_rounds 3 ?_
        rw [rounds_succ]
        go_wp2_with fail
        go_quiet (fail)
        go_wp2_with fail
        rw [rounds_succ]
        go_wp2_with fail
        go_quiet (fail)
        go_wp2_with fail
        rw [rounds_succ]
        go_wp2_with fail
        go_ret
        exact ⟨rfl, below_drewN hb _⟩
theorem intsOrder_walk (a b : Int) (wide : Bool) (w0 : (Lit.int .i64 a).wf = true) (w1 : (Lit.int .i64 b).wf = true) (w : World) : Calls Tryd.prog 7 #[.int .i64 a, .int .i64 b, .bool wide] w fun e w' => e = .returned (.bool true) ∧ Below w.heap.size w w' := by
  cases wide
  · exact order_1 a b w0 w1 w
  · exact order_2 a b w0 w1 w
end Go.Proofs.YtdcpbjpghgbbiaaDoor
