/- The law of sorted bytes: its arrays, by hand: they are laid, they count, they are compared. No condition. -/
import Derived.Test.YteefpemaeecicaaGreatDoorExSoL
import Derived.Test.YteefpemaeecicaaGreatDoorExTmp
import Derived.Laws.StructEq
import Derived.KernelRfl
open Go Go.RowKit Go.Proofs
namespace Go.Proofs.YteefpemaeecicaaGreatDoor.Ev
set_option linter.unusedVariables false
set_option linter.unusedSimpArgs false
set_option linter.constructorNameAsVariable false
noncomputable section
/-! ### Arrays of counts -/
def arrOf (f : Nat → Nat) : Array Value := ((List.range 256).map fun i => Value.int .i64 (f i : Nat)).toArray
theorem arrOf_size (f : Nat → Nat) : (arrOf f).size = 256 := by simp [arrOf]
theorem arrOf_get (f : Nat → Nat) {k : Nat} (h : k < 256) : (arrOf f)[k]? = some (.int .i64 (f k : Nat)) := by
  unfold arrOf
  rw [List.getElem?_toArray, List.getElem?_map, List.getElem?_range h]
  rfl
theorem arrOf_none (f : Nat → Nat) {k : Nat} (h : ¬ k < 256) : (arrOf f)[k]? = none := Array.getElem?_eq_none (by rw [arrOf_size]; omega)
def incF (f : Nat → Nat) (k : Nat) : Nat → Nat := fun i => if i = k then f i + 1 else f i
theorem arrOf_set (f : Nat → Nat) {k : Nat} (h : k < 256) : (arrOf f).setIfInBounds k (.int .i64 (f k + 1 : Nat)) = arrOf (incF f k) := by
  refine Array.ext_getElem? fun i => ?_
  rw [Array.getElem?_setIfInBounds, arrOf_size]
  by_cases hi : k = i
  · subst hi
    rw [if_pos rfl, if_pos h, arrOf_get _ h]
    show _ = some (Value.int .i64 ((if k = k then f k + 1 else f k : Nat)))
    rw [if_pos rfl]
  · rw [if_neg hi]
    by_cases h2 : i < 256
    · rw [arrOf_get _ h2, arrOf_get _ h2]
      show _ = some (Value.int .i64 ((if i = k then f i + 1 else f i : Nat)))
      rw [if_neg (fun e => hi e.symm)]
    · rw [arrOf_none _ h2, arrOf_none _ h2]
def arrO (f : Nat → Nat) : Obj := .cells (arrOf f) 75 (0, 0)
/-! ### Step by step -/
theorem put_at {a : Act} {d : Nat} {v : Value} (h : d < a.tmps.size) : (a.put (some d) v).tmps.getD d undef = v := by
  show (a.tmps.setIfInBounds d v).getD d undef = v
  rw [Array.getD_eq_getD_getElem?, Array.getElem?_setIfInBounds, if_pos rfl, if_pos h]
  rfl
theorem put_ne {a : Act} {d t : Nat} {v : Value} (h : t ≠ d) : (a.put (some d) v).tmps.getD t undef = a.tmps.getD t undef := by
  show (a.tmps.setIfInBounds d v).getD t undef = _
  rw [Array.getD_eq_getD_getElem?, Array.getD_eq_getD_getElem?, Array.getElem?_setIfInBounds, if_neg (fun e => h e.symm)]
section
variable {P : Program} {ops : Array Oper} {Q : Exit → Act → World → Prop}
def opAt (ops : Array Oper) (i : Nat) : Option (Option Nat × Op × Option (Nat × Bool)) := (ops[i]?).map fun o => (o.dst, o.op, o.guard)
theorem opAt_inv {i : Nat} {d : Option Nat} {op : Op} {g : Option (Nat × Bool)} (h : opAt ops i = some (d, op, g)) : ∃ o, ops[i]? = some o ∧ o.dst = d ∧ o.op = op ∧ o.guard = g := by
  unfold opAt at h
  obtain ⟨o, h1, h2⟩ := Option.map_eq_some_iff.1 h
  cases h2
  exact ⟨o, h1, rfl, rfl, rfl⟩
theorem stepV {i : Nat} {rest : List Nat} {a : Act} {w w' : World} {d : Nat} {op : Op} {v : Value} (ho : opAt ops i = some (some d, op, none)) (hlt : d < a.tmps.size) (hr : ∀ o : Oper, o.op = op → (execOp a.eval o).run P w = .ok (.value v) w')
    (h : ∀ a' : Act, a'.tmps.getD d undef = v → (∀ t, t ≠ d → a'.tmps.getD t undef = a.tmps.getD t undef) → a'.tmps.size = a.tmps.size → a'.defers = a.defers → wpOps P ops Q rest a' w') : wpOps P ops Q (i :: rest) a w := by
  obtain ⟨o, h1, h2, h3, h4⟩ := opAt_inv ho
  rw [wpOps_cons]
  unfold wpOp
  rw [h1]
  have hw : Region.wanted o (yielded ops a.tmps) = true := by unfold Region.wanted; rw [h4]
  simp only [hw, if_true]
  refine .inl (wp_value (hr o h3) (.inl rfl) ?_)
  rw [h2]
  exact h _ (put_at hlt) (fun t ht => put_ne ht) (by show (a.tmps.setIfInBounds d v).size = _; simp) rfl
theorem stepU {i : Nat} {rest : List Nat} {a : Act} {w w' : World} {op : Op} (ho : opAt ops i = some (none, op, none)) (hr : ∀ o : Oper, o.op = op → (execOp a.eval o).run P w = .ok .skip w') (h : wpOps P ops Q rest a w') : wpOps P ops Q (i :: rest) a w := by
  obtain ⟨o, h1, h2, h3, h4⟩ := opAt_inv ho
  rw [wpOps_cons]
  unfold wpOp
  rw [h1]
  have hw : Region.wanted o (yielded ops a.tmps) = true := by unfold Region.wanted; rw [h4]
  simp only [hw, if_true]
  refine .inl (wp_value (v := undef) (hr o h3) (.inr ⟨rfl, rfl⟩) ?_)
  rw [h2]
  exact h
theorem run_mv {a : Act} {w : World} {x : Operand} {v : Value} (e : a.eval x = v) : ∀ o : Oper, o.op = .move x → (execOp a.eval o).run P w = .ok (.value v) w := fun o ho => by
  unfold execOp; rw [ho]; rw [← e]; rfl
theorem run_as {a : Act} {w : World} {x : Operand} {v : Value} (e : a.eval x = v) : ∀ o : Oper, o.op = .assign x → (execOp a.eval o).run P w = .ok (.value v) w := fun o ho => by
  unfold execOp; rw [ho]; rw [← e]; rfl
theorem run_b2 {a : Act} {w : World} {op : BinOp} {t yt : TypeId} {x y : Operand} {u u' v : Value} (ex : a.eval x = u) (ey : a.eval y = u') (hr : (bin2 op t x y u u').run P w = .ok v w) : ∀ o : Oper, o.op = .binOp op t x y yt → (execOp a.eval o).run P w = .ok (.value v) w := fun o ho => by
  have : execOp a.eval o = val (bin2 op t x y (a.eval x) (a.eval y)) := by unfold execOp; rw [ho]; rfl
  rw [this, ex, ey]
  exact run_val hr
theorem run_ix {a : Act} {w : World} {t : TypeId} {x y : Operand} {u u' v : Value} (ex : a.eval x = u) (ey : a.eval y = u') (hr : (Instr.indexAt t u u').run P w = .ok v w) : ∀ o : Oper, o.op = .indexAddr t x y → (execOp a.eval o).run P w = .ok (.value v) w := fun o ho => by
  have : execOp a.eval o = val (Instr.indexAt t (a.eval x) (a.eval y)) := by unfold execOp; rw [ho]; rfl
  rw [this, ex, ey]
  exact run_val hr
theorem run_ld {a : Act} {w : World} {t : TypeId} {x : Operand} {u v : Value} (ex : a.eval x = u) (hr : (Instr.loadAt t u).run P w = .ok v w) : ∀ o : Oper, o.op = .load t x → (execOp a.eval o).run P w = .ok (.value v) w := fun o ho => by
  have : execOp a.eval o = val (Instr.loadAt t (a.eval x)) := by unfold execOp; rw [ho]; rfl
  rw [this, ex]
  exact run_val hr
theorem run_st {a : Act} {w w' : World} {t : TypeId} {x y : Operand} {u u' : Value} (ex : a.eval x = u) (ey : a.eval y = u') (hr : (do Instr.storeAt t u u'; pure undef : Sem Value).run P w = .ok undef w') : ∀ o : Oper, o.op = .store t x y → (execOp a.eval o).run P w = .ok .skip w' := fun o ho => by
  have : execOp a.eval o = unit (Instr.storeAt t (a.eval x) (a.eval y)) := by unfold execOp; rw [ho]; rfl
  rw [this, ex, ey]
  exact (run_unit hr).1
theorem run_al {a : Act} {w w' : World} {t : TypeId} {v : Value} (hr : (Instr.alloc t true (.tuple #[])).run P w = .ok v w') : ∀ o : Oper, o.op = .alloc t → (execOp a.eval o).run P w = .ok (.value v) w' := fun o ho => by
  have : execOp a.eval o = val (Instr.alloc t true (.tuple #[])) := by unfold execOp; rw [ho]; rfl
  rw [this]
  exact run_val hr
end
/-! ### What the types are -/
@[reducible] def rhoZ : Rho := ⟨fun _ => 0, fun _ => .bool false, fun _ => rfl, fun _ => none⟩
theorem tyOk : @TyOk rhoZ Tryz.prog (TTa []) := @ProgOk.types rhoZ _ _ (@progOk rhoZ [] (@holds_nil rhoZ))
theorem shp3 : shp (TTa []) 3 = some (1, 0) := by kernel_rfl
theorem shp5 : shp (TTa []) 5 = some (1, 0) := by kernel_rfl
theorem info3 : ∃ i, Tryz.prog.info? 3 = some i ∧ i.size = 1 := (@shp_spec _ _ default rhoZ tyOk _ _ _ shp3).1
theorem info5 : ∃ i, Tryz.prog.info? 5 = some i ∧ i.size = 1 := (@shp_spec _ _ default rhoZ tyOk _ _ _ shp5).1
theorem agg3 (w : World) : (Go.isAgg 3).run Tryz.prog w = .ok false w := (@shp_spec _ _ w rhoZ tyOk _ _ _ shp3).2.2.2.2.2.1
theorem agg5 (w : World) : (Go.isAgg 5).run Tryz.prog w = .ok false w := (@shp_spec _ _ w rhoZ tyOk _ _ _ shp5).2.2.2.2.2.1
theorem und75 : Tryz.prog.underlying 75 = some (.array 256 3) := Tryz.underlying75
theorem und64 : Tryz.prog.underlying 64 = some (.slice 5) := Tryz.underlying64
theorem zero75 : (Tryz.prog.info? 75).bind (·.zero) = some (.agg (arrOf fun _ => 0)) := by kernel_rfl
theorem size75 : (Tryz.prog.info? 75).map (·.size) = some 256 := by kernel_rfl
/-! ### What the operations do -/
theorem run_idx75 (b k : Nat) (kk : IntKind) (hk : k < 256) (w : World) : (Instr.indexAt 75 (.pointer (some ⟨b, 0, none⟩)) (.int kk (k : Nat))).run Tryz.prog w = .ok (.pointer (some ⟨b, k, none⟩)) w := by
  obtain ⟨i, hi, hs⟩ := info3
  have : (k : Int) < 256 := by omega
  simp [Instr.indexAt, asIntOf, run_underlying und75, Instr.sureAddr, hk, Nat.not_le.2 hk, run_size hi, hs, addr_add, this]
theorem run_ld3 {w : World} {b k : Nat} {f : Nat → Nat} (hb : w.heap[b]? = some (arrO f)) (hk : k < 256) : (Instr.loadAt 3 (.pointer (some ⟨b, k, none⟩))).run Tryz.prog w = .ok (.int .i64 (f k : Nat)) w := by
  have hcell : w.cell? ⟨b, k, none⟩ = some (.int .i64 (f k : Nat)) := by rw [cell_of_row w _ _ (arrOf f) 75 (0, 0) hb, arrOf_get f hk]
  simp [Instr.loadAt, Instr.sureAddr, loadVar, agg3, hcell]
theorem run_st3 {w : World} {b k : Nat} {f : Nat → Nat} (hb : w.heap[b]? = some (arrO f)) (hk : k < 256) : (do Instr.storeAt 3 (.pointer (some ⟨b, k, none⟩)) (.int .i64 (f k + 1 : Nat)); pure undef : Sem Value).run Tryz.prog w = .ok undef (setR w b (arrO (incF f k))) := by
  obtain ⟨i, hi, hs⟩ := info3
  have h := run_storeVar (P := Tryz.prog) (t := 3) hi (w := w) (g := b) (off := k) (v := .int .i64 (f k + 1 : Nat)) (arr := arrOf f) (ty := 75) (fr := (0, 0)) hb (by rw [hs]; rfl) (by rw [hs, arrOf_size]; omega) (fun j c hc => by
    cases j with
    | zero => simp [Value.cells] at hc; subst hc; rfl
    | succ j => simp [Value.cells] at hc) (fun j h1 h2 => by have h2 : j < 0 := h2; omega)
  rw [h]
  have e : wrA (arrOf f) k (Value.int IntKind.i64 (f k + 1 : Nat)).cells.toList = arrOf (incF f k) := by
    rw [← arrOf_set f hk]
    rfl
  rw [e]
  rfl
theorem run_inc {w : World} {ox oy : Operand} (n : Nat) (h : n < 1000) : (bin2 .add 3 ox oy (.int .i64 (n : Nat)) (.int .i64 1)).run Tryz.prog w = .ok (.int .i64 (n + 1 : Nat)) w := by
  have e : IntKind.i64.wrap ((n : Int) + 1) = ((n + 1 : Nat) : Int) := by
    have : ((n : Int) + 1) = ((n + 1 : Nat) : Int) := by omega
    rw [this]
    exact wrap_low (k := .i64) (by show n + 1 < 9223372036854775808; omega)
  simp [bin2, eqGuard_add, binOp, Op.intArith, e]
theorem run_and {w : World} {ox oy : Operand} (n : Nat) (h : n < 256) : (bin2 .and 76 ox oy (.int .u64 (n : Nat)) (.int .u64 255)).run Tryz.prog w = .ok (.int .u64 (n : Nat)) w := by
  have e : IntKind.u64.wrap (((BitVec.ofInt 64 (n : Int) &&& BitVec.ofInt 64 255).toNat : Nat) : Int) = ((n : Nat) : Int) := by
    have h1 : (BitVec.ofInt 64 (n : Int) &&& BitVec.ofInt 64 255).toNat = n := by
      rw [BitVec.toNat_and]
      have e1 : (BitVec.ofInt 64 (n : Int)).toNat = n := by
        rw [BitVec.toNat_ofInt]; omega
      have e2 : (BitVec.ofInt 64 255).toNat = 255 := by decide
      rw [e1, e2]
      have : n &&& (2 ^ 8 - 1) = n % 2 ^ 8 := Nat.and_two_pow_sub_one_eq_mod n 8
      rw [show (255 : Nat) = 2 ^ 8 - 1 from rfl, this]
      omega
    rw [h1]
    exact wrap_un (k := .u64) rfl (by show n < 18446744073709551616; omega)
  have hb : IntKind.u64.bits = 64 := rfl
  simp [bin2, eqGuard_and, binOp, Op.intBits, hb]
  exact e
theorem shp75 : shp (TTa []) 75 = some (256, 4) := by kernel_rfl
theorem agg75 (w : World) : (Go.isAgg 75).run Tryz.prog w = .ok true w := (@shp_spec _ _ w rhoZ tyOk _ _ _ shp75).2.2.2.2.2.1
theorem info75 : ∃ i, Tryz.prog.info? 75 = some i ∧ i.size = 256 := (@shp_spec _ _ default rhoZ tyOk _ _ _ shp75).1
theorem run_ld75 {w : World} {b : Nat} {f : Nat → Nat} (hb : w.heap[b]? = some (arrO f)) : (Instr.loadAt 75 (.pointer (some ⟨b, 0, none⟩))).run Tryz.prog w = .ok (.agg (arrOf f)) w := by
  obtain ⟨i, hi, hs⟩ := info75
  have hl : (loadCells ⟨b, 0, none⟩ 256).run Tryz.prog w = .ok (arrOf f) w := by
    have := loadCells_list (P := Tryz.prog) (w := w) (g := b) (off := 0) ((List.range 256).map fun i => Value.int .i64 (f i : Nat)) (fun j v hv => by
      rw [cell_of_row w _ _ (arrOf f) 75 (0, 0) hb, Nat.zero_add]
      unfold arrOf
      rw [List.getElem?_toArray]
      exact hv)
    rw [List.length_map, List.length_range] at this
    exact this
  simp [Instr.loadAt, Instr.sureAddr, loadVar, agg75, run_size hi, hs, hl]
theorem und3 : Tryz.prog.underlying 3 = some (.int .i64) := Tryz.underlying3
theorem guard75 : Tryz.prog.eqGuardType Tryz.prog.depth 75 = false := by kernel_rfl
theorem run_eq75 {w : World} {ox oy : Operand} (f : Nat → Nat) : (bin2 .eql 75 ox oy (.agg (arrOf f)) (.agg (arrOf f))).run Tryz.prog w = .ok (.bool true) w := by
  obtain ⟨i, hi, hs⟩ := info3
  have h1 : (Op.equalIn 10000 75 (.agg (arrOf f)) (.agg (arrOf f))).run Tryz.prog w = .ok true w := by
    rw [Op.equalIn]
    simp only [Sem.run_bind, run_underlying und75, Result.andThen_ok, run_size hi, hs, Std.Legacy.Range.forIn_eq_forIn_range', Std.Legacy.Range.size, Nat.sub_zero, Nat.add_sub_cancel, Nat.div_one]
    have hl : ∀ i ∈ List.range' 0 256 1, i < 256 := fun i hi => by simpa using (List.mem_range'_1.1 hi).2
    generalize List.range' 0 256 1 = l at hl ⊢
    induction l with
    | nil => simp
    | cons j l ih =>
      have hj : j < 256 := hl j (by simp)
      have px : (part 3 (arrOf f) (j * 1)).run Tryz.prog w = .ok (.int .i64 (f j : Nat)) w := by
        simp [part, agg3, arrOf_get f hj]
      have pe : (Op.equalIn 9999 3 (.int .i64 (f j : Nat)) (.int .i64 (f j : Nat))).run Tryz.prog w = .ok true w := by
        rw [Op.equalIn]
        simp [run_underlying und3]
      simp only [List.forIn_cons, Sem.run_bind, px, pe, Result.andThen_ok]
      simp only [Bool.not_true, Bool.false_eq_true, if_false, Sem.run_pure, Result.andThen_ok]
      exact ih fun q hq => hl q (by simp [hq])
  simp only [bin2, Sem.run_bind, run_eqGuard_agg w .eql 75 ox oy _ _ guard75, Result.andThen_ok, run_eql_struct, h1]
theorem run_al75 (w : World) : (Instr.alloc 75 true (.tuple #[])).run Tryz.prog w = .ok (.pointer (some ⟨w.heap.size, 0, none⟩)) { w with heap := w.heap.push (arrO fun _ => 0) } := by
  obtain ⟨i, hi, hs⟩ := info75
  have hz : i.zero = some (.agg (arrOf fun _ => 0)) := by
    have := zero75
    rw [hi] at this
    exact this
  simp [Instr.alloc, run_zero hi hz, newVar, newRow]
  rfl
theorem run_idx64 (bb off len cap i : Nat) (kk : IntKind) (h : i < len) (w : World) : (Instr.indexAt 64 (.slice (some ⟨bb, off, none⟩) len cap) (.int kk (i : Nat))).run Tryz.prog w = .ok (.pointer (some ⟨bb, off + i, none⟩)) w := by
  obtain ⟨j, hj, hs⟩ := info5
  have : (i : Int) < len := by omega
  simp [Instr.indexAt, asIntOf, run_underlying und64, h, Nat.not_le.2 h, run_size hj, hs, addr_add]
theorem run_ld5 {w : World} {b k : Nat} {arr : Array Value} {ty : Nat} {fr : Nat × Nat} {v : Value} (hb : w.heap[b]? = some (.cells arr ty fr)) (hk : arr[k]? = some v) : (Instr.loadAt 5 (.pointer (some ⟨b, k, none⟩))).run Tryz.prog w = .ok v w := by
  have hcell : w.cell? ⟨b, k, none⟩ = some v := by rw [cell_of_row w _ _ arr ty fr hb, hk]
  simp [Instr.loadAt, Instr.sureAddr, loadVar, agg5, hcell]
/-! ### The regions -/
def opsC (c : Code) : Array Oper := match c with | .region _ ops _ => ops | _ => #[]
def lw26 : Code := cFst (tailC 2 lwN)
def lw27 : Code := cSnd (tailC 2 lwN)
theorem lw2_eq : tailC 2 lwN = .seq lw26 lw27 := by kernel_rfl
theorem lw17_eq : lw17 = .region 17 (opsC lw17) false := by kernel_rfl
theorem lw26_eq : lw26 = .region 26 (opsC lw26) false := by kernel_rfl
theorem lw27_eq : lw27 = .region 27 (opsC lw27) false := by kernel_rfl
theorem lw28_eq : lw28 = .region 28 (opsC lw28) false := by kernel_rfl
theorem rg17 : List.range (opsC lw17).size = [0, 1] := by kernel_rfl
theorem rg26 : List.range (opsC lw26).size = [0, 1, 2, 3, 4, 5, 6] := by kernel_rfl
theorem rg27 : List.range (opsC lw27).size = [0, 1, 2, 3, 4, 5, 6, 7, 8] := by kernel_rfl
theorem rg28 : List.range (opsC lw28).size = [0, 1, 2, 3] := by kernel_rfl
/-- Two arrays are laid. -/
theorem wp17 {a : Act} {w : World} (hsz : 157 ≤ a.tmps.size) {Q : Exit → Act → World → Prop}
    (hQ : ∀ a' : Act, a'.tmps.getD 10 undef = .pointer (some ⟨w.heap.size, 0, none⟩) → a'.tmps.getD 11 undef = .pointer (some ⟨w.heap.size + 1, 0, none⟩) → (∀ t, t < 10 → a'.tmps.getD t undef = a.tmps.getD t undef) → a'.tmps.size = a.tmps.size → a'.defers = a.defers → Q .normal a' { w with heap := (w.heap.push (arrO fun _ => 0)).push (arrO fun _ => 0) }) :
    lw17.wp Tryz.prog Q a w := by
  rw [lw17_eq]
  refine wp_region ?_
  rw [rg17]
  refine stepV (d := 10) (op := .alloc 75) (by kernel_rfl) (by omega) (run_al (run_al75 w)) fun a1 v1 k1 s1 f1 => ?_
  refine stepV (d := 11) (op := .alloc 75) (by kernel_rfl) (by omega) (run_al (run_al75 _)) fun a2 v2 k2 s2 f2 => ?_
  refine hQ a2 ((k2 10 (by omega)).trans v1) ?_ (fun t ht => (k2 t (by omega)).trans (k1 t (by omega))) (s2.trans s1) (f2.trans f1)
  rw [v2]
  show Value.pointer (some ⟨(w.heap.push _).size, 0, none⟩) = _
  rw [Array.size_push]
/-- One more of what the machine gave. -/
theorem wp26 {a : Act} {w : World} {b k : Nat} {f : Nat → Nat} (hsz : 157 ≤ a.tmps.size) (e14 : a.tmps.getD 14 undef = .int .u64 (k : Nat)) (e10 : a.tmps.getD 10 undef = .pointer (some ⟨b, 0, none⟩)) (hb : w.heap[b]? = some (arrO f)) (hk : k < 256) (hf : f k < 1000) {Q : Exit → Act → World → Prop}
    (hQ : ∀ a' : Act, (∀ t, t < 140 → a'.tmps.getD t undef = a.tmps.getD t undef) → a'.tmps.size = a.tmps.size → a'.defers = a.defers → Q .normal a' (setR w b (arrO (incF f k)))) : lw26.wp Tryz.prog Q a w := by
  rw [lw26_eq]
  refine wp_region ?_
  rw [rg26]
  refine stepV (d := 140) (op := .move (.tmp 14)) (by kernel_rfl) (by omega) (run_mv (x := .tmp 14) e14) fun a1 v1 k1 s1 f1 => ?_
  refine stepV (d := 141) (op := .binOp .and 76 (.tmp 140) (.const (.int .u64 255)) 76) (by kernel_rfl) (by omega) (run_b2 (x := .tmp 140) (y := .const (.int .u64 255)) v1 rfl (run_and k hk)) fun a2 v2 k2 s2 f2 => ?_
  refine stepV (d := 142) (op := .indexAddr 75 (.tmp 10) (.tmp 141)) (by kernel_rfl) (by omega) (run_ix (x := .tmp 10) (y := .tmp 141) ((k2 10 (by omega)).trans ((k1 10 (by omega)).trans e10)) v2 (run_idx75 b k .u64 hk w)) fun a3 v3 k3 s3 f3 => ?_
  refine stepV (d := 143) (op := .load 3 (.tmp 142)) (by kernel_rfl) (by omega) (run_ld (x := .tmp 142) v3 (run_ld3 hb hk)) fun a4 v4 k4 s4 f4 => ?_
  refine stepV (d := 144) (op := .binOp .add 3 (.tmp 143) (.const (.int .i64 1)) 3) (by kernel_rfl) (by omega) (run_b2 (x := .tmp 143) (y := .const (.int .i64 1)) v4 rfl (run_inc (f k) hf)) fun a5 v5 k5 s5 f5 => ?_
  refine stepV (d := 145) (op := .indexAddr 75 (.tmp 10) (.tmp 141)) (by kernel_rfl) (by omega) (run_ix (x := .tmp 10) (y := .tmp 141) ((k5 10 (by omega)).trans ((k4 10 (by omega)).trans ((k3 10 (by omega)).trans ((k2 10 (by omega)).trans ((k1 10 (by omega)).trans e10))))) ((k5 141 (by omega)).trans ((k4 141 (by omega)).trans ((k3 141 (by omega)).trans v2))) (run_idx75 b k .u64 hk w)) fun a6 v6 k6 s6 f6 => ?_
  refine stepU (op := .store 3 (.tmp 145) (.tmp 144)) (by kernel_rfl) (run_st (x := .tmp 145) (y := .tmp 144) v6 ((k6 144 (by omega)).trans v5) (run_st3 hb hk)) ?_
  exact hQ a6 (fun t ht => (k6 t (by omega)).trans ((k5 t (by omega)).trans ((k4 t (by omega)).trans ((k3 t (by omega)).trans ((k2 t (by omega)).trans (k1 t (by omega))))))) (by omega) (f6.trans (f5.trans (f4.trans (f3.trans (f2.trans f1)))))
/-- One more of what came in. -/
theorem wp27 {a : Act} {w : World} {b k bb off len cap i : Nat} {f : Nat → Nat} {arr : Array Value} {ty : Nat} {fr : Nat × Nat} (hsz : 157 ≤ a.tmps.size) (e0 : a.tmps.getD 0 undef = .slice (some ⟨bb, off, none⟩) len cap) (e13 : a.tmps.getD 13 undef = .int .i64 (i : Nat)) (hi : i < len) (hbb : w.heap[bb]? = some (.cells arr ty fr)) (hc : arr[off + i]? = some (.int .u8 (k : Nat)))
    (e11 : a.tmps.getD 11 undef = .pointer (some ⟨b, 0, none⟩)) (hb : w.heap[b]? = some (arrO f)) (hk : k < 256) (hf : f k < 1000) {Q : Exit → Act → World → Prop}
    (hQ : ∀ a' : Act, (∀ t, t < 146 → a'.tmps.getD t undef = a.tmps.getD t undef) → a'.tmps.size = a.tmps.size → a'.defers = a.defers → Q .normal a' (setR w b (arrO (incF f k)))) : lw27.wp Tryz.prog Q a w := by
  rw [lw27_eq]
  refine wp_region ?_
  rw [rg27]
  refine stepV (d := 146) (op := .move (.tmp 0)) (by kernel_rfl) (by omega) (run_mv (x := .tmp 0) e0) fun a1 v1 k1 s1 f1 => ?_
  refine stepV (d := 147) (op := .move (.tmp 13)) (by kernel_rfl) (by omega) (run_mv (x := .tmp 13) ((k1 13 (by omega)).trans e13)) fun a2 v2 k2 s2 f2 => ?_
  refine stepV (d := 148) (op := .indexAddr 64 (.tmp 146) (.tmp 147)) (by kernel_rfl) (by omega) (run_ix (x := .tmp 146) (y := .tmp 147) ((k2 146 (by omega)).trans v1) v2 (run_idx64 bb off len cap i .i64 hi w)) fun a3 v3 k3 s3 f3 => ?_
  refine stepV (d := 149) (op := .load 5 (.tmp 148)) (by kernel_rfl) (by omega) (run_ld (x := .tmp 148) v3 (run_ld5 hbb hc)) fun a4 v4 k4 s4 f4 => ?_
  have e11' : a4.tmps.getD 11 undef = .pointer (some ⟨b, 0, none⟩) := (k4 11 (by omega)).trans ((k3 11 (by omega)).trans ((k2 11 (by omega)).trans ((k1 11 (by omega)).trans e11)))
  refine stepV (d := 150) (op := .indexAddr 75 (.tmp 11) (.tmp 149)) (by kernel_rfl) (by omega) (run_ix (x := .tmp 11) (y := .tmp 149) e11' v4 (run_idx75 b k .u8 hk w)) fun a5 v5 k5 s5 f5 => ?_
  refine stepV (d := 151) (op := .load 3 (.tmp 150)) (by kernel_rfl) (by omega) (run_ld (x := .tmp 150) v5 (run_ld3 hb hk)) fun a6 v6 k6 s6 f6 => ?_
  refine stepV (d := 152) (op := .binOp .add 3 (.tmp 151) (.const (.int .i64 1)) 3) (by kernel_rfl) (by omega) (run_b2 (x := .tmp 151) (y := .const (.int .i64 1)) v6 rfl (run_inc (f k) hf)) fun a7 v7 k7 s7 f7 => ?_
  refine stepV (d := 153) (op := .indexAddr 75 (.tmp 11) (.tmp 149)) (by kernel_rfl) (by omega) (run_ix (x := .tmp 11) (y := .tmp 149) ((k7 11 (by omega)).trans ((k6 11 (by omega)).trans ((k5 11 (by omega)).trans e11'))) ((k7 149 (by omega)).trans ((k6 149 (by omega)).trans ((k5 149 (by omega)).trans v4))) (run_idx75 b k .u8 hk w)) fun a8 v8 k8 s8 f8 => ?_
  refine stepU (op := .store 3 (.tmp 153) (.tmp 152)) (by kernel_rfl) (run_st (x := .tmp 153) (y := .tmp 152) v8 ((k8 152 (by omega)).trans v7) (run_st3 hb hk)) ?_
  exact hQ a8 (fun t ht => (k8 t (by omega)).trans ((k7 t (by omega)).trans ((k6 t (by omega)).trans ((k5 t (by omega)).trans ((k4 t (by omega)).trans ((k3 t (by omega)).trans ((k2 t (by omega)).trans (k1 t (by omega))))))))) (by omega) (f8.trans (f7.trans (f6.trans (f5.trans (f4.trans (f3.trans (f2.trans f1)))))))
/-- The arrays are alike. -/
theorem wp28 {a : Act} {w : World} {b b' : Nat} {f : Nat → Nat} (hsz : 157 ≤ a.tmps.size) (e10 : a.tmps.getD 10 undef = .pointer (some ⟨b, 0, none⟩)) (e11 : a.tmps.getD 11 undef = .pointer (some ⟨b', 0, none⟩)) (hb : w.heap[b]? = some (arrO f)) (hb' : w.heap[b']? = some (arrO f)) {Q : Exit → Act → World → Prop}
    (hQ : ∀ a' : Act, a'.tmps.getD 2 undef = .bool true → a'.defers = a.defers → Q .normal a' w) : lw28.wp Tryz.prog Q a w := by
  rw [lw28_eq]
  refine wp_region ?_
  rw [rg28]
  refine stepV (d := 154) (op := .load 75 (.tmp 10)) (by kernel_rfl) (by omega) (run_ld (x := .tmp 10) e10 (run_ld75 hb)) fun a1 v1 k1 s1 f1 => ?_
  refine stepV (d := 155) (op := .load 75 (.tmp 11)) (by kernel_rfl) (by omega) (run_ld (x := .tmp 11) ((k1 11 (by omega)).trans e11) (run_ld75 hb')) fun a2 v2 k2 s2 f2 => ?_
  refine stepV (d := 156) (op := .binOp .eql 75 (.tmp 154) (.tmp 155) 75) (by kernel_rfl) (by omega) (run_b2 (x := .tmp 154) (y := .tmp 155) ((k2 154 (by omega)).trans v1) v2 (run_eq75 f)) fun a3 v3 k3 s3 f3 => ?_
  refine stepV (d := 2) (op := .assign (.tmp 156)) (by kernel_rfl) (by omega) (run_as (x := .tmp 156) v3) fun a4 v4 k4 s4 f4 => ?_
  exact hQ a4 v4 (f4.trans (f3.trans (f2.trans f1)))
end
end Go.Proofs.YteefpemaeecicaaGreatDoor.Ev
