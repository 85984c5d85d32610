/- Loads and stores of a part of a row that is known whole (an array, a struct in a row of structs), as laws of the walk. No program here. -/
import Derived.WalkKit
import Derived.Laws.CopyOwn
import Derived.Laws.CopyRow
import Derived.Laws.Rows
import Derived.Laws.Tables
import Derived.Deep.RegionLaw
namespace Go.Proofs.Ytgkmcbpcbannfaa
open Go.RowKit
set_option linter.unusedVariables false

section
variable {P : Program}
theorem run_load_part (w : World) (g off : Nat) (ty : TypeId) (cs : List Value) (t : TypeId) (fr : Nat × Nat) (e : TypeDesc) (part : List Value) (hg : w.heap[g]? = some (.cells cs.toArray t fr))
    (hu : P.underlying ty = some e) (hd : (match e with | .struct _ | .array _ _ => true | _ => false) = true) (hi : (P.info? ty).map (·.size) = some part.length) (hp : ∀ j v, part[j]? = some v → cs[off + j]? = some v) :
    (Instr.loadAt ty (.pointer (some ⟨g, off, none⟩))).run P w = .ok (.agg part.toArray) w := by
  have hl : (loadCells ⟨g, off, none⟩ part.length).run P w = .ok part.toArray w :=
    run_loadCells_list (P := P) w ⟨g, off, none⟩ part (fun j v hv => by
      have hadd : (⟨g, off, none⟩ : Addr).add j = ⟨g, off + j, none⟩ := by unfold Addr.add; split <;> simp_all
      rw [hadd, cell_of_row w g _ _ t fr hg]
      simpa using hp j v hv)
  cases hq : P.info? ty with
  | none => simp [hq] at hi
  | some i =>
    have hs : i.size = part.length := by simpa [hq] using hi
    have hagg : (isAgg ty).run P w = .ok true w := by
      unfold isAgg
      rw [Sem.run_bind, run_underlying hu w]
      cases e <;> simp_all
    simp [Instr.loadAt, Instr.sureAddr, loadVar, Sem.run_bind, hagg, sizeOf, typeInfo, hq, hs, hl]
theorem run_store_part (w : World) (g off : Nat) (ty : TypeId) (cs : List Value) (t : TypeId) (part : List Value) (hg : w.heap[g]? = some (.cells cs.toArray t (0, 0)))
    (hi : (P.info? ty).map (·.size) = some part.length) (h1 : ∀ v ∈ part, v.oneCell' = true) (hfit : off + part.length ≤ cs.length) (v : Value) (hv : v.cells = part.toArray) :
    (Instr.storeAt ty (.pointer (some ⟨g, off, none⟩)) v).run P w = .ok () (w.setRow g (splice cs off part).toArray) := by
  have hst := run_storeCells_at P g off t part 0 cs.toArray w hg (by simpa using hfit) h1
  cases hq : P.info? ty with
  | none => simp [hq] at hi
  | some i =>
    have hs : i.size = part.length := by simpa [hq] using hi
    simp [Instr.storeAt, Instr.sureAddr, storeVar, Sem.run_bind, sizeOf, typeInfo, hq, hs, hv]
    simpa [splice] using hst

variable {ops : Array Oper} {rest : List Oper} {o : Oper} {a : Act} {w : World} {K : Act → World → Prop} {Q : Exit → Act → World → Prop} {E : Prop}
theorem wp_load_part (ty : TypeId) (x : Operand) (ho : o.op = .load ty x) (g off : Nat) (hx : a.eval x = .pointer (some ⟨g, off, none⟩)) (cs : List Value) (t : TypeId) (fr : Nat × Nat) (e : TypeDesc) (part : List Value) (hg : w.heap[g]? = some (.cells cs.toArray t fr))
    (hu : P.underlying ty = some e) (hd : (match e with | .struct _ | .array _ _ => true | _ => false) = true) (hi : (P.info? ty).map (·.size) = some part.length) (hp : ∀ j v, part[j]? = some v → cs[off + j]? = some v)
    (h : K (a.put o.dst (.agg part.toArray)) w) : o.wp P a w K Q := by
  unfold Oper.wp execOp
  simp only [ho, hx, Sem.run_bind, Sem.run_pure, Result.andThen_ok, run_load_part w g off ty cs t fr e part hg hu hd hi hp]
  exact h
theorem wp_store_part (ty : TypeId) (x y : Operand) (ho : o.op = .store ty x y) (g off : Nat) (hx : a.eval x = .pointer (some ⟨g, off, none⟩)) (cs : List Value) (t : TypeId) (part : List Value) (hg : w.heap[g]? = some (.cells cs.toArray t (0, 0)))
    (hi : (P.info? ty).map (·.size) = some part.length) (h1 : ∀ v ∈ part, v.oneCell' = true) (hfit : off + part.length ≤ cs.length) (hy : (a.eval y).cells = part.toArray)
    (h : K (a.put o.dst undef) (w.setRow g (splice cs off part).toArray)) : o.wp P a w K Q := by
  unfold Oper.wp execOp
  simp only [ho, hx, Sem.run_bind, Sem.run_pure, Result.andThen_ok, run_store_part w g off ty cs t part hg hi h1 hfit _ hy]
  exact h
theorem wpList_load_part (hgd : o.guard = none) (ty : TypeId) (x : Operand) (ho : o.op = .load ty x) (g off : Nat) (hx : a.eval x = .pointer (some ⟨g, off, none⟩)) (cs : List Value) (t : TypeId) (fr : Nat × Nat) (e : TypeDesc) (part : List Value) (hg : w.heap[g]? = some (.cells cs.toArray t fr))
    (hu : P.underlying ty = some e) (hd : (match e with | .struct _ | .array _ _ => true | _ => false) = true) (hi : (P.info? ty).map (·.size) = some part.length) (hp : ∀ j v, part[j]? = some v → cs[off + j]? = some v)
    (h : wpList P ops Q rest (a.put o.dst (.agg part.toArray)) w) : wpList P ops Q (o :: rest) a w :=
  wpList_plain hgd fun _ hK => wp_load_part ty x ho g off hx cs t fr e part hg hu hd hi hp (hK _ _ h)
theorem wpList_store_part (hgd : o.guard = none) (ty : TypeId) (x y : Operand) (ho : o.op = .store ty x y) (g off : Nat) (hx : a.eval x = .pointer (some ⟨g, off, none⟩)) (cs : List Value) (t : TypeId) (part : List Value) (hg : w.heap[g]? = some (.cells cs.toArray t (0, 0)))
    (hi : (P.info? ty).map (·.size) = some part.length) (h1 : ∀ v ∈ part, v.oneCell' = true) (hfit : off + part.length ≤ cs.length) (hy : (a.eval y).cells = part.toArray)
    (h : wpList P ops Q rest (a.put o.dst undef) (w.setRow g (splice cs off part).toArray)) : wpList P ops Q (o :: rest) a w :=
  wpList_plain hgd fun _ hK => wp_store_part ty x y ho g off hx cs t part hg hi h1 hfit hy (hK _ _ h)
theorem step_load_part (hgd : o.guard = none) (ty : TypeId) (x : Operand) (ho : o.op = .load ty x) (g off : Nat) (hx : a.eval x = .pointer (some ⟨g, off, none⟩)) (cs : List Value) (t : TypeId) (fr : Nat × Nat) (e : TypeDesc) (part : List Value) (hg : w.heap[g]? = some (.cells cs.toArray t fr))
    (hu : P.underlying ty = some e) (hd : (match e with | .struct _ | .array _ _ => true | _ => false) = true) (hi : (P.info? ty).map (·.size) = some part.length) (hp : ∀ j v, part[j]? = some v → cs[off + j]? = some v)
    (h : K (a.put o.dst (.agg part.toArray)) w) : if Region.wanted o (yielded ops a.tmps) = true then Oper.wp P o a w K Q else E := by
  rw [if_pos (show Region.wanted o (yielded ops a.tmps) = true by simp [Region.wanted, hgd])]
  exact wp_load_part ty x ho g off hx cs t fr e part hg hu hd hi hp h
theorem step_store_part (hgd : o.guard = none) (ty : TypeId) (x y : Operand) (ho : o.op = .store ty x y) (g off : Nat) (hx : a.eval x = .pointer (some ⟨g, off, none⟩)) (cs : List Value) (t : TypeId) (part : List Value) (hg : w.heap[g]? = some (.cells cs.toArray t (0, 0)))
    (hi : (P.info? ty).map (·.size) = some part.length) (h1 : ∀ v ∈ part, v.oneCell' = true) (hfit : off + part.length ≤ cs.length) (hy : (a.eval y).cells = part.toArray)
    (h : K (a.put o.dst undef) (w.setRow g (splice cs off part).toArray)) : if Region.wanted o (yielded ops a.tmps) = true then Oper.wp P o a w K Q else E := by
  rw [if_pos (show Region.wanted o (yielded ops a.tmps) = true by simp [Region.wanted, hgd])]
  exact wp_store_part ty x y ho g off hx cs t part hg hi h1 hfit hy h
end
end Go.Proofs.Ytgkmcbpcbannfaa
