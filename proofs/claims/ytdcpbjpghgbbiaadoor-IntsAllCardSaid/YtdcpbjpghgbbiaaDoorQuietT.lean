/- A region that draws its order, whose operations only read and whose callees at most make memory ('Below'): one walk of the text's order, at the class of the worlds that lie above the region's own. No program here. -/
import Derived.Test.YtdcpbjpghgbbiaaDoorCells
import Derived.Deep.QuietTactic
import Derived.BigQuiet
import Derived.Laws.NewBlocks
namespace Go.Proofs.YtdcpbjpghgbbiaaDoor
open Go.RowKit

/-- The worlds above W: what was there is as it was. -/
structure Above (W : World) where
  w : World
  b : Below W.heap.size W w
instance (W : World) : Nonempty (Above W) := ⟨⟨W, Below.refl _ _⟩⟩

theorem wp_region_T {P : Program} {id : Nat} {Q : Exit → Act → World → Prop} {a : Act} {W : World} {l : List Oper} (hm : P.follows .mixedOrders = true) (hB : Region.lexB .any l.toArray = true)
    (h : wpQuiet P l.toArray (fun w' => ∃ n : Above W, w' = n.w) (fun a' => ∀ w', (∃ n : Above W, w' = n.w) → Q .normal a' w') l a) : (Code.region id l.toArray true).wp P Q a W :=
  wp_region_quiet (C := fun w' => ∃ n : Above W, w' = n.w) hm hB ⟨⟨_, (Below.refl _ _).drew⟩, rfl⟩ (by simpa using h)

theorem quiet_T {P : Program} {f : FuncId} {args : Array Value} {W : World} {n : Above W} {v : Value}
    (h : Calls P f args n.w fun e w' => e = .returned v ∧ Below n.w.heap.size n.w w') : Calls P f args n.w fun e w'' => e = .returned v ∧ ∃ m : Above W, w'' = m.w :=
  h.mono fun _ w' ⟨he, hb⟩ => ⟨he, ⟨w', n.b.trans (hb.mono n.b.size)⟩, rfl⟩
theorem quiet_T_same {P : Program} {f : FuncId} {args : Array Value} {W : World} {n : Above W} {v : Value}
    (h : Calls P f args n.w fun e w' => e = .returned v ∧ n.w = w') : Calls P f args n.w fun e w'' => e = .returned v ∧ ∃ m : Above W, w'' = m.w :=
  h.mono fun _ _ ⟨he, hb⟩ => ⟨he, n, hb.symm⟩
/-- A cell that was there. -/
theorem above_cell {W : World} {p : Addr} {v : Value} (h : W.cell? p = some v) (hp : p.block < W.heap.size) (n : Above W) : n.w.cell? p = some v := (n.b.cell hp).trans h

theorem three_blocks (w : World) (A B C : Array Value) (T : TypeId) :
    (∀ i, (((w.alloc (.cells A T)).alloc (.cells B T)).alloc (.cells C T)).cell? ⟨w.heap.size, i, none⟩ = A[i]?) ∧
    (∀ i, (((w.alloc (.cells A T)).alloc (.cells B T)).alloc (.cells C T)).cell? ⟨w.heap.size + 1, i, none⟩ = B[i]?) ∧
    (∀ i, (((w.alloc (.cells A T)).alloc (.cells B T)).alloc (.cells C T)).cell? ⟨w.heap.size + 1 + 1, i, none⟩ = C[i]?) ∧
    (∀ o, (((w.alloc (.cells A T)).alloc (.cells B T)).alloc (.cells C T)).frozen? ⟨w.heap.size + 1 + 1, o, none⟩ = false) ∧
    (((w.alloc (.cells A T)).alloc (.cells B T)).alloc (.cells C T)).heap.size = w.heap.size + 1 + 1 + 1 := by
  refine ⟨fun i => ?_, fun i => ?_, fun i => ?_, fun o => ?_, by simp⟩
  · rw [World.cell?_alloc_lt _ _ ⟨w.heap.size, i, none⟩ (by simp; omega)]; simp
  · rw [World.cell?_alloc_lt _ _ ⟨w.heap.size + 1, i, none⟩ (by simp)]; simp
  · exact World.cell?_alloc_at _ _ _ _ (by simp)
  · exact World.frozen?_alloc_at _ _ _ _ (by simp)

end Go.Proofs.YtdcpbjpghgbbiaaDoor
