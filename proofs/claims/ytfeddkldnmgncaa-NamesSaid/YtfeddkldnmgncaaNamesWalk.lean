/- The walk of Names: it returns true and writes nothing that was there. No condition. -/
import Derived.WalkKit
import Derived.Lib.Hide
import Derived.Laws.IdiomStrings
import Derived.Deep.QuietTactic
import Derived.BigQuiet
import Derived.Test.YtfeddkldnmgncaaProg
namespace Go.Proofs.Ytfeddkldnmgncaa
open Go.RowKit

def nameNums : List Int := [0, 1, 2, 3, 4, 5, 6, 7, 8, 9, 10, 11, 12, 64, 2048, 64, 16, 16, 32, 300, 40, 16, 16, 16, 16, 16, 8000, 256, 16, 32, 1000, 8, 1000000, 1, 2, 0, 1, 2, 3, 4, 5, 6, 1, 2, 3, 4, 5, 1, 2, 3, 4, 5, 6]
theorem nameNums_length : nameNums.length = 53 := rfl

theorem lit_cells (w : World) (l : List Int) (C : Array Value) (T : TypeId) (fr : Nat × Nat) (hC : C = (l.map fun (n : Int) => Value.int .i64 n).toArray) (g : Nat) (hg : g = w.heap.size) (k : Nat) (hk : k < l.length) :
    (w.alloc (.cells C T fr)).cell? ⟨g, k, none⟩ = some (.int .i64 (l.getD k 0)) := by
  subst hg
  rw [World.cell?_alloc_mark, hC, List.getElem?_toArray]
  simp [List.getElem?_eq_getElem hk]

/-- Block g holds the numbers. -/
def Nums (W : World) (g : Nat) : Prop := ∀ k, k < 53 → W.cell? ⟨g, k, none⟩ = some (.int .i64 (nameNums.getD k 0))
theorem Nums.drew {W : World} {g : Nat} (h : Nums W g) (n : Nat) : Nums (W.drewN n) g := h
theorem below_drewN {B : Nat} {a w : World} (h : Below B a w) (n : Nat) : Below B a (w.drewN n) := ⟨h.os, h.tape, h.output, h.size, h.block⟩

set_option maxRecDepth 100000 in
set_option maxHeartbeats 1000000 in
theorem names_walk (w : World) :
    Calls Try.prog 3 #[] w fun e w' => e = .returned (.bool true) ∧ Below w.heap.size w w' := by
  go_enter Try.func3, Try.ntmps3
  go_wp2
  go_loopw [3] (fun i wr => ∃ k : Nat, k ≤ 53 ∧ i = .int .i64 k ∧ Below w.heap.size w wr ∧ Nums wr w.heap.size ∧ Nums wr (w.heap.size + 1)) (fun i _ => 53 - (intOf i).toNat)
  case atStart =>
    refine ⟨0, by omega, rfl, ((Below.refl _ _).alloc (Nat.le_refl _) _).alloc (by simp) _, fun k hk => ?_, fun k hk => ?_⟩
    · exact (World.cell?_alloc_past _ _ _ (by simp)).trans (lit_cells w nameNums _ _ _ rfl _ rfl k hk)
    · exact lit_cells _ nameNums _ _ _ rfl _ (by simp) k hk
  case round =>
    obtain ⟨k, hk, rfl, hb, hA, hW⟩ := hrel
    by_cases hlt : k < 53
    · have h1 := hA k hlt
      have h2 := hW k hlt
      generalize nameNums.getD k 0 = x at h1 h2
      go_wp2
      go_quiet (fail)
      go_wp2
      go_roundw
      case rel => exact ⟨k + 1, by omega, by go_num, below_drewN hb _, hA.drew _, hW.drew _⟩
      case measure => simp [intOf]; omega
    · go_wp2
      go_ret
      exact ⟨rfl, hb⟩

end Go.Proofs.Ytfeddkldnmgncaa
