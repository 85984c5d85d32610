/- What the row's frame tells of a slice of truths that came in: it reads as a list. -/
import Derived.Test.YtgkmcbpcbannfaaCellsW
import Derived.Test.YtgkmcbpcbannfaaProg
import Derived.Deep.Grids
namespace Go.Proofs.Ytgkmcbpcbannfaa
open Go.RowKit
set_option linter.unusedVariables false

structure BoolRow (w : World) (a : Option Addr) (m c : Nat) (keep : List Bool) : Prop where
  len : m = keep.length
  cap : m ≤ c
  most : c ≤ 9223372036854775807
  rd : RdV w w.heap.size a (keep.map Value.bool)
theorem boolRow_nil (w : World) : BoolRow w none 0 0 [] := ⟨rfl, Nat.le_refl _, by omega, RdV.nil _ _ _⟩
theorem boolRow_of {w : World} {x : Addr} {len cap : Nat} {B : Nat → Bool} (hl : len ≤ cap) (hm : cap ≤ maxLen) (hc : ∀ i, i < cap → w.cell? (x.add i) = some (.bool (B i))) : BoolRow w (some x) len cap ((List.range len).map B) := by
  refine ⟨by simp, hl, by simpa [maxLen] using hm, ?_, ?_⟩
  · intro u hu
    simp only [List.mem_map] at hu
    obtain ⟨b, _, rfl⟩ := hu
    rfl
  · by_cases h0 : len = 0
    · exact .inl (by simp [h0])
    · have h00 := hc 0 (by omega)
      obtain ⟨b, off, spot⟩ := x
      have hspot : spot = none := by simpa [Addr.add] using World.cell?_spot h00
      subst hspot
      refine .inr ⟨b, off, rfl, by simpa [Addr.add] using lt_of_cell h00, fun i hi => ?_⟩
      have hi' : i < len := by simpa using hi
      have h1 := hc i (by omega)
      have e : (((List.range len).map B).map Value.bool)[i]? = some (.bool (B i)) := by simp [hi']
      rw [e, ← h1]
      by_cases hi0 : i = 0 <;> simp [Addr.add, hi0]
theorem boolRow_open {H : Type} {enc : TypeId × Value → H} {P : Program} {w : World} {base : Nat} {held : Bool} {t e : TypeId} {fuel : Nat} {a : Option Addr} {m c : Nat} {x : DataW H × List MemPlace} (ht : P.underlying t = some (.slice e)) (he : P.underlying e = some .bool) (hc : P.cellsOf e = 1)
    (h : DataW.trod enc P w base (fun _ => true) held fuel t [.slice a m c] = some x) : ∃ keep, BoolRow w a m c keep := by
  rcases Go.Deep.open_bools ht he hc h with ⟨h1, _⟩ | ⟨y, len, cap, B, h1, _, hl, hm, _, hcell⟩
  · simp at h1
    obtain ⟨rfl, rfl, rfl⟩ := h1
    exact ⟨[], boolRow_nil w⟩
  · simp at h1
    obtain ⟨rfl, rfl, rfl⟩ := h1
    exact ⟨_, boolRow_of hl hm hcell⟩
end Go.Proofs.Ytgkmcbpcbannfaa
