/- What the row's frame tells of a slice of slices of bytes that came in: each reads as a list. -/
import Derived.Test.YtgkmcbpcbannfaaWords
import Derived.Test.YtgkmcbpcbannfaaProg
import Derived.Deep.Matrix
namespace Go.Proofs.Ytgkmcbpcbannfaa
open Go.RowKit Crc
set_option linter.unusedVariables false

structure ByteRows (w : World) (a : Option Addr) (m c : Nat) (rows : List (Option Addr × Nat × List Nat)) : Prop where
  len : m = rows.length
  cap : m ≤ c
  most : c ≤ 9223372036854775807
  row : ∀ i r, rows[i]? = some r → ∃ b off, a = some ⟨b, off, none⟩ ∧ b < w.heap.size ∧ w.cell? ⟨b, off + i, none⟩ = some (.slice r.1 r.2.2.length r.2.1) ∧ Rd w w.heap.size r.1 r.2.2 ∧ r.2.2.length ≤ r.2.1
theorem byteRows_open {H : Type} {enc : TypeId × Value → H} {P : Program} {w : World} {base : Nat} {held : Bool} {t e q : TypeId} {fuel : Nat} {a : Option Addr} {m c : Nat} {x : DataW H × List MemPlace} (ht : P.underlying t = some (.slice e)) (he : P.underlying e = some (.slice q)) (hq : P.underlying q = some (.int .u8)) (ce : P.cellsOf e = 1) (cq : P.cellsOf q = 1)
    (h : DataW.trod enc P w base (fun _ => true) held fuel t [.slice a m c] = some x) : ∃ rows, ByteRows w a m c rows := by
  rcases Go.Deep.open_int_rows ht he hq ce cq h with ⟨h1, _⟩ | ⟨y, len, cap, A, L, C, B, h1, _, hl, hm, _, hrow⟩
  · simp at h1
    obtain ⟨rfl, rfl, rfl⟩ := h1
    exact ⟨[], rfl, Nat.le_refl _, by omega, fun i r hr => by simp at hr⟩
  · simp at h1
    obtain ⟨rfl, rfl, rfl⟩ := h1
    have hb : ∀ r, r < m → ∃ l : List Nat, L r = l.length ∧ l.length ≤ C r ∧ Rd w w.heap.size (A r) l := fun r hr => by
      obtain ⟨_, h2, h3, h4, h5, h6, h7⟩ := hrow r (by omega)
      have hi : IsRow .u8 w (A r) (L r) (C r) (B r) := by
        cases ha : A r with
        | none =>
          have hc0 := h6 ha
          exact .inl ⟨rfl, by omega, hc0, List.eq_nil_of_length_eq_zero (by omega)⟩
        | some a' => exact .inr ⟨a', rfl, h2, h3, h4, fun i hi => (h7 a' ha).2 i (by omega), h5⟩
      obtain ⟨l, e1, e2, _, e3⟩ := isrow_rd hi
      exact ⟨l, e1, e2, e3⟩
    obtain ⟨F, hF⟩ := Go.Deep.choose_lt (α := List Nat) hb
    refine ⟨(List.range m).map fun r => (A r, C r, F r), by simp, hl, by simpa [maxLen] using hm, fun i r hr => ?_⟩
    have him : i < m := by
      have := (List.getElem?_eq_some_iff.1 hr).1
      simpa using this
    simp only [List.getElem?_map, List.getElem?_range him, Option.map_some, Option.some.injEq] at hr
    subst hr
    obtain ⟨h1, _⟩ := hrow i (by omega)
    obtain ⟨e1, e2, e3⟩ := hF i him
    obtain ⟨b, off, spot⟩ := y
    have hspot : spot = none := by
      have h0 := (hrow 0 (by omega)).1
      simpa [Addr.add] using World.cell?_spot h0
    subst hspot
    refine ⟨b, off, rfl, by have h0 := lt_of_cell (hrow 0 (by omega)).1; simpa [Addr.add] using h0, ?_, e3, e2⟩
    rw [e1] at h1
    rw [← h1]
    by_cases hi0 : i = 0 <;> simp [Addr.add, hi0]
end Go.Proofs.Ytgkmcbpcbannfaa
