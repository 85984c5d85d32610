/- An own row that has no room to spare is a row that is known whole, and back. -/
import Derived.Test.YtgkmcbpcbannfaaSuperSmall
namespace Go.Proofs.Ytgkmcbpcbannfaa
open Go.RowKit Crc
set_option linter.unusedVariables false
theorem own_row {w : World} {base E g n : Nat} {L : List Nat} (h : Own w base E (.slice (some ⟨g, 0, none⟩) n n) L) (hn : n = L.length) : w.heap[g]? = some (.cells (vals L).toArray E (0, 0)) := by
  subst hn
  rcases h.1.2 with ⟨h0, _⟩ | ⟨g', cap, cur, hv, hbg, hh, hnc, hcm, hcs, ht⟩
  · cases h0
  · simp only [Value.slice.injEq, Option.some.injEq, Addr.mk.injEq] at hv
    obtain ⟨⟨rfl, _, _⟩, _, rfl⟩ := hv
    rw [hh, ← ht, List.take_of_length_le (by simp [hcs])]
theorem row_own {w w' : World} {base E g n : Nat} {L M : List Nat} (h : Own w base E (.slice (some ⟨g, 0, none⟩) n n) L) (hn : n = L.length) (hM : M.length = n) (hb : Bytes M) (hr : w'.heap[g]? = some (.cells (vals M).toArray E (0, 0))) : Own w' base E (.slice (some ⟨g, 0, none⟩) n n) M := by
  subst hn
  rcases h.1.2 with ⟨h0, _⟩ | ⟨g', cap, cur, hv, hbg, hh, hnc, hcm, hcs, ht⟩
  · cases h0
  · simp only [Value.slice.injEq, Option.some.injEq, Addr.mk.injEq] at hv
    obtain ⟨⟨rfl, _, _⟩, _, rfl⟩ := hv
    refine ⟨?_, hb⟩
    show w'.ownsRow base E 1 (.slice (some ⟨g, 0, none⟩) L.length L.length) M.length (vals M)
    rw [hM]
    refine ⟨?_, .inr ⟨g, L.length, (vals M).toArray, rfl, hbg, hr, by omega, hcm, ?_, ?_⟩⟩
    · simp [vals_length, hM]
    · simp [vals_length, hM]
    · rw [List.take_of_length_le (by simp [vals_length, hM])]
end Go.Proofs.Ytgkmcbpcbannfaa
