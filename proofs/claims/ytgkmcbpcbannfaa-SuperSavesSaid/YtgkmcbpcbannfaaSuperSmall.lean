/- Words for a Super in memory; the contracts of there, Text, Turn. -/
import Derived.Test.YtgkmcbpcbannfaaSuperNums
namespace Go.Proofs.Ytgkmcbpcbannfaa
open Go.RowKit Crc
set_option linter.unusedVariables false
set_option maxHeartbeats 2000000

theorem there_nil (i : Int) (w : World) : Calls Try.prog 33 #[.pointer none, .int .i64 i] w fun e w' => e = .returned (.bool false) ∧ w = w' := by
  by_cases h : 0 ≤ i
  · have d0 : decide (0 ≤ i) = true := decide_eq_true h
    have d1 : decide (i < -1) = false := decide_eq_false (by omega)
    go_enter Try.func33, Try.ntmps33
    go_wp2_with fail
    refine (len_nil _).mono ?_
    rintro e w' ⟨rfl, rfl⟩
    go_wp2_with fail
    go_ret
    exact ⟨rfl, rfl⟩
  · have d0 : decide (0 ≤ i) = false := decide_eq_false h
    go_enter Try.func33, Try.ntmps33
    go_wp2_with fail
    go_ret
    exact ⟨rfl, rfl⟩
theorem there_any {p q : Nat} {M : DevM} (i : Int) (w : World) (h : DevAt w p q M) (b : Bool) (hb : b = decide (0 ≤ i ∧ i < (M.secs.length : Int) - 1)) : Calls Try.prog 33 #[.pointer (some ⟨p, 0, none⟩), .int .i64 i] w fun e w' => e = .returned (.bool b) ∧ w = w' := by
  have hm := h.ok.most
  have hp := h.ok.pos
  have HD := Lib.hid h
  clear h
  by_cases h0 : 0 ≤ i
  · have d0 : decide (0 ≤ i) = true := decide_eq_true h0
    by_cases h1 : i < (M.secs.length : Int) - 1
    · have e : b = true := by rw [hb]; exact decide_eq_true ⟨h0, h1⟩
      subst e
      have d1 : decide (i < (M.secs.length : Int) - 1) = true := decide_eq_true h1
      clear hb
      go_enter Try.func33, Try.ntmps33
      go_wp2_with fail
      refine (len_any _ HD.out).mono ?_
      rintro e w' ⟨rfl, rfl⟩
      go_wp2_with fail
      go_ret
      exact ⟨rfl, rfl⟩
    · have e : b = false := by rw [hb]; exact decide_eq_false (fun h => h1 h.2)
      subst e
      have d1 : decide (i < (M.secs.length : Int) - 1) = false := decide_eq_false h1
      clear hb
      go_enter Try.func33, Try.ntmps33
      go_wp2_with fail
      refine (len_any _ HD.out).mono ?_
      rintro e w' ⟨rfl, rfl⟩
      go_wp2_with fail
      go_ret
      exact ⟨rfl, rfl⟩
  · have d0 : decide (0 ≤ i) = false := decide_eq_false h0
    have e : b = false := by rw [hb]; exact decide_eq_false (fun h => h0 h.1)
    subst e
    clear hb
    go_enter Try.func33, Try.ntmps33
    go_wp2_with fail
    go_ret
    exact ⟨rfl, rfl⟩

/-- A Super: its device, its place, the slot, the turn, the text. -/
structure SupAt (w : World) (s p : Nat) (at_ slot turn : Int) (txt : List Nat) (a : Option Addr) (c : Nat) : Prop where
  top : w.heap[s]? = some (.cells #[.pointer (some ⟨p, 0, none⟩), .int .i64 at_, .int .i64 slot, .int .i64 turn, .slice a txt.length c] 63 (0, 0))
  rd : Rd w w.heap.size a txt
  len : txt.length ≤ 40
  far : ∀ x, a = some x → x.block ≠ s
  lo : ∀ x, a = some x → x.block < w.heap.size
section
variable {w w' : World} {s p : Nat} {at_ slot turn : Int} {txt : List Nat} {a : Option Addr} {c : Nat}
theorem SupAt.lt (h : SupAt w s p at_ slot turn txt a c) : s < w.heap.size := lt_of_heap h.top
theorem SupAt.below' (h : SupAt w s p at_ slot turn txt a c) (hb : Below w.heap.size w w') : SupAt w' s p at_ slot turn txt a c :=
  ⟨(hb.block s h.lt).trans h.top, (h.rd.below hb).more hb.size, h.len, h.far, fun x hx => Nat.lt_of_lt_of_le (h.lo x hx) hb.size⟩
theorem SupAt.c0 (h : SupAt w s p at_ slot turn txt a c) : w.cell? ⟨s, 0, none⟩ = some (.pointer (some ⟨p, 0, none⟩)) := cell_of_row w s 0 _ _ _ h.top
theorem SupAt.c1 (h : SupAt w s p at_ slot turn txt a c) : w.cell? ⟨s, 1, none⟩ = some (.int .i64 at_) := cell_of_row w s 1 _ _ _ h.top
theorem SupAt.c2 (h : SupAt w s p at_ slot turn txt a c) : w.cell? ⟨s, 2, none⟩ = some (.int .i64 slot) := cell_of_row w s 2 _ _ _ h.top
theorem SupAt.c3 (h : SupAt w s p at_ slot turn txt a c) : w.cell? ⟨s, 3, none⟩ = some (.int .i64 turn) := cell_of_row w s 3 _ _ _ h.top
theorem SupAt.c4 (h : SupAt w s p at_ slot turn txt a c) : w.cell? ⟨s, 4, none⟩ = some (.slice a txt.length c) := cell_of_row w s 4 _ _ _ h.top
theorem SupAt.free (h : SupAt w s p at_ slot turn txt a c) (i : Nat) : w.frozen? ⟨s, i, none⟩ = false := frozen_of_row w s i _ _ h.top
end
theorem text_any {w : World} {s p : Nat} {at_ slot turn : Int} {txt : List Nat} {a : Option Addr} {c : Nat} (h : SupAt w s p at_ slot turn txt a c) :
    Calls Try.prog 28 #[.pointer (some ⟨s, 0, none⟩)] w fun e w' => ∃ v, e = .returned v ∧ Own w' w.heap.size 5 v txt ∧ Below w.heap.size w w' := by
  have c4 := h.c4
  have hr := h.rd
  have hl := h.len
  clear h
  go_enter Try.func28, Try.ntmps28
  go_wp2_with fail
  refine (clone_any _ txt _ _ w _ (Lib.hid rfl) hr (by omega) (Nat.le_refl _)).mono ?_
  rintro e w1 ⟨v, rfl, hown, hb⟩
  go_wp2_with fail
  go_ret
  exact ⟨_, rfl, hown, hb⟩
theorem text_nil (w : World) : Calls Try.prog 28 #[.pointer none] w fun e w' => e = .returned (.slice none 0 0) ∧ w = w' := by
  go_enter Try.func28, Try.ntmps28
  go_wp2_with fail
  go_ret
  exact ⟨rfl, rfl⟩
theorem turn_any {w : World} {s p : Nat} {at_ slot turn : Int} {txt : List Nat} {a : Option Addr} {c : Nat} (h : SupAt w s p at_ slot turn txt a c) :
    Calls Try.prog 29 #[.pointer (some ⟨s, 0, none⟩)] w fun e w' => e = .returned (.int .i64 turn) ∧ w = w' := by
  have c3 := h.c3
  clear h
  go_enter Try.func29, Try.ntmps29
  go_wp2_with fail
  go_ret
  exact ⟨rfl, rfl⟩
theorem turn_nil (w : World) : Calls Try.prog 29 #[.pointer none] w fun e w' => e = .returned (.int .i64 0) ∧ w = w' := by
  go_enter Try.func29, Try.ntmps29
  go_wp2_with fail
  go_ret
  exact ⟨rfl, rfl⟩
theorem save_nil (v : Value) (w : World) : Calls Try.prog 27 #[.pointer none, v] w fun e w' => e = .returned (.int .i64 10) ∧ w = w' := by
  go_enter Try.func27, Try.ntmps27
  go_wp2_with fail
  go_ret
  exact ⟨rfl, rfl⟩
theorem save_long {s n c : Nat} {a : Option Addr} (w : World) (h : 40 < n) : Calls Try.prog 27 #[.pointer (some ⟨s, 0, none⟩), .slice a n c] w fun e w' => e = .returned (.int .i64 1) ∧ w = w' := by
  have d : decide (40 < (n : Int)) = true := decide_eq_true (by omega)
  go_enter Try.func27, Try.ntmps27
  go_wp2_with fail
  go_ret
  exact ⟨rfl, rfl⟩
theorem open_nil (i : Int) (w : World) : Calls Try.prog 25 #[.pointer none, .int .i64 i] w fun e w' => e = .returned (.tuple #[.pointer none, .int .i64 3]) ∧ w = w' := by
  go_enter Try.func25, Try.ntmps25
  go_wp2_with fail
  refine (there_nil _ _).mono ?_
  rintro e w' ⟨rfl, rfl⟩
  go_wp2_with fail
  go_ret2
  exact ⟨rfl, rfl⟩
end Go.Proofs.Ytgkmcbpcbannfaa
