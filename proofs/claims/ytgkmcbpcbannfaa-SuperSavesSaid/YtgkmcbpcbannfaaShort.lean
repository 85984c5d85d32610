/- The contract of Short; strings of bytes side by side. -/
import Derived.Test.YtgkmcbpcbannfaaWords
import Derived.Test.YtgkmcbpcbannfaaProg
import Derived.Laws.Concat
namespace Go.Proofs.Ytgkmcbpcbannfaa
open Go.RowKit Crc
set_option linter.unusedVariables false

theorem short_any (a : Option Addr) (l L : List Nat) (c k : Nat) (w : World) (hc : l.length ≤ c) (hL : Hid (L = l.take k)) :
    Calls Try.prog 13 #[.slice a l.length c, .int .i64 k] w fun e w' => e = .returned (.slice a L.length c) ∧ w = w' := by
  rw [hL.out]
  by_cases hk : k < l.length
  · rw [List.length_take, Nat.min_eq_left (by omega)]
    go_enter Try.func13, Try.ntmps13
    go_wp2
    go_ret
    exact ⟨rfl, rfl⟩
  · rw [List.length_take, Nat.min_eq_right (by omega)]
    go_enter Try.func13, Try.ntmps13
    go_wp2
    go_ret
    exact ⟨rfl, rfl⟩
theorem short_rd {w w' : World} {a : Option Addr} {l : List Nat} {k : Nat} (hr : Rd w w.heap.size a l) (hb : Below w.heap.size w w') :
    ∃ L : List Nat, Hid (L = l.take k) ∧ L.length ≤ k ∧ L.length ≤ l.length ∧ Rd w' w.heap.size a L :=
  ⟨_, rfl, by simp; omega, by simp; omega, (hr.take k).below hb⟩
theorem str_append (l m : List Nat) : str l ++ str m = str (l ++ m) := by
  have h : (str l ++ str m).data = (str (l ++ m)).data := by
    apply Array.ext'
    simp only [str, strOfNums_data, ByteArray.data_append, Array.toList_append, List.map_append]
  have e : ∀ a b : ByteArray, a.data = b.data → a = b := fun a b h => by cases a; cases b; cases h; rfl
  exact e _ _ h
theorem str_size (l : List Nat) : (str l).size = l.length := by
  have h : (str l).data.toList.length = l.length := by simp [str, strOfNums_data]
  rw [← h]
  rfl
theorem run_join (P : Program) (w : World) (l m r : List Nat) (h : l ++ m = r) (hl : r.length ≤ 1000000) : (Op.stringOp .add (str l) (str m)).run P w = .ok (.string (str r)) w := by
  subst h
  rw [← str_append]
  rw [List.length_append] at hl
  exact run_string_add_sum w (str l) (str m) (by rw [str_size, str_size]; omega)
end Go.Proofs.Ytgkmcbpcbannfaa
