/- The contracts of Short and of the first check 'begun' of the crc laws. -/
import Derived.Test.YtfeddkldnmgncaaCrcRef
namespace Go.Proofs.Ytfeddkldnmgncaa
open Go.RowKit Crc

theorem short_any (a : Option Addr) (l L : List Nat) (c k : Nat) (w : World) (hc : l.length ≤ c) (hL : Hid (L = l.take k)) :
    Calls Try.prog 16 #[.slice a l.length c, .int .i64 k] w fun e w' => e = .returned (.slice a L.length c) ∧ w = w' := by
  rw [hL.out]
  by_cases hk : k < l.length
  · rw [List.length_take, Nat.min_eq_left (by omega)]
    go_enter Try.func16, Try.ntmps16
    go_wp2
    go_ret
    exact ⟨rfl, rfl⟩
  · rw [List.length_take, Nat.min_eq_right (by omega)]
    go_enter Try.func16, Try.ntmps16
    go_wp2
    go_ret
    exact ⟨rfl, rfl⟩

theorem short_rd {w w' : World} {a : Option Addr} {l : List Nat} {k : Nat} (hr : Rd w w.heap.size a l) (hb : Below w.heap.size w w') :
    ∃ L : List Nat, Hid (L = l.take k) ∧ L.length ≤ k ∧ L.length ≤ l.length ∧ Rd w' w.heap.size a L :=
  ⟨_, rfl, by simp; omega, by simp; omega, (hr.take k).below hb⟩

def nine : List Nat := [49, 50, 51, 52, 53, 54, 55, 56, 57]
theorem nine_bytes : Bytes nine := by unfold Bytes nine; decide
theorem nine_sum : sum nine = 3421780262 := by decide +kernel

set_option maxRecDepth 100000 in
theorem begun_any (w : World) :
    Calls Try.prog 15 #[] w fun e w' => e = .returned (.bool true) ∧ Below w.heap.size w w' := by
  have kc := fun (w : World) (C : Array Value) (n c : Nat) => Lib.run_convert_bytes_const (P := Try.prog) w 24 5 C n c Try.underlying24 Try.underlying5
  go_enter Try.func15, Try.ntmps15
  go_wp2_with fail
  refine (sum_any _ nine _ _ _ (Rd.lit w nine nine_bytes _ rfl _ _) (by decide)).mono ?_
  rintro e w1 ⟨rfl, rfl⟩
  rw [nine_sum]
  go_wp2_with fail
  refine (sum_any _ [] _ _ 0 (Rd.nil _ _ _) (by decide)).mono ?_
  rintro e w1 ⟨rfl, rfl⟩
  go_wp2_with fail
  go_ret
  exact ⟨rfl, (Below.refl _ _).alloc (Nat.le_refl _) _⟩

end Go.Proofs.Ytfeddkldnmgncaa
