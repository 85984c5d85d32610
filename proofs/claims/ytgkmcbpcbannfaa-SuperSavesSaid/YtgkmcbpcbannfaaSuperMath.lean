/- The bytes of a slot: the turn, the length, the text and the sum are told again. -/
import Derived.Test.YtgkmcbpcbannfaaSuperWrite
namespace Go.Proofs.Ytgkmcbpcbannfaa
open Go.RowKit Crc
set_option linter.unusedVariables false
set_option maxHeartbeats 2000000

theorem be_digits : ∀ (k N : Nat), N < 256 ^ k → be ((List.range k).map fun i => N / 256 ^ (k - 1 - i) % 256) = N
  | 0, N, h => by simp at h; subst h; rfl
  | k + 1, N, h => by
    rw [List.range_succ, List.map_append, List.map_cons, List.map_nil, be_snoc]
    have e : (List.range k).map (fun i => N / 256 ^ (k + 1 - 1 - i) % 256) = (List.range k).map fun i => (N / 256) / 256 ^ (k - 1 - i) % 256 := by
      apply List.map_congr_left
      intro i hi
      rw [List.mem_range] at hi
      rw [Nat.div_div_eq_div_mul, ← Nat.pow_succ', show (k - 1 - i).succ = k + 1 - 1 - i by omega]
    rw [e, be_digits k (N / 256) (by rw [Nat.pow_succ] at h; exact Nat.div_lt_of_lt_mul (by rwa [Nat.mul_comm] at h))]
    rw [show k + 1 - 1 - k = 0 by omega, Nat.pow_zero, Nat.div_one]
    omega
theorem putTo_cut (X : List Nat) (off k N : Nat) (hk : off + k ≤ X.length) : ((putTo X off k N k).drop off).take k = (List.range k).map fun i => N / 256 ^ (k - 1 - i) % 256 := by
  apply List.ext_getElem?
  intro i
  rw [List.getElem?_take]
  by_cases hi : i < k
  · rw [if_pos hi, List.getElem?_drop, putTo_get _ _ _ _ _ _ (by omega), if_pos ⟨by omega, by omega⟩]
    simp only [List.getElem?_map, List.getElem?_range hi, Option.map_some]
    rw [show off + k - 1 - (off + i) = k - 1 - i by omega]
  · rw [if_neg hi, List.getElem?_eq_none (by simp; omega)]
theorem be_putTo (X : List Nat) (off k N : Nat) (hk : off + k ≤ X.length) (hN : N < 256 ^ k) : be (((putTo X off k N k).drop off).take k) = N := by
  rw [putTo_cut X off k N hk, be_digits k N hN]
theorem putTo_keep (X : List Nat) (off k N j : Nat) (h : off + k ≤ j) : (putTo X off k N k).drop j = X.drop j := by
  apply List.ext_getElem?
  intro i
  rw [List.getElem?_drop, List.getElem?_drop]
  by_cases hi : j + i < X.length
  · rw [putTo_get _ _ _ _ _ _ hi, if_neg (by omega), List.getD_eq_getElem?_getD, List.getElem?_eq_getElem hi]
    rfl
  · rw [List.getElem?_eq_none (by rw [putTo_len]; omega), List.getElem?_eq_none (by omega)]
theorem putTo_bytes {X : List Nat} (h : Bytes X) (off k N j : Nat) : Bytes (putTo X off k N j) := by
  intro b hb
  unfold putTo at hb
  rw [List.mem_map] at hb
  obtain ⟨i, hi, rfl⟩ := hb
  split
  · omega
  · rw [List.mem_range] at hi
    rw [List.getD_eq_getElem?_getD, List.getElem?_eq_getElem hi]
    exact h _ (List.getElem_mem hi)
section
variable {n : Nat} {b : List Nat}
theorem slot0_len : ((putTo (List.replicate 64 0) 4 8 n 8).set 12 b.length).length = 64 := by rw [List.length_set, putTo_len, List.length_replicate]
theorem slot1_len (hb : b.length ≤ 40) : (slot1 n b).length = 64 := by
  unfold slot1
  rw [List.length_append, List.length_append, List.length_take, List.length_drop, slot0_len]
  omega
theorem slot_len (hb : b.length ≤ 40) : (slotBytes n b).length = 64 := by unfold slotBytes; rw [putTo_len, slot1_len hb]
theorem slot1_bytes (hb : b.length ≤ 40) (hB : Bytes b) : Bytes (slot1 n b) := by
  have h0 : Bytes ((putTo (List.replicate 64 0) 4 8 n 8).set 12 b.length) := by
    intro x hx
    rcases List.mem_or_eq_of_mem_set hx with h | h
    · exact putTo_bytes (zero_bytes 64) _ _ _ _ x h
    · omega
  exact bytes_append (bytes_take h0 _) (bytes_append hB (bytes_drop h0 _))
theorem slot_bytes (hb : b.length ≤ 40) (hB : Bytes b) : Bytes (slotBytes n b) := putTo_bytes (slot1_bytes hb hB) _ _ _ _
theorem slot_drop (j : Nat) (h : 4 ≤ j) : (slotBytes n b).drop j = (slot1 n b).drop j := putTo_keep _ 0 4 _ j (by omega)
theorem slot_sum (hb : b.length ≤ 40) (hB : Bytes b) : be ((slotBytes n b).take 4) = sum ((slotBytes n b).drop 4) := by
  rw [slot_drop 4 (by omega)]
  have := be_putTo (slot1 n b) 0 4 (sum ((slot1 n b).drop 4)) (by rw [slot1_len hb]; omega) (sum_lt _ (bytes_drop (slot1_bytes hb hB) _))
  rw [List.drop_zero] at this
  exact this
theorem slot_turn (hb : b.length ≤ 40) (hn : n < 18446744073709551616) : be (((slotBytes n b).drop 4).take 8) = n := by
  have e : ((slotBytes n b).drop 4).take 8 = ((putTo (List.replicate 64 0) 4 8 n 8).drop 4).take 8 := by
    rw [slot_drop 4 (by omega)]
    apply List.ext_getElem?
    intro i
    rw [List.getElem?_take, List.getElem?_take]
    by_cases hi : i < 8
    · rw [if_pos hi, if_pos hi, List.getElem?_drop, List.getElem?_drop]
      unfold slot1
      rw [List.getElem?_append_left (by rw [List.length_take, slot0_len]; omega), List.getElem?_take, if_pos (by omega), List.getElem?_set_ne (by omega)]
    · rw [if_neg hi, if_neg hi]
  rw [e]
  exact be_putTo _ 4 8 n (by simp) (by simpa using hn)
theorem slot_size (hb : b.length ≤ 40) : (slotBytes n b).getD 12 0 = b.length := by
  have e : (slotBytes n b).getD 12 0 = (slot1 n b).getD 12 0 := by
    have h := congrArg (fun l : List Nat => l[0]?) (slot_drop (n := n) (b := b) 12 (by omega))
    simp only [List.getElem?_drop] at h
    rw [List.getD_eq_getElem?_getD, List.getD_eq_getElem?_getD, h]
  rw [e]
  unfold slot1
  rw [List.getD_eq_getElem?_getD, List.getElem?_append_left (by rw [List.length_take, slot0_len]; omega), List.getElem?_take, if_pos (by omega), List.getElem?_set_self (by rw [putTo_len]; simp)]
  rfl
theorem slot_text (hb : b.length ≤ 40) : ((slotBytes n b).drop 13).take b.length = b := by
  rw [slot_drop 13 (by omega)]
  unfold slot1
  rw [List.drop_append_of_le_length (by rw [List.length_take, slot0_len]; omega), List.drop_eq_nil_of_le (by rw [List.length_take, slot0_len]; omega)]
  simp
end
/-- What lies in a slot. -/
abbrev Slot := Option (Nat × List Nat)
def Slot.now : Slot → List Nat
  | none => List.replicate 64 0
  | some (n, b) => slotBytes n b
def Slot.turn : Slot → Nat
  | none => 0
  | some (n, _) => n
def Slot.txt : Slot → List Nat
  | none => []
  | some (_, b) => b
structure Slot.Ok (x : Slot) : Prop where
  n : x.turn < 9223372036854775808
  b : Bytes x.txt
  l : x.txt.length ≤ 40
theorem Slot.len {x : Slot} (h : x.Ok) : x.now.length = 64 := by
  cases x with
  | none => simp [Slot.now]
  | some y => exact slot_len h.l
theorem Slot.bytes {x : Slot} (h : x.Ok) : Bytes x.now := by
  cases x with
  | none => exact zero_bytes 64
  | some y => exact slot_bytes h.l h.b
theorem Slot.be_turn {x : Slot} (h : x.Ok) : be ((x.now.drop 4).take 8) = x.turn := by
  cases x with
  | none => decide +kernel
  | some y => exact slot_turn h.l (Nat.lt_trans h.n (by decide))
theorem Slot.full {x : Slot} (h : x.Ok) (ht : 0 < x.turn) : be (x.now.take 4) = sum (x.now.drop 4) ∧ x.now.getD 12 0 = x.txt.length ∧ (x.now.drop 13).take x.txt.length = x.txt := by
  cases x with
  | none => exact absurd ht (by decide)
  | some y => exact ⟨slot_sum h.l h.b, slot_size h.l, slot_text h.l⟩
/-- What Open has behind a slot. -/
def Slot.pick (st : Nat × Nat × List Nat) (k : Nat) (x : Slot) : Nat × Nat × List Nat := if st.2.1 < x.turn then (k, x.turn, x.txt) else st
end Go.Proofs.Ytgkmcbpcbannfaa
