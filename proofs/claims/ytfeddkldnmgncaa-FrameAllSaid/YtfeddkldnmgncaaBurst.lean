/- Plain facts on bursts: a list of bytes with some bytes behind one another changed by exclusive or; one bit changed. No program here. -/
import Derived.Test.YtfeddkldnmgncaaCrcMath
namespace Go.Proofs.Ytfeddkldnmgncaa.Crc

/-- The bytes from place 'at' on are changed by x. -/
def burst (l : List Nat) (p : Nat) (x : List Nat) : List Nat := l.take p ++ List.zipWith (· ^^^ ·) ((l.drop p).take x.length) x ++ l.drop (p + x.length)

theorem burst_length (l : List Nat) (p : Nat) (x : List Nat) (h : p + x.length ≤ l.length) : (burst l p x).length = l.length := by
  simp [burst]; omega

theorem num_replicate (n : Nat) : num (List.replicate n 0) = 0 := by
  induction n with
  | zero => rfl
  | succ n ih => rw [List.replicate_succ]; simp [num, ih]

theorem Bytes_app {a b : List Nat} (ha : Bytes a) (hb : Bytes b) : Bytes (a ++ b) := fun z hz => (List.mem_append.1 hz).elim (ha z) (hb z)
theorem Bytes_zip {a b : List Nat} (ha : Bytes a) (hb : Bytes b) : Bytes (List.zipWith (· ^^^ ·) a b) := by
  intro x hx
  obtain ⟨i, hi, rfl⟩ := List.getElem_of_mem hx
  rw [List.getElem_zipWith]
  exact Nat.xor_lt_two_pow (n := 8) (ha _ (List.getElem_mem _)) (hb _ (List.getElem_mem _))
theorem Bytes_take {a : List Nat} (h : Bytes a) (n : Nat) : Bytes (a.take n) := fun z hz => h z (List.mem_of_mem_take hz)
theorem Bytes_drop {a : List Nat} (h : Bytes a) (n : Nat) : Bytes (a.drop n) := fun z hz => h z (List.mem_of_mem_drop hz)

theorem burst_bytes {l : List Nat} {p : Nat} {x : List Nat} (hl : Bytes l) (hx : Bytes x) : Bytes (burst l p x) :=
  Bytes_app (Bytes_app (Bytes_take hl p) (Bytes_zip (Bytes_take (Bytes_drop hl p) _) hx)) (Bytes_drop hl _)

theorem burst_num {l : List Nat} {p : Nat} {x : List Nat} (hl : Bytes l) (hx : Bytes x) (h : p + x.length ≤ l.length) : num l ^^^ num (burst l p x) = 2 ^ (8 * p) * num x := by
  have hs : l = l.take p ++ ((l.drop p).take x.length ++ l.drop (p + x.length)) := by
    rw [← List.drop_drop, List.take_append_drop, List.take_append_drop]
  have b1 := Bytes_take hl p
  have b2 := Bytes_take (Bytes_drop hl p) x.length
  have b3 := Bytes_drop hl (p + x.length)
  have e1 : num l = num (l.take p) ^^^ 2 ^ (8 * p) * (num ((l.drop p).take x.length) ^^^ 2 ^ (8 * x.length) * num (l.drop (p + x.length))) := by
    have := num_append_xor (l.take p) ((l.drop p).take x.length ++ l.drop (p + x.length)) b1
    rw [← hs, num_append_xor _ _ b2] at this
    rw [List.length_take, List.length_take, List.length_drop, Nat.min_eq_left (by omega), Nat.min_eq_left (by omega)] at this
    exact this
  have e2 : num (burst l p x) = num (l.take p) ^^^ 2 ^ (8 * p) * ((num ((l.drop p).take x.length) ^^^ num x) ^^^ 2 ^ (8 * x.length) * num (l.drop (p + x.length))) := by
    unfold burst
    rw [List.append_assoc, num_append_xor _ _ b1, num_append_xor _ _ (Bytes_zip b2 hx), num_zip _ _ b2 hx (by simp; omega)]
    rw [List.length_take, List.length_zipWith, List.length_take, List.length_drop, Nat.min_eq_left (show p ≤ l.length by omega), show min (min x.length (l.length - p)) x.length = x.length by omega]
  rw [e1, e2]
  generalize num (l.take p) = A
  generalize num ((l.drop p).take x.length) = B
  generalize 2 ^ (8 * x.length) * num (l.drop (p + x.length)) = C
  rw [xor_mid, mul_xor]
  congr 1
  rw [Nat.xor_comm B (num x), Nat.xor_assoc (num x), Nat.xor_comm (num x), ← Nat.xor_assoc, Nat.xor_self, Nat.zero_xor]

theorem num_zero {x : List Nat} (h : num x = 0) : ∀ b ∈ x, b = 0 := by
  induction x with
  | nil => intro b hb; cases hb
  | cons y x ih =>
    simp only [num] at h
    intro b hb
    rcases List.mem_cons.1 hb with h1 | h1
    · omega
    · exact ih (by omega) b h1

theorem burst_sum {l : List Nat} {p : Nat} {x : List Nat} (hl : Bytes l) (hx : Bytes x) (h : p + x.length ≤ l.length) (h4 : x.length ≤ 4) (h0 : ∃ b ∈ x, b ≠ 0) : sum l ≠ sum (burst l p x) := by
  refine sum_ne l (burst l p x) hl (burst_bytes hl hx) (burst_length l p x h).symm (8 * p) (num x) ?_ ?_ (by omega) (burst_num hl hx h)
  · exact Nat.lt_of_lt_of_le (num_lt x hx) (Nat.pow_le_pow_right (by decide) (by omega))
  · obtain ⟨b, hb, hb0⟩ := h0
    intro e
    exact hb0 (num_zero e b hb)

/-- One byte changed. -/
theorem burst_one (l : List Nat) (p b : Nat) (h : p < l.length) : burst l p [b] = l.set p (l.getD p 0 ^^^ b) := by
  have : (l.drop p).take 1 = [l.getD p 0] := by
    rw [List.drop_eq_getElem_cons h, List.take_succ_cons, List.take_zero]
    simp [List.getElem?_eq_getElem h]
  unfold burst
  simp only [List.length_cons, List.length_nil, Nat.zero_add, this, List.zipWith_cons_cons, List.zipWith_nil_left]
  rw [List.set_eq_take_append_cons_drop, if_pos h]
  simp

theorem burst_nil (l : List Nat) (p : Nat) : burst l p [] = l := by simp [burst]

theorem burst_snoc (l : List Nat) (p : Nat) (x : List Nat) (b : Nat) (h : p + x.length < l.length) :
    (burst l p x).getD (p + x.length) 0 = l.getD (p + x.length) 0 ∧ burst l p (x ++ [b]) = (burst l p x).set (p + x.length) (l.getD (p + x.length) 0 ^^^ b) := by
  have hd : l.drop (p + x.length) = l.getD (p + x.length) 0 :: l.drop (p + x.length + 1) := by
    rw [List.drop_eq_getElem_cons h, List.getD_eq_getElem?_getD, List.getElem?_eq_getElem h]
    rfl
  have hA : (l.take p ++ List.zipWith (· ^^^ ·) ((l.drop p).take x.length) x).length = p + x.length := by simp; omega
  have hB : burst l p x = l.take p ++ List.zipWith (· ^^^ ·) ((l.drop p).take x.length) x ++ (l.getD (p + x.length) 0 :: l.drop (p + x.length + 1)) := by
    rw [← hd]; rfl
  have ht : (l.drop p).take (x.length + 1) = (l.drop p).take x.length ++ [l.getD (p + x.length) 0] := by
    rw [List.take_succ_eq_append_getElem (by simp; omega)]
    simp [List.getElem?_eq_getElem h]
  constructor
  · rw [hB, List.getD_eq_getElem?_getD, List.getElem?_append_right (by omega), hA, Nat.sub_self]
    rfl
  · rw [hB, List.set_append_right _ _ (by omega), hA, Nat.sub_self, List.set_cons_zero]
    unfold burst
    rw [List.length_append, List.length_singleton, ht, List.zipWith_append (by simp; omega)]
    simp [Nat.add_assoc]

end Go.Proofs.Ytfeddkldnmgncaa.Crc
