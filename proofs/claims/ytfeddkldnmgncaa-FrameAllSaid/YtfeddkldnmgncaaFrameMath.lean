/- The plain mathematics of the frame: what sealing gives, when bytes are sealed ones; a burst of at most 32 bits never leaves sealed bytes sealed. No program here. -/
import Derived.Test.YtfeddkldnmgncaaOneBit
namespace Go.Proofs.Ytfeddkldnmgncaa.Crc

def le4 (n : Nat) : List Nat := [n % 256, n / 256 % 256, n / 65536 % 256, n / 16777216 % 256]
theorem le4_length (n : Nat) : (le4 n).length = 4 := rfl
theorem le4_bytes (n : Nat) : Bytes (le4 n) := by
  intro b hb
  simp only [le4, List.mem_cons, List.not_mem_nil, or_false] at hb
  rcases hb with h | h | h | h <;> subst h <;> exact Nat.mod_lt _ (by decide)
theorem num_le4 (n : Nat) (h : n < 2 ^ 32) : num (le4 n) = n := by simp only [le4, num]; omega
theorem le4_num (l : List Nat) (h : Bytes l) (hl : l.length = 4) : le4 (num l) = l := by
  match l, hl with
  | [a, b, c, d], _ =>
    have ha := h a (by simp); have hb := h b (by simp); have hc := h c (by simp); have hd := h d (by simp)
    simp only [le4, num, List.cons.injEq, and_true]
    refine ⟨by omega, by omega, by omega, by omega⟩
theorem num_inj {l m : List Nat} (hl : Bytes l) (hm : Bytes m) (h : l.length = m.length) (e : num l = num m) : l = m := by
  induction l generalizing m with
  | nil => cases m with
    | nil => rfl
    | cons y m => simp at h
  | cons x l ih => cases m with
    | nil => simp at h
    | cons y m =>
      have hx := hl x (by simp)
      have hy := hm y (by simp)
      simp only [num] at e
      rw [ih (m := m) (fun z hz => hl z (by simp [hz])) (fun z hz => hm z (by simp [hz])) (by simpa using h) (by omega), show x = y by omega]

def head (l : List Nat) : List Nat := le4 l.length ++ l
def seal1 (l : List Nat) : List Nat := head l ++ le4 (sum (head l))
def sealed (l : List Nat) : List Nat := if l.length ≤ 60000 then seal1 l else []
/-- What lies between. -/
def inner (t : List Nat) : List Nat := (t.drop 4).take (t.length - 8)
/-- What opening finds. -/
def opens (t : List Nat) : Bool := decide (8 ≤ t.length) && decide (sealed (inner t) = t)

theorem head_bytes {l : List Nat} (h : Bytes l) : Bytes (head l) := Bytes_app (le4_bytes _) h
theorem head_length (l : List Nat) : (head l).length = l.length + 4 := by simp [head, le4_length]; omega
theorem seal1_bytes {l : List Nat} (h : Bytes l) : Bytes (seal1 l) := Bytes_app (head_bytes h) (le4_bytes _)
theorem seal1_length (l : List Nat) : (seal1 l).length = l.length + 8 := by simp [seal1, head_length, le4_length]
theorem sealed_bytes {l : List Nat} (h : Bytes l) : Bytes (sealed l) := by
  unfold sealed
  split
  · exact seal1_bytes h
  · intro b hb; cases hb
theorem inner_seal1 (l : List Nat) : inner (seal1 l) = l := by
  unfold inner
  rw [seal1_length]
  unfold seal1 head
  rw [List.append_assoc, List.drop_append_of_le_length (by rw [le4_length]; exact Nat.le_refl 4), List.drop_of_length_le (by rw [le4_length]; exact Nat.le_refl 4)]
  simp
theorem opens_sealed {l : List Nat} (h : l.length ≤ 60000) : opens (sealed l) = true ∧ inner (sealed l) = l := by
  have e : sealed l = seal1 l := by unfold sealed; rw [if_pos h]
  rw [e]
  refine ⟨?_, inner_seal1 l⟩
  unfold opens
  rw [inner_seal1, e, decide_eq_true (show 8 ≤ (seal1 l).length by rw [seal1_length]; omega)]
  simp
theorem inner_length (t : List Nat) (h : 8 ≤ t.length) : (inner t).length = t.length - 8 := by simp [inner]; omega
theorem inner_bytes {t : List Nat} (h : Bytes t) : Bytes (inner t) := Bytes_take (Bytes_drop h 4) _

/-- The number of sealed bytes says just that the sum fits. -/
theorem seal1_num {l : List Nat} (h : Bytes l) : num (seal1 l) = num (head l) ^^^ 2 ^ (8 * (l.length + 4)) * sum (head l) := by
  unfold seal1
  rw [num_append_xor _ _ (head_bytes h), head_length, num_le4 _ (sum_lt _ (head_bytes h))]

/-- Two texts of one length that are both sealed: the exclusive or of their numbers, turned through all rounds of the head, is nought. -/
theorem seal_two {l m : List Nat} (hl : Bytes l) (hm : Bytes m) (h : l.length = m.length) : rnds (8 * (l.length + 4)) (num (seal1 l) ^^^ num (seal1 m)) = 0 := by
  have hx := sum_xor (head l) (head m) (head_bytes hl) (head_bytes hm) (by rw [head_length, head_length, h])
  rw [head_length] at hx
  have e : num (seal1 l) ^^^ num (seal1 m) = (num (head l) ^^^ num (head m)) ^^^ 2 ^ (8 * (l.length + 4)) * (sum (head l) ^^^ sum (head m)) := by
    rw [seal1_num hl, seal1_num hm, ← h, ← mul_xor]
    generalize num (head l) = A
    generalize num (head m) = B
    generalize 2 ^ (8 * (l.length + 4)) * sum (head l) = C
    generalize 2 ^ (8 * (l.length + 4)) * sum (head m) = D
    rw [Nat.xor_assoc A C, Nat.xor_assoc A B, ← Nat.xor_assoc C B, Nat.xor_comm C B, Nat.xor_assoc B C]
  rw [e, rnds_xor, rnds_pow _ _ _ (Nat.le_refl _), Nat.sub_self, hx]
  simp only [rnds]
  rw [Nat.xor_self]

/-- A burst: bytes of the same length that differ from sealed ones in bits that lie within 32 behind one another are not sealed. -/
theorem burst_opens {l t : List Nat} (hl : Bytes l) (hlen : l.length ≤ 60000) (ht : Bytes t) (hs : t.length = (sealed l).length) (p v : Nat) (hv : v < 2 ^ 32) (hv0 : v ≠ 0)
    (hd : num (sealed l) ^^^ num t = 2 ^ p * v) : opens t = false := by
  have e : sealed l = seal1 l := by unfold sealed; rw [if_pos hlen]
  rw [e] at hs hd
  have hn := seal1_length l
  cases ho : opens t
  · rfl
  · exfalso
    unfold opens at ho
    simp only [Bool.and_eq_true, decide_eq_true_eq] at ho
    have hil := inner_length t ho.1
    have hib := inner_bytes ht
    have hi60 : (inner t).length ≤ 60000 := by omega
    have e2 : sealed (inner t) = seal1 (inner t) := by unfold sealed; rw [if_pos hi60]
    have h2 : seal1 (inner t) = t := by rw [← e2]; exact ho.2
    have h3 := seal_two hl hib (by omega)
    rw [h2, hd] at h3
    rcases Nat.lt_or_ge p (8 * (l.length + 4)) with hp | hp
    · rw [rnds_pow p _ v (by omega)] at h3
      exact rnds_ne _ hv hv0 h3
    · rw [rnds_pow_ge p _ v hp] at h3
      rcases Nat.mul_eq_zero.1 h3 with h | h
      · exact absurd h (Nat.ne_of_gt (Nat.two_pow_pos _))
      · exact hv0 h

theorem seal1_inj {l m : List Nat} (h : seal1 l = seal1 m) : l = m := by
  have := congrArg inner h
  rwa [inner_seal1, inner_seal1] at this

end Go.Proofs.Ytfeddkldnmgncaa.Crc
