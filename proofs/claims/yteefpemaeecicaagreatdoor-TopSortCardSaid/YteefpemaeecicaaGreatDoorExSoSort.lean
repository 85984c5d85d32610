/- The sort, in plain words: the lesser ones first, each as often as before. No condition. -/
import Derived.Test.YteefpemaeecicaaGreatDoorExSoGo
open Go Go.RowKit Go.Proofs
namespace Go.Proofs.YteefpemaeecicaaGreatDoor.Ev
set_option linter.unusedVariables false
set_option linter.unusedSimpArgs false
set_option linter.constructorNameAsVariable false
/-- How often a value is among the first. -/
def cnt (f : Nat → Nat) (v : Nat) : Nat → Nat
  | 0 => 0
  | k + 1 => cnt f v k + if f k = v then 1 else 0
theorem cnt_same {f g : Nat → Nat} {v : Nat} : ∀ {n : Nat}, (∀ k, k < n → f k = g k) → cnt f v n = cnt g v n
  | 0, _ => rfl
  | n + 1, h => by
    show cnt f v n + _ = cnt g v n + _
    rw [cnt_same (fun k hk => h k (by omega)), h n (by omega)]
theorem cnt_swp (f : Nat → Nat) (j v : Nat) : ∀ n, j + 2 ≤ n → cnt (swp f j) v n = cnt f v n
  | 0, h => by omega
  | n + 1, h => by
    by_cases hn : n = j + 1
    · subst hn
      show cnt (swp f j) v j + (if swp f j j = v then 1 else 0) + (if swp f j (j + 1) = v then 1 else 0) = cnt f v j + (if f j = v then 1 else 0) + (if f (j + 1) = v then 1 else 0)
      have e1 : swp f j j = f (j + 1) := if_pos rfl
      have e2 : swp f j (j + 1) = f j := by unfold swp; rw [if_neg (by omega), if_pos rfl]
      rw [e1, e2, cnt_same (f := swp f j) (g := f) (n := j) (fun k hk => by unfold swp; rw [if_neg (by omega), if_neg (by omega)])]
      omega
    · have ih := cnt_swp f j v n (by omega)
      show cnt (swp f j) v n + (if swp f j n = v then 1 else 0) = cnt f v n + (if f n = v then 1 else 0)
      rw [ih, show swp f j n = f n by unfold swp; rw [if_neg (by omega), if_neg (by omega)]]
theorem cnt_stp (f : Nat → Nat) (j v n : Nat) (h : j + 2 ≤ n) : cnt (stp f j) v n = cnt f v n := by
  unfold stp
  split
  · exact cnt_swp f j v n h
  · rfl
theorem cnt_inn (v n : Nat) : ∀ (k : Nat) (f : Nat → Nat) (j : Nat), j + k + 1 ≤ n → cnt (inn f j k) v n = cnt f v n
  | 0, _, _, _ => rfl
  | k + 1, f, j, h => (cnt_inn v n k (stp f j) (j + 1) (by omega)).trans (cnt_stp f j v n (by omega))
theorem cnt_srt (v n : Nat) : ∀ (k : Nat) (f : Nat → Nat), cnt (srt f n k) v n = cnt f v n
  | 0, _ => rfl
  | k + 1, f => by
    refine (cnt_srt v n k (inn f 0 (n - 1))).trans ?_
    by_cases h : n = 0
    · subst h; rfl
    · exact cnt_inn v n (n - 1) f 0 (by omega)
/-- What holds at a pair. -/
def PInv (n i j : Nat) (f : Nat → Nat) : Prop := ∀ p q, p < q → q < n → (n ≤ q + i ∨ (q + i + 1 = n ∧ q ≤ j) ∨ q = j) → f p ≤ f q
theorem stp_inv {n i j : Nat} {f : Nat → Nat} (hj : j + 1 < n) (h : PInv n i j f) : PInv n i (j + 1) (stp f j) := by
  unfold stp
  split
  · rename_i hs
    have hlt : j + 1 + i < n := by
      rcases Nat.lt_or_ge (j + 1 + i) n with q | q
      · exact q
      · exact absurd (h j (j + 1) (by omega) hj (.inl q)) (by omega)
    intro p q hp hq hc
    have ej : swp f j j = f (j + 1) := if_pos rfl
    have ej1 : swp f j (j + 1) = f j := by unfold swp; rw [if_neg (by omega), if_pos rfl]
    have eo : ∀ k, k ≠ j → k ≠ j + 1 → swp f j k = f k := fun k h1 h2 => by unfold swp; rw [if_neg h1, if_neg h2]
    by_cases q1 : q = j + 1
    · subst q1
      rw [ej1]
      by_cases p1 : p = j
      · subst p1; rw [ej]; omega
      · rw [eo p p1 (by omega)]
        exact h p j (by omega) (by omega) (.inr (.inr rfl))
    · have hq2 : j + 1 < q := by omega
      have hc2 : n ≤ q + i ∨ (q + i + 1 = n ∧ q ≤ j) ∨ q = j := by omega
      rw [eo q (by omega) q1]
      by_cases p1 : p = j
      · subst p1; rw [ej]; exact h (p + 1) q hq2 hq hc2
      by_cases p2 : p = j + 1
      · subst p2; rw [ej1]; exact h j q (by omega) hq hc2
      rw [eo p p1 p2]
      exact h p q hp hq hc2
  · rename_i hs
    intro p q hp hq hc
    by_cases q1 : q = j + 1
    · subst q1
      by_cases p1 : p = j
      · subst p1; omega
      · have := h p j (by omega) (by omega) (.inr (.inr rfl))
        omega
    · exact h p q hp hq (by omega)
theorem inn_inv {n i : Nat} : ∀ (k : Nat) (f : Nat → Nat) (j : Nat), j + k + 1 = n → PInv n i j f → PInv n i (n - 1) (inn f j k)
  | 0, f, j, e, h => by
    have : n - 1 = j := by omega
    rw [this]; exact h
  | k + 1, f, j, e, h => inn_inv k (stp f j) (j + 1) (by omega) (stp_inv (by omega) h)
def OInv (n i : Nat) (f : Nat → Nat) : Prop := ∀ p q, p < q → q < n → n ≤ q + i → f p ≤ f q
theorem srt_inv {n : Nat} : ∀ (k i : Nat) (f : Nat → Nat), OInv n i f → OInv n (i + k) (srt f n k)
  | 0, _, _, h => h
  | k + 1, i, f, h => by
    rw [show i + (k + 1) = (i + 1) + k by omega]
    refine srt_inv k (i + 1) (inn f 0 (n - 1)) ?_
    by_cases h0 : n = 0
    · intro p q _ hq; omega
    have h1 : PInv n i 0 f := fun p q hp hq hc => h p q hp hq (by omega)
    have h2 := inn_inv (n - 1) f 0 (by omega) h1
    exact fun p q hp hq hc => h2 p q hp hq (by omega)
theorem srt_sorted (f : Nat → Nat) (n : Nat) : ∀ p q, p < q → q < n → srt f n n p ≤ srt f n n q := fun p q hp hq => srt_inv n 0 f (fun p q _ _ h => by omega) p q hp hq (by omega)
/-! ### Bytes stay bytes; what lies behind them stays -/
theorem stp_b {f : Nat → Nat} {j m : Nat} (hj : j + 1 < m) (h : ∀ k, k < m → f k < 256) : ∀ k, k < m → stp f j k < 256 := fun k hk => by
  unfold stp
  split
  · unfold swp
    split
    · exact h _ hj
    · split
      · exact h _ (by omega)
      · exact h k hk
  · exact h k hk
theorem inn_b {m : Nat} : ∀ (k : Nat) (f : Nat → Nat) (j : Nat), j + k + 1 ≤ m → (∀ k, k < m → f k < 256) → ∀ q, q < m → inn f j k q < 256
  | 0, _, _, _, h => h
  | k + 1, f, j, e, h => inn_b k (stp f j) (j + 1) (by omega) (stp_b (by omega) h)
theorem srt_b {m n : Nat} (hn : n ≤ m) : ∀ (k : Nat) (f : Nat → Nat), (∀ k, k < m → f k < 256) → ∀ q, q < m → srt f n k q < 256
  | 0, _, h => h
  | k + 1, f, h => srt_b hn k (inn f 0 (n - 1)) (by
    by_cases h0 : n = 0
    · subst h0; exact h
    · exact inn_b (n - 1) f 0 (by omega) h)
end Go.Proofs.YteefpemaeecicaaGreatDoor.Ev
