/- Small facts on numbers with a sign. No condition. -/
import Derived.Test.YteefpemaeecicaaGreatDoorExNums
import Derived.Test.YteefpemaeecicaaGreatDoorExRows
section
open Go
namespace Go.Proofs.YteefpemaeecicaaGreatDoor.Ev
theorem sExt_lo {H N M a : Nat} (h : a < H) : sExt H N M a = a := by
  unfold sExt
  rw [ble_iff.2 h]
end Go.Proofs.YteefpemaeecicaaGreatDoor.Ev
end
section
open Go
namespace Go.Proofs.YteefpemaeecicaaGreatDoor.Ev
set_option linter.unusedVariables false
set_option linter.unusedSimpArgs false
set_option linter.constructorNameAsVariable false
noncomputable section
theorem natW_eq {ρ : Type} (n : Nat) (k : Nat → ρ) : natW n k = k n := by cases n <;> rfl
theorem beq_no {a b : Nat} (h : a ≠ b) : Nat.beq a b = false := by
  cases hb : Nat.beq a b with
  | false => rfl
  | true => exact (h (beq_iff.1 hb)).elim
theorem ble_no {a b : Nat} (h : ¬ a ≤ b) : Nat.ble a b = false := by
  cases hb : Nat.ble a b with
  | false => rfl
  | true => exact (h (ble_iff.1 hb)).elim
theorem wMask_cons (p : Pc) (l : List Pc) : wMask (p :: l) = p.m ||| wMask l := rfl
theorem wAndL_cons (k : Nat) (p : Pc) (l : List Pc) : wAndL k (p :: l) = if p.m &&& k = 0 then wAndL k l else ⟨p.i, p.d, p.m &&& k⟩ :: wAndL k l := by
  obtain ⟨i, d, m⟩ := p
  show natW (Nat.land m k) (fun m' => Bool.rec (motive := fun _ => List Pc) (⟨i, d, m'⟩ :: wAndL k l) (wAndL k l) (Nat.beq m' 0)) = if m &&& k = 0 then wAndL k l else ⟨i, d, m &&& k⟩ :: wAndL k l
  rw [natW_eq]
  by_cases h : m &&& k = 0
  · rw [if_pos h, show Nat.beq (Nat.land m k) 0 = true from beq_iff.2 h]
  · rw [if_neg h, show Nat.beq (Nat.land m k) 0 = false from beq_no h]; rfl
theorem wAnd_eq (k : Nat) (a : Wr) : wAnd k a = ⟨a.c &&& k, wAndL k a.l⟩ := by
  obtain ⟨c, l⟩ := a
  show natW (Nat.land c k) (fun c => (⟨c, wAndL k l⟩ : Wr)) = _
  rw [natW_eq]; rfl
/-- The bits of an unknown. -/
def bitV [Rho] (i t : Nat) : Bool := (Rho.n i % 2 ^ 64).testBit t
/-- The bits of a piece; of pieces; of a number. -/
def bitP [Rho] (p : Pc) (t : Nat) : Bool := p.m.testBit t && (if 64 ≤ p.d then decide (p.d - 64 ≤ t) && bitV p.i (t - (p.d - 64)) else bitV p.i (t + (64 - p.d)))
def bitL [Rho] (l : List Pc) (t : Nat) : Bool := l.any fun p => bitP p t
def bitW [Rho] (a : Wr) (t : Nat) : Bool := a.c.testBit t || bitL a.l t
section
variable [Rho]
theorem bitV_high {i t : Nat} (h : 64 ≤ t) : bitV i t = false := Nat.testBit_lt_two_pow (Nat.lt_of_lt_of_le (Nat.mod_lt _ (by decide)) (Nat.pow_le_pow_right (by omega) h))
theorem bitL_nil (t : Nat) : bitL [] t = false := rfl
theorem bitL_cons (p : Pc) (l : List Pc) (t : Nat) : bitL (p :: l) t = (bitP p t || bitL l t) := rfl
theorem bitP_mask (i d m : Nat) (t : Nat) (h : m.testBit t = false) : bitP ⟨i, d, m⟩ t = false := by
  unfold bitP
  rw [show (⟨i, d, m⟩ : Pc).m = m from rfl, h]
  rfl
theorem bitP_le (i d m : Nat) (t : Nat) (h : bitP ⟨i, d, m⟩ t = true) : m.testBit t = true := ((Bool.and_eq_true _ _).mp h).1
/-! ### Masks -/
theorem wMask_ok : ∀ {l : List Pc} {t : Nat}, bitL l t = true → (wMask l).testBit t = true
  | [], t, h => by cases h
  | p :: l, t, h => by
    rw [wMask_cons, Nat.testBit_or, Bool.or_eq_true]
    rw [bitL_cons, Bool.or_eq_true] at h
    rcases h with h | h
    · exact .inl (bitP_le p.i p.d p.m t h)
    · exact .inr (wMask_ok h)
theorem wMask_no {l : List Pc} {t : Nat} (h : (wMask l).testBit t = false) : bitL l t = false := by
  cases hb : bitL l t with
  | false => rfl
  | true => rw [wMask_ok hb] at h; cases h
theorem wAndL_ok (k : Nat) : ∀ (l : List Pc) (t : Nat), bitL (wAndL k l) t = (bitL l t && k.testBit t)
  | [], t => rfl
  | p :: l, t => by
    have ih := wAndL_ok k l t
    have h1 : bitP ⟨p.i, p.d, p.m &&& k⟩ t = (bitP p t && k.testBit t) := by
      unfold bitP
      show ((p.m &&& k).testBit t && _) = _
      rw [Nat.testBit_and]
      cases p.m.testBit t <;> cases k.testBit t <;> simp
    rw [wAndL_cons]
    split
    · rename_i h
      rw [ih, bitL_cons]
      have h2 : bitP ⟨p.i, p.d, p.m &&& k⟩ t = false := bitP_mask _ _ _ _ (by rw [h, Nat.zero_testBit])
      rw [h1] at h2
      rw [Bool.and_or_distrib_right, h2, Bool.false_or]
    · rw [bitL_cons, bitL_cons, ih, h1, Bool.and_or_distrib_right]
theorem wAnd_ok (k : Nat) (a : Wr) (t : Nat) : bitW (wAnd k a) t = (bitW a t && k.testBit t) := by
  rw [wAnd_eq]
  unfold bitW
  rw [wAndL_ok, Nat.testBit_and, Bool.and_or_distrib_right]
theorem wIns_ok (p : Pc) : ∀ (l : List Pc) (t : Nat), bitL (wIns p l) t = (bitP p t || bitL l t)
  | [], t => rfl
  | q :: l, t => by
    have ih := wIns_ok p l t
    obtain ⟨pi, pd, pm⟩ := p
    obtain ⟨qi, qd, qm⟩ := q
    have e : wIns ⟨pi, pd, pm⟩ (⟨qi, qd, qm⟩ :: l) = Bool.rec (motive := fun _ => List Pc) (Bool.rec (motive := fun _ => List Pc) (⟨qi, qd, qm⟩ :: wIns ⟨pi, pd, pm⟩ l) (⟨pi, pd, pm⟩ :: ⟨qi, qd, qm⟩ :: l) (Nat.ble (Nat.succ (Nat.add (Nat.mul pi 256) pd)) (Nat.add (Nat.mul qi 256) qd))) (⟨pi, pd, Nat.lor pm qm⟩ :: l) (and_ (Nat.beq pi qi) (Nat.beq pd qd)) := rfl
    rw [e]
    cases h1 : and_ (Nat.beq pi qi) (Nat.beq pd qd) with
    | true =>
      obtain ⟨h2, h3⟩ := and_eq.1 h1
      have h2 := beq_iff.1 h2
      have h3 := beq_iff.1 h3
      subst h2 h3
      show bitL (⟨pi, pd, Nat.lor pm qm⟩ :: l) t = _
      rw [bitL_cons, bitL_cons, ← Bool.or_assoc]
      congr 1
      unfold bitP
      show ((pm ||| qm).testBit t && (if 64 ≤ pd then decide (pd - 64 ≤ t) && bitV pi (t - (pd - 64)) else bitV pi (t + (64 - pd)))) = ((pm.testBit t && (if 64 ≤ pd then decide (pd - 64 ≤ t) && bitV pi (t - (pd - 64)) else bitV pi (t + (64 - pd)))) || (qm.testBit t && (if 64 ≤ pd then decide (pd - 64 ≤ t) && bitV pi (t - (pd - 64)) else bitV pi (t + (64 - pd)))))
      rw [Nat.testBit_or, Bool.and_or_distrib_right]
    | false =>
      show bitL (Bool.rec (motive := fun _ => List Pc) (⟨qi, qd, qm⟩ :: wIns ⟨pi, pd, pm⟩ l) (⟨pi, pd, pm⟩ :: ⟨qi, qd, qm⟩ :: l) (Nat.ble (Nat.succ (Nat.add (Nat.mul pi 256) pd)) (Nat.add (Nat.mul qi 256) qd))) t = _
      cases Nat.ble (Nat.succ (Nat.add (Nat.mul pi 256) pd)) (Nat.add (Nat.mul qi 256) qd) with
      | true => rfl
      | false =>
        show bitL (⟨qi, qd, qm⟩ :: wIns ⟨pi, pd, pm⟩ l) t = _
        rw [bitL_cons, bitL_cons, ih, Bool.or_left_comm]
theorem wOr_ok (a b : Wr) (t : Nat) : bitW (wOr a b) t = (bitW a t || bitW b t) := by
  obtain ⟨ac, al⟩ := a
  obtain ⟨bc, bl⟩ := b
  have e : wOr ⟨ac, al⟩ ⟨bc, bl⟩ = ⟨ac ||| bc, lrec al bl fun p _ ih => wIns p ih⟩ := by
    show natW (Nat.lor ac bc) (fun c => (⟨c, lrec al bl fun p _ ih => wIns p ih⟩ : Wr)) = _
    rw [natW_eq]; rfl
  have h : ∀ l : List Pc, bitL (lrec l bl fun p _ ih => wIns p ih) t = (bitL l t || bitL bl t) := by
    intro l
    induction l with
    | nil => rfl
    | cons p l ih =>
      show bitL (wIns p (lrec l bl fun p _ ih => wIns p ih)) t = _
      rw [wIns_ok, ih, bitL_cons, Bool.or_assoc]
  rw [e]
  unfold bitW
  show ((ac ||| bc).testBit t || bitL (lrec al bl fun p _ ih => wIns p ih) t) = ((ac.testBit t || bitL al t) || (bc.testBit t || bitL bl t))
  rw [h, Nat.testBit_or]
  cases ac.testBit t <;> cases bc.testBit t <;> simp
/-! ### Shifts -/
def shlP (s : Nat) (p : Pc) : Pc := ⟨p.i, p.d + s, p.m * 2 ^ s⟩
def shrP (s : Nat) (p : Pc) : Pc := ⟨p.i, p.d - s, p.m / 2 ^ s⟩
theorem shlP_ok (s : Nat) (p : Pc) (t : Nat) : bitP (shlP s p) t = (decide (s ≤ t) && bitP p (t - s)) := by
  obtain ⟨i, d, m⟩ := p
  unfold bitP shlP
  show ((m * 2 ^ s).testBit t && (if 64 ≤ d + s then decide (d + s - 64 ≤ t) && bitV i (t - (d + s - 64)) else bitV i (t + (64 - (d + s))))) = (decide (s ≤ t) && (m.testBit (t - s) && (if 64 ≤ d then decide (d - 64 ≤ t - s) && bitV i (t - s - (d - 64)) else bitV i (t - s + (64 - d)))))
  rw [Nat.testBit_mul_two_pow]
  by_cases h : s ≤ t
  · rw [decide_eq_true h, Bool.true_and, Bool.true_and]
    congr 1
    by_cases h1 : 64 ≤ d
    · rw [if_pos h1, if_pos (by omega), show t - (d + s - 64) = t - s - (d - 64) by omega]
      congr 1
      exact decide_eq_decide.2 (by omega)
    · rw [if_neg h1]
      by_cases h2 : 64 ≤ d + s
      · rw [if_pos h2, decide_eq_true (show d + s - 64 ≤ t by omega), Bool.true_and, show t - (d + s - 64) = t - s + (64 - d) by omega]
      · rw [if_neg h2, show t + (64 - (d + s)) = t - s + (64 - d) by omega]
  · rw [decide_eq_false h, Bool.false_and, Bool.false_and, Bool.false_and]
theorem shrP_ok (s : Nat) (p : Pc) (t : Nat) (hs : s ≤ p.d) : bitP (shrP s p) t = bitP p (t + s) := by
  obtain ⟨i, d, m⟩ := p
  have hs : s ≤ d := hs
  unfold bitP shrP
  show ((m / 2 ^ s).testBit t && (if 64 ≤ d - s then decide (d - s - 64 ≤ t) && bitV i (t - (d - s - 64)) else bitV i (t + (64 - (d - s))))) = (m.testBit (t + s) && (if 64 ≤ d then decide (d - 64 ≤ t + s) && bitV i (t + s - (d - 64)) else bitV i (t + s + (64 - d))))
  rw [Nat.testBit_div_two_pow]
  congr 1
  by_cases h1 : 64 ≤ d - s
  · rw [if_pos h1, if_pos (by omega), show t - (d - s - 64) = t + s - (d - 64) by omega]
    congr 1
    exact decide_eq_decide.2 (by omega)
  · rw [if_neg h1]
    by_cases h2 : 64 ≤ d
    · rw [if_pos h2, decide_eq_true (show d - 64 ≤ t + s by omega), Bool.true_and, show t + (64 - (d - s)) = t + s - (d - 64) by omega]
    · rw [if_neg h2, show t + (64 - (d - s)) = t + s + (64 - d) by omega]
theorem bitW_mask (a : Wr) (t : Nat) : bitW (wAnd 18446744073709551615 a) t = (decide (t < 64) && bitW a t) := by
  rw [wAnd_ok, show (18446744073709551615 : Nat) = 2 ^ 64 - 1 from rfl, Nat.testBit_two_pow_sub_one, Bool.and_comm]
theorem wShl_ok (s : Nat) (a : Wr) (t : Nat) : bitW (wShl s a) t = (decide (t < 64) && (decide (s ≤ t) && bitW a (t - s))) := by
  obtain ⟨c, l⟩ := a
  have e : wShl s ⟨c, l⟩ = wAnd 18446744073709551615 ⟨c * 2 ^ s, lrec l [] fun p _ ih => shlP s p :: ih⟩ := rfl
  have h : ∀ l : List Pc, bitL (lrec l [] fun p _ ih => shlP s p :: ih) t = (decide (s ≤ t) && bitL l (t - s)) := by
    intro l
    induction l with
    | nil => show false = _; rw [bitL_nil, Bool.and_false]
    | cons p l ih =>
      show bitL (shlP s p :: lrec l [] fun p _ ih => shlP s p :: ih) t = _
      rw [bitL_cons, ih, bitL_cons, shlP_ok s p t, ← Bool.and_or_distrib_left]
  rw [e, bitW_mask]
  congr 1
  unfold bitW
  show ((c * 2 ^ s).testBit t || bitL (lrec l [] fun p _ ih => shlP s p :: ih) t) = (decide (s ≤ t) && (c.testBit (t - s) || bitL l (t - s)))
  rw [h l, Nat.testBit_mul_two_pow, ← Bool.and_or_distrib_left]
theorem wShr_ok {s : Nat} {a b : Wr} (h : wShr s a = some b) (t : Nat) : bitW b t = (decide (t < 64) && bitW a (t + s)) := by
  obtain ⟨c, l⟩ := a
  have e : wShr s ⟨c, l⟩ = Bool.rec (motive := fun _ => Option Wr) none (some (wAnd 18446744073709551615 ⟨c / 2 ^ s, lrec l [] fun p _ ih => shrP s p :: ih⟩)) (wShrOk s l) := rfl
  rw [e] at h
  have g : ∀ l : List Pc, wShrOk s l = true → bitL (lrec l [] fun p _ ih => shrP s p :: ih) t = bitL l (t + s) := by
    intro l hl
    induction l with
    | nil => rfl
    | cons p l ih =>
      obtain ⟨h1, h2⟩ := and_eq.1 (show and_ (Nat.ble s p.d) (wShrOk s l) = true from hl)
      show bitL (shrP s p :: lrec l [] fun p _ ih => shrP s p :: ih) t = _
      rw [bitL_cons, ih h2, bitL_cons, shrP_ok s p t (ble_iff.1 h1)]
  cases hk : wShrOk s l with
  | false => rw [hk] at h; cases h
  | true =>
    rw [hk] at h
    cases h
    rw [bitW_mask]
    congr 1
    unfold bitW
    show ((c / 2 ^ s).testBit t || bitL (lrec l [] fun p _ ih => shrP s p :: ih) t) = (c.testBit (t + s) || bitL l (t + s))
    rw [g l hk, Nat.testBit_div_two_pow]
end
end
end Go.Proofs.YteefpemaeecicaaGreatDoor.Ev
end
section
open Go
namespace Go.Proofs.YteefpemaeecicaaGreatDoor.Ev
set_option linter.unusedVariables false
set_option linter.unusedSimpArgs false
set_option linter.constructorNameAsVariable false
noncomputable section
theorem wNil_eq {l : List Pc} (h : wNil l = true) : l = [] := by
  cases l with
  | nil => rfl
  | cons p l => cases h
theorem land_no {m k : Nat} (h : Nat.land m (2 ^ k) = 0) : m.testBit k = false := by
  have this : (Nat.land m (2 ^ k)).testBit k = (0 : Nat).testBit k := by rw [h]
  rw [show Nat.land m (2 ^ k) = m &&& 2 ^ k from rfl, Nat.testBit_and, Nat.testBit_two_pow_self, Nat.zero_testBit, Bool.and_true] at this
  exact this
theorem land_yes {m k : Nat} (h : Nat.land m (2 ^ k) ≠ 0) : m.testBit k = true := by
  cases hb : m.testBit k with
  | true => rfl
  | false =>
    refine (h (Nat.eq_of_testBit_eq fun t => ?_)).elim
    rw [show Nat.land m (2 ^ k) = m &&& 2 ^ k from rfl, Nat.testBit_and, Nat.zero_testBit, Nat.testBit_two_pow]
    by_cases e : k = t
    · subst e; rw [hb]; rfl
    · rw [decide_eq_false e, Bool.and_false]
/-- The highest bit of a number of k + 1 bits. -/
theorem top_bit {n k : Nat} (h : n < 2 ^ (k + 1)) : n.testBit k = decide (2 ^ k ≤ n) := by
  rw [Nat.testBit_eq_decide_div_mod_eq]
  have e : 2 ^ (k + 1) = 2 ^ k * 2 := rfl
  have h0 : 0 < 2 ^ k := Nat.two_pow_pos k
  apply decide_eq_decide.2
  by_cases hn : 2 ^ k ≤ n
  · have : n / 2 ^ k = 1 := by
      apply Nat.div_eq_of_lt_le <;> omega
    rw [this]; exact ⟨fun _ => hn, fun _ => rfl⟩
  · rw [Nat.div_eq_of_lt (by omega)]
    constructor
    · intro h
      cases h
    · intro h
      exact (hn h).elim
theorem pow_sub_bit {j k : Nat} (h : j ≤ k) (t : Nat) : (2 ^ k - 2 ^ j).testBit t = (decide (j ≤ t) && decide (t < k)) := by
  have h0 : 2 ^ j ≤ 2 ^ k := Nat.pow_le_pow_right (by omega) h
  have h1 : 0 < 2 ^ j := Nat.two_pow_pos j
  have e : 2 ^ k - 2 ^ j = 2 ^ k - ((2 ^ j - 1) + 1) := by omega
  rw [e, Nat.testBit_two_pow_sub_succ (by omega), Nat.testBit_two_pow_sub_one, Bool.and_comm]
  congr 1
  by_cases ht : t < j
  · rw [decide_eq_true ht, decide_eq_false (by omega)]; rfl
  · rw [decide_eq_false ht, decide_eq_true (by omega)]; rfl
theorem sShr_bits {n k s : Nat} (hn : n < 2 ^ k) (h : s ≤ k) (t : Nat) : (2 ^ k - 1 - (2 ^ k - 1 - n) / 2 ^ s).testBit t = ((n / 2 ^ s).testBit t || (2 ^ k - 2 ^ (k - s)).testBit t) := by
  have h0 : 0 < 2 ^ k := Nat.two_pow_pos k
  have e1 : 2 ^ k - 1 - n = 2 ^ k - (n + 1) := by omega
  have h2 : (2 ^ k - 1 - n) / 2 ^ s < 2 ^ k := Nat.lt_of_le_of_lt (Nat.div_le_self _ _) (by omega)
  have e2 : 2 ^ k - 1 - (2 ^ k - 1 - n) / 2 ^ s = 2 ^ k - ((2 ^ k - 1 - n) / 2 ^ s + 1) := by omega
  rw [e2, Nat.testBit_two_pow_sub_succ h2, Nat.testBit_div_two_pow, e1, Nat.testBit_two_pow_sub_succ hn, Nat.testBit_div_two_pow, pow_sub_bit (by omega)]
  by_cases h3 : t + s < k
  · rw [decide_eq_true h3, decide_eq_true (show t < k by omega), decide_eq_false (show ¬ k - s ≤ t by omega)]
    simp
  · rw [decide_eq_false h3]
    have : n.testBit (t + s) = false := Nat.testBit_lt_two_pow (Nat.lt_of_lt_of_le hn (Nat.pow_le_pow_right (by omega) (by omega)))
    rw [this]
    by_cases h4 : t < k
    · rw [decide_eq_true h4, decide_eq_true (show k - s ≤ t by omega)]; rfl
    · rw [decide_eq_false h4]; simp
theorem kmW_eq (j : Nat) : kmW j = kmN j := by
  match j with
  | 0 | 1 | 2 | 3 | 4 | 5 | 6 | 7 => rfl
  | n + 8 => rfl
theorem khW_eq (j : Nat) : khW j = khN j := by
  match j with
  | 0 | 1 | 2 | 3 | 4 | 5 | 6 | 7 => rfl
  | n + 8 => rfl
theorem kn_pow (j : Nat) : ∃ k, k + 1 ≤ 64 ∧ kmN j = 2 ^ (k + 1) ∧ khN j = 2 ^ k := by
  match j with
  | 0 => exact ⟨7, by omega, rfl, rfl⟩
  | 1 => exact ⟨15, by omega, rfl, rfl⟩
  | 2 => exact ⟨31, by omega, rfl, rfl⟩
  | 3 => exact ⟨63, by omega, rfl, rfl⟩
  | 4 => exact ⟨7, by omega, rfl, rfl⟩
  | 5 => exact ⟨15, by omega, rfl, rfl⟩
  | 6 => exact ⟨31, by omega, rfl, rfl⟩
  | 7 => exact ⟨63, by omega, rfl, rfl⟩
  | n + 8 => exact ⟨63, by omega, rfl, rfl⟩
theorem km_dvd (j n : Nat) : n % 2 ^ 64 % kmN j = n % kmN j := by
  obtain ⟨k, h1, h2, _⟩ := kn_pow j
  rw [h2, Nat.mod_mod_of_dvd n (Nat.pow_dvd_pow 2 h1)]
theorem wVar_cons (a : As) (tk : List As) (i : Nat) : wVar (a :: tk) i = (match a with
    | ⟨c', j', x', y', b'⟩ => if c' = 0 ∧ j' = 7 ∧ b' = true then (match x' with
      | .op c w (.var i') (.lit n) => if c = 3 ∧ w = 7 ∧ i' = i then (match y' with | .lit m => ⟨m % 18446744073709551616, wAndL (18446744073709551615 - n % 18446744073709551616) [⟨i, 64, 18446744073709551615⟩]⟩ | _ => wVar tk i) else wVar tk i
      | _ => wVar tk i) else wVar tk i) := by
  obtain ⟨c', j', x', y', b'⟩ := a
  have e0 : ∀ (x y : Wr), Bool.rec (motive := fun _ => Wr) y x (and_ (and_ (Nat.beq c' 0) (Nat.beq j' 7)) b') = if c' = 0 ∧ j' = 7 ∧ b' = true then x else y := by
    intro x y
    by_cases h1 : c' = 0
    · by_cases h2 : j' = 7
      · subst h1 h2
        cases b' <;> simp [and_]
      · rw [beq_no h2, if_neg (fun h => h2 h.2.1)]
        cases Nat.beq c' 0 <;> rfl
    · rw [beq_no h1, if_neg (fun h => h1 h.1)]; rfl
  refine (e0 _ _).trans ?_
  simp only []
  split
  · cases x' with
    | var _ => rfl
    | lit _ => rfl
    | op c w p q =>
      have e1 : ∀ (x y : Wr), Bool.rec (motive := fun _ => Wr) y x (and_ (Nat.beq c 3) (Nat.beq w 7)) = if c = 3 ∧ w = 7 then x else y := by
        intro x y
        by_cases h1 : c = 3
        · by_cases h2 : w = 7
          · subst h1 h2; rfl
          · rw [beq_no h2, if_neg (fun h => h2 h.2)]
            cases Nat.beq c 3 <;> rfl
        · rw [beq_no h1, if_neg (fun h => h1 h.1)]; rfl
      refine (e1 _ _).trans ?_
      cases p with
      | lit _ => show (if c = 3 ∧ w = 7 then wVar tk i else wVar tk i) = wVar tk i; split <;> rfl
      | op _ _ _ _ => show (if c = 3 ∧ w = 7 then wVar tk i else wVar tk i) = wVar tk i; split <;> rfl
      | var i' =>
        have e2 : ∀ (x y : Wr), Bool.rec (motive := fun _ => Wr) y x (and_ (Nat.beq i' i) true) = if i' = i then x else y := by
          intro x y
          by_cases h1 : i' = i
          · subst h1; rw [if_pos rfl, beq_iff.2 rfl]; rfl
          · rw [beq_no h1, if_neg h1]; rfl
        cases q with
        | var _ => show (if c = 3 ∧ w = 7 then Bool.rec (motive := fun _ => Wr) (wVar tk i) (wVar tk i) (and_ (Nat.beq i' i) true) else wVar tk i) = wVar tk i; rw [e2]; split <;> (try split) <;> rfl
        | op _ _ _ _ => show (if c = 3 ∧ w = 7 then Bool.rec (motive := fun _ => Wr) (wVar tk i) (wVar tk i) (and_ (Nat.beq i' i) true) else wVar tk i) = wVar tk i; rw [e2]; split <;> (try split) <;> rfl
        | lit n =>
          have e3 : (Bool.rec (motive := fun _ => Wr) (wVar tk i) (Ex.rec (motive := fun _ => Wr) (fun _ => wVar tk i) (fun m_ => ⟨Nat.mod m_ 18446744073709551616, wAndL (Nat.sub 18446744073709551615 (Nat.mod n 18446744073709551616)) [⟨i, 64, 18446744073709551615⟩]⟩) (fun _ _ _ _ _ _ => wVar tk i) y') (and_ (Nat.beq i' i) true)) = if i' = i then (match y' with | .lit m => (⟨m % 18446744073709551616, wAndL (18446744073709551615 - n % 18446744073709551616) [⟨i, 64, 18446744073709551615⟩]⟩ : Wr) | _ => wVar tk i) else wVar tk i := by
            rw [e2]
            cases y' <;> rfl
          show (if c = 3 ∧ w = 7 then _ else wVar tk i) = if c = 3 ∧ w = 7 ∧ i' = i then _ else wVar tk i
          by_cases h : c = 3 ∧ w = 7
          · rw [if_pos h]
            refine e3.trans ?_
            by_cases hi : i' = i
            · rw [if_pos hi, if_pos ⟨h.1, h.2, hi⟩]
            · rw [if_neg hi, if_neg (fun g => hi g.2.2)]
          · rw [if_neg h, if_neg (fun g => h ⟨g.1, g.2.1⟩)]
  · rfl
section
variable [Rho]
/-- A number has these bits. -/
def IsW (n : Nat) (a : Wr) : Prop := ∀ t, n.testBit t = bitW a t
theorem IsW.and {n : Nat} {a : Wr} (h : IsW n a) (k : Nat) : IsW (n &&& k) (wAnd k a) := fun t => by rw [wAnd_ok, Nat.testBit_and, h t]
theorem IsW.or {n m : Nat} {a b : Wr} (h : IsW n a) (g : IsW m b) : IsW (n ||| m) (wOr a b) := fun t => by rw [wOr_ok, Nat.testBit_or, h t, g t]
theorem IsW.tr {n : Nat} {a : Wr} (h : IsW n a) (k : Nat) : IsW (n % 2 ^ k) (wAnd (2 ^ k - 1) a) := by
  rw [← Nat.and_two_pow_sub_one_eq_mod]; exact h.and _
theorem IsW.eq {n m : Nat} {a : Wr} (h : IsW n a) (g : IsW m a) : n = m := Nat.eq_of_testBit_eq fun t => by rw [h t, g t]
theorem IsW.lit (n : Nat) : IsW n ⟨n, []⟩ := fun t => by show _ = (n.testBit t || false); rw [Bool.or_false]
theorem IsW.num {n c : Nat} {l : List Pc} (h : IsW n ⟨c, l⟩) (hl : wNil l = true) : n = c := by
  rw [wNil_eq hl] at h
  exact h.eq (IsW.lit c)
theorem IsW.shl {n : Nat} {a : Wr} (h : IsW n a) (s : Nat) : IsW (n * 2 ^ s % 2 ^ 64) (wShl s a) := fun t => by
  rw [wShl_ok, Nat.testBit_mod_two_pow, Nat.testBit_mul_two_pow, h]
theorem IsW.shr {n : Nat} {a b : Wr} (h : IsW n a) (hn : n < 2 ^ 64) {s : Nat} (e : wShr s a = some b) : IsW (n / 2 ^ s) b := fun t => by
  rw [wShr_ok e, Nat.testBit_div_two_pow, ← h]
  by_cases ht : t < 64
  · rw [decide_eq_true ht, Bool.true_and]
  · rw [decide_eq_false ht, Bool.false_and]
    exact Nat.testBit_lt_two_pow (Nat.lt_of_lt_of_le hn (Nat.pow_le_pow_right (by omega) (by omega)))
theorem IsW.top {n c k : Nat} {l : List Pc} (h : IsW n ⟨c, l⟩) (hn : n < 2 ^ (k + 1)) (hm : Nat.beq (Nat.land (wMask l) (2 ^ k)) 0 = true) : (Nat.beq (Nat.land c (2 ^ k)) 0 = true ∧ n < 2 ^ k) ∨ (Nat.beq (Nat.land c (2 ^ k)) 0 = false ∧ 2 ^ k ≤ n) := by
  have h1 : bitL l k = false := wMask_no (land_no (beq_iff.1 hm))
  have h2 : n.testBit k = c.testBit k := by
    rw [h k]
    show (c.testBit k || bitL l k) = _
    rw [h1, Bool.or_false]
  rw [top_bit hn] at h2
  cases hb : Nat.beq (Nat.land c (2 ^ k)) 0 with
  | true =>
    rw [land_no (beq_iff.1 hb), decide_eq_false_iff_not] at h2
    exact .inl ⟨rfl, by omega⟩
  | false =>
    rw [land_yes (fun e => by rw [beq_iff.2 e] at hb; cases hb), decide_eq_true_eq] at h2
    exact .inr ⟨rfl, h2⟩
/-- Wider, with the sign. -/
theorem IsW.sx {n k k' : Nat} {a b : Wr} (h : IsW n a) (hn : n < 2 ^ (k + 1)) (hk : k + 1 ≤ k') (e : wSx (2 ^ k) (2 ^ (k + 1)) (2 ^ k') a = some b) : IsW (sExt (2 ^ k) (2 ^ (k + 1)) (2 ^ k') n) b := by
  obtain ⟨c, l⟩ := a
  have e : (Bool.rec (motive := fun _ => Option Wr) none (Bool.rec (motive := fun _ => Option Wr) (some ⟨Nat.lor c (Nat.sub (2 ^ k') (2 ^ (k + 1))), l⟩) (some ⟨c, l⟩) (Nat.beq (Nat.land c (2 ^ k)) 0)) (Nat.beq (Nat.land (wMask l) (2 ^ k)) 0) : Option Wr) = some b := e
  cases hm : Nat.beq (Nat.land (wMask l) (2 ^ k)) 0 with
  | false => rw [hm] at e; cases e
  | true =>
    rw [hm] at e
    rcases h.top hn hm with ⟨h1, h2⟩ | ⟨h1, h2⟩
    · rw [h1] at e
      cases e
      rw [sExt_lo h2]
      exact h
    · rw [h1] at e
      cases e
      have e1 : sExt (2 ^ k) (2 ^ (k + 1)) (2 ^ k') n = n + (2 ^ k' - 2 ^ (k + 1)) := by
        unfold sExt
        rw [ble_no (show ¬ n + 1 ≤ 2 ^ k by omega)]
        rfl
      have e2 : 2 ^ k' - 2 ^ (k + 1) = (2 ^ (k' - (k + 1)) - 1) <<< (k + 1) := by
        rw [Nat.shiftLeft_eq, Nat.sub_mul, ← Nat.pow_add, Nat.sub_add_cancel hk, Nat.one_mul]
      have e3 : n + (2 ^ k' - 2 ^ (k + 1)) = (2 ^ k' - 2 ^ (k + 1)) ||| n := by
        rw [e2, Nat.add_comm, Nat.shiftLeft_add_eq_or_of_lt hn]
      rw [e1, e3]
      intro t
      rw [Nat.testBit_or, h t]
      show _ = ((c ||| (2 ^ k' - 2 ^ (k + 1))).testBit t || bitL l t)
      rw [Nat.testBit_or]
      show ((2 ^ k' - 2 ^ (k + 1)).testBit t || (c.testBit t || bitL l t)) = _
      cases c.testBit t <;> cases (2 ^ k' - 2 ^ (k + 1)).testBit t <;> simp
/-- Moved down, with the sign. -/
theorem IsW.sar {n k s : Nat} {a b : Wr} (h : IsW n a) (hn : n < 2 ^ (k + 1)) (hk : k + 1 ≤ 64) (hs : s ≤ k + 1) (e : wSar (2 ^ k) (2 ^ (k + 1)) s a = some b) : IsW (sShr (2 ^ k) (2 ^ (k + 1)) n s) b := by
  have hn64 : n < 2 ^ 64 := Nat.lt_of_lt_of_le hn (Nat.pow_le_pow_right (by omega) hk)
  obtain ⟨c, l⟩ := a
  have e : (Bool.rec (motive := fun _ => Option Wr) none (Bool.rec (motive := fun _ => Option Wr) (Option.rec (motive := fun _ => Option Wr) none (fun b => Wr.rec (motive := fun _ => Option Wr) (fun bc bl => some ⟨Nat.lor bc (Nat.sub (2 ^ (k + 1)) (Nat.div (2 ^ (k + 1)) (Nat.pow 2 s))), bl⟩) b) (wShr s ⟨c, l⟩)) (wShr s ⟨c, l⟩) (Nat.beq (Nat.land c (2 ^ k)) 0)) (Nat.beq (Nat.land (wMask l) (2 ^ k)) 0) : Option Wr) = some b := e
  cases hm : Nat.beq (Nat.land (wMask l) (2 ^ k)) 0 with
  | false => rw [hm] at e; cases e
  | true =>
    rw [hm] at e
    rcases h.top hn hm with ⟨h1, h2⟩ | ⟨h1, h2⟩
    · rw [h1] at e
      have e1 : sShr (2 ^ k) (2 ^ (k + 1)) n s = n / 2 ^ s := by
        unfold sShr
        rw [ble_iff.2 (show n + 1 ≤ 2 ^ k by omega)]
        rfl
      rw [e1]
      exact h.shr hn64 e
    · rw [h1] at e
      cases hw : wShr s ⟨c, l⟩ with
      | none => rw [hw] at e; cases e
      | some b' =>
        rw [hw] at e
        obtain ⟨bc, bl⟩ := b'
        cases e
        have e1 : sShr (2 ^ k) (2 ^ (k + 1)) n s = 2 ^ (k + 1) - 1 - (2 ^ (k + 1) - 1 - n) / 2 ^ s := by
          unfold sShr
          rw [ble_no (show ¬ n + 1 ≤ 2 ^ k by omega)]
          rfl
        have h3 := h.shr hn64 hw
        have e2 : Nat.sub (2 ^ (k + 1)) (Nat.div (2 ^ (k + 1)) (Nat.pow 2 s)) = 2 ^ (k + 1) - 2 ^ (k + 1 - s) := by
          show 2 ^ (k + 1) - 2 ^ (k + 1) / 2 ^ s = _
          rw [Nat.pow_div hs (by omega)]
        rw [e1, e2]
        intro t
        rw [sShr_bits hn hs, h3 t]
        show ((bc.testBit t || bitL bl t) || _) = ((bc ||| (2 ^ (k + 1) - 2 ^ (k + 1 - s))).testBit t || bitL bl t)
        rw [Nat.testBit_or]
        cases bc.testBit t <;> cases (2 ^ (k + 1) - 2 ^ (k + 1 - s)).testBit t <;> simp
/-! ### Kinds -/
/-- Cut to a kind. -/
theorem IsW.kind {n : Nat} {a : Wr} (h : IsW (n % 2 ^ 64) a) (j : Nat) : IsW (n % kmN j) (wAnd (Nat.sub (kmW j) 1) a) := by
  obtain ⟨k, h1, h2, _⟩ := kn_pow j
  have := h.tr (k + 1)
  rw [Nat.mod_mod_of_dvd n (Nat.pow_dvd_pow 2 h1)] at this
  rw [kmW_eq, h2]
  exact this
theorem IsW.self {n : Nat} {a : Wr} (h : IsW n a) (hn : n < 2 ^ 64) : IsW (n % 2 ^ 64) a := by rw [Nat.mod_eq_of_lt hn]; exact h
/-! ### Expressions -/
theorem wVar_ok (i : Nat) : ∀ {tk : List As}, Holds tk → IsW (Rho.n i % 2 ^ 64) (wVar tk i)
  | [], _ => fun t => by
    show bitV i t = ((0 : Nat).testBit t || bitL [⟨i, 64, 18446744073709551615⟩] t)
    rw [Nat.zero_testBit, Bool.false_or, bitL_cons, bitL_nil, Bool.or_false]
    unfold bitP
    show bitV i t = ((2 ^ 64 - 1 : Nat).testBit t && (decide (64 - 64 ≤ t) && bitV i (t - (64 - 64))))
    rw [Nat.testBit_two_pow_sub_one]
    by_cases h : t < 64
    · rw [decide_eq_true h, decide_eq_true (show 64 - 64 ≤ t by omega)]; rfl
    · rw [decide_eq_false h, bitV_high (by omega)]; rfl
  | a :: tk, hA => by
    have ih := wVar_ok i (tk := tk) (fun a ha => hA a (List.mem_cons_of_mem _ ha))
    have h0 := hA a List.mem_cons_self
    rw [wVar_cons]
    obtain ⟨c', j', x', y', b'⟩ := a
    simp only []
    split
    · rename_i h1
      obtain ⟨rfl, rfl, rfl⟩ := h1
      split
      · rename_i c w i' n
        split
        · rename_i h2
          obtain ⟨rfl, rfl, rfl⟩ := h2
          split
          · rename_i m
            have h3 : Nat.land (Rho.n i' % 2 ^ 64) (n % 2 ^ 64) % 2 ^ 64 = m % 2 ^ 64 := beq_iff.1 h0
            have hv : Rho.n i' % 2 ^ 64 < 2 ^ 64 := Nat.mod_lt _ (by decide)
            have hn : n % 2 ^ 64 < 2 ^ 64 := Nat.mod_lt _ (by decide)
            intro t
            show bitV i' t = ((m % 2 ^ 64).testBit t || bitL (wAndL (2 ^ 64 - 1 - n % 2 ^ 64) [⟨i', 64, 2 ^ 64 - 1⟩]) t)
            rw [← h3, wAndL_ok, Nat.testBit_mod_two_pow, show Nat.land (Rho.n i' % 2 ^ 64) (n % 2 ^ 64) = (Rho.n i' % 2 ^ 64) &&& (n % 2 ^ 64) from rfl, Nat.testBit_and,
              show 2 ^ 64 - 1 - n % 2 ^ 64 = 2 ^ 64 - (n % 2 ^ 64 + 1) by omega, Nat.testBit_two_pow_sub_succ hn]
            have h4 : bitL [⟨i', 64, 2 ^ 64 - 1⟩] t = (decide (t < 64) && bitV i' t) := by
              rw [bitL_cons, bitL_nil, Bool.or_false]
              unfold bitP
              show ((2 ^ 64 - 1 : Nat).testBit t && (decide (64 - 64 ≤ t) && bitV i' (t - (64 - 64)))) = _
              rw [Nat.testBit_two_pow_sub_one, decide_eq_true (show 64 - 64 ≤ t by omega), Bool.true_and]; rfl
            rw [h4]
            show bitV i' t = ((decide (t < 64) && (bitV i' t && _)) || _)
            by_cases h : t < 64
            · rw [decide_eq_true h]
              cases bitV i' t <;> cases (n % 2 ^ 64).testBit t <;> rfl
            · rw [bitV_high (by omega), decide_eq_false h]; rfl
          · exact ih
        · exact ih
      · exact ih
    · exact ih
end
end
end Go.Proofs.YteefpemaeecicaaGreatDoor.Ev
end
section
open Go
namespace Go.Proofs.YteefpemaeecicaaGreatDoor.Ev
set_option linter.unusedVariables false
set_option linter.unusedSimpArgs false
set_option linter.constructorNameAsVariable false
noncomputable section
theorem obif {b : Bool} {x y : Option Wr} {W : Wr} (h : Bool.rec (motive := fun _ => Option Wr) y x b = some W) : (b = true ∧ x = some W) ∨ (b = false ∧ y = some W) := by
  cases b with
  | true => exact .inl ⟨rfl, h⟩
  | false => exact .inr ⟨rfl, h⟩
theorem exF_conv (m w a b : Nat) : exF (m + 20) w a b = if w < 4 ∧ kmN w < kmN m then sExt (khN w) (kmN w) (kmN m) a else a := by
  show exF (m + 20) w a b = if w < 4 ∧ kmN w < kmN (m + 20 - 20) then sExt (khN w) (kmN w) (kmN (m + 20 - 20)) a else a
  rfl
theorem eqPc_eq : ∀ {l m : List Pc}, eqPc l m = true → l = m
  | [], [], _ => rfl
  | [], _ :: _, h => by cases h
  | _ :: _, [], h => by cases h
  | ⟨i, d, m⟩ :: l, ⟨i', d', m'⟩ :: l', h => by
    have h : and_ (and_ (Nat.beq i i') (Nat.beq d d')) (and_ (Nat.beq m m') (eqPc l l')) = true := h
    obtain ⟨h1, h2⟩ := and_eq.1 h
    obtain ⟨h3, h4⟩ := and_eq.1 h1
    obtain ⟨h5, h6⟩ := and_eq.1 h2
    rw [beq_iff.1 h3, beq_iff.1 h4, beq_iff.1 h5, eqPc_eq h6]
theorem eqWr_eq {a b : Wr} (h : eqWr a b = true) : a = b := by
  obtain ⟨ac, al⟩ := a
  obtain ⟨bc, bl⟩ := b
  obtain ⟨h1, h2⟩ := and_eq.1 (show and_ (Nat.beq ac bc) (eqPc al bl) = true from h)
  rw [beq_iff.1 h1, eqPc_eq h2]
theorem bbif {b : Bool} {x y : Option Bool} {r : Bool} (h : Bool.rec (motive := fun _ => Option Bool) y x b = some r) : (b = true ∧ x = some r) ∨ (b = false ∧ y = some r) := by
  cases b with
  | true => exact .inl ⟨rfl, h⟩
  | false => exact .inr ⟨rfl, h⟩
theorem ltS_dec {H N a b : Nat} : ltS H N a b = decide ((a + H) % N < (b + H) % N) := by
  rw [Bool.eq_iff_iff, decide_eq_true_eq]
  exact ble_iff
theorem ltS_two {H a b : Nat} (ha : a < 2 * H) (hb : b < 2 * H) : ((a + H) % (2 * H) < (b + H) % (2 * H)) ↔ (if a < H then (if b < H then a < b else False) else (if b < H then True else a < b)) := by
  have e : ∀ x, x < 2 * H → (x + H) % (2 * H) = if x < H then x + H else x - H := by
    intro x hx
    split
    · exact Nat.mod_eq_of_lt (by omega)
    · rw [show x + H = (x - H) + 2 * H by omega, Nat.add_mod_right]
      exact Nat.mod_eq_of_lt (by omega)
  rw [e a ha, e b hb]
  by_cases h1 : a < H <;> by_cases h2 : b < H <;> simp only [h1, h2, if_true, if_false] <;> constructor <;> intro h <;> first | omega | trivial
theorem oneg {o : Option Bool} {r : Bool} (h : (Option.rec (motive := fun _ => Option Bool) none (fun r => some (not_ r)) o : Option Bool) = some r) : o = some (!r) := by
  cases o with
  | none => cases h
  | some x =>
    have := Option.some.inj (show some (not_ x) = some r from h)
    rw [not_eq] at this
    rw [← this, Bool.not_not]
section
variable [Rho]
theorem wOp_ok {c w x y : Nat} {X Y W : Wr} (hx : IsW (x % 2 ^ 64) X) (hy : IsW (y % 2 ^ 64) Y) (h : wOp c w X Y = some W) : IsW (exF c w (x % kmN w) (y % kmN w) % 2 ^ 64) W := by
  have gx := hx.kind w
  have gy := hy.kind w
  obtain ⟨k, k1, k2, k3⟩ := kn_pow w
  have bx : x % kmN w < 2 ^ (k + 1) := by rw [← k2]; exact Nat.mod_lt _ (by rw [k2]; exact Nat.two_pow_pos _)
  have by' : y % kmN w < 2 ^ (k + 1) := by rw [← k2]; exact Nat.mod_lt _ (by rw [k2]; exact Nat.two_pow_pos _)
  have p64 : 2 ^ (k + 1) ≤ 2 ^ 64 := Nat.pow_le_pow_right (by omega) k1
  have bx64 : x % kmN w < 2 ^ 64 := by omega
  have by64 : y % kmN w < 2 ^ 64 := by omega
  unfold wOp at h
  generalize wAnd (Nat.sub (kmW w) 1) X = A at h gx
  generalize wAnd (Nat.sub (kmW w) 1) Y = B at h gy
  generalize x % kmN w = u at h gx bx bx64 ⊢
  generalize y % kmN w = v at h gy by' by64 ⊢
  obtain ⟨ac, al⟩ := A
  obtain ⟨bc, bl⟩ := B
  rcases obif h with ⟨h0, h⟩ | ⟨h0, h⟩
  · -- or
    rw [beq_iff.1 h0]
    cases h
    exact (gx.or gy).self (Nat.or_lt_two_pow bx64 by64)
  rcases obif h with ⟨h1, h⟩ | ⟨h1, h⟩
  · have hv := gy.num h1
    subst hv
    rcases obif h with ⟨h2, h⟩ | ⟨h2, h⟩
    · rw [beq_iff.1 h2]
      cases h
      exact (gx.and v).self (Nat.lt_of_le_of_lt Nat.and_le_left bx64)
    rcases obif h with ⟨h3, h⟩ | ⟨h3, h⟩
    · rw [beq_iff.1 h3]
      cases h
      rw [kmW_eq]
      exact (gx.and _).self (Nat.lt_of_le_of_lt Nat.and_le_left bx64)
    rcases obif h with ⟨h4, h⟩ | ⟨h4, h⟩
    · obtain ⟨h5, h6⟩ := and_eq.1 h4
      rw [beq_iff.1 h5]
      cases h
      exact gx.shl v
    rcases obif h with ⟨h5, h⟩ | ⟨h5, h⟩
    · obtain ⟨h6, h7⟩ := and_eq.1 h5
      rw [beq_iff.1 h6]
      have e8 : exF 8 w u v = if w < 4 then sShr (khN w) (kmN w) u v else u / 2 ^ v := rfl
      rcases obif h with ⟨h8, h⟩ | ⟨h8, h⟩
      · rcases obif h with ⟨h9, h⟩ | ⟨h9, h⟩
        · have h8 := ble_iff.1 h8
          have h9 := ble_iff.1 h9
          rw [kmW_eq, k2] at h9
          have hv : v ≤ k + 1 := (Nat.pow_le_pow_iff_right (a := 2) (by omega)).1 h9
          rw [kmW_eq, khW_eq, k2, k3] at h
          rw [e8, if_pos (by omega), k2, k3]
          have r := gx.sar bx k1 hv h
          refine r.self ?_
          have : sShr (2 ^ k) (2 ^ (k + 1)) u v < 2 ^ (k + 1) := by
            have h0 : 0 < 2 ^ (k + 1) := Nat.two_pow_pos _
            unfold sShr
            cases Nat.ble (Nat.succ u) (2 ^ k) with
            | true => exact Nat.lt_of_le_of_lt (Nat.div_le_self _ _) bx
            | false => show 2 ^ (k + 1) - 1 - _ < _; omega
          omega
        · cases h
      · have h8 : ¬ w ≤ 3 := fun e => by rw [ble_iff.2 e] at h8; cases h8
        rw [e8, if_neg (by omega)]
        exact (gx.shr bx64 h).self (Nat.lt_of_le_of_lt (Nat.div_le_self _ _) bx64)
    rcases obif h with ⟨h6, h⟩ | ⟨h6, h⟩
    · obtain ⟨h7, h8⟩ := and_eq.1 h6
      have h7 := ble_iff.1 h7
      have h8 := ble_iff.1 h8
      obtain ⟨m, rfl⟩ : ∃ m, c = m + 20 := ⟨c - 20, by omega⟩
      rw [exF_conv]
      rcases obif h with ⟨h9, h⟩ | ⟨h9, h⟩
      · obtain ⟨q1, q2⟩ := and_eq.1 h9
        have q1 := ble_iff.1 q1
        have q2 := ble_iff.1 q2
        rw [kmW_eq, kmW_eq, show Nat.sub (m + 20) 20 = m from Nat.add_sub_cancel m 20] at q2
        rw [if_pos ⟨by omega, q2⟩]
        obtain ⟨k', k1', k2', k3'⟩ := kn_pow m
        rw [kmW_eq, kmW_eq, khW_eq, show Nat.sub (m + 20) 20 = m from Nat.add_sub_cancel m 20, k2, k3, k2'] at h
        rw [k2, k2'] at q2
        rw [k2, k3, k2']
        have hkk : k + 1 ≤ k' + 1 := (Nat.pow_le_pow_iff_right (a := 2) (by omega)).1 (Nat.le_of_lt q2)
        refine (gx.sx bx hkk h).self ?_
        have : 2 ^ (k' + 1) ≤ 2 ^ 64 := Nat.pow_le_pow_right (by omega) k1'
        have q2' : 2 ^ (k + 1) + 1 ≤ 2 ^ (k' + 1) := q2
        have : sExt (2 ^ k) (2 ^ (k + 1)) (2 ^ (k' + 1)) u < 2 ^ (k' + 1) := by
          unfold sExt
          cases Nat.ble (Nat.succ u) (2 ^ k) with
          | true => show u < _; omega
          | false => show u + (2 ^ (k' + 1) - 2 ^ (k + 1)) < _; omega
        omega
      · cases h
        have : ¬ (w < 4 ∧ kmN w < kmN m) := fun ⟨e1, e2⟩ => by
          rw [and_eq.2 ⟨ble_iff.2 (show w ≤ 3 by omega), ble_iff.2 (by rw [kmW_eq, kmW_eq, show Nat.sub (m + 20) 20 = m from Nat.add_sub_cancel m 20]; exact e2)⟩] at h9
          cases h9
        rw [if_neg this]
        exact gx.self bx64
    · cases h
  · rcases obif h with ⟨h2, h⟩ | ⟨h2, h⟩
    · obtain ⟨h3, h4⟩ := and_eq.1 h2
      have hu := gx.num h4
      subst hu
      rw [beq_iff.1 h3]
      cases h
      have e : exF 3 w u v = v &&& u := Nat.and_comm u v
      rw [e]
      exact (gy.and u).self (Nat.lt_of_le_of_lt Nat.and_le_left by64)
    · cases h
theorem wire_ok {tk : List As} (hA : Holds tk) : ∀ {e : Ex} {W : Wr}, wire tk e = some W → IsW (den e % 2 ^ 64) W
  | .var i, W, h => by
    cases h
    exact wVar_ok i hA
  | .lit n, W, h => by
    cases h
    exact IsW.lit _
  | .op c w a b, W, h => by
    have h : (Option.rec (motive := fun _ => Option Wr) none (fun u => Option.rec (motive := fun _ => Option Wr) none (fun v => wOp c w u v) (wire tk b)) (wire tk a) : Option Wr) = some W := h
    cases ha : wire tk a with
    | none => rw [ha] at h; cases h
    | some u =>
      rw [ha] at h
      cases hb : wire tk b with
      | none => rw [hb] at h; cases h
      | some v =>
        rw [hb] at h
        exact wOp_ok (wire_ok hA ha) (wire_ok hA hb) h
/-! ### Comparisons -/
theorem neWr_ne {a b : Wr} {n m : Nat} (ha : IsW n a) (hb : IsW m b) (h : neWr a b = true) : n ≠ m := by
  intro e
  subst e
  obtain ⟨ac, al⟩ := a
  obtain ⟨bc, bl⟩ := b
  have h : natW (Nat.lor (wMask al) (wMask bl)) (fun f => not_ (Nat.beq (Nat.lor (Nat.xor ac bc) f) f)) = true := h
  rw [natW_eq, not_eq] at h
  have : Nat.lor (Nat.xor ac bc) (Nat.lor (wMask al) (wMask bl)) = Nat.lor (wMask al) (wMask bl) := by
    refine Nat.eq_of_testBit_eq fun t => ?_
    show ((ac ^^^ bc) ||| (wMask al ||| wMask bl)).testBit t = (wMask al ||| wMask bl).testBit t
    rw [Nat.testBit_or, Nat.testBit_xor, Nat.testBit_or]
    cases h1 : (wMask al).testBit t with
    | true => simp
    | false =>
      cases h2 : (wMask bl).testBit t with
      | true => simp
      | false =>
        have e1 : n.testBit t = (ac.testBit t || bitL al t) := ha t
        have e2 : n.testBit t = (bc.testBit t || bitL bl t) := hb t
        rw [wMask_no h1, Bool.or_false] at e1
        rw [wMask_no h2, Bool.or_false] at e2
        rw [← e1, ← e2]
        simp
  rw [this, beq_iff.2 rfl] at h
  cases h
theorem IsW.low {n c : Nat} {l : List Pc} (h : IsW n ⟨c, l⟩) : c ≤ n := by
  have : n = c ||| n := Nat.eq_of_testBit_eq fun t => by
    rw [Nat.testBit_or, h t]
    show (c.testBit t || bitL l t) = (c.testBit t || (c.testBit t || bitL l t))
    cases c.testBit t <;> simp
  rw [this]
  exact Nat.left_le_or
theorem IsW.high {n c : Nat} {l : List Pc} (h : IsW n ⟨c, l⟩) : n ≤ Nat.lor c (wMask l) := by
  have : Nat.lor c (wMask l) = n ||| Nat.lor c (wMask l) := Nat.eq_of_testBit_eq fun t => by
    show (c ||| wMask l).testBit t = (n ||| (c ||| wMask l)).testBit t
    rw [Nat.testBit_or, Nat.testBit_or, Nat.testBit_or, h t]
    show _ = ((c.testBit t || bitL l t) || _)
    cases h1 : c.testBit t with
    | true => simp
    | false =>
      cases h2 : bitL l t with
      | false => simp
      | true => rw [wMask_ok h2]; simp
  rw [this]
  exact Nat.left_le_or
theorem ltU_ok {ac bc n m : Nat} {al bl : List Pc} (ha : IsW n ⟨ac, al⟩) (hb : IsW m ⟨bc, bl⟩) {r : Bool}
    (h : (natW (Nat.lor ac (wMask al)) fun ta => natW (Nat.lor bc (wMask bl)) fun tb => (Bool.rec (motive := fun _ => Option Bool) (Bool.rec (motive := fun _ => Option Bool) none (some false) (Nat.ble tb ac)) (some true) (Nat.ble (Nat.succ ta) bc)) : Option Bool) = some r) : r = decide (n < m) := by
  rw [natW_eq, natW_eq] at h
  have q1 := ha.low
  have q2 := ha.high
  have q3 := hb.low
  have q4 := hb.high
  rcases bbif h with ⟨h1, h2⟩ | ⟨h1, h2⟩
  · cases h2
    have h1 := ble_iff.1 h1
    symm
    exact decide_eq_true (by omega)
  · rcases bbif h2 with ⟨h3, h4⟩ | ⟨h3, h4⟩
    · cases h4
      have h3 := ble_iff.1 h3
      symm
      exact decide_eq_false (by omega)
    · cases h4
theorem ltWr_ok {j n m : Nat} {a b : Wr} (ha : IsW n a) (hb : IsW m b) (hn : n < kmN j) (hm : m < kmN j) {r : Bool} (h : ltWr (Nat.ble j 3) (khW j) a b = some r) : ltN j n m = r := by
  obtain ⟨ac, al⟩ := a
  obtain ⟨bc, bl⟩ := b
  obtain ⟨k, k1, k2, k3⟩ := kn_pow j
  rw [khW_eq, k3] at h
  rw [k2] at hn hm
  have e2 : 2 ^ (k + 1) = 2 * 2 ^ k := by rw [Nat.pow_succ, Nat.mul_comm]
  unfold ltN
  rcases bbif (show Bool.rec (motive := fun _ => Option Bool) _ _ (Nat.ble j 3) = some r from h) with ⟨h1, h2⟩ | ⟨h1, h2⟩
  · rw [if_pos (show j < 4 by have := ble_iff.1 h1; omega), ltS_dec, k2, k3, e2]
    rw [e2] at hn hm
    have tw := ltS_two hn hm
    rcases bbif h2 with ⟨h3, h4⟩ | ⟨h3, h4⟩
    · have h3' : Nat.land (wMask al) (2 ^ k) = 0 ∧ Nat.land (wMask bl) (2 ^ k) = 0 := by
        have h5 : (wMask al ||| wMask bl) &&& 2 ^ k = 0 := beq_iff.1 h3
        rw [Nat.and_or_distrib_right] at h5
        exact ⟨(Nat.or_eq_zero_iff.1 h5).1, (Nat.or_eq_zero_iff.1 h5).2⟩
      have ta := ha.top (by rw [e2]; exact hn) (beq_iff.2 h3'.1)
      have tb := hb.top (by rw [e2]; exact hm) (beq_iff.2 h3'.2)
      rcases bbif h4 with ⟨h5, h6⟩ | ⟨h5, h6⟩
      · have h7 := ltU_ok ha hb h6
        rw [h7]
        refine decide_eq_decide.2 (tw.trans ?_)
        rw [eqB_eq] at h5
        rcases ta with ⟨a1, a2⟩ | ⟨a1, a2⟩ <;> rcases tb with ⟨b1, b2⟩ | ⟨b1, b2⟩
        · rw [if_pos a2, if_pos b2]
        · rw [a1, b1] at h5; cases h5
        · rw [a1, b1] at h5; cases h5
        · rw [if_neg (by omega), if_neg (by omega)]
      · cases h6
        rw [eqB_eq] at h5
        rcases ta with ⟨a1, a2⟩ | ⟨a1, a2⟩ <;> rcases tb with ⟨b1, b2⟩ | ⟨b1, b2⟩
        · rw [a1, b1] at h5; cases h5
        · rw [b1]
          exact decide_eq_false (fun g => by have := tw.1 g; rw [if_pos a2, if_neg (by omega)] at this; exact this)
        · rw [b1]
          exact decide_eq_true (tw.2 (by rw [if_neg (by omega), if_pos b2]; trivial))
        · rw [a1, b1] at h5; cases h5
    · cases h4
  · rw [if_neg (show ¬ j < 4 from fun e => by rw [ble_iff.2 (show j ≤ 3 by omega)] at h1; cases h1)]
    have h7 := ltU_ok ha hb h2
    rw [h7, Bool.eq_iff_iff, decide_eq_true_eq]
    exact ble_iff
theorem wTr_ok {tk : List As} (hA : Holds tk) {j : Nat} {e : Ex} {W : Wr} (h : wTr j (wire tk e) = some W) : IsW (den e % kmN j) W := by
  cases hw : wire tk e with
  | none => rw [hw] at h; cases h
  | some X =>
    rw [hw] at h
    cases h
    exact (wire_ok hA hw).kind j
theorem neTk_ne {tk : List As} (hA : Holds tk) {j n m : Nat} {a b : Wr} (ha : IsW n a) (hb : IsW m b) : ∀ {l : List As}, (∀ s ∈ l, s ∈ tk) → neTk tk l j a b = true → n ≠ m
  | [], _, h => by cases h
  | s :: l, hl, h => by
    obtain ⟨c', j', x', y', b'⟩ := s
    have ih := neTk_ne hA (j := j) ha hb (l := l) (fun s hs => hl s (List.mem_cons_of_mem _ hs))
    have g : Bool.rec (motive := fun _ => Bool) (neTk tk l j a b) (Option.rec (motive := fun _ => Bool) (neTk tk l j a b) (fun u => Option.rec (motive := fun _ => Bool) (neTk tk l j a b) (fun v => Bool.rec (motive := fun _ => Bool) (neTk tk l j a b) true (and_ (eqWr u a) (eqWr v b))) (wTr j (wire tk y'))) (wTr j (wire tk x'))) (and_ (Nat.beq c' 0) (and_ (Nat.beq j' j) (not_ b'))) = true := h
    cases h1 : and_ (Nat.beq c' 0) (and_ (Nat.beq j' j) (not_ b')) with
    | false => rw [h1] at g; exact ih g
    | true =>
      rw [h1] at g
      obtain ⟨h2, h3⟩ := and_eq.1 h1
      obtain ⟨h4, h5⟩ := and_eq.1 h3
      have h2 := beq_iff.1 h2
      have h4 := beq_iff.1 h4
      subst h2 h4
      cases hx : wTr j' (wire tk x') with
      | none => rw [hx] at g; exact ih g
      | some u =>
        rw [hx] at g
        cases hy : wTr j' (wire tk y') with
        | none => rw [hy] at g; exact ih g
        | some v =>
          rw [hy] at g
          have g : Bool.rec (motive := fun _ => Bool) (neTk tk l j' a b) true (and_ (eqWr u a) (eqWr v b)) = true := g
          cases h6 : and_ (eqWr u a) (eqWr v b) with
          | false => rw [h6] at g; exact ih g
          | true =>
            obtain ⟨h7, h8⟩ := and_eq.1 h6
            have h7 := eqWr_eq h7
            have h8 := eqWr_eq h8
            subst h7 h8
            have e1 := (wTr_ok hA hx).eq ha
            have e2 := (wTr_ok hA hy).eq hb
            have h9 := hA _ (hl _ List.mem_cons_self)
            intro e
            have h9 : Nat.beq (den x' % kmN j') (den y' % kmN j') = b' := h9
            rw [e1, e2, e, beq_iff.2 rfl] at h9
            subst h9
            cases h5
theorem wCmp_ok {tk : List As} (hA : Holds tk) {c j : Nat} (hc : c ≤ 5) {x y : Ex} {r : Bool} (h : wCmp tk c j x y = some r) : cmpD c j (den x % kmN j) (den y % kmN j) = r := by
  have hk : 0 < kmN j := by obtain ⟨k, _, k2, _⟩ := kn_pow j; rw [k2]; exact Nat.two_pow_pos _
  unfold wCmp at h
  cases hx : wTr j (wire tk x) with
  | none => rw [hx] at h; cases h
  | some a =>
    rw [hx] at h
    cases hy : wTr j (wire tk y) with
    | none => rw [hy] at h; cases h
    | some b =>
      rw [hy] at h
      have ga := wTr_ok hA hx
      have gb := wTr_ok hA hy
      have ba : den x % kmN j < kmN j := Nat.mod_lt _ hk
      have bb : den y % kmN j < kmN j := Nat.mod_lt _ hk
      generalize den x % kmN j = u at ga ba ⊢
      generalize den y % kmN j = v at gb bb ⊢
      rcases bbif (show Bool.rec (motive := fun _ => Option Bool) _ _ (Nat.ble c 1) = some r from h) with ⟨h1, h⟩ | ⟨h1, h⟩
      · have h1 := ble_iff.1 h1
        rcases bbif h with ⟨h2, h⟩ | ⟨h2, h⟩
        · cases h
          have h2 := eqWr_eq h2
          subst h2
          have e := ga.eq gb
          subst e
          match c, h1 with
          | 0, _ => exact beq_iff.2 rfl
          | 1, _ => show not_ (Nat.beq u u) = false; rw [beq_iff.2 rfl]; rfl
        · rcases bbif h with ⟨h3, h⟩ | ⟨h3, h⟩
          · cases h
            have e : u ≠ v := by
              rcases or_eq.1 h3 with h4 | h4
              · exact neWr_ne ga gb h4
              · exact neTk_ne hA ga gb (fun s hs => hs) h4
            match c, h1 with
            | 0, _ => exact beq_no e
            | 1, _ => show not_ (Nat.beq u v) = true; rw [beq_no e]; rfl
          · cases h
      · have h1 : ¬ c ≤ 1 := fun e => by rw [ble_iff.2 e] at h1; cases h1
        rcases bbif h with ⟨h2, h⟩ | ⟨h2, h⟩
        · rw [beq_iff.1 h2]
          exact ltWr_ok ga gb ba bb h
        · rcases bbif h with ⟨h3, h⟩ | ⟨h3, h⟩
          · rw [beq_iff.1 h3]
            have := ltWr_ok gb ga bb ba (oneg h)
            show not_ (ltN j v u) = r
            rw [this, not_eq, Bool.not_not]
          · rcases bbif h with ⟨h4, h⟩ | ⟨h4, h⟩
            · rw [beq_iff.1 h4]
              exact ltWr_ok gb ga bb ba h
            · have h2 : c ≠ 2 := fun e => by rw [beq_iff.2 e] at h2; cases h2
              have h3 : c ≠ 3 := fun e => by rw [beq_iff.2 e] at h3; cases h3
              have h4 : c ≠ 4 := fun e => by rw [beq_iff.2 e] at h4; cases h4
              obtain rfl : c = 5 := by omega
              have := ltWr_ok ga gb ba bb (oneg h)
              show not_ (ltN j u v) = r
              rw [this, not_eq, Bool.not_not]
end
end
end Go.Proofs.YteefpemaeecicaaGreatDoor.Ev
end
section
open Go
namespace Go.Proofs.YteefpemaeecicaaGreatDoor.Ev
set_option linter.unusedVariables false
set_option linter.unusedSimpArgs false
set_option linter.constructorNameAsVariable false
noncomputable section
theorem kmN_kc (k : IntKind) : kmN (kc k) = km k := by cases k <;> rfl
theorem khN_kc (k : IntKind) : khN (kc k) = kh k := by cases k <;> rfl
theorem ksg_kc (k : IntKind) : (kc k < 4) ↔ ksg k = true := by cases k <;> decide
theorem VR.yk_inv [Rho] {μ : Mp} {k : IntKind} {e : Ex} {v : Value} (h : VR μ (.y (kc k) e) v) : v = .int k (k.wrap (den e % km k : Nat)) := by
  rcases h.y_inv with ⟨k', h1, h2⟩ | ⟨h1, _⟩ | ⟨h1, _⟩ | ⟨h1, _⟩ | ⟨h1, _⟩ | h1
  · cases kc_inj h1; exact h2
  · have := kc_lt k; omega
  · have := kc_lt k; omega
  · have := kc_lt k; omega
  · have := kc_lt k; omega
  · have := kc_lt k; omega
/-- A number, known or not, as an expression. -/
theorem exK_num [Rho] {k : IntKind} {x : AV} {g : Ex → Ans} (h : exK (kc k) x g = .yes) : ∃ e, g e = .yes ∧ ∀ μ v, VR μ x v → v = .int k (k.wrap (den e % km k : Nat)) ∧ ∀ μ', VR μ' (.n (kc k) (den e % km k)) v := by
  have fin : ∀ (e : Ex) (v : Value), v = .int k (k.wrap (den e % km k : Nat)) → ∀ μ', VR μ' (.n (kc k) (den e % km k)) v := fun e v hv μ' => by rw [hv]; exact .n k _ (Nat.mod_lt _ (km_pos k))
  obtain ⟨e, h1, h2⟩ := exK_yes h
  refine ⟨e, h1, fun μ v hv => ?_⟩
  rcases h2 with ⟨z, rfl, rfl⟩ | rfl
  · obtain ⟨q1, q2⟩ := hv.kn_inv
    have : den (.lit z) % km k = z := Nat.mod_eq_of_lt q1
    exact ⟨by rw [this]; exact q2, fin _ _ (by rw [this]; exact q2)⟩
  · exact ⟨hv.yk_inv, fin _ _ hv.yk_inv⟩
def onlyA (u v : AV) : Ans := @ite _ (v = u) (Classical.propDecidable _) Ans.yes Ans.no
theorem onlyA_yes {u v : AV} (h : onlyA u v = .yes) : v = u := by
  unfold onlyA at h
  split at h
  · assumption
  · cases h
theorem onlyA_self (u : AV) : onlyA u u = .yes := by unfold onlyA; rw [if_pos rfl]
theorem kinds_self (z N J : Nat) (hz : z < N) : Nat.ble (Nat.succ (Nat.add z (Nat.mul N (Nat.add (Nat.xor J J) (Nat.xor J J))))) N = true := by
  have : Nat.xor J J = 0 := Nat.xor_self J
  rw [this]; exact ble_iff.2 hz
theorem fArith_n {F : Nat → Nat → Nat} {k : IntKind} (a b : Nat) (kk : AV → Ans) : fArith F (kc k) (km k) (.n (kc k) a) (.n (kc k) b) kk = kk (.n (kc k) (F a b % km k)) := by
  show (Bool.rec (motive := fun _ => Ans) Ans.no (kk (.n (kc k) (F a b % km k))) (Nat.ble (Nat.succ (Nat.add (F a b % km k) (Nat.mul (km k) (Nat.add (Nat.xor (kc k) (kc k)) (Nat.xor (kc k) (kc k)))))) (km k))) = _
  rw [kinds_self _ _ _ (Nat.mod_lt _ (km_pos k))]
theorem fCmp_n {F : Nat → Nat → Bool} {k : IntKind} (a b : Nat) (kk : AV → Ans) : fCmp F (kc k) (.n (kc k) a) (.n (kc k) b) kk = kk (.b (F a b)) := by
  show (Bool.rec (motive := fun _ => Ans) Ans.no (kk (.b (F a b))) (Nat.beq (Nat.add (Nat.xor (kc k) (kc k)) (Nat.xor (kc k) (kc k))) 0)) = _
  have : Nat.xor (kc k) (kc k) = 0 := Nat.xor_self _
  rw [this]; rfl
theorem fShift_n {F : Nat → Nat → Nat} {k : IntKind} (a j b : Nat) (hb : b ≤ 100) (kk : AV → Ans) : fShift F (kc k) (km k) (.n (kc k) a) (.n j b) kk = kk (.n (kc k) (F a b % km k)) := by
  show (Bool.rec (motive := fun _ => Ans) Ans.no (Bool.rec (motive := fun _ => Ans) Ans.no (kk (.n (kc k) (F a b % km k))) (Nat.ble (Nat.succ (Nat.add (F a b % km k) (Nat.mul (km k) (Nat.xor (kc k) (kc k))))) (km k))) (Nat.ble b 100)) = _
  have h1 : Nat.xor (kc k) (kc k) = 0 := Nat.xor_self _
  have h2 : Nat.ble (Nat.succ (Nat.add (F a b % km k) (Nat.mul (km k) (Nat.xor (kc k) (kc k))))) (km k) = true := by rw [h1]; exact ble_iff.2 (Nat.mod_lt _ (km_pos k))
  rw [ble_iff.2 hb, h2]
theorem fDiv_n {F : Nat → Nat → Nat} {k : IntKind} (a b : Nat) (hb : b ≠ 0) (kk : AV → Ans) : fDiv F (kc k) (km k) (.n (kc k) a) (.n (kc k) b) kk = kk (.n (kc k) (F a b % km k)) := by
  show (Bool.rec (motive := fun _ => Ans) (Bool.rec (motive := fun _ => Ans) Ans.no (kk (.n (kc k) (F a b % km k))) (Nat.ble (Nat.succ (Nat.add (F a b % km k) (Nat.mul (km k) (Nat.add (Nat.xor (kc k) (kc k)) (Nat.xor (kc k) (kc k)))))) (km k))) Ans.no (Nat.beq b 0)) = _
  have h0 : Nat.beq b 0 = false := by cases h : Nat.beq b 0 with | false => rfl | true => exact (hb (beq_iff.1 h)).elim
  rw [h0, kinds_self _ _ _ (Nat.mod_lt _ (km_pos k))]
theorem fNum_n {F : Nat → Nat} {k k' : IntKind} (a : Nat) (kk : AV → Ans) : fNum F (kc k) (kc k') (km k') (.n (kc k) a) kk = kk (.n (kc k') (F a % km k')) := by
  show (Bool.rec (motive := fun _ => Ans) Ans.no (kk (.n (kc k') (F a % km k'))) (Nat.ble (Nat.succ (Nat.add (F a % km k') (Nat.mul (km k') (Nat.xor (kc k) (kc k))))) (km k'))) = _
  have h1 : Nat.xor (kc k) (kc k) = 0 := Nat.xor_self _
  have h2 : Nat.ble (Nat.succ (Nat.add (F a % km k') (Nat.mul (km k') (Nat.xor (kc k) (kc k))))) (km k') = true := by rw [h1]; exact ble_iff.2 (Nat.mod_lt _ (km_pos k'))
  rw [h2]
section
variable {P : Program}
/-- A known result of a law on known numbers, said of an expression. -/
theorem VR.n_y [Rho] {μ : Mp} {k : IntKind} {u : Nat} {e : Ex} {v : Value} (h : VR μ (.n (kc k) u) v) (he : den e % km k = u) : VR μ (.y (kc k) e) v := by
  obtain ⟨_, rfl⟩ := h.kn_inv
  have := VR.y (μ := μ) k e
  rw [he] at this
  exact this
theorem arithY_slow [Rho] {c : Nat} {k : IntKind} {F : Nat → Nat → Nat} {g : Value → Value → Sem Value} (h0 : P2 P (fArith F (kc k) (km k)) g)
    (hF : ∀ a b : Nat, exF c (kc k) a b % km k = F a b % km k) {x y : AV} {kk : AV → Ans} (h : arithY c (kc k) (kc k) x y kk = .yes) :
    ∃ v, kk v = .yes ∧ ∀ μ x' y', VR μ x x' → VR μ y y' → ∃ v', VR μ v v' ∧ ∀ w, (g x' y').run P w = .ok v' w := by
  obtain ⟨ex, h1, h2⟩ := exK_num (k := k) h
  obtain ⟨ey, h3, h4⟩ := exK_num (k := k) h1
  refine ⟨_, h3, fun μ x' y' hx hy => ?_⟩
  obtain ⟨v, q1, q2⟩ := h0 (.n (kc k) (den ex % km k)) (.n (kc k) (den ey % km k)) (onlyA (.n (kc k) (F (den ex % km k) (den ey % km k) % km k))) (by rw [fArith_n]; exact onlyA_self _)
  obtain ⟨v', q3, q4⟩ := q2 μ x' y' ((h2 μ x' hx).2 μ) ((h4 μ y' hy).2 μ)
  rw [onlyA_yes q1] at q3
  refine ⟨v', q3.n_y ?_, q4⟩
  show exF c (kc k) (den ex % kmN (kc k)) (den ey % kmN (kc k)) % km k = _
  rw [kmN_kc, hF]
theorem arithY_p2 [Rho] {c : Nat} {k : IntKind} {F : Nat → Nat → Nat} {g : Value → Value → Sem Value} (h0 : P2 P (fArith F (kc k) (km k)) g)
    (hF : ∀ a b : Nat, exF c (kc k) a b % km k = F a b % km k) : P2 P (fArithY c (kc k) F (kc k) (km k)) g := by
  intro x y kk h
  rcases inv_ny h with ⟨j, a, rfl, h1⟩ | ⟨j, e, rfl, h1⟩
  · rcases inv_ny h1 with ⟨j', b, rfl, h2⟩ | ⟨j', e', rfl, h2⟩
    · exact h0 _ _ kk h
    · exact arithY_slow h0 hF h2
  · exact arithY_slow h0 hF h1
theorem shiftY_p2 [Rho] {c : Nat} {k : IntKind} {F : Nat → Nat → Nat} {g : Value → Value → Sem Value} (h0 : P2 P (fShift F (kc k) (km k)) g)
    (hF : ∀ a b : Nat, b < 256 → exF c (kc k) a b % km k = F a b % km k) : P2 P (fShiftY c (kc k) F (kc k) (km k)) g := by
  intro x y kk h
  rcases inv_ny h with ⟨j, a, rfl, h1⟩ | ⟨j, e, rfl, h1⟩
  · exact h0 _ _ kk h1
  · obtain ⟨j', b, rfl, h2⟩ := inv_n h1
    obtain ⟨hb, h3⟩ := inv_if h2
    have hb := ble_iff.1 hb
    obtain ⟨ex, h4, h5⟩ := exK_num (k := k) h3
    refine ⟨_, h4, fun μ x' y' hx hy => ?_⟩
    obtain ⟨v, q1, q2⟩ := h0 (.n (kc k) (den ex % km k)) (.n j' b) (onlyA (.n (kc k) (F (den ex % km k) b % km k))) (by rw [fShift_n _ _ _ hb]; exact onlyA_self _)
    obtain ⟨v', q3, q4⟩ := q2 μ x' y' ((h5 μ x' hx).2 μ) hy
    rw [onlyA_yes q1] at q3
    refine ⟨v', q3.n_y ?_, q4⟩
    show exF c (kc k) (den ex % kmN (kc k)) (b % kmN (kc k)) % km k = _
    have h100 := kh_big k
    have h2k := kh_two k
    rw [kmN_kc, Nat.mod_eq_of_lt (show b < km k by omega), hF _ _ (by omega)]
theorem divY_p2 [Rho] {c : Nat} {k : IntKind} {F : Nat → Nat → Nat} {g : Value → Value → Sem Value} (h0 : P2 P (fDiv F (kc k) (km k)) g)
    (hF : ∀ a b : Nat, exF c (kc k) a b % km k = F a b % km k) : P2 P (fDivY c (kc k) F (kc k) (km k)) g := by
  intro x y kk h
  rcases inv_ny h with ⟨j, a, rfl, h1⟩ | ⟨j, e, rfl, h1⟩
  · exact h0 _ _ kk h1
  · obtain ⟨j', b, rfl, h2⟩ := inv_n h1
    obtain ⟨hb, h3⟩ := inv_if h2
    obtain ⟨hb1, hb2⟩ := and_eq.1 hb
    have hb1 := beq_iff.1 hb1
    subst hb1
    have hb0 : b ≠ 0 := fun e => by subst e; cases hb2
    obtain ⟨ex, h4, h5⟩ := exK_num (k := k) h3
    refine ⟨_, h4, fun μ x' y' hx hy => ?_⟩
    obtain ⟨v, q1, q2⟩ := h0 (.n (kc k) (den ex % km k)) (.n (kc k) b) (onlyA (.n (kc k) (F (den ex % km k) b % km k))) (by rw [fDiv_n _ _ hb0]; exact onlyA_self _)
    obtain ⟨v', q3, q4⟩ := q2 μ x' y' ((h5 μ x' hx).2 μ) hy
    have hlt := hy.kn_inv.1
    rw [onlyA_yes q1] at q3
    refine ⟨v', q3.n_y ?_, q4⟩
    show exF c (kc k) (den ex % kmN (kc k)) (b % kmN (kc k)) % km k = _
    rw [kmN_kc, Nat.mod_eq_of_lt hlt, hF]
theorem numY_p1 [Rho] {c : Nat} {k k' : IntKind} {F : Nat → Nat} {g : Value → Sem Value} (h0 : P1 P (fNum F (kc k) (kc k') (km k')) g)
    (hF : ∀ a : Nat, exF c (kc k) a 0 % km k' = F a % km k') : P1 P (fNumY c (kc k) F (kc k) (kc k') (km k')) g := by
  intro x kk h
  rcases inv_ny h with ⟨j, a, rfl, h1⟩ | ⟨j, e, rfl, h1⟩
  · exact h0 _ kk h
  · obtain ⟨hj, h2⟩ := inv_if h1
    have hj := beq_iff.1 hj
    subst hj
    refine ⟨_, h2, fun μ x' hx => ?_⟩
    obtain ⟨v, q1, q2⟩ := h0 (.n (kc k) (den e % km k)) (onlyA (.n (kc k') (F (den e % km k) % km k'))) (by rw [fNum_n]; exact onlyA_self _)
    obtain ⟨v', q3, q4⟩ := q2 μ x' (by rw [hx.yk_inv]; exact .n k _ (Nat.mod_lt _ (km_pos k)))
    rw [onlyA_yes q1] at q3
    refine ⟨v', q3.n_y ?_, q4⟩
    show exF c (kc k) (den e % kmN (kc k)) (0 % kmN (kc k)) % km k' = _
    rw [kmN_kc, Nat.zero_mod, hF]
/-! ### Comparisons -/
theorem ebeq {a : Ex} : ∀ {b : Ex}, eqE a b = true → a = b := by
  induction a with
  | var i => intro b h; cases b with
    | var j => rw [beq_iff.1 (show Nat.beq i j = true from h)]
    | _ => cases h
  | lit n => intro b h; cases b with
    | lit m => rw [beq_iff.1 (show Nat.beq n m = true from h)]
    | _ => cases h
  | op c w x y ihx ihy => intro b h; cases b with
    | op c' w' x' y' =>
      have h' : and_ (Nat.beq c c') (and_ (Nat.beq w w') (and_ (eqE x x') (eqE y y'))) = true := h
      obtain ⟨h1, h2⟩ := and_eq.1 h'
      obtain ⟨h3, h4⟩ := and_eq.1 h2
      obtain ⟨h5, h6⟩ := and_eq.1 h4
      rw [beq_iff.1 h1, beq_iff.1 h3, ihx h5, ihy h6]
    | _ => cases h
theorem askK_yes {l : List As} {c j : Nat} {x y : Ex} {g : Bool → Ans} (h : askK l c j x y g = .yes) : ∃ a ∈ l, a.c = c ∧ a.j = j ∧ a.x = x ∧ a.y = y ∧ g a.b = .yes := by
  induction l with
  | nil => cases h
  | cons a l ih =>
    obtain ⟨c', j', x', y', b'⟩ := a
    have h' : (Bool.rec (motive := fun _ => Ans) (askK l c j x y g) (g b') (and_ (Nat.beq c c') (and_ (Nat.beq j j') (and_ (eqE x x') (eqE y y'))))) = .yes := h
    rcases inv_bif h' with ⟨h1, h2⟩ | ⟨_, h2⟩
    · obtain ⟨h3, h4⟩ := and_eq.1 h1
      obtain ⟨h5, h6⟩ := and_eq.1 h4
      obtain ⟨h7, h8⟩ := and_eq.1 h6
      exact ⟨_, List.mem_cons_self, (beq_iff.1 h3).symm, (beq_iff.1 h5).symm, (ebeq h7).symm, (ebeq h8).symm, h2⟩
    · obtain ⟨a, ha, h3⟩ := ih h2
      exact ⟨a, List.mem_cons_of_mem _ ha, h3⟩
theorem is32_range [Rho] {x : Ex} (h : is32 x = true) : den x % 18446744073709551616 < 2147483648 ∨ 18446744071562067968 ≤ den x % 18446744073709551616 := by
  cases x with
  | var i => cases h
  | lit n => cases h
  | op c w a b =>
    obtain ⟨h1, h2⟩ := and_eq.1 (show and_ (Nat.beq c 23) (Nat.beq w 2) = true from h)
    have h1 := beq_iff.1 h1
    have h2 := beq_iff.1 h2
    subst h1; subst h2
    have hd : den (.op 23 2 a b) = sExt 2147483648 4294967296 18446744073709551616 (den a % 4294967296) := rfl
    rw [hd]
    have hu : den a % 4294967296 < 4294967296 := Nat.mod_lt _ (by omega)
    generalize den a % 4294967296 = u at hu
    unfold sExt
    by_cases hl : u < 2147483648
    · rw [show Nat.ble (Nat.succ u) 2147483648 = true from ble_iff.2 hl]
      left
      show u % 18446744073709551616 < _
      omega
    · rw [show Nat.ble (Nat.succ u) 2147483648 = false by cases hb : Nat.ble (Nat.succ u) 2147483648 with | false => rfl | true => exact (hl (ble_iff.1 hb)).elim]
      right
      show _ ≤ (u + (18446744073709551616 - 4294967296)) % 18446744073709551616
      omega
theorem ltN3 (a b : Nat) : ltN 3 a b = decide ((a + 9223372036854775808) % 18446744073709551616 < (b + 9223372036854775808) % 18446744073709551616) := by
  rw [Bool.eq_iff_iff, decide_eq_true_eq]
  show Nat.ble (Nat.succ ((a + 9223372036854775808) % 18446744073709551616)) ((b + 9223372036854775808) % 18446744073709551616) = true ↔ _
  rw [ble_iff]; rfl
theorem farK_yes {X n c : Nat} (hX : X < 2147483648 ∨ 18446744071562067968 ≤ X) (hX2 : X < 18446744073709551616) (hc : c ≤ 5) {g : Bool → Ans} {no : Ans} (h : farK (far32 n) c g no = .yes) :
    (∃ b, g b = .yes ∧ cmpD c 3 X (n % 18446744073709551616) = b) ∨ no = .yes := by
  unfold farK far32 at h
  simp only [bif_eq, ble_iff, beq_iff, or_eq, and_eq] at h
  have hl := ltN3 X (n % 18446744073709551616)
  have hr := ltN3 (n % 18446744073709551616) X
  have fin : ∀ (p q e : Bool), ltN 3 X (n % 18446744073709551616) = p → ltN 3 (n % 18446744073709551616) X = q → Nat.beq X (n % 18446744073709551616) = e → cmpD c 3 X (n % 18446744073709551616) = (match c with | 0 => e | 1 => not_ e | 2 => p | 3 => not_ q | 4 => q | _ => not_ p) := by
    intro p q e hp hq he
    subst hp; subst hq; subst he
    rcases c with _ | _ | _ | _ | _ | c <;> rfl
  have neq : X ≠ n % 18446744073709551616 → Nat.beq X (n % 18446744073709551616) = false := fun hh => by cases hb : Nat.beq X (n % 18446744073709551616) with | false => rfl | true => exact (hh (beq_iff.1 hb)).elim
  have hc' : c = 0 ∨ c = 1 ∨ c = 2 ∨ c = 3 ∨ c = 4 ∨ c = 5 := by omega
  by_cases h1 : n ≤ 2147483646
  · simp [h1] at h; exact .inr h
  by_cases h2 : n ≤ 2147483647
  · -- the greatest
    simp [h1, h2] at h
    have e1 : ltN 3 (n % 18446744073709551616) X = false := by rw [hr, decide_eq_false_iff_not]; omega
    rcases hc' with rfl | rfl | rfl | rfl | rfl | rfl <;> simp at h
    · exact .inr h
    · exact .inr h
    · exact .inr h
    · exact .inl ⟨true, h, by rw [show cmpD 3 3 X (n % 18446744073709551616) = not_ (ltN 3 (n % 18446744073709551616) X) from rfl, e1]; rfl⟩
    · exact .inl ⟨false, h, e1⟩
    · exact .inr h
  by_cases h3 : n ≤ 9223372036854775807
  · simp [h1, h2, h3] at h
    have e1 : ltN 3 X (n % 18446744073709551616) = true := by rw [hl, decide_eq_true_eq]; omega
    have e2 : ltN 3 (n % 18446744073709551616) X = false := by rw [hr, decide_eq_false_iff_not]; omega
    have e3 := neq (by omega)
    have f := fin _ _ _ e1 e2 e3
    rcases hc' with rfl | rfl | rfl | rfl | rfl | rfl <;> simp at h <;> exact .inl ⟨_, h, f⟩
  by_cases h4 : n ≤ 18446744071562067967
  · simp [h1, h2, h3, h4] at h
    have e1 : ltN 3 X (n % 18446744073709551616) = false := by rw [hl, decide_eq_false_iff_not]; omega
    have e2 : ltN 3 (n % 18446744073709551616) X = true := by rw [hr, decide_eq_true_eq]; omega
    have e3 := neq (by omega)
    have f := fin _ _ _ e1 e2 e3
    rcases hc' with rfl | rfl | rfl | rfl | rfl | rfl <;> simp at h <;> exact .inl ⟨_, h, f⟩
  by_cases h5 : n = 18446744071562067968
  · simp [h1, h2, h3, h4, h5] at h
    have e1 : ltN 3 X (n % 18446744073709551616) = false := by rw [hl, decide_eq_false_iff_not]; omega
    rcases hc' with rfl | rfl | rfl | rfl | rfl | rfl <;> simp at h
    · exact .inr h
    · exact .inr h
    · exact .inl ⟨false, h, e1⟩
    · exact .inr h
    · exact .inr h
    · exact .inl ⟨true, h, by rw [show cmpD 5 3 X (n % 18446744073709551616) = not_ (ltN 3 X (n % 18446744073709551616)) from rfl, e1]; rfl⟩
  · simp [h1, h2, h3, h4, h5] at h; exact .inr h
theorem askW_yes [Rho] {l : List As} (hA : Holds l) {c : Nat} (hc : c ≤ 5) {j : Nat} {x y : Ex} {g : Bool → Ans} (h : askW l c j x y g = .yes) : ∃ b, g b = .yes ∧ cmpD c j (den x % kmN j) (den y % kmN j) = b := by
  have h : Bool.rec (motive := fun _ => Ans) (Option.rec (motive := fun _ => Ans) (askK l c j x y g) (fun b => g b) (wCmp l c j x y)) (Bool.rec (motive := fun _ => Ans) (g false) (g true) (or_ (Nat.beq c 0) (or_ (Nat.beq c 3) (Nat.beq c 5)))) (eqE x y) = .yes := h
  rcases inv_bif h with ⟨h1, hq⟩ | ⟨h1, hq⟩
  · have hxy := ebeq h1
    rw [← hxy]
    clear h h1
    have e0 : ∀ a, Nat.beq a a = true := fun a => beq_iff.2 rfl
    have e1 : ∀ a, ltN j a a = false := fun a => by
      unfold ltN
      split
      · exact ble_no (by omega)
      · exact ble_no (by omega)
    rcases inv_bif hq with ⟨h2, hr⟩ | ⟨h2, hr⟩
    · refine ⟨true, hr, ?_⟩
      rcases or_eq.1 h2 with h3 | h3
      · rw [beq_iff.1 h3]; exact e0 _
      · rcases or_eq.1 h3 with h3 | h3
        · rw [beq_iff.1 h3]; show not_ (ltN j _ _) = true; rw [e1]; rfl
        · rw [beq_iff.1 h3]; show not_ (ltN j _ _) = true; rw [e1]; rfl
    · refine ⟨false, hr, ?_⟩
      match c, hc with
      | 0, _ => cases h2
      | 1, _ => show not_ (Nat.beq _ _) = false; rw [e0]; rfl
      | 2, _ => exact e1 _
      | 3, _ => cases h2
      | 4, _ => exact e1 _
      | 5, _ => cases h2
  · cases hw : wCmp l c j x y with
    | some b => rw [hw] at hq; exact ⟨b, hq, wCmp_ok hA hc hw⟩
    | none =>
      rw [hw] at hq
      obtain ⟨a, ha, h1, h2, h3, h4, h5⟩ := askK_yes hq
      have := hA a ha
      rw [h1, h2, h3, h4] at this
      exact ⟨_, h5, this⟩
theorem cmpK_yes [Rho] {l : List As} (hA : Holds l) {c : Nat} {k : IntKind} (hc : c ≤ 5) {x y : Ex} {g : Bool → Ans} (h : cmpK l c (kc k) x y g = .yes) : ∃ b, g b = .yes ∧ cmpD c (kc k) (den x % km k) (den y % km k) = b := by
  have ask : askW l c (kc k) x y g = .yes → ∃ b, g b = .yes ∧ cmpD c (kc k) (den x % km k) (den y % km k) = b := fun h => by
    obtain ⟨b, h5, this⟩ := askW_yes hA hc h
    rw [kmN_kc] at this
    exact ⟨_, h5, this⟩
  unfold cmpK at h
  rw [bif_eq] at h
  split at h
  · rename_i h1
    obtain ⟨h2, h3⟩ := and_eq.1 h1
    have h2 := beq_iff.1 h2
    have hk : k = .i64 := by cases k <;> first | rfl | cases h2
    subst hk
    cases y with
    | var i => exact ask h
    | op c w a b => exact ask h
    | lit n =>
      rcases farK_yes (is32_range h3) (Nat.mod_lt _ (by omega)) hc h with ⟨b, h4, h5⟩ | h4
      · exact ⟨b, h4, h5⟩
      · exact ask h4
  · exact ask h
theorem cmpY_p2 [Rho] {l : List As} (hA : Holds l) {c : Nat} (hc : c ≤ 5) {k : IntKind} {F : Nat → Nat → Bool} {g : Value → Value → Sem Value} (h0 : P2 P (fCmp F (kc k)) g)
    (hF : ∀ a b : Nat, cmpD c (kc k) a b = F a b) : P2 P (fCmpY l c F (kc k)) g := by
  intro x y kk h
  have slow : (exK (kc k) x fun ex => exK (kc k) y fun ey => cmpK l c (kc k) ex ey fun b => kk (.b b)) = .yes → ∃ v, kk v = .yes ∧ ∀ μ x' y', VR μ x x' → VR μ y y' → ∃ v', VR μ v v' ∧ ∀ w, (g x' y').run P w = .ok v' w := by
    intro h
    obtain ⟨ex, h1, h2⟩ := exK_num (k := k) h
    obtain ⟨ey, h3, h4⟩ := exK_num (k := k) h1
    obtain ⟨b, h5, h6⟩ := cmpK_yes hA hc h3
    refine ⟨_, h5, fun μ x' y' hx hy => ?_⟩
    obtain ⟨v, q1, q2⟩ := h0 (.n (kc k) (den ex % km k)) (.n (kc k) (den ey % km k)) (onlyA (.b (F (den ex % km k) (den ey % km k)))) (by rw [fCmp_n]; exact onlyA_self _)
    obtain ⟨v', q3, q4⟩ := q2 μ x' y' ((h2 μ x' hx).2 μ) ((h4 μ y' hy).2 μ)
    rw [onlyA_yes q1, ← hF, h6] at q3
    exact ⟨v', q3, q4⟩
  rcases inv_ny h with ⟨j, a, rfl, h1⟩ | ⟨j, e, rfl, h1⟩
  · rcases inv_ny h1 with ⟨j', b, rfl, h2⟩ | ⟨j', e', rfl, h2⟩
    · exact h0 _ _ kk h
    · exact slow h2
  · exact slow h1
theorem minMaxY_p2 [Rho] {l : List As} (hA : Holds l) {c : Nat} (hc : c ≤ 5) {k : IntKind} {F : Nat → Nat → Bool} {g : Value → Value → Sem Value} (h0 : P2 P (fMinMax F (kc k)) g)
    (hF : ∀ a b : Nat, cmpD c (kc k) a b = F a b) : P2 P (fMinMaxY l c F (kc k)) g := by
  intro x y kk h
  have slow : (exK (kc k) x fun ex => exK (kc k) y fun ey => cmpK l c (kc k) ey ex fun b => Bool.rec (motive := fun _ => Ans) (kk x) (kk y) b) = .yes → ∃ v, kk v = .yes ∧ ∀ μ x' y', VR μ x x' → VR μ y y' → ∃ v', VR μ v v' ∧ ∀ w, (g x' y').run P w = .ok v' w := by
    intro h
    obtain ⟨ex, h1, h2⟩ := exK_num (k := k) h
    obtain ⟨ey, h3, h4⟩ := exK_num (k := k) h1
    obtain ⟨b, h5, h6⟩ := cmpK_yes hA hc h3
    have known : ∀ μ x' y', VR μ x x' → VR μ y y' → ∃ v', VR μ (.n (kc k) (if F (den ey % km k) (den ex % km k) = true then den ey % km k else den ex % km k)) v' ∧ ∀ w, (g x' y').run P w = .ok v' w := by
      intro μ x' y' hx hy
      obtain ⟨v, q1, q2⟩ := h0 (.n (kc k) (den ex % km k)) (.n (kc k) (den ey % km k)) (onlyA (.n (kc k) (if F (den ey % km k) (den ex % km k) = true then den ey % km k else den ex % km k))) (by
        show (Bool.rec (motive := fun _ => Ans) Ans.no (Bool.rec (motive := fun _ => Ans) (onlyA _ (.n (kc k) (den ex % km k))) (onlyA _ (.n (kc k) (den ey % km k))) (F (den ey % km k) (den ex % km k))) (Nat.beq (Nat.add (Nat.xor (kc k) (kc k)) (Nat.xor (kc k) (kc k))) 0)) = _
        rw [show Nat.beq (Nat.add (Nat.xor (kc k) (kc k)) (Nat.xor (kc k) (kc k))) 0 = true by rw [show Nat.xor (kc k) (kc k) = 0 from Nat.xor_self _]; rfl]
        cases F (den ey % km k) (den ex % km k) with
        | true => exact onlyA_self _
        | false => exact onlyA_self _)
      obtain ⟨v', q3, q4⟩ := q2 μ x' y' ((h2 μ x' hx).2 μ) ((h4 μ y' hy).2 μ)
      rw [onlyA_yes q1] at q3
      exact ⟨v', q3, q4⟩
    rw [← hF, h6] at known
    cases b with
    | true =>
      refine ⟨y, h5, fun μ x' y' hx hy => ?_⟩
      obtain ⟨v', q3, q4⟩ := known μ x' y' hx hy
      rw [if_pos rfl] at q3
      have e : v' = y' := by rw [q3.kn_inv.2, (h4 μ y' hy).1]
      exact ⟨v', by rw [e]; exact hy, q4⟩
    | false =>
      refine ⟨x, h5, fun μ x' y' hx hy => ?_⟩
      obtain ⟨v', q3, q4⟩ := known μ x' y' hx hy
      rw [if_neg (by simp)] at q3
      have e : v' = x' := by rw [q3.kn_inv.2, (h2 μ x' hx).1]
      exact ⟨v', by rw [e]; exact hx, q4⟩
  rcases inv_ny h with ⟨j, a, rfl, h1⟩ | ⟨j, e, rfl, h1⟩
  · rcases inv_ny h1 with ⟨j', b, rfl, h2⟩ | ⟨j', e', rfl, h2⟩
    · exact h0 _ _ kk h2
    · exact slow h2
  · exact slow h1
/-! ### Texts -/
theorem eqE_self : ∀ e, eqE e e = true
  | .var i => beq_iff.2 rfl
  | .lit n => beq_iff.2 rfl
  | .op c w a b => and_eq.2 ⟨beq_iff.2 rfl, and_eq.2 ⟨beq_iff.2 rfl, and_eq.2 ⟨eqE_self a, eqE_self b⟩⟩⟩
theorem dl_codes : ∀ {a : List Nat}, (∀ n ∈ a, n < 256) → ∀ [Rho], dl (codesE a) = a
  | [], _, _ => rfl
  | n :: a, h, _ => by
    have ih := dl_codes (a := a) (fun m hm => h m (List.mem_cons_of_mem _ hm))
    show n % 256 :: dl (codesE a) = _
    rw [ih, Nat.mod_eq_of_lt (h n List.mem_cons_self)]
theorem eqL_cons (a b : Nat) (l m : List Nat) : eqL (a :: l) (b :: m) = (Nat.beq a b && eqL l m) := by
  show Bool.rec (motive := fun _ => Bool) false (eqL l m) (Nat.beq a b) = _
  cases Nat.beq a b <;> rfl
theorem txtEq_yes [Rho] {tk : List As} (hA : Holds tk) : ∀ {l m : List Ex} {g : Bool → Ans}, txtEq tk l m g = .yes → ∃ b, g b = .yes ∧ eqL (dl l) (dl m) = b
  | [], [], g, h => ⟨true, h, rfl⟩
  | [], _ :: _, g, h => ⟨false, h, rfl⟩
  | _ :: _, [], g, h => ⟨false, h, rfl⟩
  | a :: l, b :: m, g, h => by
    have h : Bool.rec (motive := fun _ => Ans) (askW tk 0 4 a b fun r => Bool.rec (motive := fun _ => Ans) (g false) (txtEq tk l m g) r) (txtEq tk l m g) (eqE a b) = .yes := h
    have e : eqL (dl (a :: l)) (dl (b :: m)) = (Nat.beq (den a % 256) (den b % 256) && eqL (dl l) (dl m)) := eqL_cons _ _ _ _
    rcases inv_bif h with ⟨h1, hq⟩ | ⟨h1, hq⟩
    · have hab := ebeq h1
      obtain ⟨r, h2, h3⟩ := txtEq_yes hA hq
      exact ⟨r, h2, by rw [e, h3, ← hab, beq_iff.2 rfl]; rfl⟩
    · obtain ⟨q, h2, h3⟩ := askW_yes hA (by omega) hq
      have h3 : Nat.beq (den a % 256) (den b % 256) = q := h3
      cases q with
      | true =>
        obtain ⟨r, h4, h5⟩ := txtEq_yes hA (show txtEq tk l m g = .yes from h2)
        exact ⟨r, h4, by rw [e, h3, h5]; rfl⟩
      | false => exact ⟨false, h2, by rw [e, h3]; rfl⟩
theorem strY_p2 [Rho] {tk : List As} (hA : Holds tk) {neg : Bool} {g : Value → Value → Sem Value} (h0 : P2 P (fStr fun a b => if neg then not_ (eqL a b) else eqL a b) g) : P2 P (fStrY tk neg) g := by
  intro x y kk h
  have slow : ∀ lx ly : List Ex, (txtEq tk lx ly fun r => Bool.rec (motive := fun _ => Ans) (kk (.b neg)) (kk (.b (not_ neg))) r) = .yes → ∃ v, kk v = .yes ∧ ∀ μ x' y', x' = .string (bstr (dl lx)) → y' = .string (bstr (dl ly)) → ∃ v', VR μ v v' ∧ ∀ w, (g x' y').run P w = .ok v' w := by
    intro lx ly h
    have bnd : ∀ l : List Ex, ∀ n ∈ dl l, n < 256 := fun l n hn => by
      obtain ⟨e, _, rfl⟩ := List.mem_map.1 hn
      exact Nat.mod_lt _ (by omega)
    obtain ⟨b, h1, h2⟩ := txtEq_yes hA h
    obtain ⟨v, q1, q2⟩ := h0 (.s (dl lx)) (.s (dl ly)) (onlyA (.b (if neg then not_ (eqL (dl lx) (dl ly)) else eqL (dl lx) (dl ly)))) (by
      show (Bool.rec (motive := fun _ => Ans) (onlyA _ (.b false)) (onlyA _ (.b true)) (if neg then not_ (eqL (dl lx) (dl ly)) else eqL (dl lx) (dl ly))) = .yes
      cases (if neg then not_ (eqL (dl lx) (dl ly)) else eqL (dl lx) (dl ly)) with
      | true => exact onlyA_self _
      | false => exact onlyA_self _)
    have h3 := onlyA_yes q1
    rw [h2] at h3
    subst h3
    refine ⟨.b (if neg then not_ b else b), ?_, fun μ x' y' hx hy => ?_⟩
    · cases neg <;> cases b <;> exact h1
    · subst hx hy
      exact q2 μ _ _ (.s _ (bnd lx)) (.s _ (bnd ly))
  rcases inv_sy h with ⟨a, rfl, h1⟩ | ⟨j, e, rfl, h1⟩
  · rcases inv_sy h1 with ⟨b, rfl, h2⟩ | ⟨j', e', rfl, h2⟩
    · refine h0 (.s a) (.s b) kk ?_
      show (Bool.rec (motive := fun _ => Ans) (kk (.b false)) (kk (.b true)) (if neg then not_ (eqL a b) else eqL a b)) = .yes
      have h2 : (Bool.rec (motive := fun _ => Ans) (kk (.b true)) (kk (.b false)) (eqB neg (eqL a b))) = .yes := h2
      revert h2
      cases neg <;> cases eqL a b <;> exact id
    · obtain ⟨h3, h4⟩ := inv_if h2
      have h3 := beq_iff.1 h3
      subst h3
      obtain ⟨v, q1, q2⟩ := slow _ _ h4
      refine ⟨v, q1, fun μ x' y' hx hy => q2 μ x' y' ?_ hy.y9_inv⟩
      obtain ⟨g2, g1⟩ := hx.s_inv
      rw [g2, dl_codes g1]
  · obtain ⟨h3, h4⟩ := inv_if h1
    have h3 := beq_iff.1 h3
    subst h3
    rcases inv_sy h4 with ⟨b, rfl, h2⟩ | ⟨j', e', rfl, h2⟩
    · obtain ⟨v, q1, q2⟩ := slow _ _ h2
      refine ⟨v, q1, fun μ x' y' hx hy => q2 μ x' y' hx.y9_inv ?_⟩
      obtain ⟨g2, g1⟩ := hy.s_inv
      rw [g2, dl_codes g1]
    · obtain ⟨h3, h5⟩ := inv_if h2
      have h3 := beq_iff.1 h3
      subst h3
      obtain ⟨v, q1, q2⟩ := slow _ _ h5
      exact ⟨v, q1, fun μ x' y' hx hy => q2 μ x' y' hx.y9_inv hy.y9_inv⟩
section
variable {P : Program} {t : TypeId} {ox oy : Operand}
theorem add_p2Y [Rho] (k : IntKind) : P2 P (fArithY 0 (kc k) (fun a b => Nat.add a b) (kc k) (km k)) (bin2 .add t ox oy) := arithY_p2 (add_p2 k) fun a b => rfl
theorem sub_p2Y [Rho] (k : IntKind) : P2 P (fArithY 1 (kc k) (fun a b => Nat.add a (Nat.sub (km k) b)) (kc k) (km k)) (bin2 .sub t ox oy) := arithY_p2 (sub_p2 k) fun a b => by
  show (a + (kmN (kc k) - b)) % km k = _
  rw [kmN_kc]; rfl
theorem mul_p2Y [Rho] (k : IntKind) : P2 P (fArithY 2 (kc k) (fun a b => Nat.mul a b) (kc k) (km k)) (bin2 .mul t ox oy) := arithY_p2 (mul_p2 k) fun a b => rfl
theorem and_p2Y [Rho] (k : IntKind) : P2 P (fArithY 3 (kc k) (fun a b => Nat.land a b) (kc k) (km k)) (bin2 .and t ox oy) := arithY_p2 (and_p2 k) fun a b => rfl
theorem or_p2Y [Rho] (k : IntKind) : P2 P (fArithY 4 (kc k) (fun a b => Nat.lor a b) (kc k) (km k)) (bin2 .or t ox oy) := arithY_p2 (or_p2 k) fun a b => rfl
theorem xor_p2Y [Rho] (k : IntKind) : P2 P (fArithY 5 (kc k) (fun a b => Nat.xor a b) (kc k) (km k)) (bin2 .xor t ox oy) := arithY_p2 (xor_p2 k) fun a b => rfl
theorem andNot_p2Y [Rho] (k : IntKind) : P2 P (fArithY 6 (kc k) (fun a b => Nat.land a (Nat.xor b (Nat.sub (km k) 1))) (kc k) (km k)) (bin2 .andNot t ox oy) := arithY_p2 (andNot_p2 k) fun a b => by
  show Nat.land a (Nat.xor b (kmN (kc k) - 1)) % km k = _
  rw [kmN_kc]; rfl
theorem shl_p2Y [Rho] (k : IntKind) : P2 P (fShiftY 7 (kc k) (fun a b => Nat.mul a (Nat.pow 2 b)) (kc k) (km k)) (bin2 .shl t ox oy) := shiftY_p2 (shl_p2 k) fun a b _ => rfl
theorem shr_p2Y [Rho] (k : IntKind) : P2 P (fShiftY 8 (kc k) (shrOf k) (kc k) (km k)) (bin2 .shr t ox oy) := shiftY_p2 (shr_p2 k) fun a b _ => by cases k <;> rfl
theorem quo_p2Y [Rho] (k : IntKind) : P2 P (fDivY 9 (kc k) (quoOf k) (kc k) (km k)) (bin2 .quo t ox oy) := divY_p2 (quo_p2 k) fun a b => by cases k <;> rfl
theorem rem_p2Y [Rho] (k : IntKind) : P2 P (fDivY 10 (kc k) (remOf k) (kc k) (km k)) (bin2 .rem t ox oy) := divY_p2 (rem_p2 k) fun a b => by cases k <;> rfl
theorem eql_p2Y [Rho] {l : List As} (hA : Holds l) (k : IntKind) : P2 P (fCmpY l 0 (fun a b => Nat.beq a b) (kc k)) (bin2 .eql t ox oy) := cmpY_p2 hA (by omega) (eql_p2 k) fun a b => rfl
theorem neq_p2Y [Rho] {l : List As} (hA : Holds l) (k : IntKind) : P2 P (fCmpY l 1 (fun a b => not_ (Nat.beq a b)) (kc k)) (bin2 .neq t ox oy) := cmpY_p2 hA (by omega) (neq_p2 k) fun a b => rfl
theorem lss_p2Y [Rho] {l : List As} (hA : Holds l) (k : IntKind) : P2 P (fCmpY l 2 (ltOf k) (kc k)) (bin2 .lss t ox oy) := cmpY_p2 hA (by omega) (lss_p2 k) fun a b => by cases k <;> rfl
theorem leq_p2Y [Rho] {l : List As} (hA : Holds l) (k : IntKind) : P2 P (fCmpY l 3 (fun a b => not_ (ltOf k b a)) (kc k)) (bin2 .leq t ox oy) := cmpY_p2 hA (by omega) (leq_p2 k) fun a b => by cases k <;> rfl
theorem gtr_p2Y [Rho] {l : List As} (hA : Holds l) (k : IntKind) : P2 P (fCmpY l 4 (fun a b => ltOf k b a) (kc k)) (bin2 .gtr t ox oy) := cmpY_p2 hA (by omega) (gtr_p2 k) fun a b => by cases k <;> rfl
theorem geq_p2Y [Rho] {l : List As} (hA : Holds l) (k : IntKind) : P2 P (fCmpY l 5 (fun a b => not_ (ltOf k a b)) (kc k)) (bin2 .geq t ox oy) := cmpY_p2 hA (by omega) (geq_p2 k) fun a b => by cases k <;> rfl
theorem neg_p1Y [Rho] (k : IntKind) : P1 P (fNumY 11 (kc k) (fun a => Nat.sub (km k) a) (kc k) (kc k) (km k)) (fun x => Op.unary .neg x) := numY_p1 (neg_p1 k) fun a => by
  show (kmN (kc k) - a) % km k = _
  rw [kmN_kc]; rfl
theorem com_p1Y [Rho] (k : IntKind) : P1 P (fNumY 12 (kc k) (fun a => Nat.xor a (Nat.sub (km k) 1)) (kc k) (kc k) (km k)) (fun x => Op.unary .xor x) := numY_p1 (com_p1 k) fun a => by
  show Nat.xor a (kmN (kc k) - 1) % km k = _
  rw [kmN_kc]; rfl
theorem conv_p1Y [Rho] {src dst : TypeId} (i j : IntKind) (hs : P.underlying src = some (.int i)) (hd : P.underlying dst = some (.int j)) :
    P1 P (fNumY (20 + kc j) (kc i) (if ksg i && km i < km j then sExt (kh i) (km i) (km j) else fun a => a) (kc i) (kc j) (km j)) (fun x => convert src dst x) := numY_p1 (conv_p1 i j hs hd) fun a => by cases i <;> cases j <;> rfl
theorem eqlS_p2Y [Rho] {tk : List As} (hA : Holds tk) : P2 P (fStrY tk false) (bin2 .eql t ox oy) := strY_p2 hA eqlS_p2
theorem neqS_p2Y [Rho] {tk : List As} (hA : Holds tk) : P2 P (fStrY tk true) (bin2 .neq t ox oy) := strY_p2 hA neqS_p2
end
end
end
end Go.Proofs.YteefpemaeecicaaGreatDoor.Ev
end
section
open Go
namespace Go.Proofs.YteefpemaeecicaaGreatDoor.Ev
set_option linter.unusedVariables false
set_option linter.unusedSimpArgs false
set_option linter.constructorNameAsVariable false
noncomputable section
theorem natE_yes [Rho] {z : Int} {g : Ex → Ans} (h : natE z g = .yes) : ∃ e, g e = .yes ∧ ((den e % 18446744073709551616 : Nat) : Int) = z := by
  cases z with
  | negSucc n => cases h
  | ofNat n =>
    have h : natK n (fun n => (Bool.rec (motive := fun _ => Ans) Ans.no (g (.lit n)) (Nat.ble n 9007199254740991))) = .yes := h
    rw [natK_eq] at h
    obtain ⟨h1, h2⟩ := inv_if h
    have h1 := ble_iff.1 h1
    refine ⟨_, h2, ?_⟩
    show ((n % 18446744073709551616 : Nat) : Int) = Int.ofNat n
    rw [Nat.mod_eq_of_lt (by omega)]; rfl
theorem smE_yes [Rho] {tk : List As} (hA : Holds tk) {e : Ex} {g : Unit → Ans} (h : smE tk e g = .yes) : g () = .yes ∧ den e % 18446744073709551616 < 9007199254740992 := by
  have ask : askW tk 2 7 e (.lit 9007199254740992) (fun b => (Bool.rec (motive := fun _ => Ans) Ans.no (g ()) b)) = .yes → g () = .yes ∧ den e % 18446744073709551616 < 9007199254740992 := fun h => by
    obtain ⟨b, h5, this⟩ := askW_yes hA (by omega) h
    obtain ⟨h6, h7⟩ := inv_if h5
    rw [h6] at this
    have h8 : Nat.ble (Nat.succ (den e % 18446744073709551616)) 9007199254740992 = true := this
    exact ⟨h7, ble_iff.1 h8⟩
  cases e with
  | var i => exact ask h
  | op c w a b => exact ask h
  | lit n =>
    obtain ⟨h1, h2⟩ := inv_if h
    have h1 := ble_iff.1 h1
    refine ⟨h2, ?_⟩
    show n % 18446744073709551616 < _
    omega
theorem isZ_yes [Rho] {e : Ex} (h : isZ e = true) : den e = 0 := by
  cases e with
  | var i => cases (show false = true from h)
  | op c w a b => cases (show false = true from h)
  | lit n => exact beq_iff.1 (show Nat.beq n 0 = true from h)
theorem addE_den [Rho] (x y : Ex) : den (addE x y) % 18446744073709551616 = (den x % 18446744073709551616 + den y % 18446744073709551616) % 18446744073709551616 := by
  unfold addE
  rw [bif_eq]
  split
  · rename_i h; rw [isZ_yes h]; omega
  · rw [bif_eq]
    split
    · rename_i h; rw [isZ_yes h]; omega
    · rfl
theorem cplxK_yes [Rho] {v : AV} {g : Ex → Ex → Ans} (h : cplxK v g = .yes) : ∃ a b, g a b = .yes ∧ ∀ μ x, VR μ v x → VR μ (.c (den a % 18446744073709551616 : Nat) (den b % 18446744073709551616 : Nat)) x := by
  cases v with
  | c a b =>
    have h : natE a (fun a => natE b fun b => g a b) = .yes := h
    obtain ⟨ea, h1, h2⟩ := natE_yes h
    obtain ⟨eb, h3, h4⟩ := natE_yes h1
    exact ⟨ea, eb, h3, fun μ x hx => by rw [h2, h4]; exact hx⟩
  | y j e =>
    obtain ⟨h1, h2⟩ := inv_if h
    have h1 := beq_iff.1 h1
    subst h1
    cases e with
    | var i => cases h2
    | lit n => cases h2
    | op c w a b =>
      refine ⟨a, b, h2, fun μ x hx => ?_⟩
      rcases hx.y_inv with ⟨k, h1, _⟩ | ⟨h1, _⟩ | ⟨h1, _⟩ | ⟨h1, _⟩ | ⟨_, e1, e2, p, q, he, rfl, f1, f2⟩ | h1
      · have := kc_lt k; omega
      · omega
      · omega
      · omega
      · cases he
        exact .c _ _ p q f1 f2
      · omega
  | _ => cases h
theorem floK_yes [Rho] {v : AV} {g : Ex → Ans} (h : floK v g = .yes) : ∃ a, g a = .yes ∧ ∀ μ x, VR μ v x → VR μ (.f (den a % 18446744073709551616 : Nat)) x := by
  cases v with
  | f a =>
    obtain ⟨ea, h1, h2⟩ := natE_yes (show natE a g = .yes from h)
    exact ⟨ea, h1, fun μ x hx => by rw [h2]; exact hx⟩
  | y j e =>
    obtain ⟨h1, h2⟩ := inv_if h
    have h1 := beq_iff.1 h1
    subst h1
    refine ⟨e, h2, fun μ x hx => ?_⟩
    rcases hx.y_inv with ⟨k, h1, _⟩ | ⟨h1, _⟩ | ⟨h1, _⟩ | ⟨_, p, rfl, f1⟩ | ⟨h1, _⟩ | h1
    · have := kc_lt k; omega
    · omega
    · omega
    · exact .f _ p f1
    · omega
    · omega
  | _ => cases h
theorem VR.yf_inv [Rho] {μ : Mp} {e : Ex} {v : Value} (h : VR μ (.y 11 e) v) : ∃ x, v = .float .f64 x ∧ Flo x (den e % 18446744073709551616 : Nat) := by
  rcases h.y_inv with ⟨k, h1, _⟩ | ⟨h1, _⟩ | ⟨h1, _⟩ | ⟨_, p, rfl, f1⟩ | ⟨h1, _⟩ | h1
  · have := kc_lt k; omega
  · omega
  · omega
  · exact ⟨p, rfl, f1⟩
  · omega
  · omega
theorem VR.yc_inv [Rho] {μ : Mp} {e : Ex} {v : Value} (h : VR μ (.y 10 e) v) : ∃ e1 e2 a b, e = .op 0 0 e1 e2 ∧ v = .complex .f64 a b ∧ Flo a (den e1 % 18446744073709551616 : Nat) ∧ Flo b (den e2 % 18446744073709551616 : Nat) := by
  rcases h.y_inv with ⟨k, h1, _⟩ | ⟨h1, _⟩ | ⟨h1, _⟩ | ⟨h1, _⟩ | ⟨_, e1, e2, p, q, he, rfl, f1, f2⟩ | h1
  · have := kc_lt k; omega
  · omega
  · omega
  · omega
  · exact ⟨e1, e2, p, q, he, rfl, f1, f2⟩
  · omega
theorem smallI_nat {n : Nat} (h : n < 9007199254740992) : smallI (n : Int) = true := ble_iff.2 (show n ≤ 9007199254740991 by omega)
section
variable {P : Program} {t : TypeId} {ox oy : Operand}
theorem cadd_p2Y [Rho] {tk : List As} (hA : Holds tk) : P2 P (fCAddY tk) (bin2 .add t ox oy) := by
  intro x y kk h
  have slow : (cplxK x fun a b => cplxK y fun c d => smE tk a fun _ => smE tk b fun _ => smE tk c fun _ => smE tk d fun _ => smE tk (addE a c) fun _ => smE tk (addE b d) fun _ => kk (.y 10 (.op 0 0 (addE a c) (addE b d)))) = .yes → ∃ v, kk v = .yes ∧ ∀ μ x' y', VR μ x x' → VR μ y y' → ∃ v', VR μ v v' ∧ ∀ w, (bin2 .add t ox oy x' y').run P w = .ok v' w := by
    intro h
    obtain ⟨a, b, h1, q1⟩ := cplxK_yes h
    obtain ⟨c, d, h2, q2⟩ := cplxK_yes h1
    obtain ⟨h3, s1⟩ := smE_yes hA h2
    obtain ⟨h4, s2⟩ := smE_yes hA h3
    obtain ⟨h5, s3⟩ := smE_yes hA h4
    obtain ⟨h6, s4⟩ := smE_yes hA h5
    obtain ⟨h7, s5⟩ := smE_yes hA h6
    obtain ⟨h8, s6⟩ := smE_yes hA h7
    refine ⟨_, h8, fun μ x' y' hx hy => ?_⟩
    have e5 := addE_den a c
    have e6 := addE_den b d
    rw [Nat.mod_eq_of_lt (a := den a % 18446744073709551616 + den c % 18446744073709551616) (by omega)] at e5
    rw [Nat.mod_eq_of_lt (a := den b % 18446744073709551616 + den d % 18446744073709551616) (by omega)] at e6
    generalize hna : den a % 18446744073709551616 = na at *
    generalize hnb : den b % 18446744073709551616 = nb at *
    generalize hnc : den c % 18446744073709551616 = nc at *
    generalize hnd : den d % 18446744073709551616 = nd at *
    have hk : fCAdd (.c (na : Int) (nb : Int)) (.c (nc : Int) (nd : Int)) (onlyA (.c ((na + nc : Nat) : Int) ((nb + nd : Nat) : Int))) = .yes := by
      show okC ((na : Int) + nc) ((nb : Int) + nd) _ = .yes
      unfold okC
      rw [intK_eq, intK_eq]
      have e1 : ((na : Int) + nc) = ((na + nc : Nat) : Int) := by omega
      have e2 : ((nb : Int) + nd) = ((nb + nd : Nat) : Int) := by omega
      rw [e1, e2, smallI_nat (show na + nc < _ by omega), smallI_nat (show nb + nd < _ by omega)]
      exact onlyA_self _
    obtain ⟨v, k1, k2⟩ := cadd_p2 (P := P) (t := t) (ox := ox) (oy := oy) _ _ _ hk
    obtain ⟨v', k3, k4⟩ := k2 μ x' y' (q1 μ x' hx) (q2 μ y' hy)
    rw [onlyA_yes k1] at k3
    obtain ⟨p, q, f1, f2, rfl⟩ := k3.c_inv
    exact ⟨_, .yc _ _ p q (by rw [e5]; exact f1) (by rw [e6]; exact f2), k4⟩
  cases x with
  | c a b => cases y with
    | c c d => exact cadd_p2 (.c a b) (.c c d) kk h
    | y j e => exact slow h
    | _ => cases h
  | y j e => exact slow h
  | _ => cases h
theorem ceq_p2Y [Rho] {tk : List As} (hA : Holds tk) (neg : Bool) : P2 P (fCEqY tk neg) (bin2 (eqOp neg) t ox oy) := by
  intro x y kk h
  have slow : (cplxK x fun a b => cplxK y fun c d => askW tk 0 7 a c fun r => Bool.rec (motive := fun _ => Ans) (kk (.b neg)) (askW tk 0 7 b d fun q => Bool.rec (motive := fun _ => Ans) (kk (.b neg)) (kk (.b (not_ neg))) q) r) = .yes → ∃ v, kk v = .yes ∧ ∀ μ x' y', VR μ x x' → VR μ y y' → ∃ v', VR μ v v' ∧ ∀ w, (bin2 (eqOp neg) t ox oy x' y').run P w = .ok v' w := by
    intro h
    obtain ⟨a, b, h1, h2⟩ := cplxK_yes h
    obtain ⟨c, d, h3, h4⟩ := cplxK_yes h1
    have fin : ∀ e : Bool, and_ (eqI ((den a % 18446744073709551616 : Nat) : Int) ((den c % 18446744073709551616 : Nat) : Int)) (eqI ((den b % 18446744073709551616 : Nat) : Int) ((den d % 18446744073709551616 : Nat) : Int)) = e → ∀ μ x' y', VR μ x x' → VR μ y y' → ∃ v', VR μ (.b (if e then not_ neg else neg)) v' ∧ ∀ w, (bin2 (eqOp neg) t ox oy x' y').run P w = .ok v' w := by
      intro e he μ x' y' hx hy
      have hk : fCEq neg (.c (den a % 18446744073709551616 : Nat) (den b % 18446744073709551616 : Nat)) (.c (den c % 18446744073709551616 : Nat) (den d % 18446744073709551616 : Nat)) (onlyA (.b (if e then not_ neg else neg))) = .yes := by
        show (Bool.rec (motive := fun _ => Ans) (onlyA _ (.b true)) (onlyA _ (.b false)) (eqB neg (and_ (eqI _ _) (eqI _ _)))) = .yes
        rw [he]
        cases neg <;> cases e <;> exact onlyA_self _
      obtain ⟨v, k1, k2⟩ := ceq_p2 (P := P) (t := t) (ox := ox) (oy := oy) neg _ _ _ hk
      obtain ⟨v', k3, k4⟩ := k2 μ _ _ (h2 μ x' hx) (h4 μ y' hy)
      rw [onlyA_yes k1] at k3
      exact ⟨v', k3, k4⟩
    obtain ⟨r, h5, h6⟩ := askW_yes hA (by omega) h3
    have h6 : Nat.beq (den a % 18446744073709551616) (den c % 18446744073709551616) = r := h6
    cases r with
    | false =>
      refine ⟨.b neg, h5, fin false ?_⟩
      rw [eqI_eq, decide_eq_false (fun e => by rw [beq_iff.2 (Int.ofNat.inj e)] at h6; cases h6)]
      rfl
    | true =>
      obtain ⟨q, h7, h8⟩ := askW_yes hA (by omega) (show (askW tk 0 7 b d fun q => Bool.rec (motive := fun _ => Ans) (kk (.b neg)) (kk (.b (not_ neg))) q) = .yes from h5)
      have h8 : Nat.beq (den b % 18446744073709551616) (den d % 18446744073709551616) = q := h8
      have e1 : den a % 18446744073709551616 = den c % 18446744073709551616 := beq_iff.1 h6
      cases q with
      | false =>
        refine ⟨.b neg, h7, fin false ?_⟩
        rw [eqI_eq, eqI_eq, e1, decide_eq_true rfl, decide_eq_false (fun e => by rw [beq_iff.2 (Int.ofNat.inj e)] at h8; cases h8)]
        rfl
      | true =>
        refine ⟨.b (not_ neg), h7, fin true ?_⟩
        rw [eqI_eq, eqI_eq, e1, beq_iff.1 h8, decide_eq_true rfl, decide_eq_true rfl]
        rfl
  cases x with
  | c a b => cases y with
    | c c d => exact ceq_p2 neg _ _ kk h
    | y j e => exact slow h
    | _ => cases h
  | y j e => exact slow h
  | _ => cases h
theorem complex_p2Y [Rho] (ts : Array TypeId) (ty : TypeId) : P2 P fComplexY (fun x y => Builtin.complex_ ts ty #[x, y]) := by
  intro x y kk h
  have slow : (floK x fun a => floK y fun b => kk (.y 10 (.op 0 0 a b))) = .yes → ∃ v, kk v = .yes ∧ ∀ μ x' y', VR μ x x' → VR μ y y' → ∃ v', VR μ v v' ∧ ∀ w, (Builtin.complex_ ts ty #[x', y']).run P w = .ok v' w := by
    intro h
    obtain ⟨a, h1, q1⟩ := floK_yes h
    obtain ⟨b, h2, q2⟩ := floK_yes h1
    refine ⟨_, h2, fun μ x' y' hx hy => ?_⟩
    obtain ⟨p, f1, rfl⟩ := (q1 μ x' hx).f_inv
    obtain ⟨q, f2, rfl⟩ := (q2 μ y' hy).f_inv
    exact ⟨_, .yc a b p q f1 f2, fun w => run_complex w ts ty .f64 p q⟩
  cases x with
  | f a => cases y with
    | f b => exact complex_p2 ts ty (.f a) (.f b) kk h
    | y j e => exact slow h
    | _ => cases h
  | y j e => exact slow h
  | _ => cases h
theorem real_p1Y [Rho] (ts : Array TypeId) (ty : TypeId) : P1 P (fRealY false) (fun x => Builtin.real_ ts ty #[x]) := by
  intro x kk h
  cases x with
  | c a b => exact real_p1 ts ty (.c a b) kk h
  | y j e =>
    obtain ⟨h1, h2⟩ := inv_if h
    have h1 := beq_iff.1 h1
    subst h1
    cases e with
    | var i => cases h2
    | lit n => cases h2
    | op c w a b =>
      refine ⟨.y 11 a, h2, fun μ x' hx => ?_⟩
      obtain ⟨e1, e2, p, q, he, rfl, f1, f2⟩ := hx.yc_inv
      cases he
      exact ⟨_, .yf _ p f1, fun w => run_real w ts ty .f64 p q⟩
  | _ => cases h
theorem imag_p1Y [Rho] (ts : Array TypeId) (ty : TypeId) : P1 P (fRealY true) (fun x => Builtin.imag_ ts ty #[x]) := by
  intro x kk h
  cases x with
  | c a b => exact imag_p1 ts ty (.c a b) kk h
  | y j e =>
    obtain ⟨h1, h2⟩ := inv_if h
    have h1 := beq_iff.1 h1
    subst h1
    cases e with
    | var i => cases h2
    | lit n => cases h2
    | op c w a b =>
      refine ⟨.y 11 b, h2, fun μ x' hx => ?_⟩
      obtain ⟨e1, e2, p, q, he, rfl, f1, f2⟩ := hx.yc_inv
      cases he
      exact ⟨_, .yf _ q f2, fun w => run_imag w ts ty .f64 p q⟩
  | _ => cases h
theorem intFlo_p1Y [Rho] {tk : List As} (hA : Holds tk) {src dst : TypeId} (k : IntKind) (hs : P.underlying src = some (.int k)) (hd : P.underlying dst = some (.float .f64)) :
    P1 P (fIntFloY tk (kc k) (if ksg k then kh k else km k) (km k)) (fun x => convert src dst x) := by
  intro x kk h
  rcases inv_ny h with ⟨j, a, rfl, h1⟩ | ⟨j, e, rfl, h1⟩
  · exact intFlo_p1 k hs hd _ kk h1
  · obtain ⟨h2, h3⟩ := inv_if h1
    obtain ⟨h4, h5⟩ := and_eq.1 h2
    have h4 := beq_iff.1 h4
    have h5 := beq_iff.1 h5
    have hk : k = .i64 := by cases k <;> first | rfl | cases h5
    subst hk; subst h4
    obtain ⟨h6, h7⟩ := smE_yes hA h3
    refine ⟨_, h6, fun μ x' hx => ?_⟩
    have hx : VR μ (.y (kc .i64) e) x' := hx
    rw [hx.yk_inv]
    have hw : IntKind.i64.wrap ((den e % km .i64 : Nat) : Int) = (den e % 18446744073709551616 : Nat) := wrap_low (show den e % 18446744073709551616 < 9223372036854775808 by omega)
    rw [hw]
    refine ⟨_, .yf e _ (fl_of_int (n := ((den e % 18446744073709551616 : Nat) : Int)) ?_), fun w => ?_⟩
    · show den e % 18446744073709551616 < _
      omega
    · exact run_convert_int_float w src dst .i64 .f64 _ (by rw [hs]; rfl) hd
theorem floInt_p1Y [Rho] {tk : List As} (hA : Holds tk) {src dst : TypeId} (k : IntKind) (hs : P.underlying src = some (.float .f64)) (hd : P.underlying dst = some (.int k)) :
    P1 P (fFloIntY tk (kc k) (if ksg k then kh k else 0) (if ksg k then kh k else km k) (km k)) (fun x => convert src dst x) := by
  intro x kk h
  cases x with
  | f a => exact floInt_p1 k hs hd _ kk h
  | y j e =>
    obtain ⟨h2, h3⟩ := inv_if h
    obtain ⟨h4, h5⟩ := and_eq.1 h2
    have h4 := beq_iff.1 h4
    have h5 := beq_iff.1 h5
    have hk : k = .i64 := by cases k <;> first | rfl | cases h5
    subst hk; subst h4
    obtain ⟨h6, h7⟩ := smE_yes hA h3
    have core : ∀ μ x', VR μ (.y 11 e) x' → ∀ w, (convert src dst x').run P w = .ok (.int .i64 ((den e % 18446744073709551616 : Nat) : Int)) w := by
      intro μ x' hx
      obtain ⟨p, rfl, f1⟩ := hx.yf_inv
      have hb : fFloInt (kc .i64) (if ksg .i64 then kh .i64 else 0) (if ksg .i64 then kh .i64 else km .i64) (km .i64) (.f ((den e % 18446744073709551616 : Nat) : Int)) (onlyA (.n 3 (den e % 18446744073709551616))) = .yes := by
        show (Bool.rec (motive := fun _ => Ans) Ans.no (natK (toN 18446744073709551616 ((den e % 18446744073709551616 : Nat) : Int)) fun z => onlyA (.n 3 (den e % 18446744073709551616)) (.n 3 z)) (Nat.ble (Nat.succ (den e % 18446744073709551616)) 9223372036854775808)) = .yes
        rw [show Nat.ble (Nat.succ (den e % 18446744073709551616)) 9223372036854775808 = true from ble_iff.2 (by omega), natK_eq]
        exact onlyA_self _
      obtain ⟨v, k1, k2⟩ := floInt_p1 (P := P) .i64 hs hd _ _ hb
      obtain ⟨v', k3, k4⟩ := k2 μ _ (.f _ p f1)
      rw [onlyA_yes k1] at k3
      have k3 : VR μ (.n (kc .i64) (den e % 18446744073709551616)) v' := k3
      rw [k3.kn_inv.2, wrap_low (show den e % 18446744073709551616 < 9223372036854775808 by omega)] at k4
      exact k4
    have hw : IntKind.i64.wrap ((den e % km .i64 : Nat) : Int) = (den e % 18446744073709551616 : Nat) := wrap_low (show den e % 18446744073709551616 < 9223372036854775808 by omega)
    have gen : kk (.y 3 e) = .yes → ∃ v, kk v = .yes ∧ ∀ μ x', VR μ (.y 11 e) x' → ∃ v', VR μ v v' ∧ ∀ w, (convert src dst x').run P w = .ok v' w := fun hy => by
      refine ⟨_, hy, fun μ x' hx => ⟨_, ?_, core μ x' hx⟩⟩
      have := VR.y (μ := μ) .i64 e
      rw [hw] at this
      exact this
    cases e with
    | var i => exact gen h6
    | op c w a b => exact gen h6
    | lit n =>
      have h6 : kk (.n 3 n) = .yes := h6
      have hb := ble_iff.1 (inv_if (show (Bool.rec (motive := fun _ => Ans) Ans.no _ (Nat.ble n 9007199254740991)) = .yes from h3)).1
      refine ⟨_, h6, fun μ x' hx => ⟨_, ?_, core μ x' hx⟩⟩
      have hn : den (.lit n) % 18446744073709551616 = n := Nat.mod_eq_of_lt (show n < 18446744073709551616 by omega)
      have := VR.n (μ := μ) .i64 n (show n < 18446744073709551616 by omega)
      rw [wrap_low (show n < 9223372036854775808 by omega)] at this
      rw [hn]
      exact this
  | _ => cases h
end
end
end Go.Proofs.YteefpemaeecicaaGreatDoor.Ev
end
