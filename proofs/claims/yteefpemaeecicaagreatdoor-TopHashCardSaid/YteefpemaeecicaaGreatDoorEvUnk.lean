/- Operations on numbers of which some are not known. No condition but what is taken (Holds). -/
import Derived.Test.YteefpemaeecicaaGreatDoorEvRows
import Derived.Test.YteefpemaeecicaaGreatDoorEvNums
section
open Go
namespace Go.Proofs.YteefpemaeecicaaGreatDoor.Ev
set_option linter.unusedVariables false
set_option linter.unusedSimpArgs false
set_option linter.constructorNameAsVariable false
noncomputable section
theorem kmN_kc (k : IntKind) : kmN (kc k) = km k := by cases k <;> rfl
theorem khN_kc (k : IntKind) : khN (kc k) = kh k := by cases k <;> rfl
theorem ksg_kc (k : IntKind) : (kc k < 4) ↔ ksg k = true := by cases k <;> decide
theorem VR.yk_inv [Rho] {μ : Mp} {k : IntKind} {e : Ex} {v : Value} (h : VR μ (.y (kc k) e) v) : v = .int k (k.wrap (den e % km k : Nat)) := by
  rcases h.y_inv with ⟨k', h1, h2⟩ | ⟨h1, _⟩ | ⟨h1, _⟩ | ⟨h1, _⟩ | ⟨h1, _⟩ | h1
  · cases kc_inj h1; exact h2
  · have := kc_lt k; omega
  · have := kc_lt k; omega
  · have := kc_lt k; omega
  · have := kc_lt k; omega
  · have := kc_lt k; omega
/-- A number, known or not, as an expression. -/
theorem exK_num [Rho] {k : IntKind} {x : AV} {g : Ex → Ans} (h : exK (kc k) x g = .yes) : ∃ e, g e = .yes ∧ ∀ μ v, VR μ x v → v = .int k (k.wrap (den e % km k : Nat)) ∧ ∀ μ', VR μ' (.n (kc k) (den e % km k)) v := by
  have fin : ∀ (e : Ex) (v : Value), v = .int k (k.wrap (den e % km k : Nat)) → ∀ μ', VR μ' (.n (kc k) (den e % km k)) v := fun e v hv μ' => by rw [hv]; exact .n k _ (Nat.mod_lt _ (km_pos k))
  obtain ⟨e, h1, h2⟩ := exK_yes h
  refine ⟨e, h1, fun μ v hv => ?_⟩
  rcases h2 with ⟨z, rfl, rfl⟩ | rfl
  · obtain ⟨q1, q2⟩ := hv.kn_inv
    have : den (.lit z) % km k = z := Nat.mod_eq_of_lt q1
    exact ⟨by rw [this]; exact q2, fin _ _ (by rw [this]; exact q2)⟩
  · exact ⟨hv.yk_inv, fin _ _ hv.yk_inv⟩
def onlyA (u v : AV) : Ans := @ite _ (v = u) (Classical.propDecidable _) Ans.yes Ans.no
theorem onlyA_yes {u v : AV} (h : onlyA u v = .yes) : v = u := by
  unfold onlyA at h
  split at h
  · assumption
  · cases h
theorem onlyA_self (u : AV) : onlyA u u = .yes := by unfold onlyA; rw [if_pos rfl]
theorem kinds_self (z N J : Nat) (hz : z < N) : Nat.ble (Nat.succ (Nat.add z (Nat.mul N (Nat.add (Nat.xor J J) (Nat.xor J J))))) N = true := by
  have : Nat.xor J J = 0 := Nat.xor_self J
  rw [this]; exact ble_iff.2 hz
theorem fArith_n {F : Nat → Nat → Nat} {k : IntKind} (a b : Nat) (kk : AV → Ans) : fArith F (kc k) (km k) (.n (kc k) a) (.n (kc k) b) kk = kk (.n (kc k) (F a b % km k)) := by
  show (Bool.rec (motive := fun _ => Ans) Ans.no (kk (.n (kc k) (F a b % km k))) (Nat.ble (Nat.succ (Nat.add (F a b % km k) (Nat.mul (km k) (Nat.add (Nat.xor (kc k) (kc k)) (Nat.xor (kc k) (kc k)))))) (km k))) = _
  rw [kinds_self _ _ _ (Nat.mod_lt _ (km_pos k))]
theorem fCmp_n {F : Nat → Nat → Bool} {k : IntKind} (a b : Nat) (kk : AV → Ans) : fCmp F (kc k) (.n (kc k) a) (.n (kc k) b) kk = kk (.b (F a b)) := by
  show (Bool.rec (motive := fun _ => Ans) Ans.no (kk (.b (F a b))) (Nat.beq (Nat.add (Nat.xor (kc k) (kc k)) (Nat.xor (kc k) (kc k))) 0)) = _
  have : Nat.xor (kc k) (kc k) = 0 := Nat.xor_self _
  rw [this]; rfl
theorem fShift_n {F : Nat → Nat → Nat} {k : IntKind} (a j b : Nat) (hb : b ≤ 100) (kk : AV → Ans) : fShift F (kc k) (km k) (.n (kc k) a) (.n j b) kk = kk (.n (kc k) (F a b % km k)) := by
  show (Bool.rec (motive := fun _ => Ans) Ans.no (Bool.rec (motive := fun _ => Ans) Ans.no (kk (.n (kc k) (F a b % km k))) (Nat.ble (Nat.succ (Nat.add (F a b % km k) (Nat.mul (km k) (Nat.xor (kc k) (kc k))))) (km k))) (Nat.ble b 100)) = _
  have h1 : Nat.xor (kc k) (kc k) = 0 := Nat.xor_self _
  have h2 : Nat.ble (Nat.succ (Nat.add (F a b % km k) (Nat.mul (km k) (Nat.xor (kc k) (kc k))))) (km k) = true := by rw [h1]; exact ble_iff.2 (Nat.mod_lt _ (km_pos k))
  rw [ble_iff.2 hb, h2]
theorem fDiv_n {F : Nat → Nat → Nat} {k : IntKind} (a b : Nat) (hb : b ≠ 0) (kk : AV → Ans) : fDiv F (kc k) (km k) (.n (kc k) a) (.n (kc k) b) kk = kk (.n (kc k) (F a b % km k)) := by
  show (Bool.rec (motive := fun _ => Ans) (Bool.rec (motive := fun _ => Ans) Ans.no (kk (.n (kc k) (F a b % km k))) (Nat.ble (Nat.succ (Nat.add (F a b % km k) (Nat.mul (km k) (Nat.add (Nat.xor (kc k) (kc k)) (Nat.xor (kc k) (kc k)))))) (km k))) Ans.no (Nat.beq b 0)) = _
  have h0 : Nat.beq b 0 = false := by cases h : Nat.beq b 0 with | false => rfl | true => exact (hb (beq_iff.1 h)).elim
  rw [h0, kinds_self _ _ _ (Nat.mod_lt _ (km_pos k))]
theorem fNum_n {F : Nat → Nat} {k k' : IntKind} (a : Nat) (kk : AV → Ans) : fNum F (kc k) (kc k') (km k') (.n (kc k) a) kk = kk (.n (kc k') (F a % km k')) := by
  show (Bool.rec (motive := fun _ => Ans) Ans.no (kk (.n (kc k') (F a % km k'))) (Nat.ble (Nat.succ (Nat.add (F a % km k') (Nat.mul (km k') (Nat.xor (kc k) (kc k))))) (km k'))) = _
  have h1 : Nat.xor (kc k) (kc k) = 0 := Nat.xor_self _
  have h2 : Nat.ble (Nat.succ (Nat.add (F a % km k') (Nat.mul (km k') (Nat.xor (kc k) (kc k))))) (km k') = true := by rw [h1]; exact ble_iff.2 (Nat.mod_lt _ (km_pos k'))
  rw [h2]
section
variable {P : Program}
/-- A known result of a law on known numbers, said of an expression. -/
theorem VR.n_y [Rho] {μ : Mp} {k : IntKind} {u : Nat} {e : Ex} {v : Value} (h : VR μ (.n (kc k) u) v) (he : den e % km k = u) : VR μ (.y (kc k) e) v := by
  obtain ⟨_, rfl⟩ := h.kn_inv
  have := VR.y (μ := μ) k e
  rw [he] at this
  exact this
theorem arithY_slow [Rho] {c : Nat} {k : IntKind} {F : Nat → Nat → Nat} {g : Value → Value → Sem Value} (h0 : P2 P (fArith F (kc k) (km k)) g)
    (hF : ∀ a b : Nat, exF c (kc k) a b % km k = F a b % km k) {x y : AV} {kk : AV → Ans} (h : arithY c (kc k) (kc k) x y kk = .yes) :
    ∃ v, kk v = .yes ∧ ∀ μ x' y', VR μ x x' → VR μ y y' → ∃ v', VR μ v v' ∧ ∀ w, (g x' y').run P w = .ok v' w := by
  obtain ⟨ex, h1, h2⟩ := exK_num (k := k) h
  obtain ⟨ey, h3, h4⟩ := exK_num (k := k) h1
  refine ⟨_, h3, fun μ x' y' hx hy => ?_⟩
  obtain ⟨v, q1, q2⟩ := h0 (.n (kc k) (den ex % km k)) (.n (kc k) (den ey % km k)) (onlyA (.n (kc k) (F (den ex % km k) (den ey % km k) % km k))) (by rw [fArith_n]; exact onlyA_self _)
  obtain ⟨v', q3, q4⟩ := q2 μ x' y' ((h2 μ x' hx).2 μ) ((h4 μ y' hy).2 μ)
  rw [onlyA_yes q1] at q3
  refine ⟨v', q3.n_y ?_, q4⟩
  show exF c (kc k) (den ex % kmN (kc k)) (den ey % kmN (kc k)) % km k = _
  rw [kmN_kc, hF]
theorem arithY_p2 [Rho] {c : Nat} {k : IntKind} {F : Nat → Nat → Nat} {g : Value → Value → Sem Value} (h0 : P2 P (fArith F (kc k) (km k)) g)
    (hF : ∀ a b : Nat, exF c (kc k) a b % km k = F a b % km k) : P2 P (fArithY c (kc k) F (kc k) (km k)) g := by
  intro x y kk h
  rcases inv_ny h with ⟨j, a, rfl, h1⟩ | ⟨j, e, rfl, h1⟩
  · rcases inv_ny h1 with ⟨j', b, rfl, h2⟩ | ⟨j', e', rfl, h2⟩
    · exact h0 _ _ kk h
    · exact arithY_slow h0 hF h2
  · exact arithY_slow h0 hF h1
theorem shiftY_p2 [Rho] {c : Nat} {k : IntKind} {F : Nat → Nat → Nat} {g : Value → Value → Sem Value} (h0 : P2 P (fShift F (kc k) (km k)) g)
    (hF : ∀ a b : Nat, b < 256 → exF c (kc k) a b % km k = F a b % km k) : P2 P (fShiftY c (kc k) F (kc k) (km k)) g := by
  intro x y kk h
  rcases inv_ny h with ⟨j, a, rfl, h1⟩ | ⟨j, e, rfl, h1⟩
  · exact h0 _ _ kk h1
  · obtain ⟨j', b, rfl, h2⟩ := inv_n h1
    obtain ⟨hb, h3⟩ := inv_if h2
    have hb := ble_iff.1 hb
    obtain ⟨ex, h4, h5⟩ := exK_num (k := k) h3
    refine ⟨_, h4, fun μ x' y' hx hy => ?_⟩
    obtain ⟨v, q1, q2⟩ := h0 (.n (kc k) (den ex % km k)) (.n j' b) (onlyA (.n (kc k) (F (den ex % km k) b % km k))) (by rw [fShift_n _ _ _ hb]; exact onlyA_self _)
    obtain ⟨v', q3, q4⟩ := q2 μ x' y' ((h5 μ x' hx).2 μ) hy
    rw [onlyA_yes q1] at q3
    refine ⟨v', q3.n_y ?_, q4⟩
    show exF c (kc k) (den ex % kmN (kc k)) (b % kmN (kc k)) % km k = _
    have h100 := kh_big k
    have h2k := kh_two k
    rw [kmN_kc, Nat.mod_eq_of_lt (show b < km k by omega), hF _ _ (by omega)]
theorem divY_p2 [Rho] {c : Nat} {k : IntKind} {F : Nat → Nat → Nat} {g : Value → Value → Sem Value} (h0 : P2 P (fDiv F (kc k) (km k)) g)
    (hF : ∀ a b : Nat, exF c (kc k) a b % km k = F a b % km k) : P2 P (fDivY c (kc k) F (kc k) (km k)) g := by
  intro x y kk h
  rcases inv_ny h with ⟨j, a, rfl, h1⟩ | ⟨j, e, rfl, h1⟩
  · exact h0 _ _ kk h1
  · obtain ⟨j', b, rfl, h2⟩ := inv_n h1
    obtain ⟨hb, h3⟩ := inv_if h2
    obtain ⟨hb1, hb2⟩ := and_eq.1 hb
    have hb1 := beq_iff.1 hb1
    subst hb1
    have hb0 : b ≠ 0 := fun e => by subst e; cases hb2
    obtain ⟨ex, h4, h5⟩ := exK_num (k := k) h3
    refine ⟨_, h4, fun μ x' y' hx hy => ?_⟩
    obtain ⟨v, q1, q2⟩ := h0 (.n (kc k) (den ex % km k)) (.n (kc k) b) (onlyA (.n (kc k) (F (den ex % km k) b % km k))) (by rw [fDiv_n _ _ hb0]; exact onlyA_self _)
    obtain ⟨v', q3, q4⟩ := q2 μ x' y' ((h5 μ x' hx).2 μ) hy
    have hlt := hy.kn_inv.1
    rw [onlyA_yes q1] at q3
    refine ⟨v', q3.n_y ?_, q4⟩
    show exF c (kc k) (den ex % kmN (kc k)) (b % kmN (kc k)) % km k = _
    rw [kmN_kc, Nat.mod_eq_of_lt hlt, hF]
theorem numY_p1 [Rho] {c : Nat} {k k' : IntKind} {F : Nat → Nat} {g : Value → Sem Value} (h0 : P1 P (fNum F (kc k) (kc k') (km k')) g)
    (hF : ∀ a : Nat, exF c (kc k) a 0 % km k' = F a % km k') : P1 P (fNumY c (kc k) F (kc k) (kc k') (km k')) g := by
  intro x kk h
  rcases inv_ny h with ⟨j, a, rfl, h1⟩ | ⟨j, e, rfl, h1⟩
  · exact h0 _ kk h
  · obtain ⟨hj, h2⟩ := inv_if h1
    have hj := beq_iff.1 hj
    subst hj
    refine ⟨_, h2, fun μ x' hx => ?_⟩
    obtain ⟨v, q1, q2⟩ := h0 (.n (kc k) (den e % km k)) (onlyA (.n (kc k') (F (den e % km k) % km k'))) (by rw [fNum_n]; exact onlyA_self _)
    obtain ⟨v', q3, q4⟩ := q2 μ x' (by rw [hx.yk_inv]; exact .n k _ (Nat.mod_lt _ (km_pos k)))
    rw [onlyA_yes q1] at q3
    refine ⟨v', q3.n_y ?_, q4⟩
    show exF c (kc k) (den e % kmN (kc k)) (0 % kmN (kc k)) % km k' = _
    rw [kmN_kc, Nat.zero_mod, hF]
/-! ### Comparisons -/
theorem ebeq {a : Ex} : ∀ {b : Ex}, eqE a b = true → a = b := by
  induction a with
  | var i => intro b h; cases b with
    | var j => rw [beq_iff.1 (show Nat.beq i j = true from h)]
    | _ => cases h
  | lit n => intro b h; cases b with
    | lit m => rw [beq_iff.1 (show Nat.beq n m = true from h)]
    | _ => cases h
  | op c w x y ihx ihy => intro b h; cases b with
    | op c' w' x' y' =>
      have h' : and_ (Nat.beq c c') (and_ (Nat.beq w w') (and_ (eqE x x') (eqE y y'))) = true := h
      obtain ⟨h1, h2⟩ := and_eq.1 h'
      obtain ⟨h3, h4⟩ := and_eq.1 h2
      obtain ⟨h5, h6⟩ := and_eq.1 h4
      rw [beq_iff.1 h1, beq_iff.1 h3, ihx h5, ihy h6]
    | _ => cases h
theorem askK_yes {l : List As} {c j : Nat} {x y : Ex} {g : Bool → Ans} (h : askK l c j x y g = .yes) : ∃ a ∈ l, a.c = c ∧ a.j = j ∧ a.x = x ∧ a.y = y ∧ g a.b = .yes := by
  induction l with
  | nil => cases h
  | cons a l ih =>
    obtain ⟨c', j', x', y', b'⟩ := a
    have h' : (Bool.rec (motive := fun _ => Ans) (askK l c j x y g) (g b') (and_ (Nat.beq c c') (and_ (Nat.beq j j') (and_ (eqE x x') (eqE y y'))))) = .yes := h
    rcases inv_bif h' with ⟨h1, h2⟩ | ⟨_, h2⟩
    · obtain ⟨h3, h4⟩ := and_eq.1 h1
      obtain ⟨h5, h6⟩ := and_eq.1 h4
      obtain ⟨h7, h8⟩ := and_eq.1 h6
      exact ⟨_, List.mem_cons_self, (beq_iff.1 h3).symm, (beq_iff.1 h5).symm, (ebeq h7).symm, (ebeq h8).symm, h2⟩
    · obtain ⟨a, ha, h3⟩ := ih h2
      exact ⟨a, List.mem_cons_of_mem _ ha, h3⟩
theorem is32_range [Rho] {x : Ex} (h : is32 x = true) : den x % 18446744073709551616 < 2147483648 ∨ 18446744071562067968 ≤ den x % 18446744073709551616 := by
  cases x with
  | var i => cases h
  | lit n => cases h
  | op c w a b =>
    obtain ⟨h1, h2⟩ := and_eq.1 (show and_ (Nat.beq c 23) (Nat.beq w 2) = true from h)
    have h1 := beq_iff.1 h1
    have h2 := beq_iff.1 h2
    subst h1; subst h2
    have hd : den (.op 23 2 a b) = sExt 2147483648 4294967296 18446744073709551616 (den a % 4294967296) := rfl
    rw [hd]
    have hu : den a % 4294967296 < 4294967296 := Nat.mod_lt _ (by omega)
    generalize den a % 4294967296 = u at hu
    unfold sExt
    by_cases hl : u < 2147483648
    · rw [show Nat.ble (Nat.succ u) 2147483648 = true from ble_iff.2 hl]
      left
      show u % 18446744073709551616 < _
      omega
    · rw [show Nat.ble (Nat.succ u) 2147483648 = false by cases hb : Nat.ble (Nat.succ u) 2147483648 with | false => rfl | true => exact (hl (ble_iff.1 hb)).elim]
      right
      show _ ≤ (u + (18446744073709551616 - 4294967296)) % 18446744073709551616
      omega
theorem ltN3 (a b : Nat) : ltN 3 a b = decide ((a + 9223372036854775808) % 18446744073709551616 < (b + 9223372036854775808) % 18446744073709551616) := by
  rw [Bool.eq_iff_iff, decide_eq_true_eq]
  show Nat.ble (Nat.succ ((a + 9223372036854775808) % 18446744073709551616)) ((b + 9223372036854775808) % 18446744073709551616) = true ↔ _
  rw [ble_iff]; rfl
theorem farK_yes {X n c : Nat} (hX : X < 2147483648 ∨ 18446744071562067968 ≤ X) (hX2 : X < 18446744073709551616) (hc : c ≤ 5) {g : Bool → Ans} {no : Ans} (h : farK (far32 n) c g no = .yes) :
    (∃ b, g b = .yes ∧ cmpD c 3 X (n % 18446744073709551616) = b) ∨ no = .yes := by
  unfold farK far32 at h
  simp only [bif_eq, ble_iff, beq_iff, or_eq, and_eq] at h
  have hl := ltN3 X (n % 18446744073709551616)
  have hr := ltN3 (n % 18446744073709551616) X
  have fin : ∀ (p q e : Bool), ltN 3 X (n % 18446744073709551616) = p → ltN 3 (n % 18446744073709551616) X = q → Nat.beq X (n % 18446744073709551616) = e → cmpD c 3 X (n % 18446744073709551616) = (match c with | 0 => e | 1 => not_ e | 2 => p | 3 => not_ q | 4 => q | _ => not_ p) := by
    intro p q e hp hq he
    subst hp; subst hq; subst he
    rcases c with _ | _ | _ | _ | _ | c <;> rfl
  have neq : X ≠ n % 18446744073709551616 → Nat.beq X (n % 18446744073709551616) = false := fun hh => by cases hb : Nat.beq X (n % 18446744073709551616) with | false => rfl | true => exact (hh (beq_iff.1 hb)).elim
  have hc' : c = 0 ∨ c = 1 ∨ c = 2 ∨ c = 3 ∨ c = 4 ∨ c = 5 := by omega
  by_cases h1 : n ≤ 2147483646
  · simp [h1] at h; exact .inr h
  by_cases h2 : n ≤ 2147483647
  · -- the greatest
    simp [h1, h2] at h
    have e1 : ltN 3 (n % 18446744073709551616) X = false := by rw [hr, decide_eq_false_iff_not]; omega
    rcases hc' with rfl | rfl | rfl | rfl | rfl | rfl <;> simp at h
    · exact .inr h
    · exact .inr h
    · exact .inr h
    · exact .inl ⟨true, h, by rw [show cmpD 3 3 X (n % 18446744073709551616) = not_ (ltN 3 (n % 18446744073709551616) X) from rfl, e1]; rfl⟩
    · exact .inl ⟨false, h, e1⟩
    · exact .inr h
  by_cases h3 : n ≤ 9223372036854775807
  · simp [h1, h2, h3] at h
    have e1 : ltN 3 X (n % 18446744073709551616) = true := by rw [hl, decide_eq_true_eq]; omega
    have e2 : ltN 3 (n % 18446744073709551616) X = false := by rw [hr, decide_eq_false_iff_not]; omega
    have e3 := neq (by omega)
    have f := fin _ _ _ e1 e2 e3
    rcases hc' with rfl | rfl | rfl | rfl | rfl | rfl <;> simp at h <;> exact .inl ⟨_, h, f⟩
  by_cases h4 : n ≤ 18446744071562067967
  · simp [h1, h2, h3, h4] at h
    have e1 : ltN 3 X (n % 18446744073709551616) = false := by rw [hl, decide_eq_false_iff_not]; omega
    have e2 : ltN 3 (n % 18446744073709551616) X = true := by rw [hr, decide_eq_true_eq]; omega
    have e3 := neq (by omega)
    have f := fin _ _ _ e1 e2 e3
    rcases hc' with rfl | rfl | rfl | rfl | rfl | rfl <;> simp at h <;> exact .inl ⟨_, h, f⟩
  by_cases h5 : n = 18446744071562067968
  · simp [h1, h2, h3, h4, h5] at h
    have e1 : ltN 3 X (n % 18446744073709551616) = false := by rw [hl, decide_eq_false_iff_not]; omega
    rcases hc' with rfl | rfl | rfl | rfl | rfl | rfl <;> simp at h
    · exact .inr h
    · exact .inr h
    · exact .inl ⟨false, h, e1⟩
    · exact .inr h
    · exact .inr h
    · exact .inl ⟨true, h, by rw [show cmpD 5 3 X (n % 18446744073709551616) = not_ (ltN 3 X (n % 18446744073709551616)) from rfl, e1]; rfl⟩
  · simp [h1, h2, h3, h4, h5] at h; exact .inr h
theorem cmpK_yes [Rho] {l : List As} (hA : Holds l) {c : Nat} {k : IntKind} (hc : c ≤ 5) {x y : Ex} {g : Bool → Ans} (h : cmpK l c (kc k) x y g = .yes) : ∃ b, g b = .yes ∧ cmpD c (kc k) (den x % km k) (den y % km k) = b := by
  have ask : askK l c (kc k) x y g = .yes → ∃ b, g b = .yes ∧ cmpD c (kc k) (den x % km k) (den y % km k) = b := fun h => by
    obtain ⟨a, ha, h1, h2, h3, h4, h5⟩ := askK_yes h
    have := hA a ha
    rw [h1, h2, h3, h4, kmN_kc] at this
    exact ⟨_, h5, this⟩
  unfold cmpK at h
  rw [bif_eq] at h
  split at h
  · rename_i h1
    obtain ⟨h2, h3⟩ := and_eq.1 h1
    have h2 := beq_iff.1 h2
    have hk : k = .i64 := by cases k <;> first | rfl | cases h2
    subst hk
    cases y with
    | var i => exact ask h
    | op c w a b => exact ask h
    | lit n =>
      rcases farK_yes (is32_range h3) (Nat.mod_lt _ (by omega)) hc h with ⟨b, h4, h5⟩ | h4
      · exact ⟨b, h4, h5⟩
      · exact ask h4
  · exact ask h
theorem cmpY_p2 [Rho] {l : List As} (hA : Holds l) {c : Nat} (hc : c ≤ 5) {k : IntKind} {F : Nat → Nat → Bool} {g : Value → Value → Sem Value} (h0 : P2 P (fCmp F (kc k)) g)
    (hF : ∀ a b : Nat, cmpD c (kc k) a b = F a b) : P2 P (fCmpY l c F (kc k)) g := by
  intro x y kk h
  have slow : (exK (kc k) x fun ex => exK (kc k) y fun ey => cmpK l c (kc k) ex ey fun b => kk (.b b)) = .yes → ∃ v, kk v = .yes ∧ ∀ μ x' y', VR μ x x' → VR μ y y' → ∃ v', VR μ v v' ∧ ∀ w, (g x' y').run P w = .ok v' w := by
    intro h
    obtain ⟨ex, h1, h2⟩ := exK_num (k := k) h
    obtain ⟨ey, h3, h4⟩ := exK_num (k := k) h1
    obtain ⟨b, h5, h6⟩ := cmpK_yes hA hc h3
    refine ⟨_, h5, fun μ x' y' hx hy => ?_⟩
    obtain ⟨v, q1, q2⟩ := h0 (.n (kc k) (den ex % km k)) (.n (kc k) (den ey % km k)) (onlyA (.b (F (den ex % km k) (den ey % km k)))) (by rw [fCmp_n]; exact onlyA_self _)
    obtain ⟨v', q3, q4⟩ := q2 μ x' y' ((h2 μ x' hx).2 μ) ((h4 μ y' hy).2 μ)
    rw [onlyA_yes q1, ← hF, h6] at q3
    exact ⟨v', q3, q4⟩
  rcases inv_ny h with ⟨j, a, rfl, h1⟩ | ⟨j, e, rfl, h1⟩
  · rcases inv_ny h1 with ⟨j', b, rfl, h2⟩ | ⟨j', e', rfl, h2⟩
    · exact h0 _ _ kk h
    · exact slow h2
  · exact slow h1
/-! ### Texts -/
theorem eqE_self : ∀ e, eqE e e = true
  | .var i => beq_iff.2 rfl
  | .lit n => beq_iff.2 rfl
  | .op c w a b => and_eq.2 ⟨beq_iff.2 rfl, and_eq.2 ⟨beq_iff.2 rfl, and_eq.2 ⟨eqE_self a, eqE_self b⟩⟩⟩
theorem strY_p2 [Rho] {neg : Bool} {g : Value → Value → Sem Value} (h0 : P2 P (fStr fun a b => if neg then not_ (eqL a b) else eqL a b) g)
    (hg : ∀ (s : ByteArray), ∃ v', (∀ μ, VR μ (.b (not_ neg)) v') ∧ ∀ w, (g (.string s) (.string s)).run P w = .ok v' w) : P2 P (fStrY neg) g := by
  intro x y kk h
  rcases inv_sy h with ⟨a, rfl, h1⟩ | ⟨j, e, rfl, h1⟩
  · obtain ⟨b, rfl, h2⟩ := inv_s h1
    refine h0 (.s a) (.s b) kk ?_
    show (Bool.rec (motive := fun _ => Ans) (kk (.b false)) (kk (.b true)) (if neg then not_ (eqL a b) else eqL a b)) = .yes
    have h2 : (Bool.rec (motive := fun _ => Ans) (kk (.b true)) (kk (.b false)) (eqB neg (eqL a b))) = .yes := h2
    revert h2
    cases neg <;> cases eqL a b <;> exact id
  · obtain ⟨j', e', rfl, h2⟩ := inv_y h1
    obtain ⟨h3, h4⟩ := inv_if h2
    obtain ⟨h5, h6⟩ := and_eq.1 h3
    obtain ⟨h7, h8⟩ := and_eq.1 h6
    have h5 := beq_iff.1 h5
    have h7 := beq_iff.1 h7
    have h8 := ebeq h8
    subst h5; subst h7; subst h8
    refine ⟨_, h4, fun μ x' y' hx hy => ?_⟩
    rw [hx.y9_inv, hy.y9_inv]
    obtain ⟨v', q1, q2⟩ := hg (bstr (dl (exList e)))
    exact ⟨v', q1 μ, q2⟩
section
variable {P : Program} {t : TypeId} {ox oy : Operand}
theorem add_p2Y [Rho] (k : IntKind) : P2 P (fArithY 0 (kc k) (fun a b => Nat.add a b) (kc k) (km k)) (bin2 .add t ox oy) := arithY_p2 (add_p2 k) fun a b => rfl
theorem sub_p2Y [Rho] (k : IntKind) : P2 P (fArithY 1 (kc k) (fun a b => Nat.add a (Nat.sub (km k) b)) (kc k) (km k)) (bin2 .sub t ox oy) := arithY_p2 (sub_p2 k) fun a b => by
  show (a + (kmN (kc k) - b)) % km k = _
  rw [kmN_kc]; rfl
theorem mul_p2Y [Rho] (k : IntKind) : P2 P (fArithY 2 (kc k) (fun a b => Nat.mul a b) (kc k) (km k)) (bin2 .mul t ox oy) := arithY_p2 (mul_p2 k) fun a b => rfl
theorem and_p2Y [Rho] (k : IntKind) : P2 P (fArithY 3 (kc k) (fun a b => Nat.land a b) (kc k) (km k)) (bin2 .and t ox oy) := arithY_p2 (and_p2 k) fun a b => rfl
theorem or_p2Y [Rho] (k : IntKind) : P2 P (fArithY 4 (kc k) (fun a b => Nat.lor a b) (kc k) (km k)) (bin2 .or t ox oy) := arithY_p2 (or_p2 k) fun a b => rfl
theorem xor_p2Y [Rho] (k : IntKind) : P2 P (fArithY 5 (kc k) (fun a b => Nat.xor a b) (kc k) (km k)) (bin2 .xor t ox oy) := arithY_p2 (xor_p2 k) fun a b => rfl
theorem andNot_p2Y [Rho] (k : IntKind) : P2 P (fArithY 6 (kc k) (fun a b => Nat.land a (Nat.xor b (Nat.sub (km k) 1))) (kc k) (km k)) (bin2 .andNot t ox oy) := arithY_p2 (andNot_p2 k) fun a b => by
  show Nat.land a (Nat.xor b (kmN (kc k) - 1)) % km k = _
  rw [kmN_kc]; rfl
theorem shl_p2Y [Rho] (k : IntKind) : P2 P (fShiftY 7 (kc k) (fun a b => Nat.mul a (Nat.pow 2 b)) (kc k) (km k)) (bin2 .shl t ox oy) := shiftY_p2 (shl_p2 k) fun a b _ => rfl
theorem shr_p2Y [Rho] (k : IntKind) : P2 P (fShiftY 8 (kc k) (shrOf k) (kc k) (km k)) (bin2 .shr t ox oy) := shiftY_p2 (shr_p2 k) fun a b _ => by cases k <;> rfl
theorem quo_p2Y [Rho] (k : IntKind) : P2 P (fDivY 9 (kc k) (quoOf k) (kc k) (km k)) (bin2 .quo t ox oy) := divY_p2 (quo_p2 k) fun a b => by cases k <;> rfl
theorem rem_p2Y [Rho] (k : IntKind) : P2 P (fDivY 10 (kc k) (remOf k) (kc k) (km k)) (bin2 .rem t ox oy) := divY_p2 (rem_p2 k) fun a b => by cases k <;> rfl
theorem eql_p2Y [Rho] {l : List As} (hA : Holds l) (k : IntKind) : P2 P (fCmpY l 0 (fun a b => Nat.beq a b) (kc k)) (bin2 .eql t ox oy) := cmpY_p2 hA (by omega) (eql_p2 k) fun a b => rfl
theorem neq_p2Y [Rho] {l : List As} (hA : Holds l) (k : IntKind) : P2 P (fCmpY l 1 (fun a b => not_ (Nat.beq a b)) (kc k)) (bin2 .neq t ox oy) := cmpY_p2 hA (by omega) (neq_p2 k) fun a b => rfl
theorem lss_p2Y [Rho] {l : List As} (hA : Holds l) (k : IntKind) : P2 P (fCmpY l 2 (ltOf k) (kc k)) (bin2 .lss t ox oy) := cmpY_p2 hA (by omega) (lss_p2 k) fun a b => by cases k <;> rfl
theorem leq_p2Y [Rho] {l : List As} (hA : Holds l) (k : IntKind) : P2 P (fCmpY l 3 (fun a b => not_ (ltOf k b a)) (kc k)) (bin2 .leq t ox oy) := cmpY_p2 hA (by omega) (leq_p2 k) fun a b => by cases k <;> rfl
theorem gtr_p2Y [Rho] {l : List As} (hA : Holds l) (k : IntKind) : P2 P (fCmpY l 4 (fun a b => ltOf k b a) (kc k)) (bin2 .gtr t ox oy) := cmpY_p2 hA (by omega) (gtr_p2 k) fun a b => by cases k <;> rfl
theorem geq_p2Y [Rho] {l : List As} (hA : Holds l) (k : IntKind) : P2 P (fCmpY l 5 (fun a b => not_ (ltOf k a b)) (kc k)) (bin2 .geq t ox oy) := cmpY_p2 hA (by omega) (geq_p2 k) fun a b => by cases k <;> rfl
theorem neg_p1Y [Rho] (k : IntKind) : P1 P (fNumY 11 (kc k) (fun a => Nat.sub (km k) a) (kc k) (kc k) (km k)) (fun x => Op.unary .neg x) := numY_p1 (neg_p1 k) fun a => by
  show (kmN (kc k) - a) % km k = _
  rw [kmN_kc]; rfl
theorem com_p1Y [Rho] (k : IntKind) : P1 P (fNumY 12 (kc k) (fun a => Nat.xor a (Nat.sub (km k) 1)) (kc k) (kc k) (km k)) (fun x => Op.unary .xor x) := numY_p1 (com_p1 k) fun a => by
  show Nat.xor a (kmN (kc k) - 1) % km k = _
  rw [kmN_kc]; rfl
theorem conv_p1Y [Rho] {src dst : TypeId} (i j : IntKind) (hs : P.underlying src = some (.int i)) (hd : P.underlying dst = some (.int j)) :
    P1 P (fNumY (20 + kc j) (kc i) (if ksg i && km i < km j then sExt (kh i) (km i) (km j) else fun a => a) (kc i) (kc j) (km j)) (fun x => convert src dst x) := numY_p1 (conv_p1 i j hs hd) fun a => by cases i <;> cases j <;> rfl
theorem eqlS_p2Y [Rho] : P2 P (fStrY false) (bin2 .eql t ox oy) := strY_p2 eqlS_p2 fun s => ⟨.bool true, fun μ => .b true, fun w => by simp [bin2, eqGuard_at_string, binOp, Op.stringOp]⟩
theorem neqS_p2Y [Rho] : P2 P (fStrY true) (bin2 .neq t ox oy) := strY_p2 neqS_p2 fun s => ⟨.bool false, fun μ => .b false, fun w => by simp [bin2, eqGuard_at_string, binOp, Op.stringOp]⟩
end
end
end
end Go.Proofs.YteefpemaeecicaaGreatDoor.Ev
end
section
open Go
namespace Go.Proofs.YteefpemaeecicaaGreatDoor.Ev
set_option linter.unusedVariables false
set_option linter.unusedSimpArgs false
set_option linter.constructorNameAsVariable false
noncomputable section
theorem natE_yes [Rho] {z : Int} {g : Ex → Ans} (h : natE z g = .yes) : ∃ e, g e = .yes ∧ ((den e % 18446744073709551616 : Nat) : Int) = z := by
  cases z with
  | negSucc n => cases h
  | ofNat n =>
    have h : natK n (fun n => (Bool.rec (motive := fun _ => Ans) Ans.no (g (.lit n)) (Nat.ble n 9007199254740991))) = .yes := h
    rw [natK_eq] at h
    obtain ⟨h1, h2⟩ := inv_if h
    have h1 := ble_iff.1 h1
    refine ⟨_, h2, ?_⟩
    show ((n % 18446744073709551616 : Nat) : Int) = Int.ofNat n
    rw [Nat.mod_eq_of_lt (by omega)]; rfl
theorem smE_yes [Rho] {tk : List As} (hA : Holds tk) {e : Ex} {g : Unit → Ans} (h : smE tk e g = .yes) : g () = .yes ∧ den e % 18446744073709551616 < 9007199254740992 := by
  have ask : askK tk 2 7 e (.lit 9007199254740992) (fun b => (Bool.rec (motive := fun _ => Ans) Ans.no (g ()) b)) = .yes → g () = .yes ∧ den e % 18446744073709551616 < 9007199254740992 := fun h => by
    obtain ⟨a, ha, h1, h2, h3, h4, h5⟩ := askK_yes h
    obtain ⟨h6, h7⟩ := inv_if h5
    have := hA a ha
    rw [h1, h2, h3, h4, h6] at this
    have h8 : Nat.ble (Nat.succ (den e % 18446744073709551616)) 9007199254740992 = true := this
    exact ⟨h7, ble_iff.1 h8⟩
  cases e with
  | var i => exact ask h
  | op c w a b => exact ask h
  | lit n =>
    obtain ⟨h1, h2⟩ := inv_if h
    have h1 := ble_iff.1 h1
    refine ⟨h2, ?_⟩
    show n % 18446744073709551616 < _
    omega
theorem isZ_yes [Rho] {e : Ex} (h : isZ e = true) : den e = 0 := by
  cases e with
  | var i => cases (show false = true from h)
  | op c w a b => cases (show false = true from h)
  | lit n => exact beq_iff.1 (show Nat.beq n 0 = true from h)
theorem addE_den [Rho] (x y : Ex) : den (addE x y) % 18446744073709551616 = (den x % 18446744073709551616 + den y % 18446744073709551616) % 18446744073709551616 := by
  unfold addE
  rw [bif_eq]
  split
  · rename_i h; rw [isZ_yes h]; omega
  · rw [bif_eq]
    split
    · rename_i h; rw [isZ_yes h]; omega
    · rfl
theorem cplxK_yes [Rho] {v : AV} {g : Ex → Ex → Ans} (h : cplxK v g = .yes) : ∃ a b, g a b = .yes ∧ ∀ μ x, VR μ v x → VR μ (.c (den a % 18446744073709551616 : Nat) (den b % 18446744073709551616 : Nat)) x := by
  cases v with
  | c a b =>
    have h : natE a (fun a => natE b fun b => g a b) = .yes := h
    obtain ⟨ea, h1, h2⟩ := natE_yes h
    obtain ⟨eb, h3, h4⟩ := natE_yes h1
    exact ⟨ea, eb, h3, fun μ x hx => by rw [h2, h4]; exact hx⟩
  | y j e =>
    obtain ⟨h1, h2⟩ := inv_if h
    have h1 := beq_iff.1 h1
    subst h1
    cases e with
    | var i => cases h2
    | lit n => cases h2
    | op c w a b =>
      refine ⟨a, b, h2, fun μ x hx => ?_⟩
      rcases hx.y_inv with ⟨k, h1, _⟩ | ⟨h1, _⟩ | ⟨h1, _⟩ | ⟨h1, _⟩ | ⟨_, e1, e2, p, q, he, rfl, f1, f2⟩ | h1
      · have := kc_lt k; omega
      · omega
      · omega
      · omega
      · cases he
        exact .c _ _ p q f1 f2
      · omega
  | _ => cases h
theorem floK_yes [Rho] {v : AV} {g : Ex → Ans} (h : floK v g = .yes) : ∃ a, g a = .yes ∧ ∀ μ x, VR μ v x → VR μ (.f (den a % 18446744073709551616 : Nat)) x := by
  cases v with
  | f a =>
    obtain ⟨ea, h1, h2⟩ := natE_yes (show natE a g = .yes from h)
    exact ⟨ea, h1, fun μ x hx => by rw [h2]; exact hx⟩
  | y j e =>
    obtain ⟨h1, h2⟩ := inv_if h
    have h1 := beq_iff.1 h1
    subst h1
    refine ⟨e, h2, fun μ x hx => ?_⟩
    rcases hx.y_inv with ⟨k, h1, _⟩ | ⟨h1, _⟩ | ⟨h1, _⟩ | ⟨_, p, rfl, f1⟩ | ⟨h1, _⟩ | h1
    · have := kc_lt k; omega
    · omega
    · omega
    · exact .f _ p f1
    · omega
    · omega
  | _ => cases h
theorem VR.yf_inv [Rho] {μ : Mp} {e : Ex} {v : Value} (h : VR μ (.y 11 e) v) : ∃ x, v = .float .f64 x ∧ Flo x (den e % 18446744073709551616 : Nat) := by
  rcases h.y_inv with ⟨k, h1, _⟩ | ⟨h1, _⟩ | ⟨h1, _⟩ | ⟨_, p, rfl, f1⟩ | ⟨h1, _⟩ | h1
  · have := kc_lt k; omega
  · omega
  · omega
  · exact ⟨p, rfl, f1⟩
  · omega
  · omega
theorem VR.yc_inv [Rho] {μ : Mp} {e : Ex} {v : Value} (h : VR μ (.y 10 e) v) : ∃ e1 e2 a b, e = .op 0 0 e1 e2 ∧ v = .complex .f64 a b ∧ Flo a (den e1 % 18446744073709551616 : Nat) ∧ Flo b (den e2 % 18446744073709551616 : Nat) := by
  rcases h.y_inv with ⟨k, h1, _⟩ | ⟨h1, _⟩ | ⟨h1, _⟩ | ⟨h1, _⟩ | ⟨_, e1, e2, p, q, he, rfl, f1, f2⟩ | h1
  · have := kc_lt k; omega
  · omega
  · omega
  · omega
  · exact ⟨e1, e2, p, q, he, rfl, f1, f2⟩
  · omega
theorem smallI_nat {n : Nat} (h : n < 9007199254740992) : smallI (n : Int) = true := ble_iff.2 (show n ≤ 9007199254740991 by omega)
section
variable {P : Program} {t : TypeId} {ox oy : Operand}
theorem cadd_p2Y [Rho] {tk : List As} (hA : Holds tk) : P2 P (fCAddY tk) (bin2 .add t ox oy) := by
  intro x y kk h
  have slow : (cplxK x fun a b => cplxK y fun c d => smE tk a fun _ => smE tk b fun _ => smE tk c fun _ => smE tk d fun _ => smE tk (addE a c) fun _ => smE tk (addE b d) fun _ => kk (.y 10 (.op 0 0 (addE a c) (addE b d)))) = .yes → ∃ v, kk v = .yes ∧ ∀ μ x' y', VR μ x x' → VR μ y y' → ∃ v', VR μ v v' ∧ ∀ w, (bin2 .add t ox oy x' y').run P w = .ok v' w := by
    intro h
    obtain ⟨a, b, h1, q1⟩ := cplxK_yes h
    obtain ⟨c, d, h2, q2⟩ := cplxK_yes h1
    obtain ⟨h3, s1⟩ := smE_yes hA h2
    obtain ⟨h4, s2⟩ := smE_yes hA h3
    obtain ⟨h5, s3⟩ := smE_yes hA h4
    obtain ⟨h6, s4⟩ := smE_yes hA h5
    obtain ⟨h7, s5⟩ := smE_yes hA h6
    obtain ⟨h8, s6⟩ := smE_yes hA h7
    refine ⟨_, h8, fun μ x' y' hx hy => ?_⟩
    have e5 := addE_den a c
    have e6 := addE_den b d
    rw [Nat.mod_eq_of_lt (a := den a % 18446744073709551616 + den c % 18446744073709551616) (by omega)] at e5
    rw [Nat.mod_eq_of_lt (a := den b % 18446744073709551616 + den d % 18446744073709551616) (by omega)] at e6
    generalize hna : den a % 18446744073709551616 = na at *
    generalize hnb : den b % 18446744073709551616 = nb at *
    generalize hnc : den c % 18446744073709551616 = nc at *
    generalize hnd : den d % 18446744073709551616 = nd at *
    have hk : fCAdd (.c (na : Int) (nb : Int)) (.c (nc : Int) (nd : Int)) (onlyA (.c ((na + nc : Nat) : Int) ((nb + nd : Nat) : Int))) = .yes := by
      show okC ((na : Int) + nc) ((nb : Int) + nd) _ = .yes
      unfold okC
      rw [intK_eq, intK_eq]
      have e1 : ((na : Int) + nc) = ((na + nc : Nat) : Int) := by omega
      have e2 : ((nb : Int) + nd) = ((nb + nd : Nat) : Int) := by omega
      rw [e1, e2, smallI_nat (show na + nc < _ by omega), smallI_nat (show nb + nd < _ by omega)]
      exact onlyA_self _
    obtain ⟨v, k1, k2⟩ := cadd_p2 (P := P) (t := t) (ox := ox) (oy := oy) _ _ _ hk
    obtain ⟨v', k3, k4⟩ := k2 μ x' y' (q1 μ x' hx) (q2 μ y' hy)
    rw [onlyA_yes k1] at k3
    obtain ⟨p, q, f1, f2, rfl⟩ := k3.c_inv
    exact ⟨_, .yc _ _ p q (by rw [e5]; exact f1) (by rw [e6]; exact f2), k4⟩
  cases x with
  | c a b => cases y with
    | c c d => exact cadd_p2 (.c a b) (.c c d) kk h
    | y j e => exact slow h
    | _ => cases h
  | y j e => exact slow h
  | _ => cases h
theorem ceq_p2Y [Rho] (neg : Bool) : P2 P (fCEqY neg) (bin2 (eqOp neg) t ox oy) := by
  intro x y kk h
  cases x with
  | c a b => exact ceq_p2 neg _ _ kk h
  | y j e =>
    obtain ⟨j', e', rfl, h2⟩ := inv_y h
    obtain ⟨h3, h4⟩ := inv_if h2
    obtain ⟨h5, h6⟩ := and_eq.1 h3
    obtain ⟨h7, h8⟩ := and_eq.1 h6
    have h5 := beq_iff.1 h5
    have h7 := beq_iff.1 h7
    have h8 := ebeq h8
    subst h5; subst h7; subst h8
    refine ⟨_, h4, fun μ x' y' hx hy => ?_⟩
    obtain ⟨e1, e2, p, q, he, rfl, f1, f2⟩ := hx.yc_inv
    obtain ⟨e1', e2', p', q', he', rfl, f1', f2'⟩ := hy.yc_inv
    rw [he] at he'; cases he'
    have hk : fCEq neg (.c (den e1 % 18446744073709551616 : Nat) (den e2 % 18446744073709551616 : Nat)) (.c (den e1 % 18446744073709551616 : Nat) (den e2 % 18446744073709551616 : Nat)) (onlyA (.b (not_ neg))) = .yes := by
      show (Bool.rec (motive := fun _ => Ans) (onlyA (.b (not_ neg)) (.b true)) (onlyA (.b (not_ neg)) (.b false)) (eqB neg (and_ (eqI _ _) (eqI _ _)))) = .yes
      rw [eqI_eq, eqI_eq, decide_eq_true rfl, decide_eq_true rfl]
      cases neg <;> exact onlyA_self _
    obtain ⟨v, k1, k2⟩ := ceq_p2 (P := P) (t := t) (ox := ox) (oy := oy) neg _ _ _ hk
    obtain ⟨v', k3, k4⟩ := k2 μ _ _ (.c _ _ p q f1 f2) (.c _ _ p' q' f1' f2')
    rw [onlyA_yes k1] at k3
    exact ⟨v', k3, k4⟩
  | _ => cases h
theorem complex_p2Y [Rho] (ts : Array TypeId) (ty : TypeId) : P2 P fComplexY (fun x y => Builtin.complex_ ts ty #[x, y]) := by
  intro x y kk h
  have slow : (floK x fun a => floK y fun b => kk (.y 10 (.op 0 0 a b))) = .yes → ∃ v, kk v = .yes ∧ ∀ μ x' y', VR μ x x' → VR μ y y' → ∃ v', VR μ v v' ∧ ∀ w, (Builtin.complex_ ts ty #[x', y']).run P w = .ok v' w := by
    intro h
    obtain ⟨a, h1, q1⟩ := floK_yes h
    obtain ⟨b, h2, q2⟩ := floK_yes h1
    refine ⟨_, h2, fun μ x' y' hx hy => ?_⟩
    obtain ⟨p, f1, rfl⟩ := (q1 μ x' hx).f_inv
    obtain ⟨q, f2, rfl⟩ := (q2 μ y' hy).f_inv
    exact ⟨_, .yc a b p q f1 f2, fun w => run_complex w ts ty .f64 p q⟩
  cases x with
  | f a => cases y with
    | f b => exact complex_p2 ts ty (.f a) (.f b) kk h
    | y j e => exact slow h
    | _ => cases h
  | y j e => exact slow h
  | _ => cases h
theorem real_p1Y [Rho] (ts : Array TypeId) (ty : TypeId) : P1 P (fRealY false) (fun x => Builtin.real_ ts ty #[x]) := by
  intro x kk h
  cases x with
  | c a b => exact real_p1 ts ty (.c a b) kk h
  | y j e =>
    obtain ⟨h1, h2⟩ := inv_if h
    have h1 := beq_iff.1 h1
    subst h1
    cases e with
    | var i => cases h2
    | lit n => cases h2
    | op c w a b =>
      refine ⟨.y 11 a, h2, fun μ x' hx => ?_⟩
      obtain ⟨e1, e2, p, q, he, rfl, f1, f2⟩ := hx.yc_inv
      cases he
      exact ⟨_, .yf _ p f1, fun w => run_real w ts ty .f64 p q⟩
  | _ => cases h
theorem imag_p1Y [Rho] (ts : Array TypeId) (ty : TypeId) : P1 P (fRealY true) (fun x => Builtin.imag_ ts ty #[x]) := by
  intro x kk h
  cases x with
  | c a b => exact imag_p1 ts ty (.c a b) kk h
  | y j e =>
    obtain ⟨h1, h2⟩ := inv_if h
    have h1 := beq_iff.1 h1
    subst h1
    cases e with
    | var i => cases h2
    | lit n => cases h2
    | op c w a b =>
      refine ⟨.y 11 b, h2, fun μ x' hx => ?_⟩
      obtain ⟨e1, e2, p, q, he, rfl, f1, f2⟩ := hx.yc_inv
      cases he
      exact ⟨_, .yf _ q f2, fun w => run_imag w ts ty .f64 p q⟩
  | _ => cases h
theorem intFlo_p1Y [Rho] {tk : List As} (hA : Holds tk) {src dst : TypeId} (k : IntKind) (hs : P.underlying src = some (.int k)) (hd : P.underlying dst = some (.float .f64)) :
    P1 P (fIntFloY tk (kc k) (if ksg k then kh k else km k) (km k)) (fun x => convert src dst x) := by
  intro x kk h
  rcases inv_ny h with ⟨j, a, rfl, h1⟩ | ⟨j, e, rfl, h1⟩
  · exact intFlo_p1 k hs hd _ kk h1
  · obtain ⟨h2, h3⟩ := inv_if h1
    obtain ⟨h4, h5⟩ := and_eq.1 h2
    have h4 := beq_iff.1 h4
    have h5 := beq_iff.1 h5
    have hk : k = .i64 := by cases k <;> first | rfl | cases h5
    subst hk; subst h4
    obtain ⟨h6, h7⟩ := smE_yes hA h3
    refine ⟨_, h6, fun μ x' hx => ?_⟩
    have hx : VR μ (.y (kc .i64) e) x' := hx
    rw [hx.yk_inv]
    have hw : IntKind.i64.wrap ((den e % km .i64 : Nat) : Int) = (den e % 18446744073709551616 : Nat) := wrap_low (show den e % 18446744073709551616 < 9223372036854775808 by omega)
    rw [hw]
    refine ⟨_, .yf e _ (fl_of_int (n := ((den e % 18446744073709551616 : Nat) : Int)) ?_), fun w => ?_⟩
    · show den e % 18446744073709551616 < _
      omega
    · exact run_convert_int_float w src dst .i64 .f64 _ (by rw [hs]; rfl) hd
theorem floInt_p1Y [Rho] {tk : List As} (hA : Holds tk) {src dst : TypeId} (k : IntKind) (hs : P.underlying src = some (.float .f64)) (hd : P.underlying dst = some (.int k)) :
    P1 P (fFloIntY tk (kc k) (if ksg k then kh k else 0) (if ksg k then kh k else km k) (km k)) (fun x => convert src dst x) := by
  intro x kk h
  cases x with
  | f a => exact floInt_p1 k hs hd _ kk h
  | y j e =>
    obtain ⟨h2, h3⟩ := inv_if h
    obtain ⟨h4, h5⟩ := and_eq.1 h2
    have h4 := beq_iff.1 h4
    have h5 := beq_iff.1 h5
    have hk : k = .i64 := by cases k <;> first | rfl | cases h5
    subst hk; subst h4
    obtain ⟨h6, h7⟩ := smE_yes hA h3
    have core : ∀ μ x', VR μ (.y 11 e) x' → ∀ w, (convert src dst x').run P w = .ok (.int .i64 ((den e % 18446744073709551616 : Nat) : Int)) w := by
      intro μ x' hx
      obtain ⟨p, rfl, f1⟩ := hx.yf_inv
      have hb : fFloInt (kc .i64) (if ksg .i64 then kh .i64 else 0) (if ksg .i64 then kh .i64 else km .i64) (km .i64) (.f ((den e % 18446744073709551616 : Nat) : Int)) (onlyA (.n 3 (den e % 18446744073709551616))) = .yes := by
        show (Bool.rec (motive := fun _ => Ans) Ans.no (natK (toN 18446744073709551616 ((den e % 18446744073709551616 : Nat) : Int)) fun z => onlyA (.n 3 (den e % 18446744073709551616)) (.n 3 z)) (Nat.ble (Nat.succ (den e % 18446744073709551616)) 9223372036854775808)) = .yes
        rw [show Nat.ble (Nat.succ (den e % 18446744073709551616)) 9223372036854775808 = true from ble_iff.2 (by omega), natK_eq]
        exact onlyA_self _
      obtain ⟨v, k1, k2⟩ := floInt_p1 (P := P) .i64 hs hd _ _ hb
      obtain ⟨v', k3, k4⟩ := k2 μ _ (.f _ p f1)
      rw [onlyA_yes k1] at k3
      have k3 : VR μ (.n (kc .i64) (den e % 18446744073709551616)) v' := k3
      rw [k3.kn_inv.2, wrap_low (show den e % 18446744073709551616 < 9223372036854775808 by omega)] at k4
      exact k4
    have hw : IntKind.i64.wrap ((den e % km .i64 : Nat) : Int) = (den e % 18446744073709551616 : Nat) := wrap_low (show den e % 18446744073709551616 < 9223372036854775808 by omega)
    have gen : kk (.y 3 e) = .yes → ∃ v, kk v = .yes ∧ ∀ μ x', VR μ (.y 11 e) x' → ∃ v', VR μ v v' ∧ ∀ w, (convert src dst x').run P w = .ok v' w := fun hy => by
      refine ⟨_, hy, fun μ x' hx => ⟨_, ?_, core μ x' hx⟩⟩
      have := VR.y (μ := μ) .i64 e
      rw [hw] at this
      exact this
    cases e with
    | var i => exact gen h6
    | op c w a b => exact gen h6
    | lit n =>
      have h6 : kk (.n 3 n) = .yes := h6
      have hb := ble_iff.1 (inv_if (show (Bool.rec (motive := fun _ => Ans) Ans.no _ (Nat.ble n 9007199254740991)) = .yes from h3)).1
      refine ⟨_, h6, fun μ x' hx => ⟨_, ?_, core μ x' hx⟩⟩
      have hn : den (.lit n) % 18446744073709551616 = n := Nat.mod_eq_of_lt (show n < 18446744073709551616 by omega)
      have := VR.n (μ := μ) .i64 n (show n < 18446744073709551616 by omega)
      rw [wrap_low (show n < 9223372036854775808 by omega)] at this
      rw [hn]
      exact this
  | _ => cases h
end
end
end Go.Proofs.YteefpemaeecicaaGreatDoor.Ev
end
