/- Regions that draw, reckoned with fewer steps: the same closures. No condition. -/
import Derived.Test.YteefpemaeecicaaGreatDoorExDraw
import Derived.Below
import Derived.Shelf.SlIter.Nil
import Derived.Sort.Walk0
import Derived.Shelf.SlMaps.Clone
import Derived.StringKeys
section
open Go
namespace Go.Proofs.YteefpemaeecicaaGreatDoor.Ev
set_option linter.unusedVariables false
set_option linter.unusedSimpArgs false
section
theorem natO_eq {β : Type} (n : Nat) (f : Nat → β) : natO n f = f n := by cases n <;> rfl
theorem befAt_eq : ∀ (acc : List Pl) (j : Nat), befAt acc j = ((acc[j]?).map (·.bef)).getD 0
  | [], j => by simp [befAt, lrec]
  | y :: acc, 0 => rfl
  | y :: acc, j + 1 => by
    show befAt acc j = _
    rw [List.getElem?_cons_succ]
    exact befAt_eq acc j
theorem befsR_eq (acc : List Pl) (o : Oper) : befsR acc acc.length o = befs acc.reverse o := by
  have gen : ∀ (es : List Edge) (s : Nat), (lrec es (fun s => s) (fun e _ ih s => ih (bif_ (Region.binds .any e) (Nat.lor s (Nat.lor (Nat.shiftLeft 1 e.on) (bif_ (Nat.ble (Nat.succ e.on) acc.length) (befAt acc (Nat.sub (Nat.sub acc.length 1) e.on)) 0))) s)) : Nat → Nat) s
      = es.foldl (fun s e => bif_ (Region.binds .any e) (Nat.lor s (Nat.lor (Nat.shiftLeft 1 e.on) (((acc.reverse[e.on]?).map (·.bef)).getD 0))) s) s := by
    intro es
    induction es with
    | nil => intro s; rfl
    | cons e es ih =>
      intro s
      have h1 : bif_ (Nat.ble (Nat.succ e.on) acc.length) (befAt acc (Nat.sub (Nat.sub acc.length 1) e.on)) 0 = ((acc.reverse[e.on]?).map (·.bef)).getD 0 := by
        rw [bif_eq]
        split
        · rename_i h
          have h : e.on < acc.length := ble_iff.1 h
          rw [befAt_eq, List.getElem?_reverse h]
          rfl
        · rename_i h
          have h : ¬ e.on < acc.length := fun hh => h (ble_iff.2 hh)
          rw [List.getElem?_eq_none (by simp; omega)]
          rfl
      rw [List.foldl_cons, ← h1]
      exact ih _
  exact gen o.after.toList 0
theorem revL_eq (acc : List Pl) : ∀ r, (lrec acc (fun r => r) (fun y _ ih r => ih (y :: r)) : List Pl → List Pl) r = acc.reverse ++ r := by
  induction acc with
  | nil => intro r; rfl
  | cons y acc ih =>
    intro r
    have := ih (y :: r)
    simp only [List.reverse_cons, List.append_assoc, List.singleton_append]
    exact this
theorem plansF_eq (T : Ty) (ops : List Oper) : ∀ (l : List Oper) (acc : List Pl), plansF T ops l acc acc.length = plans T ops l acc.reverse
  | [], acc => by
    have := revL_eq acc []
    rw [List.append_nil] at this
    exact this
  | o :: l, acc => by
    have h1 : plansF T ops (o :: l) acc acc.length = natO (befsR acc acc.length o) fun b => natO (kindOf (opF T o.op)) fun q => natO (Nat.succ acc.length) fun n' => plansF T ops l (⟨o, opF T o.op, acc.length, b, q, seesOf ops o (opF T o.op)⟩ :: acc) n' := rfl
    have h2 : plans T ops (o :: l) acc.reverse = plans T ops l (acc.reverse ++ [⟨o, opF T o.op, acc.reverse.length, befs acc.reverse o, kindOf (opF T o.op), seesOf ops o (opF T o.op)⟩]) := rfl
    rw [h1, h2, natO_eq, natO_eq, natO_eq, befsR_eq]
    have := plansF_eq T ops l (⟨o, opF T o.op, acc.length, befs acc.reverse o, kindOf (opF T o.op), seesOf ops o (opF T o.op)⟩ :: acc)
    rw [List.reverse_cons] at this
    rw [List.length_reverse]
    exact this
/-! ### Masks -/
theorem inM_bit {s b i : Nat} (h : inM s b = true) (hs : s.testBit i = true) : b.testBit i = true := by
  have h1 : s &&& b = s := beq_iff.1 h
  have h2 := congrArg (·.testBit i) h1
  simp only [Nat.testBit_and, hs, Bool.true_and] at h2
  exact h2
theorem slice_bit {W D t i : Nat} (hi : i < W) (h : D.testBit (W * t + i) = true) : (sliceM W D t).testBit i = true := by
  show ((D >>> (W * t)) &&& (2 ^ W - 1)).testBit i = true
  rw [Nat.testBit_and, Nat.testBit_shiftRight, Nat.testBit_two_pow_sub_one, h]
  simpa using hi
theorem lor_l {a b i : Nat} (h : a.testBit i = true) : (Nat.lor a b).testBit i = true := by
  show (a ||| b).testBit i = true
  rw [Nat.testBit_or, h]; rfl
theorem lor_r {a b i : Nat} (h : b.testBit i = true) : (Nat.lor a b).testBit i = true := by
  show (a ||| b).testBit i = true
  rw [Nat.testBit_or, h]; simp
theorem one_bit (i : Nat) : (Nat.shiftLeft 1 i).testBit i = true := by
  show ((1 : Nat) <<< i).testBit i = true
  rw [Nat.testBit_shiftLeft]; simp
theorem sees_old {W i j : Nat} {S : Nat} : ∀ (l : List Nat), S.testBit j = true → (lrec l S fun t _ r => Nat.lor r (Nat.shiftLeft 1 (Nat.add (Nat.mul W t) i))).testBit j = true
  | [], h => h
  | t :: l, h => lor_l (sees_old l h)
theorem sees_new {W i S t : Nat} : ∀ (l : List Nat), t ∈ l → (lrec l S fun t _ r => Nat.lor r (Nat.shiftLeft 1 (Nat.add (Nat.mul W t) i))).testBit (W * t + i) = true
  | u :: l, h => by
    rcases List.mem_cons.1 h with rfl | h
    · exact lor_r (one_bit _)
    · exact lor_l (sees_new l h)
theorem after_ok {i : Nat} : ∀ (l : List Edge), afterOk i l = true → l.all (fun e => or_ (not_ (Region.binds .any e)) (Nat.ble (Nat.succ e.on) i)) = true
  | [], _ => rfl
  | e :: l, h => by
    have h' : and_ (or_ (not_ (Region.binds .any e)) (Nat.ble (Nat.succ e.on) i)) (afterOk i l) = true := h
    rw [List.all_cons, Bool.and_eq_true]
    exact ⟨(and_eq.1 h').1, after_ok l (and_eq.1 h').2⟩
theorem sees_all {W D b : Nat} : ∀ (l : List Nat), (lrec l true fun t _ r => and_ (inM (sliceM W D t) b) r) = true → ∀ t ∈ l, inM (sliceM W D t) b = true
  | u :: l, h, t, ht => by
    have h' : and_ (inM (sliceM W D u) b) (lrec l true fun t _ r => and_ (inM (sliceM W D t) b) r) = true := h
    rcases List.mem_cons.1 ht with rfl | ht
    · exact (and_eq.1 h').1
    · exact sees_all l (and_eq.1 h').2 t ht
structure Known (W : Nat) (pre : List Pl) (D S Q : Nat) : Prop where
  lt : ∀ x ∈ pre, x.i < W
  dst : ∀ x ∈ pre, ∀ d, x.o.dst = some d → D.testBit (W * d + x.i) = true
  see : ∀ x ∈ pre, ∀ t ∈ x.see, S.testBit (W * t + x.i) = true
  act : ∀ x ∈ pre, x.kind = 2 → Q.testBit x.i = true
theorem okF_spec {W : Nat} : ∀ (l pre : List Pl) (D S Q : Nat), IdxOk (pre ++ l) → Known W pre D S Q → okF W l D S Q = true →
    ∀ y ∈ l, afterOk y.i y.o.after.toList = true ∧ ∀ x ∈ pre ++ l, Nat.ble y.i x.i = true ∨ clash x y = false ∨ bit y.bef x.i = true
  | [], pre, D, S, Q, hi, hk, h, y, hy => by cases hy
  | z :: l, pre, D, S, Q, hi, hk, h, y, hy => by
    have hz : z.i = pre.length := hi pre.length z (by simp)
    have h0 : and_ (Nat.ble (Nat.succ z.i) W) (and_ (afterOk z.i z.o.after.toList) (and_ (bif_ (Nat.beq z.kind 2) (inM Q z.bef) true) (and_ (lrec z.see true fun t _ r => and_ (inM (sliceM W D t) z.bef) r) (Option.rec (motive := fun _ => Bool) (okF W l D (lrec z.see S fun t _ r => Nat.lor r (Nat.shiftLeft 1 (Nat.add (Nat.mul W t) z.i))) (bif_ (Nat.beq z.kind 2) (Nat.lor Q (Nat.shiftLeft 1 z.i)) Q)) (fun d => and_ (inM (sliceM W D d) z.bef) (and_ (inM (sliceM W S d) z.bef) (okF W l (Nat.lor D (Nat.shiftLeft 1 (Nat.add (Nat.mul W d) z.i))) (lrec z.see S fun t _ r => Nat.lor r (Nat.shiftLeft 1 (Nat.add (Nat.mul W t) z.i))) (bif_ (Nat.beq z.kind 2) (Nat.lor Q (Nat.shiftLeft 1 z.i)) Q)))) z.o.dst)))) = true := h
    obtain ⟨c1, h1⟩ := and_eq.1 h0
    obtain ⟨c2, h2⟩ := and_eq.1 h1
    obtain ⟨c3, h3⟩ := and_eq.1 h2
    obtain ⟨c4, h4⟩ := and_eq.1 h3
    have c1 : z.i < W := ble_iff.1 c1
    have c4 := sees_all _ c4
    have hact : ∀ x ∈ pre, x.kind = 2 → z.kind = 2 → z.bef.testBit x.i = true := fun x hx hx2 hz2 => by
      rw [bif_eq, if_pos (beq_iff.2 hz2)] at c3
      exact inM_bit c3 (hk.act x hx hx2)
    have hQ : ∀ x ∈ pre ++ [z], x.kind = 2 → (bif_ (Nat.beq z.kind 2) (Nat.lor Q (Nat.shiftLeft 1 z.i)) Q).testBit x.i = true := fun x hx hx2 => by
      rw [bif_eq]
      rcases List.mem_append.1 hx with hx | hx
      · split
        · exact lor_l (hk.act x hx hx2)
        · exact hk.act x hx hx2
      · rw [List.mem_singleton] at hx
        subst hx
        rw [if_pos (beq_iff.2 hx2)]
        exact lor_r (one_bit _)
    have hS : ∀ x ∈ pre ++ [z], ∀ t ∈ x.see, (lrec z.see S fun t _ r => Nat.lor r (Nat.shiftLeft 1 (Nat.add (Nat.mul W t) z.i))).testBit (W * t + x.i) = true := fun x hx t ht => by
      rcases List.mem_append.1 hx with hx | hx
      · exact sees_old _ (hk.see x hx t ht)
      · rw [List.mem_singleton] at hx
        subst hx
        exact sees_new _ ht
    have hlt : ∀ x ∈ pre ++ [z], x.i < W := fun x hx => by
      rcases List.mem_append.1 hx with hx | hx
      · exact hk.lt x hx
      · rw [List.mem_singleton] at hx
        subst hx; exact c1
    have hsee : ∀ x ∈ pre, ∀ d, x.o.dst = some d → d ∈ z.see → z.bef.testBit x.i = true := fun x hx d hd hm => inM_bit (c4 d hm) (slice_bit (hk.lt x hx) (hk.dst x hx d hd))
    have hi' : IdxOk ((pre ++ [z]) ++ l) := by rw [List.append_assoc]; exact hi
    have main : (∀ x ∈ pre, clash x z = true → z.bef.testBit x.i = true) ∧ ∀ y ∈ l, afterOk y.i y.o.after.toList = true ∧ ∀ x ∈ (pre ++ [z]) ++ l, Nat.ble y.i x.i = true ∨ clash x y = false ∨ bit y.bef x.i = true := by
      cases hd : z.o.dst with
      | none =>
        rw [hd] at h4
        refine ⟨fun x hx hc => ?_, okF_spec l (pre ++ [z]) _ _ _ hi' ⟨hlt, fun x hx d he => ?_, hS, hQ⟩ h4⟩
        · unfold clash at hc
          rw [hd] at hc
          rcases or_eq.1 hc with hc | hc
          · rcases or_eq.1 hc with hc | hc
            · cases hx2 : x.o.dst with
              | none => rw [hx2] at hc; cases hc
              | some d =>
                rw [hx2] at hc
                have : d ∈ ([] : List Nat) ++ z.see := List.contains_iff_mem.1 hc
                exact hsee x hx d hx2 (by simpa using this)
            · cases hc
          · exact hact x hx (beq_iff.1 (and_eq.1 hc).1) (beq_iff.1 (and_eq.1 hc).2)
        · rcases List.mem_append.1 hx with hx | hx
          · exact hk.dst x hx d he
          · rw [List.mem_singleton] at hx
            subst hx
            rw [hd] at he; cases he
      | some d =>
        rw [hd] at h4
        have h4' : and_ (inM (sliceM W D d) z.bef) (and_ (inM (sliceM W S d) z.bef) (okF W l (Nat.lor D (Nat.shiftLeft 1 (Nat.add (Nat.mul W d) z.i))) (lrec z.see S fun t _ r => Nat.lor r (Nat.shiftLeft 1 (Nat.add (Nat.mul W t) z.i))) (bif_ (Nat.beq z.kind 2) (Nat.lor Q (Nat.shiftLeft 1 z.i)) Q))) = true := h4
        obtain ⟨c5, h5⟩ := and_eq.1 h4'
        obtain ⟨c6, h6⟩ := and_eq.1 h5
        refine ⟨fun x hx hc => ?_, okF_spec l (pre ++ [z]) _ _ _ hi' ⟨hlt, fun x hx d' he => ?_, hS, hQ⟩ h6⟩
        · unfold clash at hc
          rw [hd] at hc
          rcases or_eq.1 hc with hc | hc
          · rcases or_eq.1 hc with hc | hc
            · cases hx2 : x.o.dst with
              | none => rw [hx2] at hc; cases hc
              | some d' =>
                rw [hx2] at hc
                have : d' ∈ [d] ++ z.see := List.contains_iff_mem.1 hc
                rcases List.mem_append.1 this with hm | hm
                · rw [List.mem_singleton] at hm
                  subst hm
                  exact inM_bit c5 (slice_bit (hk.lt x hx) (hk.dst x hx _ hx2))
                · exact hsee x hx d' hx2 hm
            · have : d ∈ x.see := List.contains_iff_mem.1 hc
              exact inM_bit c6 (slice_bit (hk.lt x hx) (hk.see x hx _ this))
          · exact hact x hx (beq_iff.1 (and_eq.1 hc).1) (beq_iff.1 (and_eq.1 hc).2)
        · rcases List.mem_append.1 hx with hx | hx
          · exact lor_l (hk.dst x hx d' he)
          · rw [List.mem_singleton] at hx
            subst hx
            rw [hd] at he; cases he
            exact lor_r (one_bit _)
    rcases List.mem_cons.1 hy with rfl | hy
    · refine ⟨c2, fun x hx => ?_⟩
      obtain ⟨q, hq⟩ := List.mem_iff_getElem?.1 hx
      have hxi : x.i = q := hi q x hq
      rcases Nat.lt_or_ge q pre.length with hlt' | hge
      · rw [List.getElem?_append_left hlt'] at hq
        have hxp : x ∈ pre := List.mem_of_getElem? hq
        cases hc : clash x y with
        | false => exact .inr (.inl rfl)
        | true => exact .inr (.inr (by rw [bit_eq]; exact main.1 x hxp hc))
      · exact .inl (ble_iff.2 (by omega))
    · obtain ⟨r1, r2⟩ := main.2 y hy
      exact ⟨r1, fun x hx => r2 x (by rw [List.append_assoc]; exact hx)⟩
theorem okF_plOk {W : Nat} {l : List Pl} (hi : IdxOk l) (h : okF W l 0 0 0 = true) : plOk l = true := by
  have hs := okF_spec l [] 0 0 0 hi ⟨fun x hx => (List.not_mem_nil hx).elim, fun x hx => (List.not_mem_nil hx).elim, fun x hx => (List.not_mem_nil hx).elim, fun x hx => (List.not_mem_nil hx).elim⟩ h
  unfold plOk
  rw [List.all_eq_true]
  intro y hy
  obtain ⟨h1, h2⟩ := hs y hy
  refine and_eq.2 ⟨after_ok _ h1, ?_⟩
  rw [List.all_eq_true]
  intro x hx
  rcases h2 x hx with h3 | h3 | h3
  · exact or_eq.2 (.inl h3)
  · exact or_eq.2 (.inr (or_eq.2 (.inl (by rw [h3]; rfl))))
  · exact or_eq.2 (.inr (or_eq.2 (.inr h3)))
/-! ### Reads that nothing disturbs -/
theorem doM_cons (z : Pl) (l : List Pl) : doM (z :: l) = bif_ (Nat.beq z.kind 2) (Nat.lor (doM l) (Nat.shiftLeft 1 z.i)) (doM l) := by unfold doM; rfl
theorem behM_cons (W : Nat) (z : Pl) (l : List Pl) : behM W (z :: l) = bif_ (Nat.beq z.kind 2) (Nat.land (behM W l) (Nat.lor z.bef (Nat.shiftLeft (Nat.sub (Nat.pow 2 W) 1) z.i))) (behM W l) := by unfold behM; rfl
theorem doM_bit (l : List Pl) : ∀ (x : Pl), x ∈ l → x.kind = 2 → (doM l).testBit x.i = true := by
  induction l with
  | nil => intro x hx; cases hx
  | cons z l ih =>
    intro x hx h2
    rw [doM_cons, bif_eq]
    rcases List.mem_cons.1 hx with rfl | hx
    · rw [if_pos (beq_iff.2 h2)]
      exact lor_r (one_bit _)
    · have ih := ih x hx h2
      split
      · exact lor_l ih
      · exact ih
theorem behM_bit {W j : Nat} (l : List Pl) : (behM W l).testBit j = true → ∀ x ∈ l, x.kind = 2 → x.bef.testBit j = true ∨ x.i ≤ j := by
  induction l with
  | nil => intro h x hx; cases hx
  | cons z l ih =>
    intro h x hx h2
    rw [behM_cons, bif_eq] at h
    rcases List.mem_cons.1 hx with rfl | hx
    · rw [if_pos (beq_iff.2 h2)] at h
      have h' : (behM W l &&& (x.bef ||| ((2 ^ W - 1) <<< x.i))).testBit j = true := h
      rw [Nat.testBit_and, Nat.testBit_or, Bool.and_eq_true, Bool.or_eq_true, Nat.testBit_shiftLeft, Bool.and_eq_true] at h'
      rcases h'.2 with h3 | h3
      · exact .inl h3
      · exact .inr (of_decide_eq_true h3.1)
    · split at h
      · have h' : (behM W l &&& (z.bef ||| ((2 ^ W - 1) <<< z.i))).testBit j = true := h
        rw [Nat.testBit_and, Bool.and_eq_true] at h'
        exact ih h'.1 x hx h2
      · exact ih h x hx h2
theorem quiet_zero {W : Nat} {l : List Pl} {y : Pl} (h : quietP W l y = true) : Nat.beq (Nat.add (lateN l y) (earlyN l y)) 0 = true := by
  obtain ⟨h1, h2⟩ := and_eq.1 h
  have e1 : lateN l y = 0 := by
    unfold lateN
    rw [List.length_eq_zero_iff, List.filter_eq_nil_iff]
    intro x hx hc
    obtain ⟨h3, h4⟩ := and_eq.1 hc
    obtain ⟨h5, h6⟩ := and_eq.1 h3
    have hlt : x.i < y.i := ble_iff.1 h6
    have hb : (Nat.land (doM l) (Nat.sub (Nat.pow 2 y.i) 1)).testBit x.i = true := by
      show (doM l &&& (2 ^ y.i - 1)).testBit x.i = true
      rw [Nat.testBit_and, Nat.testBit_two_pow_sub_one, doM_bit l x hx (beq_iff.1 h5)]
      simpa using hlt
    rw [not_eq, bit_eq, inM_bit h1 hb] at h4
    cases h4
  have e2 : earlyN l y = 0 := by
    unfold earlyN
    rw [List.length_eq_zero_iff, List.filter_eq_nil_iff]
    intro x hx hc
    obtain ⟨h3, h4⟩ := and_eq.1 hc
    obtain ⟨h5, h6⟩ := and_eq.1 h3
    have hlt : y.i < x.i := ble_iff.1 h6
    rw [bit_eq] at h2
    rcases behM_bit l h2 x hx (beq_iff.1 h5) with h7 | h7
    · rw [not_eq, bit_eq, h7] at h4
      cases h4
    · omega
  rw [e1, e2]; rfl
variable {k : Nat} {E : Em}
theorem nodeF_eq (W : Nat) (l : List Pl) (y : Pl) (i : Nat) (G : Gm) (nx : Od k (i + 1)) : nodeF k E W l y i G nx = nodeD k E l y i G nx := by
  obtain ⟨o, f, j, b, q, s⟩ := y
  cases f with
  | l1 F x =>
    show bif_ (quietP W l ⟨o, .l1 F x, j, b, q, s⟩) _ _ = _
    rw [bif_eq]
    split
    · rename_i h
      have h0 := quiet_zero h
      have e : nodeD k E l ⟨o, .l1 F x, j, b, q, s⟩ i G nx = bif_ (Nat.beq (Nat.add (lateN l ⟨o, .l1 F x, j, b, q, s⟩) (earlyN l ⟨o, .l1 F x, j, b, q, s⟩)) 0) _ _ := rfl
      rw [e, h0]
      rfl
    · rfl
  | l2 F x z =>
    show bif_ (quietP W l ⟨o, .l2 F x z, j, b, q, s⟩) _ _ = _
    rw [bif_eq]
    split
    · rename_i h
      have h0 := quiet_zero h
      have e : nodeD k E l ⟨o, .l2 F x z, j, b, q, s⟩ i G nx = bif_ (Nat.beq (Nat.add (lateN l ⟨o, .l2 F x z, j, b, q, s⟩) (earlyN l ⟨o, .l2 F x z, j, b, q, s⟩)) 0) _ _ := rfl
      rw [e, h0]
      rfl
    · rfl
  | _ => rfl
theorem guardedF_eq (W : Nat) (ops : List Oper) (l : List Pl) (y : Pl) (i : Nat) (G : Gm) (nx : Od k (i + 1)) : guardedF k E W ops l y i G nx = guardedD k E ops l y i G nx := by
  unfold guardedF guardedD
  rw [nodeF_eq]
theorem regF_eq (T : Ty) : regF T k E = regD T k E := by
  funext ops K i G
  have hp : plansF T ops ops [] 0 = plans T ops ops [] := plansF_eq T ops ops []
  obtain ⟨hlen, hplan⟩ := plans_spec T ops ops [] rfl (Nat.zero_le _) (fun j y hy => by simp at hy)
  have hidx : IdxOk (plans T ops ops []) := fun q x hx => by obtain ⟨o, _, _, _, h4, _⟩ := hplan q x hx; exact h4
  have ho : ∀ W, or_ (okF W (plans T ops ops []) 0 0 0) (plOk (plans T ops ops [])) = plOk (plans T ops ops []) := fun W => by
    cases h : okF W (plans T ops ops []) 0 0 0 with
    | false => rfl
    | true => rw [okF_plOk hidx h]; rfl
  unfold regF regD
  simp only [hp, ho, guardedF_eq]
theorem cfnF_eq (T : Ty) (fi : Fi) (nt m : Nat) (rs : List ResultVar) (c : Code) : cfnF T fi nt m rs c = cfn T fi nt m rs c := by
  unfold cfnF cfn
  simp only [regF_eq]
theorem fncF_eq (T : Ty) (Fs : Tr (Option Func) 4) (fis : Nat → Fi) (f : Nat) : fncF T Fs fis f = fnc T Fs fis f := by
  unfold fncF fnc
  simp only [cfnF_eq]
end
end Go.Proofs.YteefpemaeecicaaGreatDoor.Ev
end
section
open Go Go.RowKit
namespace Go.Proofs.YteefpemaeecicaaGreatDoor.Ev
set_option linter.unusedVariables false
set_option linter.unusedSimpArgs false
set_option linter.constructorNameAsVariable false
noncomputable section
section
variable {P : Program} {T : Ty}
theorem tyOk_of [Rho] (P : Program) {l : List As} (hA : Holds l) : TyOk P ⟨bldD 4 P.types.toList, l⟩ := by
  refine ⟨fun t i h => ?_, hA⟩
  unfold inf at h
  split at h
  · rename_i ht
    rw [tget_eq, bldD_get 4 _ _ (by omega)] at h
    have h1 : P.types[t]? = some i := by simpa using h
    have hlt : t < P.types.size := by
      rcases Nat.lt_or_ge t P.types.size with hl | hl
      · exact hl
      · rw [Array.getElem?_eq_none hl] at h1; cases h1
    show (if t < P.types.size then P.types[t]? else _) = some i
    rw [if_pos hlt]; exact h1
  · cases h
theorem fsOk_of (P : Program) : FsOk P (bldD 4 P.funcs.toList) := by
  intro f fn hf h
  rw [tget_eq, bldD_get 4 _ _ (by omega)] at h
  simpa using h
/-- The check of structs that are compared, over so many types. -/
def structsB (P : Program) (T : Ty) : List Nat → Bool
  | [] => true
  | t :: l => (match plainS T t with | some _ => !(P.stoodInHeld t) && !(P.eqGuardType P.depth t) | none => true) && structsB P T l
theorem structs_of (h : structsB P ⟨bldD 4 P.types.toList, []⟩ (List.range P.types.size) = true) : StructOk P ⟨bldD 4 P.types.toList, []⟩ := by
  intro t ks hk
  have hlt : t < P.types.size := by
    rcases Nat.lt_or_ge t P.types.size with hl | hl
    · exact hl
    · have hno : inf (⟨bldD 4 P.types.toList, []⟩ : Ty) t = none := by
        unfold inf
        split
        · rw [tget_eq, bldD_get 4 _ _ (by omega)]
          simp [hl]
        · rfl
      unfold plainS und at hk
      rw [hno] at hk
      cases hk
  have gen : ∀ l : List Nat, structsB P ⟨bldD 4 P.types.toList, []⟩ l = true → t ∈ l → P.stoodInHeld t = false ∧ P.eqGuardType P.depth t = false := by
    intro l
    induction l with
    | nil => intro _ hm; simp at hm
    | cons a l ih =>
      intro hb hm
      unfold structsB at hb
      rw [Bool.and_eq_true] at hb
      rcases List.mem_cons.1 hm with rfl | hm
      · have h1 := hb.1
        rw [hk] at h1
        simp only [Bool.and_eq_true, Bool.not_eq_true'] at h1
        exact h1
      · exact ih hb.2 hm
  exact gen _ h (List.mem_range.2 hlt)
def namesB : List Func → Bool
  | [] => true
  | fn :: l => (fn.body.isNone || fn.name != "runtime.NumGoroutine") && namesB l
theorem names_of (h : namesB P.funcs.toList = true) (f : FuncId) (fn : Func) (hf : P.funcs[f]? = some fn) (hb : fn.body.isSome = true) : fn.name ≠ "runtime.NumGoroutine" := by
  have gen : ∀ l : List Func, namesB l = true → fn ∈ l → fn.name ≠ "runtime.NumGoroutine" := by
    intro l
    induction l with
    | nil => intro _ hm; simp at hm
    | cons a l ih =>
      intro hh hm
      unfold namesB at hh
      rw [Bool.and_eq_true] at hh
      rcases List.mem_cons.1 hm with rfl | hm
      · have h1 := hh.1
        cases hbb : fn.body with
        | none => rw [hbb] at hb; cases hb
        | some b => rw [hbb] at h1; simpa using h1
      · exact ih hh.2 hm
  refine gen _ h (List.mem_of_getElem? (i := f) ?_)
  simpa using hf
theorem structs_as {P : Program} {t : Tr (Option TypeInfo) 4} {l : List As} (h : StructOk P ⟨t, []⟩) : StructOk P ⟨t, l⟩ := fun a ks hk => h a ks hk
theorem holds_nil [Rho] : Holds [] := fun a ha => by cases ha
theorem progOk_of [Rho] (P : Program) {l : List As} (hA : Holds l) (hm : P.follows .mixedOrders = true) (hs : structsB P ⟨bldD 4 P.types.toList, []⟩ (List.range P.types.size) = true) (hn : namesB P.funcs.toList = true) : ProgOk P ⟨bldD 4 P.types.toList, l⟩ :=
  { types := tyOk_of P hA, structs := structs_as (structs_of hs), mixed := hm, names := names_of hn, draw := fun k E hn hE hS => regD_ok (tyOk_of P hA) (structs_as (structs_of hs)) k E hn hE hS }
/-! ### Runs -/
def hp0 : Hp := ⟨Mem.none, ⟨.d0, .d0, .d0⟩⟩
def mp0 : Mp := fun _ => none
/-- Is it true? -/
def okT (v : AV) (_ : Hp) : Ans := (AVr Ans.no (fun _ _ => Ans.no) (fun _ => Ans.no) (fun _ _ => Ans.no) Ans.no (fun _ => Ans.no) Ans.no (fun _ _ _ _ _ => Ans.no) Ans.no (fun _ _ => Ans.no) (fun _ => Ans.no) Ans.no Ans.no Ans.no (fun _ _ _ => Ans.no) (fun _ _ _ => Ans.no) (fun _ _ _ => Ans.no) (fun _ _ _ => Ans.no) (fun _ _ _ _ => Ans.no) (fun _ _ _ => Ans.no) (fun b => (Bool.rec (motive := fun _ => Ans) (.no) (.yes) (b))) (fun _ _ => Ans.no) (fun _ _ => Ans.no) (fun _ _ => Ans.no) (v))
theorem MR.start [Rho] (w : World) (hi : ∀ b o, Rho.inp b = some o → w.heap[b]? = some o) : MR ⟨w.os, w.tape, w.output, fun b => w.heap[b]?, fun _ => False, w.heap.size⟩ mp0 hp0 w :=
  { os := rfl, tape := rfl, output := rfl, keep := fun b o h => h, dom := fun nm bk h => (by cases h), live := fun nm h => (h (Mem.at_none nm)).elim, res := fun nm h => h.elim, low := Nat.le_refl _, inp := fun b o h => ⟨heap_lt (hi b o h), hi b o h⟩, inj := fun nm nm' bk bk' h => (h (Mem.at_none nm)).elim }
theorem MR.below [Rho] {w w' : World} {μ : Mp} {h : Hp} (hr : MR ⟨w.os, w.tape, w.output, fun b => w.heap[b]?, fun _ => False, w.heap.size⟩ μ h w') : Below w.heap.size w w' := by
  refine ⟨hr.os, hr.tape, hr.output, ?_, fun k hk => ?_⟩
  · rcases Nat.eq_zero_or_pos w.heap.size with h0 | h0
    · omega
    · have := hr.keep (w.heap.size - 1) _ (Array.getElem?_eq_getElem (by omega))
      have := heap_lt this
      omega
  · rw [Array.getElem?_eq_getElem hk]
    exact hr.keep k _ (Array.getElem?_eq_getElem hk)
/-- What a call leaves belongs still. -/
theorem MR.keeps [Rho] {K : Kp} {μ : Mp} {h : Hp} {w w' : World} (hr : MR K μ h w) (hb : Below w.heap.size w w') : MR K μ h w' := by
  have same : ∀ {b : Nat} {o : Obj}, w.heap[b]? = some o → w'.heap[b]? = some o := fun hh => by rw [hb.block _ (heap_lt hh)]; exact hh
  refine { os := hb.os.trans hr.os, tape := hb.tape.trans hr.tape, output := hb.output.trans hr.output, keep := fun b o hk => same (hr.keep b o hk), dom := fun nm bk hm => ?_, live := fun nm hl => ?_, res := hr.res, low := Nat.le_trans hr.low hb.size, inp := hr.inp, inj := hr.inj }
  · obtain ⟨h1, h2⟩ := hr.dom nm bk hm
    exact ⟨Nat.lt_of_lt_of_le h1 hb.size, h2⟩
  · obtain ⟨bk, h1, h2, h3⟩ := hr.live nm hl
    exact ⟨bk, h1, h2.ext (Ext.refl μ) (hb.block _ (hr.dom nm bk h1).1), h3⟩
theorem okT_yes {v : AV} {h : Hp} (hy : okT v h = .yes) : v = .b true := by
  obtain ⟨b, rfl, h1⟩ := inv_b hy
  obtain ⟨h2, _⟩ := inv_if h1
  rw [h2]
/-- A run that ends in 'yes': the call returns true, whatever the world. -/
theorem calls_of_run [Rho] {runF : Nat → Fc} (hR : ∀ f, FcOk P f (runF f)) {n f : Nat} {l : List AV} (hy : (callsN runF n).run f l hp0 okT = .yes) (w : World) (args : Array Value) (hv : VRs mp0 l args.toList) (hi : ∀ b o, Rho.inp b = some o → w.heap[b]? = some o) :
    Enter P f ∧ Calls P f args w (fun e w' => e = .returned (.bool true) ∧ Below w.heap.size w w') := by
  obtain ⟨he, v, h', h1, h2⟩ := callsN_ok hR n f l hp0 okT hy
  refine ⟨he, (h2 _ mp0 w args (MR.start w hi) hv).mono fun e w' ⟨μ', v', e1, _, e3, e4⟩ => ?_⟩
  have hv' := okT_yes h1
  subst hv'
  rw [e3.b_inv] at e1
  exact ⟨e1, e4.below⟩
/-- Functions of no parameter that return true. -/
structure Begun (P : Program) (f : FuncId) : Prop where
  enter : Enter P f
  calls : ∀ w, Calls P f #[] w (fun e w' => e = .returned (.bool true) ∧ Below w.heap.size w w')
theorem begun_of [Rho] (h0 : ∀ b, Rho.inp b = none) {runF : Nat → Fc} (hR : ∀ f, FcOk P f (runF f)) {n f : Nat} (hy : (callsN runF n).run f [] hp0 okT = .yes) : Begun P f :=
  have hi : ∀ (w : World) b o, Rho.inp b = some o → w.heap[b]? = some o := fun w b o h => by rw [h0] at h; cases h
  ⟨(calls_of_run hR hy default #[] (VRs.nil _) (hi _)).1, fun w => (calls_of_run hR hy w #[] (VRs.nil _) (hi w)).2⟩
def yesF : Fc := ⟨fun _ args h kk => List.rec (motive := fun _ => Ans) (kk (.b true) h) (fun _ _ _ => Ans.no) args⟩
theorem yesF_ok [Rho] {f : FuncId} (hB : Begun P f) : FcOk P f yesF := by
  intro hn hS l h kk hy
  obtain ⟨rfl, h1⟩ := inv_nil hy
  refine ⟨hB.enter, .b true, h, h1, fun K μ w args hr hv => ?_⟩
  have : args = #[] := by apply Array.toList_inj.1; rw [hv.nil_inv]
  subst this
  exact (hB.calls w).mono fun e w' ⟨e1, e2⟩ => ⟨μ, _, e1, Ext.refl μ, .b true, hr.keeps e2⟩
theorem inv_x {v : AV} {g : Nat → Nat → Ans} (h : (AVr Ans.no (fun x0 x1 => g x0 x1) (fun _ => Ans.no) (fun _ _ => Ans.no) Ans.no (fun _ => Ans.no) Ans.no (fun _ _ _ _ _ => Ans.no) Ans.no (fun _ _ => Ans.no) (fun _ => Ans.no) Ans.no Ans.no Ans.no (fun _ _ _ => Ans.no) (fun _ _ _ => Ans.no) (fun _ _ _ => Ans.no) (fun _ _ _ => Ans.no) (fun _ _ _ _ => Ans.no) (fun _ _ _ => Ans.no) (fun _ => Ans.no) (fun _ _ => Ans.no) (fun _ _ => Ans.no) (fun _ _ => Ans.no) (v)) = .yes) : ∃ x0 x1, v = .x x0 x1 ∧ g x0 x1 = .yes := by
  cases v with
  | x x0 x1 => exact ⟨x0, x1, rfl, h⟩
  | _ => cases h
/-- The number from nought to k - 1. -/
def smallF : Fc := ⟨fun _ args h kk => List.rec (motive := fun _ => Ans) Ans.no (fun x t _ => (AVr Ans.no (fun k r => (List.rec (motive := fun _ => Ans) (Ans.no) (fun y t _ => (AVr Ans.no (fun _ _ => Ans.no) (fun _ => Ans.no) (fun _ _ => Ans.no) Ans.no (fun _ => Ans.no) Ans.no (fun _ _ _ _ _ => Ans.no) Ans.no (fun _ _ => Ans.no) (fun _ => Ans.no) Ans.no Ans.no Ans.no (fun _ _ _ => Ans.no) (fun _ _ _ => Ans.no) (fun _ _ _ => Ans.no) (fun _ _ _ => Ans.no) (fun _ _ _ _ => Ans.no) (fun _ _ _ => Ans.no) (fun _ => Ans.no) (fun _ _ => Ans.no) (fun j k' => (Bool.rec (motive := fun _ => Ans) (Ans.no) ((List.rec (motive := fun _ => Ans) (kk (.n 3 r) h) (fun _a _t _ => Ans.no) (t))) (and_ (and_ (Nat.beq j 3) (Nat.beq k' k)) (and_ (Nat.ble 1 k) (Nat.ble k 1000000))))) (fun _ _ => Ans.no) (y))) (t))) (fun _ => Ans.no) (fun _ _ => Ans.no) Ans.no (fun _ => Ans.no) Ans.no (fun _ _ _ _ _ => Ans.no) Ans.no (fun _ _ => Ans.no) (fun _ => Ans.no) Ans.no Ans.no Ans.no (fun _ _ _ => Ans.no) (fun _ _ _ => Ans.no) (fun _ _ _ => Ans.no) (fun _ _ _ => Ans.no) (fun _ _ _ _ => Ans.no) (fun _ _ _ => Ans.no) (fun _ => Ans.no) (fun _ _ => Ans.no) (fun _ _ => Ans.no) (fun _ _ => Ans.no) (x))) args⟩
/-- What is asked of 'small'. -/
structure Small (P : Program) (f : FuncId) : Prop where
  enter : Enter P f
  calls : ∀ (z : Int) (k : Nat) w, 0 < k → k ≤ 1000000 → Calls P f #[.int .i64 z, .int .i64 k] w (fun e w' => e = .returned (.int .i64 ((z.tmod (k : Int)).natAbs : Int)) ∧ Below w.heap.size w w')
theorem smallF_ok [Rho] {f : FuncId} (hB : Small P f) : FcOk P f smallF := by
  intro hn hS l h kk hy
  obtain ⟨a, t, rfl, h1⟩ := inv_cons hy
  obtain ⟨k, r, rfl, h2⟩ := inv_x h1
  obtain ⟨b, t2, rfl, h3⟩ := inv_cons h2
  obtain ⟨j, k', rfl, h4⟩ := inv_n h3
  obtain ⟨h5, h6⟩ := inv_if h4
  obtain ⟨rfl, h7⟩ := inv_nil h6
  obtain ⟨c1, c2⟩ := and_eq.1 h5
  obtain ⟨c1, c3⟩ := and_eq.1 c1
  obtain ⟨c4, c5⟩ := and_eq.1 c2
  have c1 := beq_iff.1 c1
  have c3 := beq_iff.1 c3
  have c4 : 1 ≤ k := ble_iff.1 c4
  have c5 : k ≤ 1000000 := ble_iff.1 c5
  subst c1
  have c3 : k = k' := c3.symm
  subst c3
  refine ⟨hB.enter, .n 3 r, h, h7, fun K μ w args hr hv => ?_⟩
  obtain ⟨x', ys, e1, hx, hv⟩ := hv.cons_inv
  obtain ⟨y', zs, e2, hy', hv⟩ := hv.cons_inv
  have := hv.nil_inv
  subst this
  subst e2
  cases hx with
  | x _ _ z hz =>
    have hy2 : VR μ (.n (kc .i64) k) y' := hy'
    obtain ⟨g1, rfl⟩ := hy2.kn_inv
    have hw : IntKind.i64.wrap (k : Int) = k := wrap_low (by show k < 9223372036854775808; omega)
    rw [hw] at e1
    have he : args = #[.int .i64 z, .int .i64 (k : Int)] := by apply Array.toList_inj.1; rw [e1]
    subst he
    refine (hB.calls z k w (by omega) c5).mono fun e w' ⟨e3, e4⟩ => ⟨μ, _, e3, Ext.refl μ, ?_, hr.keeps e4⟩
    have hlt : r < k := by
      rw [← hz]
      have h1 := Int.natAbs_tmod z (k : Int)
      rw [h1]
      have : ((k : Int)).natAbs = k := rfl
      rw [this]
      exact Nat.mod_lt _ (by omega)
    have hn : VR μ (.n (kc .i64) r) (.int .i64 (IntKind.i64.wrap (r : Int))) := .n .i64 r (by show r < 18446744073709551616; omega)
    rw [wrap_low (show r < kh .i64 by show r < 9223372036854775808; omega)] at hn
    rw [hz]
    exact hn
end
end
end Go.Proofs.YteefpemaeecicaaGreatDoor.Ev
end
section
open Go Go.RowKit Go.Maps Go.Sort Go.Proofs
namespace Go.Proofs.YteefpemaeecicaaGreatDoor.Ev
set_option linter.unusedVariables false
set_option linter.unusedSimpArgs false
set_option linter.constructorNameAsVariable false
noncomputable section
/-- A word is put at its place. -/
def insL (a : List Nat) (l : List (List Nat)) : List (List Nat) := List.rec (motive := fun _ => List (List Nat)) [a] (fun b t ih => bif_ (ltL b a) (b :: ih) (a :: b :: t)) l
def sortL (l : List (List Nat)) : List (List Nat) := List.rec (motive := fun _ => List (List Nat)) [] (fun a _ ih => insL a ih) l
/-- Each less than the one that follows. -/
def ascL (l : List (List Nat)) : Bool := List.rec (motive := fun _ => Bool) true (fun a t ih => List.rec (motive := fun _ => Bool) true (fun b _ _ => and_ (ltL a b) ih) t) l
/-- The keys, where all are words. -/
def wordsL (l : List (AV × AV)) : Option (List (List Nat)) := List.rec (motive := fun _ => Option (List (List Nat))) (some []) (fun p _ ih => Prod.rec (motive := fun _ => Option (List (List Nat))) (fun k _ => (AVr none (fun _ _ => none) (fun _ => none) (fun _ _ => none) none (fun _ => none) none (fun _ _ _ _ _ => none) none (fun _ _ => none) (fun a => Option.rec (motive := fun _ => Option (List (List Nat))) none (fun r => some (a :: r)) ih) none none none (fun _ _ _ => none) (fun _ _ _ => none) (fun _ _ _ => none) (fun _ _ _ => none) (fun _ _ _ _ => none) (fun _ _ _ => none) (fun _ => none) (fun _ _ => none) (fun _ _ => none) (fun _ _ => none) (k))) p) l
/-- Words of a length that is at hand. -/
def shortL (l : List (List Nat)) : Bool := List.rec (motive := fun _ => Bool) true (fun a _ ih => and_ (Nat.ble a.length 1000000) ih) l
def sortedK (ty : Nat) (ks : List (List Nat)) (h : Hp) (kk : AV → Hp → Ans) : Ans :=
  Bool.rec (motive := fun _ => Ans) Ans.no (List.rec (motive := fun _ => Ans) (kk .sl0 h) (fun _ _ _ => newE ty 1 0 (ks.map AV.s) h fun nm h => kk (.so nm 0 ks.length) h) ks) (and_ (and_ (Nat.ble ks.length 262144) (shortL ks)) (ascL ks))
def sortedF (g ty : Nat) : Fc := ⟨fun _ args h kk => (List.rec (motive := fun _ => Ans) (Ans.no) (fun a t _ => (AVr Ans.no (fun _ _ => Ans.no) (fun _ => Ans.no) (fun _ _ => Ans.no) Ans.no (fun _ => Ans.no) Ans.no (fun f0 x y _ _ => (Bool.rec (motive := fun _ => Ans) (Ans.no) ((List.rec (motive := fun _ => Ans) ((List.rec (motive := fun _ => Ans) (Ans.no) (fun p y2 _ => (List.rec (motive := fun _ => Ans) ((List.rec (motive := fun _ => Ans) ((AVr Ans.no (fun _ _ => Ans.no) (fun _ => Ans.no) (fun _ _ => Ans.no) Ans.no (fun _ => Ans.no) Ans.no (fun _ _ _ _ _ => Ans.no) Ans.no (fun _ _ => Ans.no) (fun _ => Ans.no) Ans.no Ans.no Ans.no (fun _ _ _ => Ans.no) (fun _ _ _ => Ans.no) (fun _ _ _ => Ans.no) (fun _ _ _ => Ans.no) (fun _ _ _ _ => Ans.no) (fun _ _ _ => Ans.no) (fun _ => Ans.no) (fun nm off => (Bool.rec (motive := fun _ => Ans) (Ans.no) (fLoad1 (.p nm off) h fun v => (AVr Ans.no (fun _ _ => Ans.no) (fun _ => Ans.no) (fun _ _ => Ans.no) (kk .sl0 h) (fun mm => (Hp.rec (motive := fun _ => Ans) (fun m_ c_ => (Blk.rec (motive := fun _ => Ans) Ans.no (fun l => (Option.rec (motive := fun _ => Ans) (Ans.no) (fun ks => sortedK ty (sortL ks) h kk) (wordsL l))) (fun _ _ _ _ _ _ _ => Ans.no) (Mem.at mm m_))) h)) Ans.no (fun _ _ _ _ _ => Ans.no) Ans.no (fun _ _ => Ans.no) (fun _ => Ans.no) Ans.no Ans.no Ans.no (fun _ _ _ => Ans.no) (fun _ _ _ => Ans.no) (fun _ _ _ => Ans.no) (fun _ _ _ => Ans.no) (fun _ _ _ _ => Ans.no) (fun _ _ _ => Ans.no) (fun _ => Ans.no) (fun _ _ => Ans.no) (fun _ _ => Ans.no) (fun _ _ => Ans.no) (v))) (Nat.beq off 0))) (fun _ _ => Ans.no) (fun _ _ => Ans.no) (p))) (fun _a _t _ => Ans.no) (t))) (fun _a _t _ => Ans.no) (y2))) (y))) (fun _a _t _ => Ans.no) (x))) (Nat.beq f0 g))) Ans.no (fun _ _ => Ans.no) (fun _ => Ans.no) Ans.no Ans.no Ans.no (fun _ _ _ => Ans.no) (fun _ _ _ => Ans.no) (fun _ _ _ => Ans.no) (fun _ _ _ => Ans.no) (fun _ _ _ _ => Ans.no) (fun _ _ _ => Ans.no) (fun _ => Ans.no) (fun _ _ => Ans.no) (fun _ _ => Ans.no) (fun _ _ => Ans.no) (a))) (args))⟩
def cloneF : Fc := ⟨fun _ args h kk => (List.rec (motive := fun _ => Ans) (Ans.no) (fun a t _ => (List.rec (motive := fun _ => Ans) ((AVr Ans.no (fun _ _ => Ans.no) (fun _ => Ans.no) (fun _ _ => Ans.no) (kk .m0 h) (fun nm => (Hp.rec (motive := fun _ => Ans) (fun m_ c_ => (Blk.rec (motive := fun _ => Ans) Ans.no (fun l => h.new (.mp l) fun nm h => kk (.m nm) h) (fun _ _ _ _ _ _ _ => Ans.no) (Mem.at nm m_))) h)) Ans.no (fun _ _ _ _ _ => Ans.no) Ans.no (fun _ _ => Ans.no) (fun _ => Ans.no) Ans.no Ans.no Ans.no (fun _ _ _ => Ans.no) (fun _ _ _ => Ans.no) (fun _ _ _ => Ans.no) (fun _ _ _ => Ans.no) (fun _ _ _ _ => Ans.no) (fun _ _ _ => Ans.no) (fun _ => Ans.no) (fun _ _ => Ans.no) (fun _ _ => Ans.no) (fun _ _ => Ans.no) (a))) (fun _a _t _ => Ans.no) (t))) (args))⟩
/-! ### Words -/
def w8 (l : List Nat) : List UInt8 := l.map UInt8.ofNat
def litW (v : Value) : Lit := match v with | .string s => .string s.data.toList | _ => .bool false
theorem encStr_bstr (l : List Nat) : encStr (w8 l) = .string (bstr l) := rfl
theorem insL_perm (a : List Nat) : ∀ l, (insL a l).Perm (a :: l)
  | [] => List.Perm.refl _
  | b :: t => by
    show (bif_ (ltL b a) (b :: insL a t) (a :: b :: t)).Perm _
    cases ltL b a with
    | true => exact ((insL_perm a t).cons b).trans (List.Perm.swap a b t)
    | false => exact List.Perm.refl _
theorem sortL_perm : ∀ l, (sortL l).Perm l
  | [] => List.Perm.refl _
  | a :: t => (insL_perm a (sortL t)).trans ((sortL_perm t).cons a)
theorem ascL_cons {a b : List Nat} {t : List (List Nat)} (h : ascL (a :: b :: t) = true) : ltL a b = true ∧ ascL (b :: t) = true := and_eq.1 h
theorem lt_w8 {a b : List Nat} (ha : ∀ n ∈ a, n < 256) (hb : ∀ n ∈ b, n < 256) (h : ltL a b = true) : w8 a < w8 b := by
  have h1 := ltS_eq a b ha hb
  rw [h, bytesLess_eq, decide_eq_true_eq] at h1
  exact h1
theorem ascL_pair : ∀ l : List (List Nat), (∀ a ∈ l, ∀ n ∈ a, n < 256) → ascL l = true → (l.map w8).Pairwise (fun x y => x < y)
  | [], _, _ => List.Pairwise.nil
  | [a], _, _ => by simp
  | a :: b :: t, hl, h => by
    obtain ⟨h1, h2⟩ := ascL_cons h
    have ih := ascL_pair (b :: t) (fun x hx => hl x (by simp [hx])) h2
    have hab := lt_w8 (hl a (by simp)) (hl b (by simp)) h1
    rw [List.map_cons, List.pairwise_cons]
    refine ⟨fun x hx => ?_, ih⟩
    rw [List.map_cons, List.mem_cons] at hx
    rcases hx with rfl | hx
    · exact hab
    · rw [List.map_cons, List.pairwise_cons] at ih
      exact List.lt_trans hab (ih.1 x hx)
theorem wordsL_some : ∀ (l : List (AV × AV)) {ks : List (List Nat)}, wordsL l = some ks → l.map (·.1) = ks.map AV.s
  | [], ks, h => by cases h; rfl
  | (k, v) :: t, ks, h => by
    cases k with
    | s a =>
      cases e : wordsL t with
      | none =>
        have h1 : (Option.rec (motive := fun _ => Option (List (List Nat))) none (fun r => some (a :: r)) (wordsL t) : Option (List (List Nat))) = some ks := h
        rw [e] at h1; cases h1
      | some r =>
        have h1 : (Option.rec (motive := fun _ => Option (List (List Nat))) none (fun r => some (a :: r)) (wordsL t) : Option (List (List Nat))) = some ks := h
        rw [e] at h1
        cases h1
        have := wordsL_some t e
        simp [this]
    | _ => cases h
theorem shortL_all : ∀ (l : List (List Nat)), shortL l = true → ∀ a ∈ l, a.length ≤ 1000000
  | [], _, a, ha => by simp at ha
  | b :: t, h, a, ha => by
    obtain ⟨h1, h2⟩ := and_eq.1 h
    rcases List.mem_cons.1 ha with rfl | ha
    · exact ble_iff.1 h1
    · exact shortL_all t h2 a ha
/-- A cell that was read. -/
theorem load_cell [Rho] {nm : Nm} {off : Nat} {h : Hp} {kk : AV → Ans} (hy : fLoad1 (.p nm off) h kk = .yes) : ∃ v, kk v = .yes ∧ ∀ K μ w, MR K μ h w → ∀ bk, μ nm = some bk → ∃ c, w.cell? ⟨bk.blk, off, none⟩ = some c ∧ VR μ v c := by
  obtain ⟨m, c⟩ := h
  have h1 := hy
  obtain ⟨ty, op, n, es, form, ke, tr, hm, h2⟩ := inv_cells h1
  obtain ⟨hn, h3⟩ := inv_if h2
  have hn : off + 1 ≤ n := ble_iff.1 hn
  have key : kk (cellOf form (Tr.get (α := AV) ke (paK ke (off / es)) tr) (off % es)) = .yes := by
    rcases inv_bif h3 with ⟨e, h4⟩ | ⟨e, h4⟩
    · rw [Tr.g_eq] at h4
      have e := beq_iff.1 e
      rw [e, Nat.div_one, Nat.mod_one]
      exact (compK_yes h4).1
    · rw [Tr.g_eq] at h4
      exact (compK_yes h4).1
  refine ⟨_, key, fun K μ w hr bk hb => ?_⟩
  obtain ⟨arr, fr, ha, hc⟩ := hr.cells hm hb
  obtain ⟨v, h5, h6, h7⟩ := hc.hcell off (by omega)
  exact ⟨v, by rw [cell_of_row w _ _ arr ty fr ha, h5], h7⟩
/-! ### What is asked of the library's functions -/
abbrev anyR : Value → Option (DataW Unit × List MemPlace) := fun _ => some (.nil, [])
structure SortedAt (P : Program) (f g : FuncId) (e : TypeId) : Prop where
  enter : Enter P f
  str : P.underlying e = some .string
  full : ∀ (Bm b nn : Nat) (D : DataW Unit) (w : World), Bm < w.heap.size → w.cell? ⟨Bm, 0, none⟩ = some (.map (some b)) → w.ownsMap P e anyR b nn D → Maps.size D ≤ 262144 →
    Calls P f #[.func (.func g) #[] #[.pointer (some ⟨Bm, 0, none⟩)]] w fun e' w' => ∃ (v : Value) (ss : List (List UInt8)), e' = .returned v ∧ ss.Perm (strKeys D) ∧ w'.ownsRow w.heap.size e 1 v ss.length ((ss.mergeSort (fun x y => decide (x ≤ y))).map encStr) ∧ (v = .slice none 0 0 ↔ ss = []) ∧ Below w.heap.size w w'
  empty : ∀ (Bm : Nat) (w : World), Bm < w.heap.size → w.cell? ⟨Bm, 0, none⟩ = some (.map none) →
    Calls P f #[.func (.func g) #[] #[.pointer (some ⟨Bm, 0, none⟩)]] w fun e' w' => e' = .returned (.slice none 0 0) ∧ Below w.heap.size w w'
structure CloneAt (P : Program) (f : FuncId) : Prop where
  enter : Enter P f
  full : ∀ (b : Nat) (es : Array MapEntry) (clock : Nat) (w : World), w.heap[b]? = some (.map es clock) → Calls P f #[.map (some b)] w fun e w' => e = .returned (.map (some w.heap.size)) ∧ w' = w.alloc (.map es clock)
  empty : ∀ w : World, Calls P f #[.map none] w fun e w' => e = .returned (.map none) ∧ w' = w
variable {P : Program}
theorem cloneF_ok [Rho] {f : FuncId} (hC : CloneAt P f) : FcOk P f cloneF := by
  intro hn hS l h kk hy
  obtain ⟨a, t, rfl, h1⟩ := inv_cons hy
  obtain ⟨rfl, h2⟩ := inv_nil h1
  refine ⟨hC.enter, ?_⟩
  rcases inv_m_ h2 with ⟨e, h3⟩ | ⟨nm, rfl, h3⟩
  · refine ⟨_, _, h3, fun K μ w args hr hv => ?_⟩
    obtain ⟨x', ys, e1, hx, hv⟩ := hv.cons_inv
    have := hv.nil_inv
    subst this
    rw [m_none (by rw [e]; rfl) hx] at e1
    have he : args = #[.map none] := by apply Array.toList_inj.1; rw [e1]
    subst he
    exact (hC.empty w).mono fun e w' ⟨e1, e2⟩ => ⟨μ, _, e1, Ext.refl μ, .m0, by rw [e2]; exact hr⟩
  · obtain ⟨es0, hm, h4⟩ := inv_mp h3
    obtain ⟨c', q1, q2⟩ := new_yes h4
    refine ⟨_, _, q2, fun K μ w args hr hv => ?_⟩
    obtain ⟨x', ys, e1, hx, hv⟩ := hv.cons_inv
    have := hv.nil_inv
    subst this
    cases hx with | m _ bk hb =>
    have he : args = #[.map (some bk.blk)] := by apply Array.toList_inj.1; rw [e1]
    subst he
    obtain ⟨es, clock, k1, k2, k3, k4⟩ := hr.map hm hb
    have hx := Mp.to_ext (μ := μ) (c := h.c) ⟨w.heap.size, 0, 0⟩ (hr.fresh (Nat.le_refl _))
    refine (hC.full bk.blk es clock w k1).mono fun e w' ⟨e1, e2⟩ => ⟨_, _, e1, hx, .m h.c ⟨w.heap.size, 0, 0⟩ (Mp.to_same _ _ _), ?_⟩
    rw [e2]
    exact hr.new (Nat.le_refl _) q1 (.map es clock) _ 0 0 (Kp.above hr) ⟨es, clock, by simp, k2, fun i p e hp he => ⟨(k3 i p e hp he).1.ext hx, (k3 i p e hp he).2.ext hx⟩, k4⟩
theorem heapRow {w : World} {e : TypeId} {v : Value} {n : Nat} {xs : List Value} (h : w.ownsRow n e 1 v xs.length xs) (hv : v ≠ .slice none 0 0) : ∃ g cap rest, v = .slice (some ⟨g, 0, none⟩) xs.length cap ∧ n ≤ g ∧ g < w.heap.size ∧ w.heap[g]? = some (.cells (xs ++ rest).toArray e (0, 0)) ∧ xs.length ≤ cap ∧ cap = (xs ++ rest).length := by
  rcases h.2 with ⟨h1, _⟩ | ⟨g, cap, cur, h1, h2, h3, h4, h5, h6, h7⟩
  · exact (hv h1).elim
  · refine ⟨g, cap, cur.toList.drop (xs.length * 1), h1, h2, heap_lt h3, ?_, h4, ?_⟩
    · rw [h3]
      have : cur = (xs ++ cur.toList.drop (xs.length * 1)).toArray := by
        apply Array.toList_inj.1
        show cur.toList = xs ++ _
        conv => lhs; rw [← List.take_append_drop (xs.length * 1) cur.toList]
        rw [h7]
      rw [← this]
    · have := congrArg List.length h7
      rw [List.length_take, Array.length_toList (xs := cur)] at this
      have h8 : (xs ++ cur.toList.drop (xs.length * 1)).length = xs.length + (cur.size - xs.length * 1) := by rw [List.length_append, List.length_drop, Array.length_toList (xs := cur)]
      rw [h8]
      omega
theorem sortedK_ok [Rho] {h : Hp} {ty : Nat} {ks : List (List Nat)} {kk : AV → Hp → Ans} (hy : sortedK ty ks h kk = .yes) :
    ∃ v h', kk v h' = .yes ∧ ∀ K μ w w' (v' : Value) (ss : List (List UInt8)), MR K μ h w → (∀ a ∈ ks, ∀ n ∈ a, n < 256) → ss.Perm (ks.map w8) → w'.ownsRow w.heap.size ty 1 v' ss.length ((ss.mergeSort (fun x y => decide (x ≤ y))).map encStr) → (v' = .slice none 0 0 ↔ ss = []) → Below w.heap.size w w' →
      ∃ μ', Ext μ μ' ∧ VR μ' v v' ∧ MR K μ' h' w' := by
  obtain ⟨h1, h2⟩ := inv_if hy
  obtain ⟨h3, h4⟩ := and_eq.1 h1
  have h3 := ble_iff.1 (and_eq.1 h3).1
  cases ks with
  | nil =>
    refine ⟨_, _, h2, fun K μ w w' v' ss hr _ hp _ hn hb => ⟨μ, Ext.refl μ, ?_, hr.keeps hb⟩⟩
    have : ss = [] := by simpa using hp.length_eq
    rw [hn.2 this]
    exact .sl0
  | cons k0 kt =>
    generalize hks : k0 :: kt = ks at *
    have h2 : newE ty 1 0 (ks.map AV.s) h (fun nm h => kk (.so nm 0 ks.length) h) = .yes := by rw [← hks] at h2 ⊢; exact h2
    have hS : Shp 1 0 := ⟨by omega, by show 1 ≤ top 0; decide, by omega, fun _ => rfl⟩
    obtain ⟨c', tr, q1, q2, q3⟩ := newE_yes hS (by rw [List.length_map]; omega) h2
    refine ⟨_, _, q2, fun K μ w w' v' ss hr hlt hp hrow hn hb => ?_⟩
    have hne : ss ≠ [] := fun e => by
      have := hp.length_eq
      rw [e, ← hks] at this
      simp at this
    have hsort : ss.mergeSort (fun x y => decide (x ≤ y)) = ks.map w8 := by
      have h5 := mergeSort_of_perm hp
      have h6 : (ks.map w8).mergeSort leB = ks.map w8 := List.mergeSort_of_pairwise ((ascL_pair ks hlt h4).imp fun {a b} hab => by
        simp only [leB, decide_eq_true_eq]
        exact List.le_of_lt hab)
      exact h5.trans h6
    rw [hsort, hp.length_eq, List.length_map, List.map_map] at hrow
    have hlen : (ks.map (encStr ∘ w8)).length = ks.length := by simp
    rw [← hlen] at hrow
    obtain ⟨g, cap, rest, e1, e2, e3, e4, e5, e6⟩ := heapRow hrow (fun e => hne (hn.1 e))
    have hr' := hr.keeps hb
    have hE : ∀ μ, Elts μ 1 0 (ks.map AV.s) (ks.map (encStr ∘ w8)) := fun μ => by
      refine { len := by simp, form := fun i a _ => rfl, cell := fun j hj => ?_ }
      have hj' : j < ks.length := by simpa using hj
      refine ⟨.string (bstr ks[j]), by simp [hj', w8, bstr, encStr], rfl, ?_⟩
      rw [Nat.div_one, List.getD_eq_getElem?_getD]
      have : (ks.map AV.s)[j]? = some (.s ks[j]) := by simp [hj']
      rw [this]
      exact .s _ (hlt _ (List.getElem_mem _))
    have hx := Mp.to_ext (μ := μ) (c := h.c) ⟨g, (ks.map (encStr ∘ w8) ++ rest).length, 1⟩ (hr.fresh (Nat.le_refl _))
    refine ⟨_, hx, ?_, hr'.adopt q1 g (ks.map (encStr ∘ w8) ++ rest).length 1 _ e3 (Kp.above hr g e2) (fun a bk ha hm hh => by have h1 := (hr.dom a bk hm).1; have h2 : bk.blk = g := hh; omega) rfl rfl rfl rfl (fun _ _ => rfl) ⟨_, _, e4, ?_⟩⟩
    · rw [e1, hlen]
      rw [hlen] at e5
      exact .so h.c 0 _ _ _ (Mp.to_same _ _ _) e5 (by omega) (fun _ => by show cap * 1 ≤ (ks.map (encStr ∘ w8) ++ rest).length; omega)
    · have := q3 (Mp.to μ h.c ⟨g, (ks.map (encStr ∘ w8) ++ rest).length, 1⟩) (ks.map (encStr ∘ w8)) rest g (hE _)
      exact this
theorem sortedF_ok [Rho] {f g : FuncId} {e : TypeId} (hC : SortedAt P f g e) : FcOk P f (sortedF g e) := by
  intro hn hS l h kk hy
  obtain ⟨a, t, rfl, h1⟩ := inv_cons hy
  obtain ⟨f0, x, y, rfl, h2⟩ := inv_fn h1
  obtain ⟨h3, h4⟩ := inv_if h2
  have h3 : f0 = g := beq_iff.1 h3
  subst h3
  obtain ⟨rfl, h5⟩ := inv_nil h4
  obtain ⟨p, y2, rfl, h6⟩ := inv_cons h5
  obtain ⟨rfl, h7⟩ := inv_nil h6
  obtain ⟨rfl, h8⟩ := inv_nil h7
  obtain ⟨nm, off, rfl, h9⟩ := inv_p h8
  obtain ⟨h10, h11⟩ := inv_if h9
  have h10 : off = 0 := beq_iff.1 h10
  subst h10
  refine ⟨hC.enter, ?_⟩
  obtain ⟨v, h12, h13⟩ := load_cell h11
  have args_of : ∀ {μ : Mp} {args : Array Value}, VRs μ [.fn f0 [] [.p nm 0]] args.toList → ∃ bk, μ nm = some bk ∧ args = #[.func (.func f0) #[] #[.pointer (some ⟨bk.blk, 0, none⟩)]] := by
    intro μ args hv
    obtain ⟨x', ys, e1, hx, hv⟩ := hv.cons_inv
    have := hv.nil_inv
    subst this
    cases hx with | fn _ _ _ x2 y2 s1 s2 s3 s4 =>
    have s1 : x2 = #[] := Array.size_eq_zero_iff.1 (by simpa using s1)
    subst s1
    have s2 : y2.size = 1 := by simpa using s2
    have s5 := s4 0 _ y2[0] rfl (by simp [s2])
    obtain ⟨bk, hb, e2⟩ := s5.p_inv
    have e3 : y2 = #[.pointer (some ⟨bk.blk, 0, none⟩)] := by
      rw [← e2]
      apply Array.ext
      · simp [s2]
      · intro i hi _
        have : i = 0 := by omega
        subst this
        rfl
    refine ⟨bk, hb, ?_⟩
    apply Array.toList_inj.1
    rw [e1, e3]
  rcases inv_m_ h12 with ⟨e, h14⟩ | ⟨mm, rfl, h14⟩
  · refine ⟨_, _, h14, fun K μ w args hr hv => ?_⟩
    obtain ⟨bk, hb, rfl⟩ := args_of hv
    obtain ⟨c, c1, c2⟩ := h13 K μ w hr bk hb
    rw [m_none (by rw [e]; rfl) c2] at c1
    exact (hC.empty bk.blk w (hr.dom nm bk hb).1 c1).mono fun e w' ⟨e1, e2⟩ => ⟨μ, _, e1, Ext.refl μ, .sl0, hr.keeps e2⟩
  · obtain ⟨l, hm, h15⟩ := inv_mp h14
    obtain ⟨ks, hw, h16⟩ := inv_opt h15
    have hw := wordsL_some l hw
    have hlen : l.length = ks.length := by have := congrArg List.length hw; simpa using this
    have hsz : (sortL ks).length ≤ 262144 ∧ ascL (sortL ks) = true ∧ shortL (sortL ks) = true := by
      obtain ⟨g1, _⟩ := inv_if h16
      obtain ⟨g2, g3⟩ := and_eq.1 g1
      obtain ⟨g2, g4⟩ := and_eq.1 g2
      exact ⟨ble_iff.1 g2, g3, g4⟩
    have hsp := sortL_perm ks
    obtain ⟨v, h', q1, q2⟩ := sortedK_ok h16
    refine ⟨v, h', q1, fun K μ w args hr hv => ?_⟩
    obtain ⟨bk, hb, rfl⟩ := args_of hv
    obtain ⟨c, c1, c2⟩ := h13 K μ w hr bk hb
    cases c2 with | m _ mb hmb =>
    obtain ⟨es, clock, k1, k2, k3, k4⟩ := hr.map hm hmb
    -- the keys of the map
    have hkey : ∀ (i : Nat) (k : List Nat) (x : MapEntry), ks[i]? = some k → es[i]? = some x → x.key = Value.string (bstr k) ∧ ∀ n ∈ k, n < 256 := by
      intro i k x hk hx
      have h1 : (l.map (·.1))[i]? = some (.s k) := by rw [hw]; simp [hk]
      rw [List.getElem?_map, Option.map_eq_some_iff] at h1
      obtain ⟨p, p1, p2⟩ := h1
      have := (k3 i p x p1 hx).1
      rw [p2] at this
      exact this.s_inv
    have hes : es.size = ks.length := by rw [k2, hlen]
    have hlt : ∀ a ∈ ks, ∀ n ∈ a, n < 256 := by
      intro a ha
      obtain ⟨i, hi, rfl⟩ := List.getElem_of_mem ha
      exact (hkey i ks[i] (es[i]'(by omega)) (by simp [hi]) (by simp)).2
    have hkl : es.toList.map (·.key) = ks.map fun k => Value.string (bstr k) := by
      apply List.ext_getElem
      · simp [hes]
      · intro i h1 h2
        have hi : i < ks.length := by simpa using h2
        have := (hkey i ks[i] (es[i]'(by omega)) (by simp [hi]) (by simp)).1
        simpa using this
    have hnd : ks.Nodup := by
      have hp := ascL_pair _ (fun a ha => hlt a (hsp.mem_iff.1 ha)) hsz.2.1
      have h1 : ((sortL ks).map w8).Nodup := hp.imp fun {a b} hab e => by subst e; exact List.lt_irrefl _ hab
      exact hsp.nodup_iff.1 ((List.pairwise_map.1 h1).imp fun {a b} hab e => hab (by rw [e]))
    have hkn : (es.toList.map (·.key)).Nodup := by
      rw [hkl]
      refine List.pairwise_map.2 (hnd.imp_of_mem fun {a b} ha hb hab e => hab ?_)
      have e1 : bstr a = bstr b := by simpa using e
      have e2 : a.map UInt8.ofNat = b.map UInt8.ofNat := by
        rw [← bstr_list, ← bstr_list, e1]
      have : ∀ (a b : List Nat), (∀ n ∈ a, n < 256) → (∀ n ∈ b, n < 256) → a.map UInt8.ofNat = b.map UInt8.ofNat → a = b := by
        intro a
        induction a with
        | nil => intro b _ _ h; cases b with | nil => rfl | cons _ _ => simp at h
        | cons x t ih =>
          intro b ha hb h
          cases b with
          | nil => simp at h
          | cons y u =>
            simp only [List.map_cons, List.cons.injEq] at h
            have hx := ha x (by simp)
            have hy := hb y (by simp)
            have h1 := congrArg UInt8.toNat h.1
            rw [UInt8.toNat_ofNat_of_lt' hx, UInt8.toNat_ofNat_of_lt' hy] at h1
            rw [h1, ih u (fun n hn => ha n (by simp [hn])) (fun n hn => hb n (by simp [hn])) h.2]
      exact this a b (hlt a ha) (hlt b hb) e2
    have hmax : es.size ≤ maxLen := by
      have := hsp.length_eq
      have h1 : (262144 : Nat) ≤ maxLen := by decide
      omega
    have hbs : ∀ x ∈ es.toList, ∃ k, k ∈ ks ∧ x.key = Value.string (bstr k) := by
      intro x hx
      have : x.key ∈ es.toList.map (·.key) := List.mem_map.2 ⟨x, hx, rfl⟩
      rw [hkl] at this
      obtain ⟨k, k1, k2⟩ := List.mem_map.1 this
      exact ⟨k, k1, k2.symm⟩
    have hrd : ∀ x ∈ es.toList, ∃ k, k ∈ ks ∧ x.key = Value.string (bstr k) ∧ WideElems.rd P e anyR x = some (.string (w8 k), .nil) := by
      intro x hx
      obtain ⟨k, g1, g2⟩ := hbs x hx
      refine ⟨k, g1, g2, ?_⟩
      have g3 := shortL_all _ hsz.2.2 k (hsp.mem_iff.2 g1)
      have g4 : (bstr k).size ≤ maxLen := by
        rw [bstr_size]
        have h1 : (1000000 : Nat) ≤ maxLen := by decide
        omega
      unfold WideElems.rd
      rw [g2, WideMaps.keyOf_string_mk hC.str g4]
      rfl
    have hrg : es.toList.map (WideElems.rg P e anyR) = ks.map fun k => (Lit.string (w8 k), (DataW.nil : DataW Unit)) := by
      have h1 : es.toList.map (WideElems.rg P e anyR) = (es.toList.map (·.key)).map fun v => (litW v, (DataW.nil : DataW Unit)) := by
        rw [List.map_map]
        refine List.map_congr_left fun x hx => ?_
        obtain ⟨k, g1, g2, g3⟩ := hrd x hx
        show (WideElems.rd P e anyR x).getD _ = _
        rw [g3]
        show _ = (litW x.key, (DataW.nil : DataW Unit))
        rw [g2]
        rfl
      rw [h1, hkl, List.map_map]
      exact List.map_congr_left fun k hk => rfl
    have hown : w.ownsMap P e anyR mb.blk es.size (.map ((es.toList.map (WideElems.rg P e anyR)).foldr DataW.insert [])) :=
      ⟨es, clock, k1, ⟨hmax, ⟨k4.1, k4.2, hkn⟩, fun x hx => let ⟨k, _, _, g3⟩ := hrd x hx; ⟨_, g3⟩⟩, Nat.le_refl _, rfl⟩
    have hD : Maps.size (DataW.map ((es.toList.map (WideElems.rg P e anyR)).foldr DataW.insert []) : DataW Unit) ≤ 262144 := by
      rw [Maps.size_eq, length_sorted, List.length_map, Array.length_toList, hes, ← hsp.length_eq]
      exact hsz.1
    have hkeys : (strKeys (DataW.map ((es.toList.map (WideElems.rg P e anyR)).foldr DataW.insert []) : DataW Unit)).Perm ((sortL ks).map w8) := by
      show (((es.toList.map (WideElems.rg P e anyR)).foldr DataW.insert []).map fun p => strOf p.1).Perm _
      refine ((WideShapes.sorted_perm _).map _).trans ?_
      rw [hrg, List.map_map]
      exact (hsp.map w8).symm
    refine (hC.full bk.blk mb.blk es.size _ w (hr.dom nm bk hb).1 c1 hown hD).mono fun ex w' ⟨v', ss, e1, e2, e3, e4, e5⟩ => ?_
    obtain ⟨μ', p1, p2, p3⟩ := q2 K μ w w' v' ss hr (fun a ha => hlt a (hsp.mem_iff.1 ha)) (e2.trans hkeys) e3 e4 e5
    exact ⟨μ', v', e1, p1, p2, p3⟩
end
end Go.Proofs.YteefpemaeecicaaGreatDoor.Ev
end
