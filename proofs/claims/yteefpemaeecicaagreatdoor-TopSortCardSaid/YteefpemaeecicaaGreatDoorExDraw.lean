/- Regions that draw: plans, names, blocks that wait, checks. No condition. -/
import Derived.Test.YteefpemaeecicaaGreatDoorExSame
section
open Go
namespace Go.Proofs.YteefpemaeecicaaGreatDoor.Ev
set_option linter.unusedVariables false
set_option linter.unusedSimpArgs false
set_option linter.constructorNameAsVariable false
noncomputable section
/-! ### Blocks that wait -/
def layM (mask : Nat) : List La → Hp → Hp
  | [], h => h
  | x :: l, h => if bit mask x.r = true then layM mask l ⟨Mem.to x.nm h.m x.b, h.c⟩ else layM mask l h
def layR (mask : Nat) (l : List La) : List La := l.filter fun x => !(bit mask x.r)
theorem layK_eq (mask : Nat) : ∀ (l : List La) (h : Hp) (g : Hp → List La → Ans), layK mask l h g = g (layM mask l h) (layR mask l)
  | [], h, g => rfl
  | x :: l, h, g => by
    show Bool.rec (motive := fun _ => Ans) (layK mask l h fun h l => g h (x :: l)) (layK mask l ⟨Mem.to x.nm h.m x.b, h.c⟩ g) (bit mask x.r) = _
    cases hb : bit mask x.r with
    | true =>
      show layK mask l ⟨Mem.to x.nm h.m x.b, h.c⟩ g = _
      rw [layK_eq mask l]
      simp [layM, layR, hb]
    | false =>
      show layK mask l h (fun h l => g h (x :: l)) = _
      rw [layK_eq mask l]
      simp [layM, layR, hb]
def layAllM : List La → Hp → Hp
  | [], h => h
  | x :: l, h => layAllM l ⟨Mem.to x.nm h.m x.b, h.c⟩
theorem layAll_eq : ∀ (l : List La) (h : Hp) (g : Hp → Ans), layAll l h g = g (layAllM l h)
  | [], h, g => rfl
  | x :: l, h, g => by
    show layAll l ⟨Mem.to x.nm h.m x.b, h.c⟩ g = _
    rw [layAll_eq l]; rfl
theorem layM_c (mask : Nat) : ∀ (l : List La) (h : Hp), (layM mask l h).c = h.c
  | [], h => rfl
  | x :: l, h => by
    unfold layM
    split
    · rw [layM_c mask l]
    · exact layM_c mask l h
/-! ### Names -/
theorem namesK_yes : ∀ (n : Nat) (c : Nm) (g : List Nm → Nm → Ans), namesK n c g = .yes → ∃ ns c', g ns c' = .yes ∧ ns.length = n ∧ (∀ (q : Nat) x, ns[q]? = some x → x.rank = c.rank + q) ∧ c'.rank = c.rank + n
  | 0, c, g, h => ⟨[], c, h, rfl, fun q x e => by simp at e, rfl⟩
  | n + 1, c, g, h => by
    have h' : Nm.nxt c (fun c' => namesK n c' fun l c'' => g (c :: l) c'') = .yes := h
    obtain ⟨c1, h1, h2⟩ := Nm.nxt_yes h'
    rw [h2] at h'
    obtain ⟨ns, c', h3, h4, h5, h6⟩ := namesK_yes n c1 _ h'
    refine ⟨c :: ns, c', h3, by simp [h4], fun q x e => ?_, by omega⟩
    cases q with
    | zero => simp at e; subst e; omega
    | succ q => have := h5 q x (by simpa using e); omega
/-! ### Checks -/
def CkOk (c : Ck) : Prop := ∀ h ok, c.run h ok = .yes → ok () = .yes
theorem verK_yes {run : Hp → (Unit → Ans) → Ans} (hr : ∀ h ok, run h ok = .yes → ok () = .yes) {ok : Unit → Ans} : ∀ (hs : List Hp) (lo cnt : Nat), verK hs run ok lo cnt = .yes → ok () = .yes ∧ ∀ m, lo ≤ m → m < lo + cnt → ∃ hm, hs[m]? = some hm ∧ ∃ o, run hm o = .yes
  | [], lo, cnt, h => by
    cases cnt with
    | zero => exact ⟨h, fun m a b => by omega⟩
    | succ c => cases h
  | x :: hs, 0, 0, h => ⟨h, fun m a b => by omega⟩
  | x :: hs, 0, cnt + 1, h => by
    have h' : run x (fun _ => verK hs run ok 0 cnt) = .yes := h
    have h2 := hr x _ h'
    obtain ⟨h3, h4⟩ := verK_yes hr hs 0 cnt h2
    refine ⟨h3, fun m a b => ?_⟩
    cases m with
    | zero => exact ⟨x, rfl, _, h'⟩
    | succ m =>
      obtain ⟨hm, q1, q2⟩ := h4 m (by omega) (by omega)
      exact ⟨hm, by simpa using q1, q2⟩
  | x :: hs, lo + 1, cnt, h => by
    have h' : verK hs run ok lo cnt = .yes := h
    obtain ⟨h3, h4⟩ := verK_yes hr hs lo cnt h'
    refine ⟨h3, fun m a b => ?_⟩
    cases m with
    | zero => omega
    | succ m =>
      obtain ⟨hm, q1, q2⟩ := h4 m (by omega) (by omega)
      exact ⟨hm, by simpa using q1, q2⟩
theorem chksK_yes {hs : List Hp} : ∀ (l : List Ck) (ok : Unit → Ans), (∀ c ∈ l, CkOk c) → chksK hs l ok = .yes → ok () = .yes ∧ ∀ c ∈ l, ∀ m, c.lo ≤ m → m < c.lo + c.cnt → ∃ hm, hs[m]? = some hm ∧ ∃ o, c.run hm o = .yes
  | [], ok, _, h => ⟨h, fun c hc => by simp at hc⟩
  | c :: l, ok, hc, h => by
    have h' : verK hs c.run (fun _ => chksK hs l ok) c.lo c.cnt = .yes := h
    obtain ⟨h1, h2⟩ := verK_yes (hc c (by simp)) hs c.lo c.cnt h'
    obtain ⟨h3, h4⟩ := chksK_yes l ok (fun c hc' => hc c (by simp [hc'])) h1
    refine ⟨h3, fun c' hc' => ?_⟩
    rcases List.mem_cons.1 hc' with rfl | hc'
    · exact h2
    · exact h4 c' hc'
/-! ### Plans -/
theorem bit_eq (m i : Nat) : bit m i = m.testBit i := by
  unfold bit
  show Nat.beq ((m >>> i) &&& 1) 1 = _
  rw [Nat.testBit, Nat.and_comm, Bool.eq_iff_iff, beq_iff, bne_iff_ne]
  have : 1 &&& (m >>> i) < 2 := Nat.lt_of_le_of_lt Nat.and_le_left (by omega)
  omega
theorem befs_spec {l : List Pl} {o : Oper} {x : Nat} (h : bit (befs l o) x = true) : ∃ e ∈ o.after.toList, Region.binds .any e = true ∧ (e.on = x ∨ ∃ y, l[e.on]? = some y ∧ bit y.bef x = true) := by
  have gen : ∀ (es : List Edge) (s : Nat), bit (es.foldl (fun s e => bif_ (Region.binds .any e) (Nat.lor s (Nat.lor (Nat.shiftLeft 1 e.on) (((l[e.on]?).map (·.bef)).getD 0))) s) s) x = true →
      bit s x = true ∨ ∃ e ∈ es, Region.binds .any e = true ∧ (e.on = x ∨ ∃ y, l[e.on]? = some y ∧ bit y.bef x = true) := by
    intro es
    induction es with
    | nil => intro s h; exact .inl h
    | cons e es ih =>
      intro s h
      rcases ih _ h with h | ⟨e', h1, h2⟩
      · simp only [bif_eq] at h
        split at h
        · rename_i hb
          have h' : bit (s ||| ((1 <<< e.on) ||| (((l[e.on]?).map (·.bef)).getD 0))) x = true := h
          rw [bit_eq, Nat.testBit_or, Nat.testBit_or, Bool.or_eq_true, Bool.or_eq_true] at h'
          rcases h' with h' | h' | h'
          · exact .inl (by rw [bit_eq]; exact h')
          · refine .inr ⟨e, by simp, hb, .inl ?_⟩
            rw [Nat.testBit_shiftLeft] at h'
            simp only [Bool.and_eq_true, decide_eq_true_eq] at h'
            have : (1 : Nat).testBit (x - e.on) = true := h'.2
            rw [Nat.testBit_one_eq_true_iff_self_eq_zero] at this
            omega
          · refine .inr ⟨e, by simp, hb, .inr ?_⟩
            cases hy : l[e.on]? with
            | none => rw [hy] at h'; simp at h'
            | some y => rw [hy] at h'; exact ⟨y, rfl, by rw [bit_eq]; exact h'⟩
        · exact .inl h
      · exact .inr ⟨e', by simp [h1], h2⟩
  rcases gen o.after.toList 0 h with h | h
  · rw [bit_eq] at h; simp at h
  · exact h
def PlanAt (T : Ty) (ops : List Oper) (r : List Pl) (j : Nat) (y : Pl) : Prop := ∃ o, ops[j]? = some o ∧ y.o = o ∧ y.f = opF T o.op ∧ y.i = j ∧ y.kind = kindOf y.f ∧ y.see = seesOf ops o y.f ∧ y.bef = befs (r.take j) o
theorem plans_spec (T : Ty) (ops : List Oper) : ∀ (l : List Oper) (acc : List Pl), ops.drop acc.length = l → acc.length ≤ ops.length → (∀ (j : Nat) y, acc[j]? = some y → PlanAt T ops acc j y) →
    (plans T ops l acc).length = ops.length ∧ ∀ (j : Nat) y, (plans T ops l acc)[j]? = some y → PlanAt T ops (plans T ops l acc) j y
  | [], acc, hd, hl, h => by
    have : acc.length = ops.length := by
      have := congrArg List.length hd
      simp at this
      omega
    exact ⟨this, h⟩
  | o :: l, acc, hd, hl, h => by
    have ho : ops[acc.length]? = some o := by
      have := congrArg (·[0]?) hd
      simpa using this
    have hlt : acc.length < ops.length := by
      rcases Nat.lt_or_ge acc.length ops.length with hh | hh
      · exact hh
      · rw [List.getElem?_eq_none hh] at ho; cases ho
    have hd' : ops.drop (acc.length + 1) = l := by
      have := congrArg List.tail hd
      simpa using this
    refine plans_spec T ops l (acc ++ [⟨o, opF T o.op, acc.length, befs acc o, kindOf (opF T o.op), seesOf ops o (opF T o.op)⟩]) (by simpa using hd') (by simp; omega) (fun j y hy => ?_)
    rw [List.getElem?_append] at hy
    split at hy
    · rename_i hj
      obtain ⟨o', q1, q2, q3, q4, q5, q6, q7⟩ := h j y hy
      refine ⟨o', q1, q2, q3, q4, q5, q6, ?_⟩
      rw [q7, List.take_append_of_le_length (by omega)]
    · rename_i hj
      have hj2 : j = acc.length := by
        rcases Nat.lt_or_ge (j - acc.length) 1 with hh | hh
        · omega
        · rw [List.getElem?_eq_none (by simpa using hh)] at hy; cases hy
      subst hj2
      rw [Nat.sub_self] at hy
      simp only [List.getElem?_cons_zero, Option.some.injEq] at hy
      subst hy
      refine ⟨o, ho, rfl, rfl, rfl, rfl, rfl, ?_⟩
      show befs acc o = _
      rw [List.take_append_of_le_length (by omega), List.take_length]
/-! ### What is looked at -/
def Env.only (l : List Nat) (S : Env) : Env := fun t => if t ∈ l then S t else none
theorem only_op {l : List Nat} {S : Env} {x : Operand} {v : AV} (h : opV S x = some v) (hx : ∀ t, x = .tmp t → t ∈ l) : opV (S.only l) x = some v := by
  cases x with
  | tmp t => show (if t ∈ l then S t else none) = _; rw [if_pos (hx t rfl)]; exact h
  | const c => exact h
  | func f => exact h
  | global g => exact h
theorem only_ops {l : List Nat} {S : Env} {xs : List Operand} {vs : List AV} (h : opVs S xs vs) (hx : ∀ x ∈ xs, ∀ t, x = .tmp t → t ∈ l) : opVs (S.only l) xs vs :=
  ⟨h.1, fun j x v h1 h2 => only_op (h.2 j x v h1 h2) (hx x (List.mem_of_getElem? h1))⟩
theorem sees_ops {ops : List Oper} {o : Oper} {f : OpF} {x : Operand} (h : x ∈ fOps f) (t : Nat) (e : x = .tmp t) : t ∈ seesOf ops o f := by
  unfold seesOf
  refine List.mem_append_right _ (List.mem_filterMap.2 ⟨x, h, ?_⟩)
  rw [e]
theorem sees_guard {ops : List Oper} {o : Oper} {f : OpF} {g : Nat} {want : Bool} {t : Nat} (hg : o.guard = some (g, want)) (ht : guardT ops g = some t) : t ∈ seesOf ops o f := by
  unfold seesOf
  rw [hg]
  simp [ht]
end
end Go.Proofs.YteefpemaeecicaaGreatDoor.Ev
end
section
open Go
namespace Go.Proofs.YteefpemaeecicaaGreatDoor.Ev
set_option linter.unusedVariables false
set_option linter.unusedSimpArgs false
set_option linter.constructorNameAsVariable false
noncomputable section
/-- What an operation has done, in the order of the text. -/
inductive DStep [Rho] (P : Program) (n : Nat) (l : List Pl) (ns : List Nm) (y : Pl) (R : Env) (h : Hp) (hs : List Hp) (cs : List Ck) (ls : List La) : AV → Hp → List Hp → List Ck → List La → Prop
  | pure (v : AV) : y.kind = 0 → PureW P n y.o R v → DStep P n l ns y R h hs cs ls v h hs cs ls
  | load (v : AV) : y.kind = 1 → LoadW P n y.o R h v → lateN l y + earlyN l y = 0 → DStep P n l ns y R h hs cs ls v h hs cs ls
  | loadc (v : AV) (c : Ck) : y.kind = 1 → LoadW P n y.o R h v → CkOk c → c.lo = aheadN l y - lateN l y → c.cnt = lateN l y + earlyN l y + 1 → (∀ hm o, c.run hm o = .yes → LoadW P n y.o R hm v) → DStep P n l ns y R h hs cs ls v h hs (c :: cs) ls
  | lay (v : AV) (nm : Nm) (b : Blk) : y.kind = 3 → LayW P n y.o R nm v b → ns[laysN l y.i]? = some nm → DStep P n l ns y R h hs cs ls v h hs cs (⟨y.i, nm, b⟩ :: ls)
  | eff (v : AV) (h' : Hp) : y.kind = 2 → StepW P n y.o R (layM y.bef ls h) v h' → DStep P n l ns y R h hs cs ls v h' (h :: hs) cs (layR y.bef ls)
section
variable {P : Program} {T : Ty} {k : Nat} {E : Em}
theorem nodeD_yes [Rho] {hn : H} (hS : HSound P hn) {ops : List Oper} {l : List Pl} {y : Pl} {f : OpF} (hf : y.f = f) (hkind : y.kind = kindOf f) (hsee : y.see = seesOf ops y.o f) (ho : OpOk P y.o f) {i : Nat} {G : Gm} {nx : Od k (i + 1)} {cx : Cx k} {fr : Tr AV k} {e : Ve i} {h : Hp} {hs : List Hp} {cs : List Ck} {ls : List La} {ns : List Nm} (hcx : cx.hn = hn)
    (hy : (nodeD k E l y i G nx).run cx fr e h hs cs ls ns = .yes) : ∃ v h' hs' cs' ls', nx.run cx fr (⟨v, e⟩ : Ce (Ve i)) h' hs' cs' ls' ns = .yes ∧ DStep P E.n l ns y ((envOf k E i G fr e).only y.see) h hs cs ls v h' hs' cs' ls' := by
  have hop : ∀ {x : Operand} {v : AV}, opV (envOf k E i G fr e) x = some v → x ∈ fOps f → opV ((envOf k E i G fr e).only y.see) x = some v := fun h hx => only_op h fun t ht => by rw [hsee]; exact sees_ops hx t ht
  have hops : ∀ {xs : List Operand} {vs : List AV}, opVs (envOf k E i G fr e) xs vs → (∀ x ∈ xs, x ∈ fOps f) → opVs ((envOf k E i G fr e).only y.see) xs vs := fun h hx => only_ops h fun x hx' t ht => by rw [hsee]; exact sees_ops (hx x hx') t ht
  unfold nodeD at hy
  rw [hf] at hy
  cases f with
  | bad => cases hy
  | mv x =>
    simp only at hy
    cases hq0 : opnd k E i G x with
    | none => simp only [hq0] at hy; cases hy
    | some g0 =>
      simp only [hq0] at hy
      exact ⟨g0.run fr e, h, hs, cs, ls, hy, .pure _ hkind (mv_pure ho (hop (opnd_spec hq0 fr e) (by simp [fOps])))⟩
  | p1 F x =>
    simp only at hy
    cases hq0 : opnd k E i G x with
    | none => simp only [hq0] at hy; cases hy
    | some g0 =>
      simp only [hq0] at hy
      have hy' : F (g0.run fr e) (fun v => nx.run cx fr (⟨v, e⟩ : Ce (Ve i)) h hs cs ls ns) = .yes := hy
      obtain ⟨v, h1, h2⟩ := p1_pure (n := E.n) ho (hop (opnd_spec hq0 fr e) (by simp [fOps])) hy'
      exact ⟨v, h, hs, cs, ls, h1, .pure v hkind h2⟩
  | p2 F x z =>
    simp only at hy
    cases hq0 : opnd k E i G x with
    | none => simp only [hq0] at hy; cases hy
    | some g0 =>
      cases hq1 : opnd k E i G z with
      | none => simp only [hq0, hq1] at hy; cases hy
      | some g1 =>
        simp only [hq0, hq1] at hy
        have hy' : F (g0.run fr e) (g1.run fr e) (fun v => nx.run cx fr (⟨v, e⟩ : Ce (Ve i)) h hs cs ls ns) = .yes := hy
        obtain ⟨v, h1, h2⟩ := p2_pure (n := E.n) ho (hop (opnd_spec hq0 fr e) (by simp [fOps])) (hop (opnd_spec hq1 fr e) (by simp [fOps])) hy'
        exact ⟨v, h, hs, cs, ls, h1, .pure v hkind h2⟩
  | p3 F x z u =>
    simp only at hy
    cases hq0 : opnd k E i G x with
    | none => simp only [hq0] at hy; cases hy
    | some g0 =>
      cases hq1 : opnd k E i G z with
      | none => simp only [hq0, hq1] at hy; cases hy
      | some g1 =>
        cases hq2 : opnd k E i G u with
        | none => simp only [hq0, hq1, hq2] at hy; cases hy
        | some g2 =>
          simp only [hq0, hq1, hq2] at hy
          have hy' : F (g0.run fr e) (g1.run fr e) (g2.run fr e) (fun v => nx.run cx fr (⟨v, e⟩ : Ce (Ve i)) h hs cs ls ns) = .yes := hy
          obtain ⟨v, h1, h2⟩ := p3_pure (n := E.n) ho (hop (opnd_spec hq0 fr e) (by simp [fOps])) (hop (opnd_spec hq1 fr e) (by simp [fOps])) (hop (opnd_spec hq2 fr e) (by simp [fOps])) hy'
          exact ⟨v, h, hs, cs, ls, h1, .pure v hkind h2⟩
  | pl F xs =>
    simp only at hy
    cases hq0 : opnds k E i G xs with
    | none => simp only [hq0] at hy; cases hy
    | some g0 =>
      simp only [hq0] at hy
      have hy' : F (g0.run fr e) (fun v => nx.run cx fr (⟨v, e⟩ : Ce (Ve i)) h hs cs ls ns) = .yes := hy
      obtain ⟨v, h1, h2⟩ := pl_pure (n := E.n) ho (hops (opnds_spec fr e hq0) (by simp [fOps])) hy'
      exact ⟨v, h, hs, cs, ls, h1, .pure v hkind h2⟩
  | l1 F x =>
    simp only [bif_eq] at hy
    split at hy
    · rename_i hz
      cases hq0 : opnd k E i G x with
      | none => simp only [hq0] at hy; cases hy
      | some g0 =>
        simp only [hq0] at hy
        have hy' : F (g0.run fr e) h (fun v => nx.run cx fr (⟨v, e⟩ : Ce (Ve i)) h hs cs ls ns) = .yes := hy
        obtain ⟨v, h1, h2⟩ := l1_load (n := E.n) ho (hop (opnd_spec hq0 fr e) (by simp [fOps])) hy'
        exact ⟨v, h, hs, cs, ls, h1, .load v hkind h2 (beq_iff.1 hz)⟩
    · cases hq0 : opnd k E i G x with
      | none => simp only [hq0] at hy; cases hy
      | some g0 =>
        simp only [hq0] at hy
        have hy' : F (g0.run fr e) h (fun v => nx.run cx fr (⟨v, e⟩ : Ce (Ve i)) h hs ((⟨Nat.sub (aheadN l y) (lateN l y), Nat.succ (Nat.add (lateN l y) (earlyN l y)), fun h ok => F (g0.run fr e) h fun w' => (Bool.rec (motive := fun _ => Ans) Ans.no (ok ()) (eqAV v w'))⟩ : Ck) :: cs) ls ns) = .yes := hy
        obtain ⟨v, h1, h2⟩ := l1_load (n := E.n) ho (hop (opnd_spec hq0 fr e) (by simp [fOps])) hy'
        refine ⟨v, h, hs, _, ls, h1, .loadc v _ hkind h2 (fun h ok hh => ?_) rfl rfl (fun hm o hh => ?_)⟩
        · have hh' : F (g0.run fr e) h (fun w' => (Bool.rec (motive := fun _ => Ans) Ans.no (ok ()) (eqAV v w'))) = .yes := hh
          obtain ⟨w', h3, _⟩ := l1_load (n := E.n) ho (hop (opnd_spec hq0 fr e) (by simp [fOps])) hh'
          exact (inv_if h3).2
        · have hh' : F (g0.run fr e) hm (fun w' => (Bool.rec (motive := fun _ => Ans) Ans.no (o ()) (eqAV v w'))) = .yes := hh
          obtain ⟨w', h3, h4⟩ := l1_load (n := E.n) ho (hop (opnd_spec hq0 fr e) (by simp [fOps])) hh'
          have := eqAV_sound v w' (inv_if h3).1
          rw [this]; exact h4
  | l2 F x z =>
    simp only [bif_eq] at hy
    split at hy
    · rename_i hz
      cases hq0 : opnd k E i G x with
      | none => simp only [hq0] at hy; cases hy
      | some g0 =>
        cases hq1 : opnd k E i G z with
        | none => simp only [hq0, hq1] at hy; cases hy
        | some g1 =>
          simp only [hq0, hq1] at hy
          have hy' : F (g0.run fr e) (g1.run fr e) h (fun v => nx.run cx fr (⟨v, e⟩ : Ce (Ve i)) h hs cs ls ns) = .yes := hy
          obtain ⟨v, h1, h2⟩ := l2_load (n := E.n) ho (hop (opnd_spec hq0 fr e) (by simp [fOps])) (hop (opnd_spec hq1 fr e) (by simp [fOps])) hy'
          exact ⟨v, h, hs, cs, ls, h1, .load v hkind h2 (beq_iff.1 hz)⟩
    · skip
      cases hq0 : opnd k E i G x with
      | none => simp only [hq0] at hy; cases hy
      | some g0 =>
        cases hq1 : opnd k E i G z with
        | none => simp only [hq0, hq1] at hy; cases hy
        | some g1 =>
          simp only [hq0, hq1] at hy
          have hy' : F (g0.run fr e) (g1.run fr e) h (fun v => nx.run cx fr (⟨v, e⟩ : Ce (Ve i)) h hs ((⟨Nat.sub (aheadN l y) (lateN l y), Nat.succ (Nat.add (lateN l y) (earlyN l y)), fun h ok => F (g0.run fr e) (g1.run fr e) h fun w' => (Bool.rec (motive := fun _ => Ans) Ans.no (ok ()) (eqAV v w'))⟩ : Ck) :: cs) ls ns) = .yes := hy
          obtain ⟨v, h1, h2⟩ := l2_load (n := E.n) ho (hop (opnd_spec hq0 fr e) (by simp [fOps])) (hop (opnd_spec hq1 fr e) (by simp [fOps])) hy'
          refine ⟨v, h, hs, _, ls, h1, .loadc v _ hkind h2 (fun h ok hh => ?_) rfl rfl (fun hm o hh => ?_)⟩
          · have hh' : F (g0.run fr e) (g1.run fr e) h (fun w' => (Bool.rec (motive := fun _ => Ans) Ans.no (ok ()) (eqAV v w'))) = .yes := hh
            obtain ⟨w', h3, _⟩ := l2_load (n := E.n) ho (hop (opnd_spec hq0 fr e) (by simp [fOps])) (hop (opnd_spec hq1 fr e) (by simp [fOps])) hh'
            exact (inv_if h3).2
          · have hh' : F (g0.run fr e) (g1.run fr e) hm (fun w' => (Bool.rec (motive := fun _ => Ans) Ans.no (o ()) (eqAV v w'))) = .yes := hh
            obtain ⟨w', h3, h4⟩ := l2_load (n := E.n) ho (hop (opnd_spec hq0 fr e) (by simp [fOps])) (hop (opnd_spec hq1 fr e) (by simp [fOps])) hh'
            have := eqAV_sound v w' (inv_if h3).1
            rw [this]; exact h4
  | al F xs =>
    simp only at hy
    cases hq0 : opnds k E i G xs with
    | none => simp only [hq0] at hy; cases hy
    | some g0 =>
      simp only [hq0] at hy
      obtain ⟨nm, hnm, hy1⟩ := lget_yes hy
      have hy' : F (g0.run fr e) nm (fun v b => nx.run cx fr (⟨v, e⟩ : Ce (Ve i)) h hs cs (⟨y.i, nm, b⟩ :: ls) ns) = .yes := hy1
      obtain ⟨v, b, h1, _, h2⟩ := al_lay (n := E.n) ho (hops (opnds_spec fr e hq0) (by simp [fOps])) hy'
      exact ⟨v, h, hs, cs, _, h1, .lay v nm b hkind h2 hnm⟩
  | w1 F x =>
    simp only at hy
    cases hq0 : opnd k E i G x with
    | none => simp only [hq0] at hy; cases hy
    | some g0 =>
      simp only [hq0] at hy
      have hy0 : layK y.bef ls h (fun h1 ls => F (g0.run fr e) h1 fun v h2 => nx.run cx fr (⟨v, e⟩ : Ce (Ve i)) h2 (h :: hs) cs ls ns) = .yes := hy
      rw [layK_eq] at hy0
      obtain ⟨v, h', h1, h2⟩ := w1_step (n := E.n) ho (hop (opnd_spec hq0 fr e) (by simp [fOps])) hy0
      exact ⟨v, h', _, cs, _, h1, .eff v h' hkind h2⟩
  | w2 F x z =>
    simp only at hy
    cases hq0 : opnd k E i G x with
    | none => simp only [hq0] at hy; cases hy
    | some g0 =>
      cases hq1 : opnd k E i G z with
      | none => simp only [hq0, hq1] at hy; cases hy
      | some g1 =>
        simp only [hq0, hq1] at hy
        have hy0 : layK y.bef ls h (fun h1 ls => F (g0.run fr e) (g1.run fr e) h1 fun v h2 => nx.run cx fr (⟨v, e⟩ : Ce (Ve i)) h2 (h :: hs) cs ls ns) = .yes := hy
        rw [layK_eq] at hy0
        obtain ⟨v, h', h1, h2⟩ := w2_step (n := E.n) ho (hop (opnd_spec hq0 fr e) (by simp [fOps])) (hop (opnd_spec hq1 fr e) (by simp [fOps])) hy0
        exact ⟨v, h', _, cs, _, h1, .eff v h' hkind h2⟩
  | w3 F x z u =>
    simp only at hy
    cases hq0 : opnd k E i G x with
    | none => simp only [hq0] at hy; cases hy
    | some g0 =>
      cases hq1 : opnd k E i G z with
      | none => simp only [hq0, hq1] at hy; cases hy
      | some g1 =>
        cases hq2 : opnd k E i G u with
        | none => simp only [hq0, hq1, hq2] at hy; cases hy
        | some g2 =>
          simp only [hq0, hq1, hq2] at hy
          have hy0 : layK y.bef ls h (fun h1 ls => F (g0.run fr e) (g1.run fr e) (g2.run fr e) h1 fun v h2 => nx.run cx fr (⟨v, e⟩ : Ce (Ve i)) h2 (h :: hs) cs ls ns) = .yes := hy
          rw [layK_eq] at hy0
          obtain ⟨v, h', h1, h2⟩ := w3_step (n := E.n) ho (hop (opnd_spec hq0 fr e) (by simp [fOps])) (hop (opnd_spec hq1 fr e) (by simp [fOps])) (hop (opnd_spec hq2 fr e) (by simp [fOps])) hy0
          exact ⟨v, h', _, cs, _, h1, .eff v h' hkind h2⟩
  | cf f xs =>
    simp only at hy
    cases hq0 : opnds k E i G xs with
    | none => simp only [hq0] at hy; cases hy
    | some g0 =>
      simp only [hq0] at hy
      have hy0 : layK y.bef ls h (fun h1 ls => cx.hn.run f (g0.run fr e) h1 fun v h2 => nx.run cx fr (⟨v, e⟩ : Ce (Ve i)) h2 (h :: hs) cs ls ns) = .yes := hy
      rw [layK_eq, hcx] at hy0
      obtain ⟨v, h', h1, h2⟩ := cf_step (n := E.n) ho hS (hops (opnds_spec fr e hq0) (by simp [fOps])) hy0
      exact ⟨v, h', _, cs, _, h1, .eff v h' hkind h2⟩
  | cv g xs =>
    simp only at hy
    cases hq0 : opnd k E i G g with
    | none => simp only [hq0] at hy; cases hy
    | some g0 =>
      cases hq1 : opnds k E i G xs with
      | none => simp only [hq0, hq1] at hy; cases hy
      | some g1 =>
        simp only [hq0, hq1] at hy
        have hy0 := (layK_eq y.bef ls h _).symm.trans hy
        obtain ⟨f, a, b, hfn, h3⟩ := inv_fn hy0
        have hy1 : cx.hn.run f (lapp a (lapp (g1.run fr e) b)) (layM y.bef ls h) (fun v h2 => nx.run cx fr (⟨v, e⟩ : Ce (Ve i)) h2 (h :: hs) cs (layR y.bef ls) ns) = .yes := h3
        rw [hcx] at hy1
        obtain ⟨v, h', h1, h2⟩ := cv_step (n := E.n) ho hS (hop (opnd_spec hq0 fr e) (by simp [fOps])) (hops (opnds_spec fr e hq1) (fun x hx => by simp [fOps, hx])) ⟨f, a, b, hfn, hy1⟩
        exact ⟨v, h', _, cs, _, h1, .eff v h' hkind h2⟩
/-- Whether an operation is wanted, as what it looks at tells. -/
def Want [Rho] (ops : Array Oper) (n : Nat) (y : Pl) (R : Env) (b : Bool) : Prop := ∀ μ a, SR n μ R a → Region.wanted y.o (yielded ops a.tmps) = b
inductive DFact [Rho] (P : Program) (ops : Array Oper) (n : Nat) (l : List Pl) (ns : List Nm) (y : Pl) (R : Env) (h : Hp) (hs : List Hp) (cs : List Ck) (ls : List La) : AV → Hp → List Hp → List Ck → List La → Prop
  | skip : Want ops n y R false → DFact P ops n l ns y R h hs cs ls (.tu []) h (if y.kind = 2 then h :: hs else hs) cs ls
  | go {v : AV} {h' : Hp} {hs' : List Hp} {cs' : List Ck} {ls' : List La} : Want ops n y R true → DStep P n l ns y R h hs cs ls v h' hs' cs' ls' → DFact P ops n l ns y R h hs cs ls v h' hs' cs' ls'
theorem skipD_yes [Rho] {ops : Array Oper} {l : List Pl} {y : Pl} {R : Env} {i : Nat} {nx : Od k (i + 1)} {cx : Cx k} {fr : Tr AV k} {e : Ve i} {h : Hp} {hs : List Hp} {cs : List Ck} {ls : List La} {ns : List Nm} {n : Nat} (hw : Want ops n y R false)
    (hy : (skipD k y i nx).run cx fr e h hs cs ls ns = .yes) : ∃ v h' hs' cs' ls', nx.run cx fr (⟨v, e⟩ : Ce (Ve i)) h' hs' cs' ls' ns = .yes ∧ DFact P ops n l ns y R h hs cs ls v h' hs' cs' ls' := by
  unfold skipD at hy
  rw [bif_eq] at hy
  refine ⟨.tu [], h, (if y.kind = 2 then h :: hs else hs), cs, ls, ?_, .skip hw⟩
  by_cases hk : y.kind = 2
  · rw [if_pos (beq_iff.2 hk)] at hy
    rw [if_pos hk]
    exact hy
  · rw [if_neg (fun e => hk (beq_iff.1 e))] at hy
    rw [if_neg hk]
    exact hy
theorem guardedD_yes [Rho] {hn : H} (hS : HSound P hn) (hT : TyOk P T) (hO : StructOk P T) {ops : Array Oper} {l : List Pl} {y : Pl} {j : Nat} (hp : PlanAt T ops.toList l j y) {i : Nat} {G : Gm} {nx : Od k (i + 1)} {cx : Cx k} {fr : Tr AV k} {e : Ve i} {h : Hp} {hs : List Hp} {cs : List Ck} {ls : List La} {ns : List Nm} (hcx : cx.hn = hn)
    (hy : (guardedD k E ops.toList l y i G nx).run cx fr e h hs cs ls ns = .yes) : ∃ v h' hs' cs' ls', nx.run cx fr (⟨v, e⟩ : Ce (Ve i)) h' hs' cs' ls' ns = .yes ∧ DFact P ops E.n l ns y ((envOf k E i G fr e).only y.see) h hs cs ls v h' hs' cs' ls' := by
  obtain ⟨o, p1, p2, p3, p4, p5, p6, p7⟩ := hp
  subst p2
  have doit : (nodeD k E l y i G nx).run cx fr e h hs cs ls ns = .yes → Want ops E.n y ((envOf k E i G fr e).only y.see) true → ∃ v h' hs' cs' ls', nx.run cx fr (⟨v, e⟩ : Ce (Ve i)) h' hs' cs' ls' ns = .yes ∧ DFact P ops E.n l ns y ((envOf k E i G fr e).only y.see) h hs cs ls v h' hs' cs' ls' := by
    intro h1 hw
    obtain ⟨v, h', hs', cs', ls', q1, q2⟩ := nodeD_yes hS rfl p5 p6 (by rw [p3]; exact opF_ok hT hO y.o) hcx h1
    exact ⟨v, h', hs', cs', ls', q1, .go hw q2⟩
  unfold guardedD at hy
  cases hg : y.o.guard with
  | none =>
    rw [hg] at hy
    exact doit hy (fun μ a hs => by unfold Region.wanted; rw [hg])
  | some gw =>
    obtain ⟨g, want⟩ := gw
    rw [hg] at hy
    have hw : ∀ r : Option Bool, ∀ tmps, yielded ops tmps g = r → Region.wanted y.o (yielded ops tmps) = (r == some want) := fun r tmps hr => by unfold Region.wanted; rw [hg]; simp only [hr]
    cases ht : guardT ops.toList g with
    | none =>
      simp only [ht] at hy
      refine skipD_yes (fun μ a hs => ?_) hy
      rw [hw none a.tmps ?_]
      · rfl
      · unfold guardT at ht
        rw [Array.getElem?_toList] at ht
        unfold yielded
        rw [ht]
        rfl
    | some t =>
      simp only [ht] at hy
      cases hq : opnd k E i G (.tmp t) with
      | none => rw [hq] at hy; cases hy
      | some gt =>
        rw [hq] at hy
        have hin : t ∈ y.see := by rw [p6]; exact sees_guard hg ht
        have hv : (envOf k E i G fr e).only y.see t = some (gt.run fr e) := by
          show (if t ∈ y.see then _ else _) = _
          rw [if_pos hin]
          exact opnd_spec hq fr e
        rcases inv_gd_ hy with ⟨b, hb, h1⟩ | ⟨l', hl, h1⟩
        · rw [hb] at hv
          rcases inv_bif h1 with ⟨e1, h2⟩ | ⟨e1, h2⟩
          · refine doit h2 (fun μ a hs => ?_)
            rw [hw (some b) a.tmps (yield_val hs ht hv (fun v' hvv => by rw [hvv.b_inv]))]
            rw [eqB_eq] at e1
            simpa using e1
          · refine skipD_yes (fun μ a hs => ?_) h2
            rw [hw (some b) a.tmps (yield_val hs ht hv (fun v' hvv => by rw [hvv.b_inv]))]
            rw [eqB_eq] at e1
            simpa using e1
        · rw [hl] at hv
          obtain ⟨hl0, h2⟩ := inv_nil h1
          refine skipD_yes (fun μ a hs => ?_) h2
          rw [hw none a.tmps (yield_val hs ht hv (fun v' hvv => by obtain ⟨x, rfl, _⟩ := hvv.tu_inv; rfl))]
          rfl
end
end
end Go.Proofs.YteefpemaeecicaaGreatDoor.Ev
end
section
open Go
namespace Go.Proofs.YteefpemaeecicaaGreatDoor.Ev
set_option linter.unusedVariables false
set_option linter.unusedSimpArgs false
set_option linter.constructorNameAsVariable false
noncomputable section
/-- So many that do something stand ahead of a place. -/
def effN (l : List Pl) (j : Nat) : Nat := (l.filter fun x => and_ (Nat.beq x.kind 2) (Nat.ble (Nat.succ x.i) j)).length
theorem aheadN_eq (l : List Pl) (y : Pl) : aheadN l y = effN l y.i := rfl
def IdxOk (l : List Pl) : Prop := ∀ (j : Nat) y, l[j]? = some y → y.i = j
theorem effN_take {l : List Pl} (hl : IdxOk l) (j : Nat) : effN l j = ((l.take j).filter fun x => Nat.beq x.kind 2).length := by
  unfold effN
  conv => lhs; rw [← List.take_append_drop j l]
  rw [List.filter_append, List.length_append]
  have h1 : (l.take j).filter (fun x => and_ (Nat.beq x.kind 2) (Nat.ble (Nat.succ x.i) j)) = (l.take j).filter fun x => Nat.beq x.kind 2 := by
    apply List.filter_congr
    intro x hx
    obtain ⟨q, hq⟩ := List.mem_iff_getElem?.1 hx
    rw [List.getElem?_take] at hq
    split at hq
    · rename_i hqj
      have := hl q x hq
      have e : Nat.ble (Nat.succ x.i) j = true := ble_iff.2 (by omega)
      rw [e]
      cases Nat.beq x.kind 2 <;> rfl
    · cases hq
  have h2 : (l.drop j).filter (fun x => and_ (Nat.beq x.kind 2) (Nat.ble (Nat.succ x.i) j)) = [] := by
    rw [List.filter_eq_nil_iff]
    intro x hx h
    obtain ⟨q, hq⟩ := List.mem_iff_getElem?.1 hx
    rw [List.getElem?_drop] at hq
    have := hl (j + q) x hq
    have := ble_iff.1 (and_eq.1 h).2
    omega
  rw [h1, h2]
  rfl
theorem effN_succ {l : List Pl} (hl : IdxOk l) {j : Nat} {y : Pl} (hy : l[j]? = some y) : effN l (j + 1) = effN l j + if y.kind = 2 then 1 else 0 := by
  rw [effN_take hl, effN_take hl, List.take_add_one, hy]
  simp only [Option.toList_some, List.filter_append, List.length_append]
  congr 1
  by_cases h : y.kind = 2
  · rw [if_pos h, List.filter_cons, beq_iff.2 h]
    rfl
  · rw [if_neg h, List.filter_cons]
    cases hb : Nat.beq y.kind 2 with
    | true => exact (h (beq_iff.1 hb)).elim
    | false => rfl
/-- What an operation has done, the reads over all the memories that they may meet. -/
inductive TFact [Rho] (P : Program) (ops : Array Oper) (n : Nat) (l : List Pl) (ns : List Nm) (HS : List Hp) (y : Pl) (R : Env) (h : Hp) (ls : List La) : AV → Hp → List La → Prop
  | skip : Want ops n y R false → TFact P ops n l ns HS y R h ls (.tu []) h ls
  | pure (v : AV) : y.kind = 0 → Want ops n y R true → PureW P n y.o R v → TFact P ops n l ns HS y R h ls v h ls
  | load (v : AV) : y.kind = 1 → Want ops n y R true → (∀ m, effN l y.i - lateN l y ≤ m → m ≤ effN l y.i + earlyN l y → ∃ hm, HS[m]? = some hm ∧ LoadW P n y.o R hm v) → TFact P ops n l ns HS y R h ls v h ls
  | lay (v : AV) (nm : Nm) (b : Blk) : y.kind = 3 → Want ops n y R true → LayW P n y.o R nm v b → ns[laysN l y.i]? = some nm → TFact P ops n l ns HS y R h ls v h (⟨y.i, nm, b⟩ :: ls)
  | eff (v : AV) (h' : Hp) : y.kind = 2 → Want ops n y R true → StepW P n y.o R (layM y.bef ls h) v h' → TFact P ops n l ns HS y R h ls v h' (layR y.bef ls)
/-- The run from a place on. -/
structure TRun [Rho] (P : Program) (ops : Array Oper) (n : Nat) (l : List Pl) (ns : List Nm) (HS : List Hp) (S : Nat → Env) (M : Nat → Hp) (V : Nat → AV) (LS : Nat → List La) (j : Nat) : Prop where
  env : ∀ (q : Nat) y, j ≤ q → l[q]? = some y → S (q + 1) = (S q).put n y.o.dst (V q)
  fact : ∀ (q : Nat) y, j ≤ q → l[q]? = some y → TFact P ops n l ns HS y ((S q).only y.see) (M q) (LS q) (V q) (M (q + 1)) (LS (q + 1))
  ver : ∀ c, j ≤ c → c ≤ l.length → HS[effN l c]? = some (M c)
section
variable {P : Program} {T : Ty} {k : Nat} {E : Em}
def odD (T : Ty) (k : Nat) (E : Em) (ops : List Oper) (l : List Pl) (K : (i : Nat) → Gm → Oc k i) (r : List Pl) : (i : Nat) → Gm → Od k i :=
  (lrec r (endD k K) fun y _ ih i G => (Option.rec (motive := fun _ => Od k i) (guardedD k E ops l y i G (ih (i + 1) (dstG E y.o.dst (.lvl i) G))) (fun s => ih i (dstG E y.o.dst s G)) (mvS k E G y.o)) : (i : Nat) → Gm → Od k i)
theorem rev_eq (l : List Hp) : ∀ (acc : List Hp), (lrec l (fun acc => acc) (fun x _ ih acc => ih (x :: acc)) : List Hp → List Hp) acc = l.reverse ++ acc := by
  induction l with
  | nil => intro acc; rfl
  | cons x l ih =>
    intro acc
    show (lrec l (fun acc => acc) (fun x _ ih acc => ih (x :: acc)) : List Hp → List Hp) (x :: acc) = _
    rw [ih, List.reverse_cons, List.append_assoc]
    rfl
theorem odD_yes [Rho] {hn : H} (hS : HSound P hn) (hT : TyOk P T) (hO : StructOk P T) (hE : EOk E) {ops : Array Oper} {l : List Pl} (hlen : l.length = ops.size) (hplan : ∀ (j : Nat) y, l[j]? = some y → PlanAt T ops.toList l j y) {K : (i : Nat) → Gm → Oc k i} {cx : Cx k} {fr : Tr AV k} {ns : List Nm} (hcx : cx.hn = hn) :
    ∀ (r : List Pl) (j i : Nat) (G : Gm) (e : Ve i) (h : Hp) (hs : List Hp) (cs : List Ck) (ls : List La), WfG i G → l.drop j = r → j ≤ l.length → effN l j = hs.length → (∀ c ∈ cs, CkOk c) → (odD T k E ops.toList l K r i G).run cx fr e h hs cs ls ns = .yes →
      ∃ S M V LS HS, TRun P ops E.n l ns HS S M V LS j ∧ S j = envOf k E i G fr e ∧ M j = h ∧ LS j = ls ∧ (∀ m, m < hs.length → HS[m]? = hs.reverse[m]?) ∧ (∀ c ∈ cs, ∀ m, c.lo ≤ m → m < c.lo + c.cnt → ∃ hm, HS[m]? = some hm ∧ ∃ o, c.run hm o = .yes) ∧
        ∃ i' G' e', (K i' G').run cx fr e' (layAllM (LS l.length) (M l.length)) = .yes ∧ WfG i' G' ∧ S l.length = envOf k E i' G' fr e'
  | [], j, i, G, e, h, hs, cs, ls, hG, hd, hj, heff, hck, hy => by
    have hjl : j = l.length := by
      have := congrArg List.length hd
      simp at this
      omega
    subst hjl
    have hy' : (List.rec (motive := fun _ => Ans) (layAll ls h fun h => (K i G).run cx fr e h) (fun _a _t _ => chksK ((lrec (h :: hs) (fun acc => acc) (fun x _ ih acc => ih (x :: acc)) : List Hp → List Hp) []) cs fun _ => layAll ls h fun h => (K i G).run cx fr e h) cs) = .yes := hy
    rw [rev_eq, List.append_nil] at hy'
    have hfin : (K i G).run cx fr e (layAllM ls h) = .yes ∧ ∀ c ∈ cs, ∀ m, c.lo ≤ m → m < c.lo + c.cnt → ∃ hm, (h :: hs).reverse[m]? = some hm ∧ ∃ o, c.run hm o = .yes := by
      cases cs with
      | nil =>
        have h1 : layAll ls h (fun h => (K i G).run cx fr e h) = .yes := hy'
        rw [layAll_eq] at h1
        exact ⟨h1, fun c hc => by simp at hc⟩
      | cons c cs =>
        have h1 : chksK (h :: hs).reverse (c :: cs) (fun _ => layAll ls h fun h => (K i G).run cx fr e h) = .yes := hy'
        obtain ⟨h2, h3⟩ := chksK_yes _ _ hck h1
        rw [layAll_eq] at h2
        exact ⟨h2, h3⟩
    refine ⟨fun _ => envOf k E i G fr e, fun _ => h, fun _ => .u, fun _ => ls, (h :: hs).reverse, ⟨fun q y hq hy => ?_, fun q y hq hy => ?_, fun c hc hc2 => ?_⟩, rfl, rfl, rfl, fun m hm => ?_, hfin.2, i, G, e, hfin.1, hG, rfl⟩
    · rw [List.getElem?_eq_none hq] at hy; cases hy
    · rw [List.getElem?_eq_none hq] at hy; cases hy
    · have : c = l.length := by omega
      subst this
      rw [heff, List.reverse_cons, List.getElem?_append, if_neg (by simp)]
      simp
    · rw [List.reverse_cons, List.getElem?_append, if_pos (by simpa using hm)]
  | y :: r, j, i, G, e, h, hs, cs, ls, hG, hd, hj, heff, hck, hy => by
    have hyj : l[j]? = some y := by
      have := congrArg (·[0]?) hd
      simpa using this
    have hjlt : j < l.length := by
      rcases Nat.lt_or_ge j l.length with hh | hh
      · exact hh
      · rw [List.getElem?_eq_none hh] at hyj; cases hyj
    have hd' : l.drop (j + 1) = r := by
      have := congrArg List.tail hd
      simpa using this
    have hidx : IdxOk l := fun q x hx => by obtain ⟨o, _, _, _, h4, _⟩ := hplan q x hx; exact h4
    have hp := hplan j y hyj
    have hyi : y.i = j := hidx j y hyj
    have hes := effN_succ hidx hyj
    have hy' : (Option.rec (motive := fun _ => Od k i) (guardedD k E ops.toList l y i G (odD T k E ops.toList l K r (i + 1) (dstG E y.o.dst (.lvl i) G))) (fun s => odD T k E ops.toList l K r i (dstG E y.o.dst s G)) (mvS k E G y.o)).run cx fr e h hs cs ls ns = .yes := hy
    -- the functions from the place behind on, with this place put ahead
    have join : ∀ (v : AV) (h' : Hp) (hs' : List Hp) (cs' : List Ck) (ls' : List La) (S' : Env), S' = (envOf k E i G fr e).put E.n y.o.dst v → effN l (j + 1) = hs'.length → (hs' = hs ∧ h' = h ∨ hs' = h :: hs) → (∀ c ∈ cs, c ∈ cs') →
        (∃ S M V LS HS, TRun P ops E.n l ns HS S M V LS (j + 1) ∧ S (j + 1) = S' ∧ M (j + 1) = h' ∧ LS (j + 1) = ls' ∧ (∀ m, m < hs'.length → HS[m]? = hs'.reverse[m]?) ∧ (∀ c ∈ cs', ∀ m, c.lo ≤ m → m < c.lo + c.cnt → ∃ hm, HS[m]? = some hm ∧ ∃ o, c.run hm o = .yes) ∧
          ∃ i' G' e', (K i' G').run cx fr e' (layAllM (LS l.length) (M l.length)) = .yes ∧ WfG i' G' ∧ S l.length = envOf k E i' G' fr e') →
        (∀ HS : List Hp, HS[effN l j]? = some h → (∀ c ∈ cs', ∀ m, c.lo ≤ m → m < c.lo + c.cnt → ∃ hm, HS[m]? = some hm ∧ ∃ o, c.run hm o = .yes) → TFact P ops E.n l ns HS y ((envOf k E i G fr e).only y.see) h ls v h' ls') →
        ∃ S M V LS HS, TRun P ops E.n l ns HS S M V LS j ∧ S j = envOf k E i G fr e ∧ M j = h ∧ LS j = ls ∧ (∀ m, m < hs.length → HS[m]? = hs.reverse[m]?) ∧ (∀ c ∈ cs, ∀ m, c.lo ≤ m → m < c.lo + c.cnt → ∃ hm, HS[m]? = some hm ∧ ∃ o, c.run hm o = .yes) ∧
          ∃ i' G' e', (K i' G').run cx fr e' (layAllM (LS l.length) (M l.length)) = .yes ∧ WfG i' G' ∧ S l.length = envOf k E i' G' fr e' := by
      intro v h' hs' cs' ls' S' hS' heff' hcase hcs ⟨S, M, V, LS, HS, tr, s1, s2, s3, s4, s5, i', G', e', s6, s7, s8⟩ hfact
      have hver : HS[effN l j]? = some h := by
        rcases hcase with ⟨rfl, rfl⟩ | rfl
        · have := tr.ver (j + 1) (Nat.le_refl _) hjlt
          rw [s2] at this
          rw [heff, ← heff']; exact this
        · have := s4 hs.length (by simp)
          rw [heff, this, List.reverse_cons, List.getElem?_append, if_neg (by simp)]
          simp
      have hlow : ∀ m, m < hs.length → HS[m]? = hs.reverse[m]? := by
        intro m hm
        rcases hcase with ⟨rfl, rfl⟩ | rfl
        · exact s4 m hm
        · rw [s4 m (by simp; omega), List.reverse_cons, List.getElem?_append, if_pos (by simpa using hm)]
      have up : ∀ {α : Type} (a : α) (f : Nat → α) (q : Nat), j + 1 ≤ q → (fun q => if q ≤ j then a else f q) q = f q := fun a f q hq => by
        show (if q ≤ j then a else f q) = f q
        rw [if_neg (by omega)]
      refine ⟨fun q => if q ≤ j then envOf k E i G fr e else S q, fun q => if q ≤ j then h else M q, fun q => if q ≤ j then v else V q, fun q => if q ≤ j then ls else LS q, HS, ⟨fun q y' hq hy' => ?_, fun q y' hq hy' => ?_, fun c hc hc2 => ?_⟩, if_pos (Nat.le_refl _), if_pos (Nat.le_refl _), if_pos (Nat.le_refl _), hlow, fun c hc => s5 c (hcs c hc), i', G', e', ?_, s7, ?_⟩
      · by_cases hqj : q = j
        · subst hqj
          rw [hyj] at hy'
          cases hy'
          show (if q + 1 ≤ q then _ else S (q + 1)) = (if q ≤ q then _ else S q).put E.n y.o.dst (if q ≤ q then v else V q)
          rw [if_neg (by omega), if_pos (Nat.le_refl _), if_pos (Nat.le_refl _), s1, hS']
        · show (if q + 1 ≤ j then _ else S (q + 1)) = (if q ≤ j then _ else S q).put E.n y'.o.dst (if q ≤ j then v else V q)
          rw [if_neg (by omega), if_neg (by omega), if_neg (by omega)]
          exact tr.env q y' (by omega) hy'
      · by_cases hqj : q = j
        · subst hqj
          rw [hyj] at hy'
          cases hy'
          simp only [Nat.le_refl, if_true, if_neg (show ¬ q + 1 ≤ q by omega)]
          rw [s2, s3]
          exact hfact HS hver s5
        · simp only [if_neg (show ¬ q ≤ j by omega), if_neg (show ¬ q + 1 ≤ j by omega)]
          exact tr.fact q y' (by omega) hy'
      · by_cases hcj : c = j
        · subst hcj
          simp only [Nat.le_refl, if_true]
          exact hver
        · simp only [if_neg (show ¬ c ≤ j by omega)]
          exact tr.ver c (by omega) hc2
      · simp only [if_neg (show ¬ l.length ≤ j by omega)]
        exact s6
      · simp only [if_neg (show ¬ l.length ≤ j by omega)]
        exact s8
    cases hm : mvS k E G y.o with
    | some s =>
      rw [hm] at hy'
      have hmv : y.o.guard = none ∧ ∃ x, (y.o.op = .move x ∨ y.o.op = .assign x) ∧ opS k E G x = some s := by
        unfold mvS at hm
        split at hm
        · rename_i x hg ho; exact ⟨hg, x, .inl ho, hm⟩
        · rename_i x hg ho; exact ⟨hg, x, .inr ho, hm⟩
        · cases hm
      obtain ⟨hg, x, hox, hs0⟩ := hmv
      obtain ⟨v, hv, s1, s2⟩ := env_mv hE hG fr e hs0 y.o.dst
      obtain ⟨o, p1, p2, p3, p4, p5, p6, p7⟩ := hp
      have hf : y.f = .mv x := by rw [p3, ← p2]; rcases hox with h | h <;> rw [h] <;> rfl
      have hk : y.kind = 0 := by rw [p5, hf]; rfl
      have heff' : effN l (j + 1) = hs.length := by rw [hes, if_neg (by omega)]; exact heff
      have ih := odD_yes hS hT hO hE hlen hplan hcx r (j + 1) i _ e h hs cs ls s2 hd' hjlt heff' hck hy'
      refine join v h hs cs ls _ s1 heff' (.inl ⟨rfl, rfl⟩) (fun c hc => hc) ih (fun HS _ _ => .pure v hk (fun μ a hs => by unfold Region.wanted; rw [hg]) ?_)
      have hok : OpOk P y.o (.mv x) := by rw [← hf, p3, ← p2]; exact opF_ok hT hO y.o
      exact mv_pure hok (only_op hv fun t ht => by rw [p6]; exact sees_ops (by rw [hf]; simp [fOps]) t ht)
    | none =>
      rw [hm] at hy'
      obtain ⟨v, h', hs', cs', ls', q1, q2⟩ := guardedD_yes hS hT hO hp hcx hy'
      obtain ⟨s1, s2⟩ := env_step hE hG fr e v y.o.dst
      have facts : effN l (j + 1) = hs'.length ∧ (hs' = hs ∧ h' = h ∨ hs' = h :: hs) ∧ (∀ c ∈ cs, c ∈ cs') ∧ (∀ c ∈ cs', CkOk c) ∧ (∀ HS : List Hp, HS[effN l j]? = some h → (∀ c ∈ cs', ∀ m, c.lo ≤ m → m < c.lo + c.cnt → ∃ hm, HS[m]? = some hm ∧ ∃ o, c.run hm o = .yes) → TFact P ops E.n l ns HS y ((envOf k E i G fr e).only y.see) h ls v h' ls') := by
        cases q2 with
        | skip hw =>
          by_cases hk : y.kind = 2
          · rw [if_pos hk] at hes ⊢
            exact ⟨by rw [hes, heff]; rfl, .inr rfl, fun c hc => hc, hck, fun HS _ _ => .skip hw⟩
          · rw [if_neg hk] at hes ⊢
            exact ⟨by rw [hes, heff]; rfl, .inl ⟨rfl, rfl⟩, fun c hc => hc, hck, fun HS _ _ => .skip hw⟩
        | go hw st =>
          cases st with
          | pure hk hw2 =>
            rw [if_neg (by omega)] at hes
            exact ⟨by rw [hes, heff]; rfl, .inl ⟨rfl, rfl⟩, fun c hc => hc, hck, fun HS _ _ => .pure v hk hw hw2⟩
          | load hk hw2 hz =>
            rw [if_neg (by omega)] at hes
            refine ⟨by rw [hes, heff]; rfl, .inl ⟨rfl, rfl⟩, fun c hc => hc, hck, fun HS hv _ => .load v hk hw (fun m m1 m2 => ⟨h, ?_, hw2⟩)⟩
            rw [hyi] at m1 m2
            have : m = effN l j := by omega
            rw [this]; exact hv
          | loadc c hk hw2 c1 c2 c3 c4 =>
            rw [if_neg (by omega)] at hes
            refine ⟨by rw [hes, heff]; rfl, .inl ⟨rfl, rfl⟩, fun c' hc => List.mem_cons_of_mem _ hc, fun c' hc => ?_, fun HS hv hcs => .load v hk hw (fun m m1 m2 => ?_)⟩
            · rcases List.mem_cons.1 hc with rfl | hc
              · exact c1
              · exact hck c' hc
            · rw [aheadN_eq] at c2
              obtain ⟨hm, r1, o, r2⟩ := hcs c (by simp) m (by omega) (by omega)
              exact ⟨hm, r1, c4 hm o r2⟩
          | lay nm b hk hw2 hnm =>
            rw [if_neg (by omega)] at hes
            exact ⟨by rw [hes, heff]; rfl, .inl ⟨rfl, rfl⟩, fun c hc => hc, hck, fun HS _ _ => .lay v nm b hk hw hw2 hnm⟩
          | eff a1 a2 a3 =>
            rw [if_pos (by assumption)] at hes
            exact ⟨by rw [hes, heff]; rfl, .inr rfl, fun c hc => hc, hck, fun HS _ _ => .eff v _ (by assumption) hw (by assumption)⟩
      obtain ⟨f1, f2, f3, f4, f5⟩ := facts
      have ih := odD_yes hS hT hO hE hlen hplan hcx r (j + 1) (i + 1) _ (⟨v, e⟩ : Ce (Ve i)) h' hs' cs' ls' s2 hd' hjlt f1 f4 q1
      exact join v h' hs' cs' ls' _ s1 f1 f2 f3 ih f5
end
end
end Go.Proofs.YteefpemaeecicaaGreatDoor.Ev
end
section
open Go
namespace Go.Proofs.YteefpemaeecicaaGreatDoor.Ev
set_option linter.unusedVariables false
set_option linter.unusedSimpArgs false
set_option linter.constructorNameAsVariable false
noncomputable section
theorem mof {α : Type} {p : α → Bool} {a : α} {l : List α} (h : a ∈ l.filter p) : a ∈ l := (List.mem_filter.1 h).1
/-- A block that was laid in the world, and that the reckoning has not laid yet. -/
structure Flt where
  (r : Nat) (nm : Nm) (b : Blk) (bk : Bk) (obj : Obj)
def Kfl (K : Kp) (N : Nm → Prop) (fl : List Flt) : Kp := ⟨K.os, K.tape, K.output, fun b => match fl.find? (fun x => x.bk.blk == b) with | some x => some x.obj | none => K.F b, N, K.lo⟩
structure FlOk [Rho] (K : Kp) (μ : Mp) (fl : List Flt) : Prop where
  ent : ∀ x ∈ fl, μ x.nm = some x.bk ∧ K.F x.bk.blk = none ∧ ∀ μ' w', Ext μ μ' → w'.heap[x.bk.blk]? = some x.obj → BlkR μ' w' x.b x.bk
  dis : ∀ x ∈ fl, ∀ y ∈ fl, x.bk.blk = y.bk.blk → x = y
  up : ∀ x ∈ fl, K.lo ≤ x.bk.blk
theorem Kfl.some_iff {K : Kp} {N : Nm → Prop} {fl : List Flt} {b : Nat} (h : (Kfl K N fl).F b = none) : (∀ x ∈ fl, x.bk.blk ≠ b) ∧ K.F b = none := by
  have h' : (match fl.find? (fun x => x.bk.blk == b) with | some x => some x.obj | none => K.F b) = none := h
  cases hf : fl.find? (fun x => x.bk.blk == b) with
  | some x => rw [hf] at h'; cases h'
  | none =>
    rw [hf] at h'
    refine ⟨fun x hx e => ?_, h'⟩
    have := List.find?_eq_none.1 hf x hx
    simp [e] at this
theorem Kfl.none_of {K : Kp} {N : Nm → Prop} {fl : List Flt} {b : Nat} (h : ∀ x ∈ fl, x.bk.blk ≠ b) : (Kfl K N fl).F b = K.F b := by
  have hf : fl.find? (fun x => x.bk.blk == b) = none := List.find?_eq_none.2 fun x hx => by simpa using h x hx
  show (match fl.find? (fun x => x.bk.blk == b) with | some x => some x.obj | none => K.F b) = _
  rw [hf]
theorem Kfl.inp [Rho] {K : Kp} {N N' : Nm → Prop} {μ : Mp} {fl fl' : List Flt} (h : ∀ b o, Rho.inp b = some o → b < (Kfl K N fl).lo ∧ (Kfl K N fl).F b = some o) (hf : FlOk K μ fl) (hf' : ∀ x ∈ fl', K.lo ≤ x.bk.blk) : ∀ b o, Rho.inp b = some o → b < (Kfl K N' fl').lo ∧ (Kfl K N' fl').F b = some o := fun b o hb => by
  obtain ⟨h1, h2⟩ := h b o hb
  have h1 : b < K.lo := h1
  rw [Kfl.none_of fun x hx e => by have := hf.up x hx; omega] at h2
  refine ⟨h1, ?_⟩
  rw [Kfl.none_of fun x hx e => by have := hf' x hx; omega]
  exact h2
theorem Kfl.of_mem [Rho] {K : Kp} {N : Nm → Prop} {fl : List Flt} {μ : Mp} (hf : FlOk K μ fl) {x : Flt} (hx : x ∈ fl) : (Kfl K N fl).F x.bk.blk = some x.obj := by
  cases hh : fl.find? (fun y => y.bk.blk == x.bk.blk) with
  | none => have := List.find?_eq_none.1 hh x hx; simp at this
  | some y =>
    have h1 := List.mem_of_find?_eq_some hh
    have h2 := List.find?_some hh
    have := hf.dis y h1 x hx (by simpa using h2)
    show (match fl.find? (fun y => y.bk.blk == x.bk.blk) with | some x => some x.obj | none => _) = _
    rw [hh, this]
theorem FlOk.sub [Rho] {K : Kp} {μ : Mp} {fl : List Flt} (h : FlOk K μ fl) (p : Flt → Bool) : FlOk K μ (fl.filter p) :=
  ⟨fun x hx => h.ent x (mof hx), fun x hx y hy e => h.dis x (mof hx) y (mof hy) e, fun x hx => h.up x (mof hx)⟩
theorem FlOk.ext [Rho] {K : Kp} {μ μ' : Mp} {fl : List Flt} (h : FlOk K μ fl) (hx : Ext μ μ') : FlOk K μ' fl :=
  ⟨fun x hm => let ⟨h1, h2, h3⟩ := h.ent x hm; ⟨hx _ _ h1, h2, fun μ2 w2 q1 q2 => h3 μ2 w2 (hx.trans q1) q2⟩, h.dis, h.up⟩
/-- A block that waits is laid. -/
theorem MR.layOne [Rho] {K : Kp} {N : Nm → Prop} {μ : Mp} {h : Hp} {w : World} {fl : List Flt} (hr : MR (Kfl K N fl) μ h w) (hf : FlOk K μ fl) {x : Flt} (hx : x ∈ fl) {p : Flt → Bool} (hp : ∀ y ∈ fl, p y = false ↔ y = x) :
    MR (Kfl K N (fl.filter p)) μ ⟨Mem.to x.nm h.m x.b, h.c⟩ w := by
  obtain ⟨h1, h2, h3⟩ := hf.ent x hx
  have hobj : w.heap[x.bk.blk]? = some x.obj := hr.keep _ _ (Kfl.of_mem hf hx)
  have hnone : (Kfl K N (fl.filter p)).F x.bk.blk = none := by
    rw [Kfl.none_of, h2]
    intro y hy e
    obtain ⟨hy1, hy2⟩ := List.mem_filter.1 hy
    have := hf.dis y hy1 x hx e
    rw [(hp y hy1).2 this] at hy2
    cases hy2
  have hF : ∀ b, (Kfl K N fl).F b = none → (Kfl K N (fl.filter p)).F b = none := fun b hb => by
    obtain ⟨q1, q2⟩ := Kfl.some_iff hb
    rw [Kfl.none_of, q2]
    exact fun y hy => q1 y (mof hy)
  have hback : ∀ b o, (Kfl K N (fl.filter p)).F b = some o → (Kfl K N fl).F b = some o := by
    intro b o hb
    have hb' : (match (fl.filter p).find? (fun y => y.bk.blk == b) with | some x => some x.obj | none => K.F b) = some o := hb
    cases hfd : (fl.filter p).find? (fun y => y.bk.blk == b) with
    | some y =>
      rw [hfd] at hb'
      have hy1 := mof (List.mem_of_find?_eq_some hfd)
      have hy2 : y.bk.blk = b := by simpa using List.find?_some hfd
      have hb2 : some y.obj = some o := hb'
      rw [← hy2, Kfl.of_mem hf hy1]
      exact hb2
    | none =>
      rw [hfd] at hb'
      have hb2 : K.F b = some o := hb'
      have hne : ∀ y ∈ fl, y.bk.blk ≠ b := fun y hy e => by
        have := (hf.ent y hy).2.1
        rw [e, hb2] at this; cases this
      rw [Kfl.none_of hne]; exact hb2
  have hlive : ∀ a, a ≠ x.nm → Mem.at a (Mem.to x.nm h.m x.b) ≠ .no → Mem.at a h.m ≠ .no := fun a ha hh => by rwa [Mem.at_to, if_neg ha] at hh
  have apart : ∀ a bk, Mem.at a h.m ≠ .no → μ a = some bk → bk.blk ≠ x.bk.blk := fun a bk ha hb e => by
    obtain ⟨bk', e1, _, e3⟩ := hr.live a ha
    rw [hb] at e1; cases e1
    rw [e, Kfl.of_mem hf hx] at e3
    cases e3
  refine { os := hr.os, tape := hr.tape, output := hr.output, keep := fun b o hb => hr.keep b o (hback b o hb), dom := hr.dom, live := fun a ha => ?_, res := hr.res, low := hr.low, inp := Kfl.inp hr.inp hf fun y hy => hf.up y (mof hy), inj := fun a a' b1 b2 ha ha' e e' hbk => ?_ }
  · by_cases q : a = x.nm
    · subst q
      rw [Mem.at_to, if_pos rfl]
      exact ⟨x.bk, h1, h3 μ w (Ext.refl μ) hobj, hnone⟩
    · obtain ⟨bk, e1, e2, e3⟩ := hr.live a (hlive a q ha)
      rw [Mem.at_to, if_neg q]
      exact ⟨bk, e1, e2, hF _ e3⟩
  · by_cases q : a = x.nm
    · by_cases q' : a' = x.nm
      · rw [q, q']
      · subst q
        rw [h1] at e; cases e
        exact (apart a' b2 (hlive a' q' ha') e' hbk.symm).elim
    · by_cases q' : a' = x.nm
      · subst q'
        rw [h1] at e'; cases e'
        exact (apart a b1 (hlive a q ha) e hbk).elim
      · exact hr.inj a a' b1 b2 (hlive a q ha) (hlive a' q' ha') e e' hbk
/-- Blocks that a test picks are laid. -/
def layP (p : Nat → Bool) : List La → Hp → Hp
  | [], h => h
  | x :: l, h => if p x.r = true then layP p l ⟨Mem.to x.nm h.m x.b, h.c⟩ else layP p l h
theorem layM_P (mask : Nat) : ∀ (l : List La) (h : Hp), layM mask l h = layP (bit mask) l h
  | [], h => rfl
  | x :: l, h => by unfold layM layP; rw [layM_P mask l, layM_P mask l]
theorem layAllM_P : ∀ (l : List La) (h : Hp), layAllM l h = layP (fun _ => true) l h
  | [], h => rfl
  | x :: l, h => by unfold layAllM layP; rw [layAllM_P l, if_pos rfl]
theorem layP_real [Rho] {K : Kp} {N : Nm → Prop} {μ : Mp} {w : World} (p : Nat → Bool) : ∀ (ls : List La) (h : Hp) (fl : List Flt), MR (Kfl K N fl) μ h w → FlOk K μ fl → (ls.map (·.r)).Nodup → (∀ a ∈ ls, p a.r = true → ∃ x ∈ fl, x.r = a.r ∧ x.nm = a.nm ∧ x.b = a.b) → (∀ x ∈ fl, ∀ y ∈ fl, x.r = y.r → x = y) →
    MR (Kfl K N (fl.filter fun x => !(p x.r && (ls.map (·.r)).contains x.r))) μ (layP p ls h) w
  | [], h, fl, hr, hf, _, _, _ => by
    have : (fl.filter fun x => !(p x.r && (([] : List La).map (·.r)).contains x.r)) = fl := by
      rw [List.filter_eq_self]
      intro x hx
      simp
    rw [this]; exact hr
  | a :: ls, h, fl, hr, hf, hnd, hin, huq => by
    rw [List.map_cons, List.nodup_cons] at hnd
    unfold layP
    by_cases hp : p a.r = true
    · rw [if_pos hp]
      obtain ⟨x, hx, e1, e2, e3⟩ := hin a (by simp) hp
      have hone := hr.layOne hf hx (p := fun y => y.r != a.r) (fun y hy => by
        simp only [bne_eq_false_iff_eq]
        exact ⟨fun e => huq y hy x hx (by rw [e, e1]), fun e => by rw [e, e1]⟩)
      rw [e2, e3] at hone
      have hrec := layP_real p ls _ _ hone (hf.sub _) hnd.2 (fun a' ha' hp' => by
        obtain ⟨y, hy, g1, g2, g3⟩ := hin a' (by simp [ha']) hp'
        refine ⟨y, List.mem_filter.2 ⟨hy, ?_⟩, g1, g2, g3⟩
        have : a'.r ≠ a.r := fun e => hnd.1 (by rw [← e]; exact List.mem_map.2 ⟨a', ha', rfl⟩)
        simpa [g1] using this) (fun y hy z hz => huq y (mof hy) z (mof hz))
      have hfil : ((fl.filter fun y => y.r != a.r).filter fun x => !(p x.r && (ls.map (·.r)).contains x.r)) = fl.filter fun x => !(p x.r && ((a :: ls).map (·.r)).contains x.r) := by
        rw [List.filter_filter]
        apply List.filter_congr
        intro y hy
        simp only [List.map_cons, List.contains_cons]
        by_cases hya : y.r = a.r
        · rw [hya]; simp [hp]
        · have : (y.r == a.r) = false := by simpa using hya
          simp [this, hya]
      rw [hfil] at hrec
      exact hrec
    · rw [if_neg hp]
      have hrec := layP_real p ls h fl hr hf hnd.2 (fun a' ha' hp' => hin a' (by simp [ha']) hp') huq
      have hfil : (fl.filter fun x => !(p x.r && (ls.map (·.r)).contains x.r)) = fl.filter fun x => !(p x.r && ((a :: ls).map (·.r)).contains x.r) := by
        apply List.filter_congr
        intro y hy
        simp only [List.map_cons, List.contains_cons]
        by_cases hya : y.r = a.r
        · rw [hya]; simp [hp]
        · have : (y.r == a.r) = false := by simpa using hya
          simp [this]
      rw [hfil] at hrec
      exact hrec
theorem MR.weaken [Rho] {K K' : Kp} {μ : Mp} {h : Hp} {w : World} (hr : MR K μ h w) (ho : K'.os = K.os) (ht : K'.tape = K.tape) (hu : K'.output = K.output) (hF : K'.F = K.F) (hN : ∀ nm, K'.N nm → K.N nm) (hl : K'.lo = K.lo) : MR K' μ h w :=
  { os := by rw [ho]; exact hr.os, tape := by rw [ht]; exact hr.tape, output := by rw [hu]; exact hr.output, keep := fun b o hb => hr.keep b o (by rw [← hF]; exact hb), dom := hr.dom, live := fun a ha => let ⟨bk, h1, h2, h3⟩ := hr.live a ha; ⟨bk, h1, h2, by rw [hF]; exact h3⟩, res := fun nm hn => hr.res nm (hN nm hn), low := by rw [hl]; exact hr.low, inp := fun b o hb => ⟨by rw [hl]; exact (hr.inp b o hb).1, by rw [hF]; exact (hr.inp b o hb).2⟩, inj := hr.inj }
/-- A block is laid in the world; the reckoning waits. -/
theorem MR.float [Rho] {K : Kp} {N N' : Nm → Prop} {μ : Mp} {h : Hp} {w : World} {fl : List Flt} (hr : MR (Kfl K N fl) μ h w) (hf : FlOk K μ fl) {r : Nat} {nm : Nm} {b : Blk} {obj : Obj} {size es : Nat} (hnm : N nm) (hN : ∀ a, N' a → N a ∧ a ≠ nm)
    (hb : ∀ μ', Ext μ μ' → μ' nm = some ⟨w.heap.size, size, es⟩ → ∀ w', w'.heap[w.heap.size]? = some obj → BlkR μ' w' b ⟨w.heap.size, size, es⟩) :
    Ext μ (Mp.to μ nm ⟨w.heap.size, size, es⟩) ∧ MR (Kfl K N' (⟨r, nm, b, ⟨w.heap.size, size, es⟩, obj⟩ :: fl)) (Mp.to μ nm ⟨w.heap.size, size, es⟩) h { w with heap := w.heap.push obj } ∧ FlOk K (Mp.to μ nm ⟨w.heap.size, size, es⟩) (⟨r, nm, b, ⟨w.heap.size, size, es⟩, obj⟩ :: fl) := by
  obtain ⟨hnone, hrank⟩ := hr.res nm hnm
  have hx := Mp.to_ext (μ := μ) (c := nm) ⟨w.heap.size, size, es⟩ hnone
  have habove := Kp.above hr w.heap.size (Nat.le_refl _)
  obtain ⟨hfl, hKF⟩ := Kfl.some_iff habove
  have hget : ∀ x, x < w.heap.size → (w.heap.push obj)[x]? = w.heap[x]? := fun x hx => by rw [Array.getElem?_push_lt hx, Array.getElem?_eq_getElem hx]
  have hF : ∀ c, c ≠ w.heap.size → (Kfl K N' (⟨r, nm, b, ⟨w.heap.size, size, es⟩, obj⟩ :: fl)).F c = (Kfl K N fl).F c := fun c hc => by
    have : (w.heap.size == c) = false := by simpa using fun e => hc e.symm
    show (match (List.find? _ (_ :: fl)) with | some x => some x.obj | none => K.F c) = (match fl.find? (fun x => x.bk.blk == c) with | some x => some x.obj | none => K.F c)
    rw [List.find?_cons]
    simp only [this]
  have hF0 : (Kfl K N' (⟨r, nm, b, ⟨w.heap.size, size, es⟩, obj⟩ :: fl)).F w.heap.size = some obj := by
    show (match (List.find? _ (_ :: fl)) with | some x => some x.obj | none => _) = _
    rw [List.find?_cons]
    simp
  refine ⟨hx, { os := hr.os, tape := hr.tape, output := hr.output, keep := fun c o hc => ?_, dom := fun a bk e => ?_, live := fun a ha => ?_, res := fun a ha => ?_, low := (by have := hr.low; simp; exact Nat.le_succ_of_le this), inp := Kfl.inp hr.inp hf (fun y hy => (List.mem_cons.1 hy).elim (fun e => by rw [e]; exact hr.low) (hf.up y)), inj := fun a a' b1 b2 ha ha' e e' hbk => ?_ }, ⟨fun x hx' => ?_, fun x hx' y hy' e => ?_, fun x hx' => ?_⟩⟩
  · by_cases hc0 : c = w.heap.size
    · subst hc0
      rw [hF0] at hc
      cases hc
      show (w.heap.push obj)[w.heap.size]? = _
      simp
    · rw [hF c hc0] at hc
      have := hr.keep c o hc
      show (w.heap.push obj)[c]? = _
      rw [hget c (heap_lt this)]; exact this
  · by_cases q : a = nm
    · subst q
      rw [Mp.to_same] at e; cases e
      exact ⟨by simp, hrank⟩
    · rw [Mp.to_ne μ _ q] at e
      obtain ⟨h1, h2⟩ := hr.dom a bk e
      exact ⟨by simp; omega, h2⟩
  · obtain ⟨bk, e1, e2, e3⟩ := hr.live a ha
    have hlt := (hr.dom a bk e1).1
    exact ⟨bk, hx a bk e1, e2.ext hx (hget _ hlt), by rw [hF _ (by omega)]; exact e3⟩
  · obtain ⟨h1, h2⟩ := hN a ha
    obtain ⟨h3, h4⟩ := hr.res a h1
    exact ⟨by rw [Mp.to_ne μ _ h2]; exact h3, h4⟩
  · obtain ⟨k1, e1, _, _⟩ := hr.live a ha
    obtain ⟨k2, e2, _, _⟩ := hr.live a' ha'
    rw [hx a k1 e1] at e; cases e
    rw [hx a' k2 e2] at e'; cases e'
    exact hr.inj a a' b1 b2 ha ha' e1 e2 hbk
  · rcases List.mem_cons.1 hx' with rfl | hx'
    · exact ⟨Mp.to_same _ _ _, hKF, fun μ' w' q1 q2 => hb μ' (hx.trans q1) (q1 _ _ (Mp.to_same _ _ _)) w' q2⟩
    · obtain ⟨h1, h2, h3⟩ := hf.ent x hx'
      exact ⟨hx _ _ h1, h2, fun μ' w' q1 q2 => h3 μ' w' (hx.trans q1) q2⟩
  · rcases List.mem_cons.1 hx' with rfl | hx'
    · rcases List.mem_cons.1 hy' with rfl | hy'
      · rfl
      · exact (hfl y hy' e.symm).elim
    · rcases List.mem_cons.1 hy' with rfl | hy'
      · exact (hfl x hx' e).elim
      · exact hf.dis x hx' y hy' e
  · rcases List.mem_cons.1 hx' with rfl | hx'
    · exact hr.low
    · exact hf.up x hx'
end
end Go.Proofs.YteefpemaeecicaaGreatDoor.Ev
end
section
open Go
namespace Go.Proofs.YteefpemaeecicaaGreatDoor.Ev
set_option linter.unusedVariables false
set_option linter.unusedSimpArgs false
set_option linter.constructorNameAsVariable false
noncomputable section
def LayAt (l : List Pl) (ns : List Nm) (LS : Nat → List La) (r : Nat) (nm : Nm) (b : Blk) : Prop := ∃ y, l[r]? = some y ∧ y.kind = 3 ∧ LS (r + 1) = ⟨r, nm, b⟩ :: LS r ∧ ns[laysN l r]? = some nm
/-- What is known of a region: its run in the order of the text, and that others may be taken. -/
structure Cx5 [Rho] (P : Program) (T : Ty) (ops : Array Oper) (n : Nat) (l : List Pl) (ns : List Nm) (HS : List Hp) (S : Nat → Env) (M : Nat → Hp) (V : Nat → AV) (LS : Nat → List La) (K : Kp) (r0 : Nat) : Prop where
  hlen : l.length = ops.size
  plan : ∀ (j : Nat) y, l[j]? = some y → PlanAt T ops.toList l j y
  ok1 : ∀ (q : Nat) y, l[q]? = some y → ∀ e ∈ y.o.after.toList, Region.binds .any e = true → e.on < q
  ok2 : ∀ (q q' : Nat) y y', l[q]? = some y → l[q']? = some y' → q' < q → clash y' y = true → bit y.bef q' = true
  tr : TRun P ops n l ns HS S M V LS 0
  ls0 : LS 0 = []
  low : ∀ t v, S 0 t = some v → t < n
  names : ∀ (q : Nat) x, ns[q]? = some x → x.rank = r0 + q
  kn : ∀ a, K.N a → a.rank < r0
section
variable {P : Program} {T : Ty} {ops : Array Oper} {n : Nat} {l : List Pl} {ns : List Nm} {HS : List Hp} {S : Nat → Env} {M : Nat → Hp} {V : Nat → AV} {LS : Nat → List La} {K : Kp} {r0 : Nat}
theorem lt_of_get {α : Type} {l : List α} {j : Nat} {y : α} (h : l[j]? = some y) : j < l.length := by
  rcases Nat.lt_or_ge j l.length with hh | hh
  · exact hh
  · rw [List.getElem?_eq_none hh] at h; cases h
theorem Cx5.idx [Rho] (C : Cx5 P T ops n l ns HS S M V LS K r0) : IdxOk l := fun q x hx => by obtain ⟨o, _, _, _, h4, _⟩ := C.plan q x hx; exact h4
theorem Cx5.low_all [Rho] (C : Cx5 P T ops n l ns HS S M V LS K r0) : ∀ j, j ≤ l.length → ∀ t v, S j t = some v → t < n := by
  intro j
  induction j with
  | zero => intro _ t v h; exact C.low t v h
  | succ j ih =>
    intro hj t v h
    have hy := List.getElem?_eq_getElem (show j < l.length by omega)
    rw [C.tr.env j _ (Nat.zero_le _) hy] at h
    cases hd : l[j].o.dst with
    | none => rw [hd] at h; exact ih (by omega) t v h
    | some d =>
      rw [hd] at h
      have h' : (if d < n ∧ t = d then some (V j) else S j t) = some v := h
      by_cases hh : d < n ∧ t = d
      · rw [hh.2]; exact hh.1
      · rw [if_neg hh] at h'; exact ih (by omega) t v h'
theorem Cx5.const [Rho] (C : Cx5 P T ops n l ns HS S M V LS K r0) {t c1 : Nat} : ∀ (c2 : Nat), c1 ≤ c2 → c2 ≤ l.length → (∀ (q : Nat) y, l[q]? = some y → c1 ≤ q → q < c2 → y.o.dst ≠ some t) → S c2 t = S c1 t := by
  intro c2
  induction c2 with
  | zero => intro h1 _ _; have : c1 = 0 := by omega
            rw [this]
  | succ c2 ih =>
    intro h1 h2 hw
    by_cases he : c1 = c2 + 1
    · rw [he]
    · rw [← ih (by omega) (by omega) (fun q y hy a b => hw q y hy a (by omega))]
      have hy := List.getElem?_eq_getElem (show c2 < l.length by omega)
      have hn := hw c2 _ hy (by omega) (by omega)
      rw [C.tr.env c2 _ (Nat.zero_le _) hy]
      cases hd : l[c2].o.dst with
      | none => rfl
      | some d =>
        show (if d < n ∧ t = d then _ else S c2 t) = _
        rw [if_neg]
        intro h
        exact hn (by rw [hd, h.2])
theorem Cx5.ls_inv [Rho] (C : Cx5 P T ops n l ns HS S M V LS K r0) : ∀ j, j ≤ l.length → (∀ a ∈ LS j, a.r < j ∧ LayAt l ns LS a.r a.nm a.b) ∧ ((LS j).map (·.r)).Nodup := by
  intro j
  induction j with
  | zero => intro _; rw [C.ls0]; exact ⟨fun a ha => by simp at ha, by simp⟩
  | succ j ih =>
    intro hj
    obtain ⟨i1, i2⟩ := ih (by omega)
    have hy := List.getElem?_eq_getElem (show j < l.length by omega)
    have hi := C.idx j _ hy
    have hf := C.tr.fact j _ (Nat.zero_le _) hy
    have keep : ∀ L', LS (j + 1) = L' → (∀ a ∈ L', a ∈ LS j) → (L'.map (·.r)).Nodup → (∀ a ∈ LS (j + 1), a.r < j + 1 ∧ LayAt l ns LS a.r a.nm a.b) ∧ ((LS (j + 1)).map (·.r)).Nodup := fun L' e h1 h2 => by
      rw [e]
      exact ⟨fun a ha => ⟨by have := (i1 a (h1 a ha)).1; omega, (i1 a (h1 a ha)).2⟩, h2⟩
    generalize hL : LS (j + 1) = L' at hf
    generalize hV : V j = v at hf
    generalize hM : M (j + 1) = m at hf
    cases hf with
    | skip hw => rw [← hL]; exact keep _ hL (fun a ha => ha) i2
    | pure hk hw h => rw [← hL]; exact keep _ hL (fun a ha => ha) i2
    | load hk hw h => rw [← hL]; exact keep _ hL (fun a ha => ha) i2
    | lay v' nm b hk hw h hn =>
      rw [hi] at hL hn ⊢
      refine ⟨fun a ha => ?_, ?_⟩
      · rcases List.mem_cons.1 ha with rfl | ha
        · exact ⟨by show j < j + 1; omega, _, hy, hk, hL, hn⟩
        · have := i1 a ha
          exact ⟨by omega, this.2⟩
      · rw [List.map_cons, List.nodup_cons]
        refine ⟨fun h => ?_, i2⟩
        obtain ⟨a, ha, e⟩ := List.mem_map.1 h
        have := (i1 a ha).1
        have e' : a.r = j := e
        omega
    | eff hk hw h =>
      rw [← hL]
      refine keep _ hL (fun a ha => mof ha) ?_
      exact (List.Sublist.map _ List.filter_sublist).nodup i2
theorem Cx5.mem_const [Rho] (C : Cx5 P T ops n l ns HS S M V LS K r0) {c1 : Nat} : ∀ (c2 : Nat), c1 ≤ c2 → c2 ≤ l.length → (∀ (q : Nat) y, l[q]? = some y → c1 ≤ q → q < c2 → y.kind ≠ 2) → M c2 = M c1 ∧ (∀ a, a ∈ LS c1 → a ∈ LS c2) ∧ (∀ r nm b, c1 ≤ r → r < c2 → LayAt l ns LS r nm b → (⟨r, nm, b⟩ : La) ∈ LS c2) ∧ (∀ a, a ∈ LS c2 → a.r < c1 → a ∈ LS c1) := by
  intro c2
  induction c2 with
  | zero => intro h1 _ _; have : c1 = 0 := by omega
            subst this; exact ⟨rfl, fun a h => h, fun r nm b a b' => by omega, fun a h _ => h⟩
  | succ c2 ih =>
    intro h1 h2 hw
    by_cases he : c1 = c2 + 1
    · subst he; exact ⟨rfl, fun a h => h, fun r nm b a b' => by omega, fun a h _ => h⟩
    · obtain ⟨i1, i2, i3, i4⟩ := ih (by omega) (by omega) (fun q y hy a b => hw q y hy a (by omega))
      have hy := List.getElem?_eq_getElem (show c2 < l.length by omega)
      have hn := hw c2 _ hy (by omega) (by omega)
      have hi := C.idx c2 _ hy
      have hf := C.tr.fact c2 _ (Nat.zero_le _) hy
      have nolay : LS (c2 + 1) = LS c2 → M (c2 + 1) = M c2 → M (c2 + 1) = M c1 ∧ (∀ a, a ∈ LS c1 → a ∈ LS (c2 + 1)) ∧ (∀ r nm b, c1 ≤ r → r < c2 + 1 → LayAt l ns LS r nm b → (⟨r, nm, b⟩ : La) ∈ LS (c2 + 1)) ∧ (∀ a, a ∈ LS (c2 + 1) → a.r < c1 → a ∈ LS c1) := by
        intro e1 e2
        rw [e2, i1]
        refine ⟨rfl, fun a h => by rw [e1]; exact i2 a h, fun r nm b h3 h4 h5 => ?_, fun a h h3 => i4 a (by rw [← e1]; exact h) h3⟩
        by_cases hr : r = c2
        · subst hr
          obtain ⟨y', q1, q2, q3, q4⟩ := h5
          rw [e1] at q3
          have := congrArg List.length q3
          simp at this
        · rw [e1]; exact i3 r nm b h3 (by omega) h5
      generalize hL : LS (c2 + 1) = L' at hf nolay ⊢
      generalize hV : V c2 = v at hf
      generalize hM : M (c2 + 1) = m at hf nolay ⊢
      cases hf with
      | skip hw => exact nolay rfl rfl
      | pure hk hw h => exact nolay rfl rfl
      | load hk hw h => exact nolay rfl rfl
      | lay v' nm b hk hw h hnm =>
        rw [hi] at hL ⊢
        refine ⟨i1, fun a h => List.mem_cons_of_mem _ (i2 a h), fun r nm' b' h3 h4 h5 => ?_, fun a h h3 => ?_⟩
        · by_cases hr : r = c2
          · subst hr
            obtain ⟨y', q1, q2, q3, q4⟩ := h5
            rw [hL] at q3
            have := (List.cons.inj q3).1
            rw [← this]
            simp
          · exact List.mem_cons_of_mem _ (i3 r nm' b' h3 (by omega) h5)
        · rcases List.mem_cons.1 h with rfl | h
          · have h3 : c2 < c1 := h3
            omega
          · exact i4 a h h3
      | eff hk hw h => exact (hn (by assumption)).elim
/-! ### Any order -/
def Lst (listed : Array Bool) (q : Nat) : Prop := listed.getD q false = true
/-- Names of blocks that are not laid yet. -/
def Wait (K : Kp) (l : List Pl) (ns : List Nm) (L : Nat → Prop) (a : Nm) : Prop := K.N a ∨ ∃ (q : Nat) (y : Pl), l[q]? = some y ∧ y.kind = 3 ∧ ¬ L q ∧ ns[laysN l q]? = some a
/-- The state in the midst of a region. -/
structure RInv [Rho] (P : Program) (l : List Pl) (ns : List Nm) (n : Nat) (S : Nat → Env) (M : Nat → Hp) (LS : Nat → List La) (K : Kp) (L : Nat → Prop) (fl : List Flt) (c : Nat) (μ : Mp) (a : Act) (w : World) : Prop where
  closed : ∀ (q : Nat) y, L q → l[q]? = some y → ∀ x, bit y.bef x = true → L x
  size : n ≤ a.tmps.size
  defs : a.defers = []
  slot : ∀ t c', c' ≤ l.length → (∀ (q : Nat) y, l[q]? = some y → y.o.dst = some t → (L q ↔ q < c')) → ∀ v, S c' t = some v → VR μ v (a.tmps.getD t undef)
  cut : c ≤ l.length ∧ ∀ (q : Nat) y, l[q]? = some y → y.kind = 2 → (L q ↔ q < c)
  mem : MR (Kfl K (Wait K l ns L) fl) μ (M c) w
  flok : FlOk K μ fl
  fl1 : ∀ x ∈ fl, L x.r ∧ LayAt l ns LS x.r x.nm x.b ∧ (x.r < c → (⟨x.r, x.nm, x.b⟩ : La) ∈ LS c)
  fl2 : ∀ r nm b, L r → LayAt l ns LS r nm b → (r < c → (⟨r, nm, b⟩ : La) ∈ LS c) → ∃ x ∈ fl, x.r = r
  uniq : ∀ x ∈ fl, ∀ y ∈ fl, x.r = y.r → x = y
theorem laysN_lt {q q' : Nat} {y : Pl} (hl : IdxOk l) (hy : l[q]? = some y) (hk : y.kind = 3) (h : q < q') : laysN l q < laysN l q' := by
  unfold laysN
  have hs : (l.filter fun x => and_ (Nat.beq x.kind 3) (Nat.ble (Nat.succ x.i) q)).length + 1 ≤ (l.filter fun x => and_ (Nat.beq x.kind 3) (Nat.ble (Nat.succ x.i) q')).length := by
    have hlt := lt_of_get hy
    have hsplit : l = l.take q ++ y :: l.drop (q + 1) := by
      have h1 : l.drop q = y :: l.drop (q + 1) := by
        rw [List.drop_eq_getElem_cons hlt]
        rw [List.getElem?_eq_getElem hlt] at hy
        cases hy; rfl
      rw [← h1, List.take_append_drop]
    have hq := hl q y hy
    have e1 : (l.filter fun x => and_ (Nat.beq x.kind 3) (Nat.ble (Nat.succ x.i) q)) = (l.take q).filter fun x => Nat.beq x.kind 3 := by
      conv => lhs; rw [hsplit]
      rw [List.filter_append]
      have h1 : (l.take q).filter (fun x => and_ (Nat.beq x.kind 3) (Nat.ble (Nat.succ x.i) q)) = (l.take q).filter fun x => Nat.beq x.kind 3 := by
        apply List.filter_congr
        intro x hx
        obtain ⟨p, hp⟩ := List.mem_iff_getElem?.1 hx
        rw [List.getElem?_take] at hp
        split at hp
        · have := hl p x hp
          have e : Nat.ble (Nat.succ x.i) q = true := ble_iff.2 (by omega)
          rw [e]; cases Nat.beq x.kind 3 <;> rfl
        · cases hp
      have h2 : (y :: l.drop (q + 1)).filter (fun x => and_ (Nat.beq x.kind 3) (Nat.ble (Nat.succ x.i) q)) = [] := by
        rw [List.filter_eq_nil_iff]
        intro x hx hh
        have hb := ble_iff.1 (and_eq.1 hh).2
        rcases List.mem_cons.1 hx with rfl | hx
        · omega
        · obtain ⟨p, hp⟩ := List.mem_iff_getElem?.1 hx
          rw [List.getElem?_drop] at hp
          have := hl _ x hp
          omega
      rw [h1, h2, List.append_nil]
    have e2 : ((l.take q).filter fun x => Nat.beq x.kind 3).length + 1 ≤ (l.filter fun x => and_ (Nat.beq x.kind 3) (Nat.ble (Nat.succ x.i) q')).length := by
      conv => rhs; rw [hsplit]
      rw [List.filter_append, List.length_append, List.filter_cons]
      have hyk : and_ (Nat.beq y.kind 3) (Nat.ble (Nat.succ y.i) q') = true := and_eq.2 ⟨beq_iff.2 hk, ble_iff.2 (by omega)⟩
      rw [if_pos hyk, List.length_cons]
      have h1 : (l.take q).filter (fun x => and_ (Nat.beq x.kind 3) (Nat.ble (Nat.succ x.i) q')) = (l.take q).filter fun x => Nat.beq x.kind 3 := by
        apply List.filter_congr
        intro x hx
        obtain ⟨p, hp⟩ := List.mem_iff_getElem?.1 hx
        rw [List.getElem?_take] at hp
        split at hp
        · have := hl p x hp
          have e : Nat.ble (Nat.succ x.i) q' = true := ble_iff.2 (by omega)
          rw [e]; cases Nat.beq x.kind 3 <;> rfl
        · cases hp
      rw [h1]
      omega
    rw [e1]; exact e2
  omega
end
end
end Go.Proofs.YteefpemaeecicaaGreatDoor.Ev
end
section
open Go
namespace Go.Proofs.YteefpemaeecicaaGreatDoor.Ev
set_option linter.unusedVariables false
set_option linter.unusedSimpArgs false
set_option linter.constructorNameAsVariable false
noncomputable section
section
variable {P : Program} {T : Ty} {ops : Array Oper} {n : Nat} {l : List Pl} {ns : List Nm} {HS : List Hp} {S : Nat → Env} {M : Nat → Hp} {V : Nat → AV} {LS : Nat → List La} {K : Kp} {r0 : Nat}
theorem count_le {α : Type} {p q r : α → Bool} : ∀ (l : List α), (∀ x ∈ l, p x = true → q x = true ∨ r x = true) → (l.filter p).length ≤ (l.filter q).length + (l.filter r).length
  | [], _ => by simp
  | x :: l, h => by
    have ih := count_le l (fun y hy => h y (by simp [hy]))
    have hx := h x (by simp)
    simp only [List.filter_cons]
    cases hp : p x with
    | false =>
      cases q x <;> cases r x <;> simp <;> omega
    | true =>
      rcases hx hp with h1 | h1
      · rw [h1]
        cases r x <;> simp <;> omega
      · rw [h1]
        cases q x <;> simp <;> omega
theorem dstIn_true {d : Option Nat} {l : List Nat} {t : Nat} (hd : d = some t) (h : t ∈ l) : dstIn d l = true := by
  subst hd
  show l.contains t = true
  simpa using h
theorem clash_w1 {x y : Pl} {t : Nat} (hx : x.o.dst = some t) (hy : t ∈ y.see) : clash x y = true := or_eq.2 (.inl (or_eq.2 (.inl (dstIn_true hx (by simp [hy])))))
theorem clash_w2 {x y : Pl} {t : Nat} (hx : x.o.dst = some t) (hy : y.o.dst = some t) : clash x y = true := or_eq.2 (.inl (or_eq.2 (.inl (dstIn_true hx (by simp [hy])))))
theorem clash_r {x y : Pl} {t : Nat} (hy : y.o.dst = some t) (hx : t ∈ x.see) : clash x y = true := or_eq.2 (.inl (or_eq.2 (.inr (dstIn_true hy hx))))
theorem clash_e {x y : Pl} (hx : x.kind = 2) (hy : y.kind = 2) : clash x y = true := or_eq.2 (.inr (and_eq.2 ⟨beq_iff.2 hx, beq_iff.2 hy⟩))
theorem LayAt.fun {r : Nat} {nm nm' : Nm} {b b' : Blk} (h : LayAt l ns LS r nm b) (h' : LayAt l ns LS r nm' b') : nm = nm' ∧ b = b' := by
  obtain ⟨y, q1, q2, q3, q4⟩ := h
  obtain ⟨y', p1, p2, p3, p4⟩ := h'
  rw [q3] at p3
  have := (List.cons.inj p3).1
  exact ⟨congrArg La.nm this, congrArg La.b this⟩
/-- A block that nobody waits for stays waiting. -/
theorem Cx5.pending [Rho] (C : Cx5 P T ops n l ns HS S M V LS K r0) {q : Nat} {nm : Nm} {b : Blk} (hq : LayAt l ns LS q nm b) : ∀ (c : Nat), q < c → c ≤ l.length → (∀ (q' : Nat) y, l[q']? = some y → q < q' → q' < c → y.kind = 2 → bit y.bef q = false) → (⟨q, nm, b⟩ : La) ∈ LS c := by
  intro c
  induction c with
  | zero => intro h; omega
  | succ c ih =>
    intro h1 h2 h3
    by_cases hc : q = c
    · subst hc
      obtain ⟨y, q1, q2, q3, q4⟩ := hq
      rw [q3]; simp
    · have i := ih (by omega) (by omega) (fun q' y hy a b => h3 q' y hy a (by omega))
      have hy := List.getElem?_eq_getElem (show c < l.length by omega)
      have hf := C.tr.fact c _ (Nat.zero_le _) hy
      generalize hL : LS (c + 1) = L' at hf ⊢
      generalize hV : V c = v at hf
      generalize hM : M (c + 1) = m at hf
      cases hf with
      | skip hw => exact i
      | pure => exact i
      | load => exact i
      | lay => exact List.mem_cons_of_mem _ i
      | eff => exact List.mem_filter.2 ⟨i, by rw [h3 c _ hy (by omega) (by omega) (by assumption)]; rfl⟩
/-- One operation, taken out of order. -/
theorem Cx5.step [Rho] (C : Cx5 P T ops n l ns HS S M V LS K r0) {L : Nat → Prop} {fl : List Flt} {c : Nat} {μ : Mp} {a : Act} {w : World} (I : RInv P l ns n S M LS K L fl c μ a w) {q : Nat} {y : Pl} (hy : l[q]? = some y) (hLq : ¬ L q) (hbef : ∀ x, bit y.bef x = true → L x)
    {next : Act → World → Prop} {Q : Exit → Act → World → Prop} (hnext : ∀ fl' c' μ' a' w', Ext μ μ' → RInv P l ns n S M LS K (fun x => L x ∨ x = q) fl' c' μ' a' w' → next a' w') : wpOp P ops Q q next a w := by
  obtain ⟨o, p1, p2, p3, p4, p5, p6, p7⟩ := C.plan q y hy
  subst p2
  have hoq : ops[q]? = some y.o := by rw [← Array.getElem?_toList]; exact p1
  have hql := lt_of_get hy
  -- who may stand where
  have lower : ∀ (q' : Nat) y', l[q']? = some y' → q' < q → clash y' y = true → L q' := fun q' y' hy' hlt hc => hbef q' (C.ok2 q q' y y' hy hy' hlt hc)
  have upper : ∀ (q' : Nat) y', l[q']? = some y' → q < q' → clash y y' = true → ¬ L q' := fun q' y' hy' hlt hc hL => hLq (I.closed q' y' hL hy' q (C.ok2 q' q y' y hy' hy hlt hc))
  have same : ∀ {q' : Nat} {y' : Pl}, l[q']? = some y' → q' = q → y' = y := fun h e => by subst e; rw [hy] at h; cases h; rfl
  have hSR : SR n μ ((S q).only y.see) a := by
    refine ⟨I.size, I.defs, fun t v hv => ?_, fun t v hv => ?_⟩
    · have hv' : (if t ∈ y.see then S q t else none) = some v := hv
      split at hv'
      · exact C.low_all q (by omega) t v hv'
      · cases hv'
    · have hv' : (if t ∈ y.see then S q t else none) = some v := hv
      split at hv'
      · rename_i ht
        refine I.slot t q (by omega) (fun q' y' hy' hd => ⟨fun hL => ?_, fun hlt => lower q' y' hy' hlt (clash_w1 hd ht)⟩) v hv'
        rcases Nat.lt_trichotomy q' q with h | h | h
        · exact h
        · subst h; exact (hLq hL).elim
        · exact (upper q' y' hy' h (clash_r hd ht) hL).elim
      · cases hv'
  have hclosed : ∀ (q' : Nat) y', (L q' ∨ q' = q) → l[q']? = some y' → ∀ x, bit y'.bef x = true → L x ∨ x = q := fun q' y' hL hy' x hx => by
    rcases hL with hL | rfl
    · exact .inl (I.closed q' y' hL hy' x hx)
    · rw [hy] at hy'; cases hy'; exact .inl (hbef x hx)
  have hslot : ∀ μ' v', Ext μ μ' → VR μ' (V q) v' → ∀ t c', c' ≤ l.length → (∀ (q' : Nat) y', l[q']? = some y' → y'.o.dst = some t → ((L q' ∨ q' = q) ↔ q' < c')) → ∀ v, S c' t = some v → VR μ' v ((a.put y.o.dst v').tmps.getD t undef) := by
    intro μ' v' hx hv t c' hc' hcut v hSv
    have htn := C.low_all c' hc' t v hSv
    by_cases hd : y.o.dst = some t
    · have hqc : q < c' := (hcut q y hy hd).1 (.inr rfl)
      have hno : ∀ (q' : Nat) y', l[q']? = some y' → q + 1 ≤ q' → q' < c' → y'.o.dst ≠ some t := fun q' y' hy' h1 h2 hd' => by
        rcases (hcut q' y' hy' hd').2 h2 with hL | h
        · exact upper q' y' hy' (by omega) (clash_w2 hd hd') hL
        · omega
      rw [C.const c' hqc hc' hno, C.tr.env q y (Nat.zero_le _) hy, hd] at hSv
      have hSv' : (if t < n ∧ t = t then some (V q) else S q t) = some v := hSv
      rw [if_pos ⟨htn, rfl⟩] at hSv'
      cases hSv'
      have hsz := I.size
      rw [hd]
      show VR μ' (V q) ((a.tmps.setIfInBounds t v').getD t undef)
      rw [Array.getD_eq_getD_getElem?, Array.getElem?_setIfInBounds, if_pos rfl, if_pos (by omega)]
      exact hv
    · have hold := I.slot t c' hc' (fun q' y' hy' hd' => by
        have hne : q' ≠ q := fun e => hd (by rw [same hy' e] at hd'; exact hd')
        have := hcut q' y' hy' hd'
        exact ⟨fun h => this.1 (.inl h), fun h => (this.2 h).resolve_right hne⟩) v hSv
      have hget : (a.put y.o.dst v').tmps.getD t undef = a.tmps.getD t undef := by
        cases hdd : y.o.dst with
        | none => rfl
        | some d =>
          show (a.tmps.setIfInBounds d v').getD t undef = _
          rw [Array.getD_eq_getD_getElem?, Array.getD_eq_getD_getElem?, Array.getElem?_setIfInBounds, if_neg (fun e => hd (by rw [hdd, e]))]
      rw [hget]
      exact hold.ext hx
  have hsize : ∀ v', n ≤ (a.put y.o.dst v').tmps.size := fun v' => by
    cases y.o.dst with
    | none => exact I.size
    | some d => show n ≤ (a.tmps.setIfInBounds d v').size; simp; exact I.size
  have hdefs : ∀ v', (a.put y.o.dst v').defers = [] := fun v' => by
    cases y.o.dst with
    | none => exact I.defs
    | some d => exact I.defs
  have hwait : ∀ nm, Wait K l ns (fun x => L x ∨ x = q) nm → Wait K l ns L nm := fun nm h => by
    rcases h with h | ⟨q', y', h1, h2, h3, h4⟩
    · exact .inl h
    · exact .inr ⟨q', y', h1, h2, fun hL => h3 (.inl hL), h4⟩
  -- what does nothing to the memory
  have still : y.kind ≠ 2 → (∀ nm b, ¬ LayAt l ns LS q nm b) → ∀ v', VR μ (V q) v' → RInv P l ns n S M LS K (fun x => L x ∨ x = q) fl c μ (a.put y.o.dst v') w := fun hk hno v' hv =>
    { closed := hclosed, size := hsize v', defs := hdefs v', slot := hslot μ v' (Ext.refl μ) hv,
      cut := ⟨I.cut.1, fun q' y' hy' hk' => ⟨fun h => (I.cut.2 q' y' hy' hk').1 (h.resolve_right fun e => hk (by rw [← same hy' e]; exact hk')), fun h => .inl ((I.cut.2 q' y' hy' hk').2 h)⟩⟩,
      mem := I.mem.weaken rfl rfl rfl rfl hwait rfl, flok := I.flok, fl1 := fun x hx => let ⟨h1, h2, h3⟩ := I.fl1 x hx; ⟨.inl h1, h2, h3⟩,
      fl2 := fun r nm b hL hla hr => I.fl2 r nm b (hL.resolve_right fun e => hno nm b (by rw [← e]; exact hla)) hla hr, uniq := I.uniq }
  have nolay3 : y.kind ≠ 3 → ∀ nm b, ¬ LayAt l ns LS q nm b := fun hk nm b h => by
    obtain ⟨y', q1, q2, _⟩ := h
    rw [hy] at q1; cases q1; exact hk q2
  -- what does something: the cut goes to it
  have cut2 : y.kind = 2 → c ≤ q ∧ (∀ (q' : Nat) y', l[q']? = some y' → c ≤ q' → q' < q → y'.kind ≠ 2) ∧ (∀ (q' : Nat) y', l[q']? = some y' → y'.kind = 2 → ((L q' ∨ q' = q) ↔ q' < q + 1)) := by
    intro hk
    have hcq : c ≤ q := by
      rcases Nat.lt_or_ge q c with h | h
      · exact (hLq ((I.cut.2 q y hy hk).2 h)).elim
      · exact h
    refine ⟨hcq, fun q' y' hy' h1 h2 hk' => ?_, fun q' y' hy' hk' => ⟨fun h => ?_, fun h => ?_⟩⟩
    · have := (I.cut.2 q' y' hy' hk').1 (lower q' y' hy' h2 (clash_e hk' hk))
      omega
    · rcases h with h | h
      · rcases Nat.lt_trichotomy q' q with h2 | h2 | h2
        · omega
        · omega
        · exact (upper q' y' hy' h2 (clash_e hk hk') h).elim
      · omega
    · by_cases he : q' = q
      · exact .inr he
      · exact .inl (lower q' y' hy' (by omega) (clash_e hk' hk))
  have hf := C.tr.fact q y (Nat.zero_le _) hy
  unfold wpOp
  simp only [hoq]
  -- a plain end
  have skipped : Region.wanted y.o (yielded ops a.tmps) = false → V q = .tu [] → M (q + 1) = M q → LS (q + 1) = LS q → next (a.put y.o.dst undef) w := by
    intro hw hv hm hl
    have hvr : VR μ (V q) undef := by rw [hv]; exact VR.undef μ
    have hno : ∀ nm b, ¬ LayAt l ns LS q nm b := fun nm b h => by
      obtain ⟨y', q1, q2, q3, _⟩ := h
      rw [hl] at q3
      have := congrArg List.length q3
      simp at this
    by_cases hk : y.kind = 2
    · obtain ⟨c1, c2, c3⟩ := cut2 hk
      obtain ⟨m1, m2, m3, m4⟩ := C.mem_const q c1 (by omega) c2
      refine hnext fl (q + 1) μ _ w (Ext.refl μ) { closed := hclosed, size := hsize _, defs := hdefs _, slot := hslot μ undef (Ext.refl μ) hvr, cut := ⟨by omega, c3⟩, mem := ?_, flok := I.flok, fl1 := fun x hx => ?_, fl2 := fun r nm b hL hla hr => ?_, uniq := I.uniq }
      · rw [hm, m1]; exact I.mem.weaken rfl rfl rfl rfl hwait rfl
      · obtain ⟨h1, h2, h3⟩ := I.fl1 x hx
        refine ⟨.inl h1, h2, fun hr => ?_⟩
        rw [hl]
        have hne : x.r ≠ q := fun e => hno x.nm x.b (by rw [← e]; exact h2)
        by_cases hrc : x.r < c
        · exact m2 _ (h3 hrc)
        · exact m3 _ _ _ (by omega) (by omega) h2
      · have hne : r ≠ q := fun e => hno nm b (by rw [← e]; exact hla)
        refine I.fl2 r nm b (hL.resolve_right hne) hla fun hrc => ?_
        have := hr (by omega)
        rw [hl] at this
        exact m4 _ this hrc
    · exact hnext fl c μ _ w (Ext.refl μ) (still hk hno undef hvr)
  generalize hV : V q = v at hf
  generalize hM : M (q + 1) = m' at hf
  generalize hL' : LS (q + 1) = ls' at hf
  cases hf with
  | skip hw =>
    have hw' := hw μ a hSR
    rw [hw', if_neg (by simp)]
    exact skipped hw' hV hM hL'
  | pure hk hw hp =>
    rename_i v0
    rw [(show Want ops n y ((S q).only y.see) true by assumption) μ a hSR, if_pos rfl]
    have hkk : y.kind = 0 := by assumption
    exact .inl ((show PureW P n y.o ((S q).only y.see) v by assumption) μ a w hSR next Q fun v' hv' => hnext fl c μ _ w (Ext.refl μ) (still (by omega) (nolay3 (by omega)) v' (by rw [hV]; exact hv')))
  | load hk hw hp =>
    have hkk : y.kind = 1 := by assumption
    rw [(show Want ops n y ((S q).only y.see) true by assumption) μ a hSR, if_pos rfl]
    have hver := (show ∀ m, effN l y.i - lateN l y ≤ m → m ≤ effN l y.i + earlyN l y → ∃ hm, HS[m]? = some hm ∧ LoadW P n y.o ((S q).only y.see) hm v by assumption)
    have h1 : effN l y.i ≤ effN l c + lateN l y := by
      refine count_le l fun x hx hp => ?_
      obtain ⟨q', hq'⟩ := List.mem_iff_getElem?.1 hx
      obtain ⟨e1, e2⟩ := and_eq.1 hp
      have hi := C.idx q' x hq'
      have e2 := ble_iff.1 e2
      by_cases hc : q' < c
      · exact .inl (and_eq.2 ⟨e1, ble_iff.2 (by omega)⟩)
      · refine .inr (and_eq.2 ⟨and_eq.2 ⟨e1, ble_iff.2 e2⟩, ?_⟩)
        rw [not_eq, Bool.not_eq_true']
        cases hb : bit y.bef x.i with
        | false => rfl
        | true =>
          have := hbef _ hb
          rw [hi] at this
          exact (hc ((I.cut.2 q' x hq' (beq_iff.1 e1)).1 this)).elim
    have h2 : effN l c ≤ effN l y.i + earlyN l y := by
      refine count_le l fun x hx hp => ?_
      obtain ⟨q', hq'⟩ := List.mem_iff_getElem?.1 hx
      obtain ⟨e1, e2⟩ := and_eq.1 hp
      have hi := C.idx q' x hq'
      have e2 := ble_iff.1 e2
      have hLq' := (I.cut.2 q' x hq' (beq_iff.1 e1)).2 (by omega)
      by_cases hc : q' < q
      · exact .inl (and_eq.2 ⟨e1, ble_iff.2 (by omega)⟩)
      · have hne : q' ≠ q := fun e => by subst e; exact hLq hLq'
        refine .inr (and_eq.2 ⟨and_eq.2 ⟨e1, ble_iff.2 (by omega)⟩, ?_⟩)
        rw [not_eq, Bool.not_eq_true']
        cases hb : bit x.bef y.i with
        | false => rfl
        | true =>
          have := I.closed q' x hLq' hq' _ hb
          rw [p4] at this
          exact (hLq this).elim
    obtain ⟨hm, g1, g2⟩ := hver (effN l c) (by omega) h2
    rw [C.tr.ver c (Nat.zero_le _) I.cut.1] at g1
    cases g1
    exact .inl (g2 _ μ a w I.mem hSR next Q fun v' hv' => hnext fl c μ _ w (Ext.refl μ) (still (by omega) (nolay3 (by omega)) v' (by rw [hV]; exact hv')))
  | lay v0 nm b hk hw hp hn =>
    rw [hw μ a hSR, if_pos rfl]
    rw [p4] at hL' hn
    have hlay : LayAt l ns LS q nm b := ⟨y, hy, hk, hL', hn⟩
    refine .inl (hp μ a w hSR next Q fun v' obj size es hv => ?_)
    have hN : Wait K l ns L nm := .inr ⟨q, y, hy, hk, hLq, hn⟩
    obtain ⟨f1, f2, f3⟩ := I.mem.float (r := q) (N' := Wait K l ns (fun x => L x ∨ x = q)) I.flok hN (fun a' ha' => ⟨hwait a' ha', fun e => by
      rcases ha' with h | ⟨q', y', h1, h2, h3, h4⟩
      · have e1 := C.kn a' h
        have e2 := C.names _ _ hn
        rw [e] at e1
        omega
      · have hne : q' ≠ q := fun e => h3 (.inr e)
        have e1 := C.names _ _ h4
        have e2 := C.names _ _ hn
        rw [e, e2] at e1
        rcases Nat.lt_trichotomy q q' with h | h | h
        · have := laysN_lt C.idx hy hk h; omega
        · exact hne h.symm
        · have := laysN_lt C.idx h1 h2 h; omega⟩) (fun μ' q1 q2 => (hv μ' q1 q2).2)
    obtain ⟨hvr, _⟩ := hv _ f1 (Mp.to_same _ _ _)
    refine hnext _ c _ _ _ f1 { closed := hclosed, size := hsize _, defs := hdefs _, slot := hslot _ v' f1 (by rw [hV]; exact hvr), cut := ⟨I.cut.1, fun q' y' hy' hk' => ⟨fun h => (I.cut.2 q' y' hy' hk').1 (h.resolve_right fun e => by rw [same hy' e] at hk'; omega), fun h => .inl ((I.cut.2 q' y' hy' hk').2 h)⟩⟩, mem := f2, flok := f3, fl1 := fun x hx => ?_, fl2 := fun r nm' b' hL hla hr => ?_, uniq := fun x hx z hz e => ?_ }
    · rcases List.mem_cons.1 hx with rfl | hx
      · refine ⟨.inr rfl, hlay, fun hqc => C.pending hlay c hqc I.cut.1 fun q' y' hy' h1 h2 h3 => ?_⟩
        cases hb : bit y'.bef q with
        | false => rfl
        | true => exact (hLq (I.closed q' y' ((I.cut.2 q' y' hy' h3).2 h2) hy' q hb)).elim
      · obtain ⟨h1, h2, h3⟩ := I.fl1 x hx
        exact ⟨.inl h1, h2, h3⟩
    · by_cases he : r = q
      · exact ⟨⟨q, nm, b, ⟨w.heap.size, size, es⟩, obj⟩, by simp, he.symm⟩
      · obtain ⟨x, hx, e⟩ := I.fl2 r nm' b' (hL.resolve_right he) hla hr
        exact ⟨x, by simp [hx], e⟩
    · rcases List.mem_cons.1 hx with rfl | hx
      · rcases List.mem_cons.1 hz with rfl | hz
        · rfl
        · have := (I.fl1 z hz).1
          rw [← e] at this
          exact (hLq this).elim
      · rcases List.mem_cons.1 hz with rfl | hz
        · have := (I.fl1 x hx).1
          rw [e] at this
          exact (hLq this).elim
        · exact I.uniq x hx z hz e
  | eff hk hw hp =>
    have hkk : y.kind = 2 := by assumption
    have hstep : StepW P n y.o ((S q).only y.see) (layM y.bef (LS q) (M q)) v m' := by assumption
    rw [(show Want ops n y ((S q).only y.see) true by assumption) μ a hSR, if_pos rfl]
    obtain ⟨c1, c2, c3⟩ := cut2 hkk
    obtain ⟨m1, m2, m3, m4⟩ := C.mem_const q c1 (by omega) c2
    obtain ⟨l1, l2⟩ := C.ls_inv q (by omega)
    have hmem := I.mem
    rw [← m1] at hmem
    have hlaid := layP_real (bit y.bef) (LS q) (M q) fl hmem I.flok l2 (fun x hx hb => by
      obtain ⟨g1, g2⟩ := l1 x hx
      obtain ⟨z, hz, e⟩ := I.fl2 x.r x.nm x.b (hbef _ hb) g2 (fun hrc => m4 x hx hrc)
      have g3 := (I.fl1 z hz).2.1
      rw [e] at g3
      obtain ⟨e1, e2⟩ := g3.fun g2
      exact ⟨z, hz, e, e1, e2⟩) I.uniq
    rw [← layM_P] at hlaid
    have hlaid2 : MR (Kfl K (Wait K l ns (fun x => L x ∨ x = q)) (fl.filter fun x => !(bit y.bef x.r && ((LS q).map (·.r)).contains x.r))) μ (layM y.bef (LS q) (M q)) w := hlaid.weaken rfl rfl rfl rfl hwait rfl
    refine .inl (hstep _ μ a w hlaid2 hSR next Q fun μ' v' w' hx hv hr => ?_)
    refine hnext _ (q + 1) μ' _ w' hx { closed := hclosed, size := hsize _, defs := hdefs _, slot := hslot μ' v' hx (by rw [hV]; exact hv), cut := ⟨by omega, c3⟩, mem := by rw [hM]; exact hr, flok := (I.flok.sub _).ext hx, fl1 := fun x hx' => ?_, fl2 := fun r nm b hL hla hr' => ?_, uniq := fun x hx' z hz e => I.uniq x (mof hx') z (mof hz) e }
    · obtain ⟨h1, h2, h3⟩ := I.fl1 x (mof hx')
      have hcond := (List.mem_filter.1 hx').2
      refine ⟨.inl h1, h2, fun hr' => ?_⟩
      have hne : x.r ≠ q := fun e => nolay3 (by omega) x.nm x.b (by rw [← e]; exact h2)
      have hin : (⟨x.r, x.nm, x.b⟩ : La) ∈ LS q := by
        by_cases hrc : x.r < c
        · exact m2 _ (h3 hrc)
        · exact m3 _ _ _ (by omega) (by omega) h2
      rw [hL']
      refine List.mem_filter.2 ⟨hin, ?_⟩
      have hcon : ((LS q).map (·.r)).contains x.r = true := by
        rw [List.contains_iff_mem]
        exact List.mem_map.2 ⟨_, hin, rfl⟩
      rw [hcon, Bool.and_true] at hcond
      exact hcond
    · have hne : r ≠ q := fun e => nolay3 (by omega) nm b (by rw [← e]; exact hla)
      have hin2 : r < q → (⟨r, nm, b⟩ : La) ∈ LS q ∧ bit y.bef r = false := fun h => by
        have := hr' (by omega)
        rw [hL'] at this
        obtain ⟨h1, h2⟩ := List.mem_filter.1 this
        exact ⟨h1, by simpa using h2⟩
      obtain ⟨x, hx', e⟩ := I.fl2 r nm b (hL.resolve_right hne) hla (fun hrc => m4 _ (hin2 (by omega)).1 hrc)
      refine ⟨x, List.mem_filter.2 ⟨hx', ?_⟩, e⟩
      rw [e]
      by_cases hrq : r < q
      · rw [(hin2 hrq).2]; rfl
      · have : ((LS q).map (·.r)).contains r = false := by
          cases hcon : ((LS q).map (·.r)).contains r with
          | false => rfl
          | true =>
            rw [List.contains_iff_mem] at hcon
            obtain ⟨z, hz, ez⟩ := List.mem_map.1 hcon
            have := (l1 z hz).1
            omega
        rw [this, Bool.and_false]; rfl
end
end
end Go.Proofs.YteefpemaeecicaaGreatDoor.Ev
end
section
open Go
namespace Go.Proofs.YteefpemaeecicaaGreatDoor.Ev
set_option linter.unusedVariables false
set_option linter.unusedSimpArgs false
set_option linter.constructorNameAsVariable false
noncomputable section
theorem filter_set : ∀ (l : List Bool) (q : Nat), l[q]? = some false → ((l.set q true).filter (!·)).length + 1 = (l.filter (!·)).length
  | [], q, h => by simp at h
  | b :: l, 0, h => by
    simp at h
    subst h
    simp
  | b :: l, q + 1, h => by
    have ih := filter_set l q (by simpa using h)
    rw [List.set_cons_succ, List.filter_cons, List.filter_cons]
    cases b
    · simp only [Bool.not_false, if_true, List.length_cons]; omega
    · simp only [Bool.not_true, Bool.false_eq_true, if_false]; exact ih
theorem Lst_set {listed : Array Bool} {q : Nat} (hq : q < listed.size) : Lst (listed.setIfInBounds q true) = fun x => Lst listed x ∨ x = q := by
  funext x
  apply propext
  unfold Lst
  by_cases h : q = x
  · subst h
    simp [hq]
  · rw [getD_set_ne false h]
    exact ⟨.inl, fun hh => hh.resolve_right fun e => h e.symm⟩
section
variable {P : Program} {T : Ty} {ops : Array Oper} {n : Nat} {l : List Pl} {ns : List Nm} {HS : List Hp} {S : Nat → Env} {M : Nat → Hp} {V : Nat → AV} {LS : Nat → List La} {K : Kp} {r0 : Nat}
theorem layP_all {ls : List La} {h : Hp} : layAllM ls h = layP (fun _ => true) ls h := layAllM_P ls h
/-- All is listed. -/
theorem Cx5.done [Rho] (C : Cx5 P T ops n l ns HS S M V LS K r0) {listed : Array Bool} {fl : List Flt} {c : Nat} {μ : Mp} {a : Act} {w : World} (I : RInv P l ns n S M LS K (Lst listed) fl c μ a w) (hsz : listed.size = ops.size) (hr : Region.ready .any ops listed = []) :
    SR n μ (S l.length) a ∧ MR K μ (layAllM (LS l.length) (M l.length)) w := by
  have all : ∀ q, q < l.length → Lst listed q := by
    intro q
    induction q using Nat.strongRecOn with
    | _ q ih =>
      intro hq
      cases hL : listed.getD q false with
      | true => exact hL
      | false =>
        exfalso
        have hy := List.getElem?_eq_getElem hq
        obtain ⟨o, p1, p2, _⟩ := C.plan q _ hy
        have hoq : ops[q]? = some l[q].o := by rw [← Array.getElem?_toList, p2]; exact p1
        have hlt : q < listed.size := by rw [hsz, ← C.hlen]; exact hq
        have : q ∈ Region.ready .any ops listed := by
          rw [mem_ready]
          refine ⟨?_, _, hoq, fun e he hb => ?_⟩
          · have e1 : listed.getD q false = listed[q] := by simp [hlt]
            have e2 : listed.getD q true = listed[q] := by simp [hlt]
            rw [e2, ← e1]; exact hL
          · have := C.ok1 q _ hy e (by simpa using he) hb
            exact ih e.on this (by omega)
        rw [hr] at this
        cases this
  constructor
  · refine ⟨I.size, I.defs, fun t v hv => C.low_all _ (Nat.le_refl _) t v hv, fun t v hv => I.slot t l.length (Nat.le_refl _) (fun q y hy _ => ⟨fun _ => lt_of_get hy, fun h => all q h⟩) v hv⟩
  · obtain ⟨c1, c2⟩ := I.cut
    obtain ⟨m1, m2, m3, m4⟩ := C.mem_const l.length c1 (Nat.le_refl _) (fun q y hy h1 h2 hk => by have := (c2 q y hy hk).1 (all q h2); omega)
    obtain ⟨l1, l2⟩ := C.ls_inv l.length (Nat.le_refl _)
    have hmem := I.mem
    rw [← m1] at hmem
    have hlaid := layP_real (fun _ => true) (LS l.length) (M l.length) fl hmem I.flok l2 (fun x hx _ => by
      obtain ⟨g1, g2⟩ := l1 x hx
      obtain ⟨z, hz, e⟩ := I.fl2 x.r x.nm x.b (all _ g1) g2 (fun hrc => m4 x hx hrc)
      have g3 := (I.fl1 z hz).2.1
      rw [e] at g3
      obtain ⟨e1, e2⟩ := g3.fun g2
      exact ⟨z, hz, e, e1, e2⟩) I.uniq
    rw [← layP_all] at hlaid
    have hnil : (fl.filter fun x => !(true && ((LS l.length).map (·.r)).contains x.r)) = [] := by
      rw [List.filter_eq_nil_iff]
      intro x hx
      obtain ⟨h1, h2, h3⟩ := I.fl1 x hx
      have hlt : x.r < l.length := by obtain ⟨y, q1, _⟩ := h2; exact lt_of_get q1
      have hin : (⟨x.r, x.nm, x.b⟩ : La) ∈ LS l.length := by
        by_cases hrc : x.r < c
        · exact m2 _ (h3 hrc)
        · exact m3 _ _ _ (by omega) hlt h2
      have hcon : ((LS l.length).map (·.r)).contains x.r = true := by
        rw [List.contains_iff_mem]
        exact List.mem_map.2 ⟨_, hin, rfl⟩
      rw [hcon]; simp
    rw [hnil] at hlaid
    exact hlaid.weaken rfl rfl rfl rfl (fun nm h => .inl h) rfl
theorem Cx5.any [Rho] (C : Cx5 P T ops n l ns HS S M V LS K r0) {μ0 : Mp} {Q : Exit → Act → World → Prop} (hQ : ∀ μ' a' w', Ext μ0 μ' → SR n μ' (S l.length) a' → MR K μ' (layAllM (LS l.length) (M l.length)) w' → Q .normal a' w') :
    ∀ (fuel : Nat) (listed : Array Bool) (fl : List Flt) (c : Nat) (μ : Mp) (a : Act) (w : World), RInv P l ns n S M LS K (Lst listed) fl c μ a w → listed.size = ops.size → (listed.toList.filter (!·)).length ≤ fuel → Ext μ0 μ → wpAny P .any ops Q fuel listed a w := by
  intro fuel
  induction fuel with
  | zero =>
    intro listed fl c μ a w I hsz hf hx
    have hr : Region.ready .any ops listed = [] := by
      rw [List.eq_nil_iff_forall_not_mem]
      intro q hq
      obtain ⟨h1, o, h2, _⟩ := mem_ready.1 hq
      have hlt : q < listed.size := by
        rcases Nat.lt_or_ge q listed.size with h | h
        · exact h
        · simp [Array.getElem?_eq_none h] at h1
      have hnil : listed.toList.filter (!·) = [] := List.length_eq_zero_iff.1 (by omega)
      rw [List.filter_eq_nil_iff] at hnil
      have := hnil listed[q] (by simp)
      have e2 : listed.getD q true = listed[q] := by simp [hlt]
      rw [e2] at h1
      rw [h1] at this
      simp at this
    obtain ⟨q1, q2⟩ := C.done I hsz hr
    exact ⟨hr, hQ μ a w hx q1 q2⟩
  | succ fuel ih =>
    intro listed fl c μ a w I hsz hf hx
    refine ⟨fun hr => ?_, fun q hq => ?_⟩
    · obtain ⟨q1, q2⟩ := C.done I hsz hr
      exact hQ μ a w hx q1 q2
    · obtain ⟨h1, o, h2, h3⟩ := mem_ready.1 hq
      have hlt : q < listed.size := by
        rcases Nat.lt_or_ge q listed.size with h | h
        · exact h
        · simp [Array.getElem?_eq_none h] at h1
      have e1 : listed.getD q false = listed[q] := by simp [hlt]
      have e2 : listed.getD q true = listed[q] := by simp [hlt]
      have hy := List.getElem?_eq_getElem (show q < l.length by rw [C.hlen, ← hsz]; exact hlt)
      obtain ⟨o', p1, p2, p3, p4, p5, p6, p7⟩ := C.plan q _ hy
      have hoo : o' = o := by
        rw [Array.getElem?_toList, h2] at p1
        cases p1; rfl
      subst hoo
      have hfalse : listed[q] = false := by rw [← e2]; exact h1
      refine C.step I hy (fun hL => ?_) (fun x hxb => ?_) (fun fl' c' μ' a' w' hx' I' => ?_)
      · have hL' : listed.getD q false = true := hL
        rw [e1, hfalse] at hL'
        cases hL'
      · rw [p7] at hxb
        obtain ⟨e, he, hb, h4⟩ := befs_spec hxb
        have hon := h3 e (by simpa using he) hb
        rcases h4 with rfl | ⟨y', h5, h6⟩
        · exact hon
        · rw [List.getElem?_take] at h5
          split at h5
          · exact I.closed e.on y' hon h5 x h6
          · cases h5
      · rw [← Lst_set hlt] at I'
        refine ih _ fl' c' μ' a' w' I' (by simpa using hsz) ?_ (hx.trans hx')
        have hset : (listed.setIfInBounds q true).toList = listed.toList.set q true := by simp
        rw [hset]
        have := filter_set listed.toList q (by rw [Array.getElem?_toList, Array.getElem?_eq_getElem hlt, hfalse])
        omega
theorem plOk_spec {l : List Pl} (hl : IdxOk l) (h : plOk l = true) : (∀ (q : Nat) y, l[q]? = some y → ∀ e ∈ y.o.after.toList, Region.binds .any e = true → e.on < q) ∧ (∀ (q q' : Nat) y y', l[q]? = some y → l[q']? = some y' → q' < q → clash y' y = true → bit y.bef q' = true) := by
  unfold plOk at h
  rw [List.all_eq_true] at h
  refine ⟨fun q y hy e he hb => ?_, fun q q' y y' hy hy' hlt hc => ?_⟩
  · have h1 := (and_eq.1 (h y (List.mem_of_getElem? hy))).1
    rw [List.all_eq_true] at h1
    have h2 := h1 e he
    rcases or_eq.1 h2 with h3 | h3
    · rw [not_eq, hb] at h3; cases h3
    · have := ble_iff.1 h3
      have := hl q y hy
      omega
  · have h1 := (and_eq.1 (h y (List.mem_of_getElem? hy))).2
    rw [List.all_eq_true] at h1
    have h2 := h1 y' (List.mem_of_getElem? hy')
    have i1 := hl q y hy
    have i2 := hl q' y' hy'
    rcases or_eq.1 h2 with h3 | h3
    · have := ble_iff.1 h3; omega
    · rcases or_eq.1 h3 with h4 | h4
      · rw [not_eq, hc] at h4; cases h4
      · rw [i2] at h4; exact h4
end
theorem regD_ok [Rho] {P : Program} {T : Ty} (hT : TyOk P T) (hO : StructOk P T) (k : Nat) (E : Em) (hn : H) (hE : EOk E) (hS : HSound P hn) : DrawOk P E hn (regD T k E) := by
  intro ops K i G cx fr e h hcx hG hy
  obtain ⟨hlen, hplan⟩ := plans_spec T ops.toList ops.toList [] rfl (Nat.zero_le _) (fun j y hy => by simp at hy)
  generalize hl : plans T ops.toList ops.toList [] = l at hlen hplan
  have hlen' : l.length = ops.size := by simpa using hlen
  have hidx : IdxOk l := fun q x hx => by obtain ⟨o, _, _, _, h4, _⟩ := hplan q x hx; exact h4
  have hy' : (bif_ (plOk l) (⟨fun cx fr e h => namesK (l.filter fun x => Nat.beq x.kind 3).length h.c fun ns c' => (odD T k E ops.toList l K l i G).run cx fr e ⟨h.m, c'⟩ [] [] [] ns⟩ : Oc k i) (badO k i)).run cx fr e h = .yes := by
    rw [← hl]; exact hy
  rw [bif_eq] at hy'
  split at hy'
  · rename_i hok
    obtain ⟨ok1, ok2⟩ := plOk_spec hidx hok
    have hy2 : namesK (l.filter fun x => Nat.beq x.kind 3).length h.c (fun ns c' => (odD T k E ops.toList l K l i G).run cx fr e ⟨h.m, c'⟩ [] [] [] ns) = .yes := hy'
    obtain ⟨ns, c', h1, h2, h3, h4⟩ := namesK_yes _ _ _ hy2
    obtain ⟨S, M, V, LS, HS, tr, s1, s2, s3, _, _, i', G', e', s4, s5, s6⟩ := odD_yes hS hT hO hE hlen' hplan hcx l 0 i G e ⟨h.m, c'⟩ [] [] [] hG rfl (Nat.zero_le _) (by
      rw [effN_take hidx]; simp) (fun c hc => by simp at hc) h1
    refine ⟨i', G', e', _, s4, s5, fun Kp μ a w hr hs Q hQ => ?_⟩
    have C : Cx5 P T ops E.n l ns HS S M V LS Kp h.c.rank := ⟨hlen', hplan, ok1, ok2, tr, s3, fun t v hv => by rw [s1] at hv; exact hs.low t v hv, h3, fun a ha => (hr.res a ha).2⟩
    have hnot : ∀ q, ¬ Lst (Array.replicate ops.size false) q := fun q hq => by
      have hq' : (Array.replicate ops.size false).getD q false = true := hq
      rw [Array.getD_eq_getD_getElem?, Array.getElem?_replicate] at hq'
      split at hq' <;> cases hq'
    refine C.any (μ0 := μ) (Q := Q) (fun μ' a' w' q1 q2 q3 => hQ μ' a' w' q1 (by rw [← s6]; exact q2) q3) ops.size (Array.replicate ops.size false) [] 0 μ a { w with drawn := w.drawn + 1 } ?_ (by simp) (by simp) (Ext.refl μ)
    have hr2 := hr.drawn (w.drawn + 1)
    refine { closed := fun q y hq => (hnot q hq).elim, size := hs.size, defs := hs.defs, slot := fun t c2 hc2 hcut v hv => ?_, cut := ⟨Nat.zero_le _, fun q y hy hk => ⟨fun hq => (hnot q hq).elim, fun hq => by omega⟩⟩, mem := ?_, flok := ⟨fun x hx => by simp at hx, fun x hx => by simp at hx, fun x hx => by simp at hx⟩, fl1 := fun x hx => by simp at hx, fl2 := fun r nm b hL => (hnot r hL).elim, uniq := fun x hx => by simp at hx }
    · rw [C.const c2 (Nat.zero_le _) hc2 (fun q y hy _ hlt hd => hnot q ((hcut q y hy hd).2 hlt)), s1] at hv
      exact hs.val t v hv
    · rw [s2]
      refine { os := hr2.os, tape := hr2.tape, output := hr2.output, keep := fun b o hb => hr2.keep b o hb, dom := fun nm bk hb => ?_, live := fun a ha => ?_, res := fun a ha => ?_, low := hr2.low, inp := hr2.inp, inj := hr2.inj }
      · obtain ⟨d1, d2⟩ := hr2.dom nm bk hb
        exact ⟨d1, by show nm.rank < c'.rank; omega⟩
      · obtain ⟨bk, d1, d2, d3⟩ := hr2.live a ha
        exact ⟨bk, d1, d2, d3⟩
      · rcases ha with ha | ⟨q, y, q1, q2, q3, q4⟩
        · obtain ⟨d1, d2⟩ := hr2.res a ha
          exact ⟨d1, by show a.rank < c'.rank; omega⟩
        · have hrk := h3 _ _ q4
          have hlt := lt_of_get q4
          refine ⟨?_, by show a.rank < c'.rank; omega⟩
          cases hm : μ a with
          | none => rfl
          | some bk => have := (hr2.dom a bk hm).2; omega
  · cases hy'
end
end Go.Proofs.YteefpemaeecicaaGreatDoor.Ev
end
