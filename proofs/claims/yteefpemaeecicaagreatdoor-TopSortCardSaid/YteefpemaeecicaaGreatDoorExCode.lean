/- Equality of structs. No condition. -/
import Derived.Test.YteefpemaeecicaaGreatDoorExUnk
section
open Go
namespace Go.Proofs.YteefpemaeecicaaGreatDoor.Ev
set_option linter.unusedVariables false
set_option linter.unusedSimpArgs false
set_option linter.constructorNameAsVariable false
noncomputable section
/-- What is asked of the program's structs that are compared. -/
def StructOk (P : Program) (T : Ty) : Prop := ∀ t ks, plainS T t = some ks → P.stoodInHeld t = false ∧ P.eqGuardType P.depth t = false
section
variable {P : Program} {T : Ty}
theorem plainK_spec [Rho] (hT : TyOk P T) {t k : Nat} (h : plainK T t = some k) : (k = 0 ∧ ∃ j, P.underlying t = some (.int j)) ∨ (k = 1 ∧ P.underlying t = some .string) ∨ (k = 2 ∧ P.underlying t = some .bool) := by
  unfold plainK at h
  cases hu : und T t with
  | none => rw [hu] at h; cases h
  | some d =>
    rw [hu] at h
    have := hT.und hu
    cases d <;> simp only at h <;> first | (cases h; done) | skip
    · cases h; exact .inr (.inr ⟨rfl, this⟩)
    · cases h; exact .inl ⟨rfl, _, this⟩
    · cases h; exact .inr (.inl ⟨rfl, this⟩)
theorem kc_back {j : Nat} (h : j ≤ 7) : ∃ k : IntKind, kc k = j := by
  match j, h with
  | 0, _ => exact ⟨.i8, rfl⟩
  | 1, _ => exact ⟨.i16, rfl⟩
  | 2, _ => exact ⟨.i32, rfl⟩
  | 3, _ => exact ⟨.i64, rfl⟩
  | 4, _ => exact ⟨.u8, rfl⟩
  | 5, _ => exact ⟨.u16, rfl⟩
  | 6, _ => exact ⟨.u32, rfl⟩
  | 7, _ => exact ⟨.u64, rfl⟩
  | n + 8, h => omega
theorem one_yes [Rho] {tk : List As} (hA : Holds tk) {k : Nat} {x y : AV} {g : Bool → Ans} (h : oneEq tk k x y g = .yes) :
    ∃ b, g b = .yes ∧ ∀ μ x' y' t d w, VR μ x x' → VR μ y y' → ((k = 0 ∧ ∃ j, P.underlying t = some (.int j)) ∨ (k = 1 ∧ P.underlying t = some .string) ∨ (k = 2 ∧ P.underlying t = some .bool)) → (Op.equalIn (d + 1) t x' y').run P w = .ok b w := by
  rcases k with _ | _ | k
  · have slow : ∀ j, (Bool.rec (motive := fun _ => Ans) Ans.no (exK j x fun ex => exK j y fun ey => askW tk 0 j ex ey g) (Nat.ble j 7)) = .yes → ∃ b, g b = .yes ∧ ∀ μ x' y' t d w, VR μ x x' → VR μ y y' → ((0 = 0 ∧ ∃ j, P.underlying t = some (.int j)) ∨ (0 = 1 ∧ P.underlying t = some .string) ∨ (0 = 2 ∧ P.underlying t = some .bool)) → (Op.equalIn (d + 1) t x' y').run P w = .ok b w := by
      intro j h
      obtain ⟨h1, h2⟩ := inv_if h
      obtain ⟨q, rfl⟩ := kc_back (ble_iff.1 h1)
      obtain ⟨ex, h3, h4⟩ := exK_num (k := q) h2
      obtain ⟨ey, h5, h6⟩ := exK_num (k := q) h3
      obtain ⟨b, h7, h8⟩ := askW_yes hA (by omega) h5
      rw [kmN_kc] at h8
      refine ⟨b, h7, fun μ x' y' t d w hx hy ht => ?_⟩
      rw [(h4 μ x' hx).1, (h6 μ y' hy).1]
      rcases ht with ⟨_, k', ht⟩ | ⟨e, _⟩ | ⟨e, _⟩
      · rw [run_equalIn_int w d t q k' _ _ ht]
        have := eq_int q (a := den ex % km q) (b := den ey % km q) (Nat.mod_lt _ (km_pos q)) (Nat.mod_lt _ (km_pos q))
        have h8 : Nat.beq (den ex % km q) (den ey % km q) = b := h8
        rw [← h8, this]
        congr 1
      · cases e
      · cases e
    rcases inv_ny h with ⟨j, a, rfl, h1⟩ | ⟨j, e, rfl, h1⟩
    · rcases inv_ny h1 with ⟨j', b, rfl, h2⟩ | ⟨j', e', rfl, h2⟩
      · obtain ⟨e, h3⟩ := inv_if h2
        have e := beq_iff.1 e
        subst e
        refine ⟨_, h3, fun μ x' y' t d w hx hy ht => ?_⟩
        obtain ⟨q, e1, ha, rfl⟩ := hx.n_inv
        subst e1
        obtain ⟨hb, rfl⟩ := hy.kn_inv
        rcases ht with ⟨_, k', ht⟩ | ⟨e, _⟩ | ⟨e, _⟩
        · rw [run_equalIn_int w d t q k' _ _ ht, eq_int q ha hb]
          congr 1
        · cases e
        · cases e
      · exact slow j h2
    · exact slow j h1
  · obtain ⟨a, rfl, h1⟩ := inv_s h
    obtain ⟨b, rfl, h2⟩ := inv_s h1
    refine ⟨_, h2, fun μ x' y' t d w hx hy ht => ?_⟩
    obtain ⟨rfl, ha⟩ := hx.s_inv
    obtain ⟨rfl, hb⟩ := hy.s_inv
    rcases ht with ⟨e, _⟩ | ⟨_, ht⟩ | ⟨e, _⟩
    · cases e
    · rw [run_equalIn_string w d t _ _ ht, eqS a b ha hb]
    · cases e
  · obtain ⟨a, rfl, h1⟩ := inv_b h
    obtain ⟨b, rfl, h2⟩ := inv_b h1
    refine ⟨_, h2, fun μ x' y' t d w hx hy ht => ?_⟩
    rw [hx.b_inv, hy.b_inv]
    rcases ht with ⟨e, _⟩ | ⟨e, _⟩ | ⟨_, ht⟩
    · cases e
    · omega
    · rw [run_equalIn_bool' w d t _ _ ht, eqB_eq]
theorem not_agg {t k : Nat} (h : (k = 0 ∧ ∃ j, P.underlying t = some (.int j)) ∨ (k = 1 ∧ P.underlying t = some .string) ∨ (k = 2 ∧ P.underlying t = some .bool)) (w : World) : (Go.isAgg t).run P w = .ok false w := by
  rcases h with ⟨_, j, h⟩ | ⟨_, h⟩ | ⟨_, h⟩ <;> simp [Go.isAgg, run_underlying h]
theorem all_yes [Rho] {tk : List As} (hA : Holds tk) : ∀ (ks : List Nat) (l m : List AV) {g : Bool → Ans}, allEq tk ks l m g = .yes →
    ∃ b, g b = .yes ∧ ∀ μ (xs ys : Array Value) (fs : List Field) (j d : Nat) w, fs.length = ks.length → (∀ (i : Nat) f k, fs[i]? = some f → ks[i]? = some k → f.offset = j + i ∧ f.name ≠ "_" ∧ ((k = 0 ∧ ∃ j, P.underlying f.type = some (.int j)) ∨ (k = 1 ∧ P.underlying f.type = some .string) ∨ (k = 2 ∧ P.underlying f.type = some .bool))) →
      (∀ (i : Nat) a, l[i]? = some a → ∃ c, xs[j + i]? = some c ∧ VR μ a c) → (∀ (i : Nat) a, m[i]? = some a → ∃ c, ys[j + i]? = some c ∧ VR μ a c) → (Op.eqFields (d + 1) xs ys fs).run P w = .ok b w
  | [], l, m, g, h => by
    obtain ⟨rfl, h1⟩ := inv_nil h
    obtain ⟨rfl, h2⟩ := inv_nil h1
    refine ⟨true, h2, fun μ xs ys fs j d w hl _ _ _ => ?_⟩
    have : fs = [] := List.length_eq_zero_iff.1 hl
    subst this
    rfl
  | k :: ks, l, m, g, h => by
    obtain ⟨a, l, rfl, h1⟩ := inv_cons h
    obtain ⟨b, m, rfl, h2⟩ := inv_cons h1
    obtain ⟨e, h3, h4⟩ := one_yes (P := P) hA h2
    have step : ∀ μ (xs ys : Array Value) (fs : List Field) (j d : Nat) w, fs.length = (k :: ks).length → (∀ (i : Nat) f k', fs[i]? = some f → (k :: ks)[i]? = some k' → f.offset = j + i ∧ f.name ≠ "_" ∧ ((k' = 0 ∧ ∃ j, P.underlying f.type = some (.int j)) ∨ (k' = 1 ∧ P.underlying f.type = some .string) ∨ (k' = 2 ∧ P.underlying f.type = some .bool))) →
        (∀ (i : Nat) q, (a :: l)[i]? = some q → ∃ c, xs[j + i]? = some c ∧ VR μ q c) → (∀ (i : Nat) q, (b :: m)[i]? = some q → ∃ c, ys[j + i]? = some c ∧ VR μ q c) →
        ∃ f fs', fs = f :: fs' ∧ (Op.eqFields (d + 1) xs ys fs).run P w = (if e = false then (pure false : Sem Bool) else Op.eqFields (d + 1) xs ys fs').run P w := by
      intro μ xs ys fs j d w hl hf hx hy
      cases fs with
      | nil => simp at hl
      | cons f fs =>
        obtain ⟨f1, f2, f3⟩ := hf 0 f k rfl rfl
        obtain ⟨c, c1, c2⟩ := hx 0 a rfl
        obtain ⟨c', c1', c2'⟩ := hy 0 b rfl
        have hag := not_agg f3
        have p1 : ∀ w, (part f.type xs f.offset).run P w = .ok c w := fun w => by rw [f1]; simp only [Nat.add_zero] at c1 ⊢; simp [part, hag, c1]
        have p2 : ∀ w, (part f.type ys f.offset).run P w = .ok c' w := fun w => by rw [f1]; simp only [Nat.add_zero] at c1' ⊢; simp [part, hag, c1']
        refine ⟨f, fs, rfl, ?_⟩
        have he := h4 μ c c' f.type d w c2 c2' f3
        rw [Op.eqFields, if_pos f2]
        simp only [Sem.run_bind, p1, p2, Result.andThen_ok, he]
        cases e <;> simp
    rcases inv_bif h3 with ⟨e1, h5⟩ | ⟨e1, h5⟩
    · subst e1
      obtain ⟨r, h6, h9⟩ := all_yes hA ks l m h5
      refine ⟨r, h6, fun μ xs ys fs j d w hl hf hx hy => ?_⟩
      obtain ⟨f, fs', rfl, hrun⟩ := step μ xs ys fs j d w hl hf hx hy
      rw [hrun, if_neg (by simp)]
      exact h9 μ xs ys fs' (j + 1) d w (by simpa using hl) (fun i f' k' h1 h2 => by
          have := hf (i + 1) f' k' (by simpa using h1) (by simpa using h2)
          rw [show j + 1 + i = j + (i + 1) by omega]; exact this)
        (fun i q h1 => by have := hx (i + 1) q (by simpa using h1); rw [show j + 1 + i = j + (i + 1) by omega]; exact this)
        (fun i q h1 => by have := hy (i + 1) q (by simpa using h1); rw [show j + 1 + i = j + (i + 1) by omega]; exact this)
    · subst e1
      refine ⟨false, h5, fun μ xs ys fs j d w hl hf hx hy => ?_⟩
      obtain ⟨f, fs', rfl, hrun⟩ := step μ xs ys fs j d w hl hf hx hy
      rw [hrun, if_pos rfl]
      rfl
theorem mapM_some {α β : Type} {g : α → Option β} : ∀ {l : List α} {r : List β}, l.mapM g = some r → r.length = l.length ∧ ∀ (i : Nat) a b, l[i]? = some a → r[i]? = some b → g a = some b
  | [], r, h => by
    have h' : (some [] : Option (List β)) = some r := h
    cases h'
    exact ⟨rfl, fun i a b h => by simp at h⟩
  | a :: l, r, h => by
    rw [List.mapM_cons] at h
    cases h1 : g a with
    | none => rw [h1] at h; cases h
    | some b =>
      cases h2 : l.mapM g with
      | none => rw [h1, h2] at h; cases h
      | some r' =>
        rw [h1, h2] at h
        have h' : some (b :: r') = some r := h
        cases h'
        obtain ⟨i1, i2⟩ := mapM_some h2
        refine ⟨by simp [i1], fun i a' b' ha hb => ?_⟩
        cases i with
        | zero => simp at ha hb; subst ha; subst hb; exact h1
        | succ i => exact i2 i a' b' (by simpa using ha) (by simpa using hb)
theorem struct_p2 [Rho] {t s f : Nat} {ks : List Nat} {ox oy : Operand} {fs : Array Field} (neg : Bool) (hT : TyOk P T) (hO : StructOk P T) (hu : P.underlying t = some (.struct fs)) (hu' : und T t = some (.struct fs)) (hk : plainS T t = some ks) (hs : shp T t = some (s, f)) :
    P2 P (fStruct T.tk neg ks s f) (bin2 (eqOp neg) t ox oy) := by
  intro x y kk h
  obtain ⟨_, s0, s1, sf4, sff, _⟩ := shp_spec (w := default) hT hs
  obtain ⟨hE1, hc1, h1, _⟩ := isElem_yes h sf4 sff
  obtain ⟨hE2, hc2, h2, _⟩ := isElem_yes h1 sf4 sff
  have h3 := cellsK_yes h2
  have h4 := cellsK_yes h3
  obtain ⟨b, h5, h6⟩ := all_yes (P := P) hT.holds _ _ _ h4
  have key : kk (.b (if neg = true then !b else b)) = .yes := by cases neg <;> cases b <;> exact h5
  have hf := agg_of_struct hT hu hs
  obtain ⟨hh, hg⟩ := hO t ks hk
  unfold plainS at hk
  rw [hu', hs] at hk
  simp only at hk
  split at hk
  · rename_i hcond
    simp only [Bool.and_eq_true, List.all_eq_true, decide_eq_true_eq, bne_iff_ne, ne_eq] at hcond
    obtain ⟨hn, hoff⟩ := hcond
    obtain ⟨m1, m2⟩ := mapM_some hk
    refine ⟨_, key, fun μ x' y' hx hy => ⟨_, .b _, fun w => ?_⟩⟩
    obtain ⟨xs, rfl, k1, k2, k3, k4⟩ := hx.agg_inv hf hE1
    obtain ⟨ys, rfl, l1, l2, l3, l4⟩ := hy.agg_inv hf hE2
    have hfo : P.fieldsOf t = fs := by unfold Program.fieldsOf; rw [hu]
    have hrun : ∀ w, (Op.equalIn 10000 t (.agg xs) (.agg ys)).run P w = .ok b w := fun w => by
      rw [run_equalIn_struct w 9999 t xs ys (by rw [hfo]; exact hu) hh, hfo]
      refine h6 μ xs ys fs.toList 0 9998 w m1.symm (fun i f' k' hi hk' => ?_) (fun i a ha => ?_) (fun i a ha => ?_)
      · have e1 : (fs.toList.map (·.offset))[i]? = some f'.offset := by rw [List.getElem?_map, hi]; rfl
        rw [hoff] at e1
        have hlt : i < s := by
          rcases Nat.lt_or_ge i s with hl | hl
          · exact hl
          · rw [List.getElem?_eq_none (by simpa using hl)] at e1; cases e1
        rw [List.getElem?_range hlt] at e1
        have e2 : i = f'.offset := by simpa using e1
        exact ⟨by omega, (hn f' (List.mem_of_getElem? hi)).1, plainK_spec hT (m2 i f' k' hi hk')⟩
      · have hlt : i < s := by
          rcases Nat.lt_or_ge i s with hl | hl
          · exact hl
          · rw [List.getElem?_eq_none (by rw [cellsOf_length]; exact hl)] at ha; cases ha
        rw [cellsOf_get hlt] at ha
        cases ha
        have hd : xs[i]? = some xs[i] := Array.getElem?_eq_getElem (by omega)
        rw [Nat.zero_add]
        exact ⟨_, hd, k4 i _ hd⟩
      · have hlt : i < s := by
          rcases Nat.lt_or_ge i s with hl | hl
          · exact hl
          · rw [List.getElem?_eq_none (by rw [cellsOf_length]; exact hl)] at ha; cases ha
        rw [cellsOf_get hlt] at ha
        cases ha
        have hd : ys[i]? = some ys[i] := Array.getElem?_eq_getElem (by omega)
        rw [Nat.zero_add]
        exact ⟨_, hd, l4 i _ hd⟩
    have hguard : ∀ op w, (eqGuard op t ox oy (.agg xs) (.agg ys)).run P w = .ok () w := fun op w => run_eqGuard_agg w op t ox oy xs ys hg
    cases neg
    · simp only [eqOp, bin2, Bool.false_eq_true, if_false, Sem.run_bind, hguard, Result.andThen_ok, run_eql_struct, hrun]
    · simp only [eqOp, bin2, if_true, Sem.run_bind, hguard, Result.andThen_ok, run_neq_struct, hrun]
  · cases hk
end
end
end Go.Proofs.YteefpemaeecicaaGreatDoor.Ev
end
section
open Go
namespace Go.Proofs.YteefpemaeecicaaGreatDoor.Ev
set_option linter.unusedVariables false
set_option linter.unusedSimpArgs false
set_option linter.constructorNameAsVariable false
noncomputable section
/-- An operation has given a value. -/
def Gives (n : Next) (v : Value) : Prop := n = .value v ∨ (n = .skip ∧ v = undef)
def N1 [Rho] (P : Program) (F : AV → (AV → Ans) → Ans) (g : Value → Sem Next) : Prop :=
  ∀ x kk, F x kk = .yes → ∃ v, kk v = .yes ∧ ∀ μ x', VR μ x x' → ∃ v', VR μ v v' ∧ ∀ w, (g x').run P w = .ok (.value v') w
def N2 [Rho] (P : Program) (F : AV → AV → (AV → Ans) → Ans) (g : Value → Value → Sem Next) : Prop :=
  ∀ x y kk, F x y kk = .yes → ∃ v, kk v = .yes ∧ ∀ μ x' y', VR μ x x' → VR μ y y' → ∃ v', VR μ v v' ∧ ∀ w, (g x' y').run P w = .ok (.value v') w
def N3 [Rho] (P : Program) (F : AV → AV → AV → (AV → Ans) → Ans) (g : Value → Value → Value → Sem Next) : Prop :=
  ∀ x y z kk, F x y z kk = .yes → ∃ v, kk v = .yes ∧ ∀ μ x' y' z', VR μ x x' → VR μ y y' → VR μ z z' → ∃ v', VR μ v v' ∧ ∀ w, (g x' y' z').run P w = .ok (.value v') w
def NL [Rho] (P : Program) (F : List AV → (AV → Ans) → Ans) (g : List Value → Sem Next) : Prop :=
  ∀ l kk, F l kk = .yes → ∃ v, kk v = .yes ∧ ∀ μ xs, VRs μ l xs → ∃ v', VR μ v v' ∧ ∀ w, (g xs).run P w = .ok (.value v') w
def NR1 [Rho] (P : Program) (F : AV → Hp → (AV → Ans) → Ans) (g : Value → Sem Next) : Prop :=
  ∀ x h kk, F x h kk = .yes → ∃ v, kk v = .yes ∧ ∀ K μ w x', MR K μ h w → VR μ x x' → ∃ v', VR μ v v' ∧ (g x').run P w = .ok (.value v') w
def NR2 [Rho] (P : Program) (F : AV → AV → Hp → (AV → Ans) → Ans) (g : Value → Value → Sem Next) : Prop :=
  ∀ x y h kk, F x y h kk = .yes → ∃ v, kk v = .yes ∧ ∀ K μ w x' y', MR K μ h w → VR μ x x' → VR μ y y' → ∃ v', VR μ v v' ∧ (g x' y').run P w = .ok (.value v') w
def NA [Rho] (P : Program) (F : List AV → Nm → (AV → Blk → Ans) → Ans) (g : List Value → Sem Next) : Prop :=
  ∀ l nm kk, F l nm kk = .yes → ∃ v b, kk v b = .yes ∧ b ≠ .no ∧ ∀ μ xs w, VRs μ l xs → ∃ v' o size es, (g xs).run P w = .ok (.value v') { w with heap := w.heap.push o } ∧
    ∀ μ', Ext μ μ' → μ' nm = some ⟨w.heap.size, size, es⟩ → VR μ' v v' ∧ ∀ w', w'.heap[w.heap.size]? = some o → BlkR μ' w' b ⟨w.heap.size, size, es⟩
def NW1 [Rho] (P : Program) (F : AV → Hp → (AV → Hp → Ans) → Ans) (g : Value → Sem Next) : Prop :=
  ∀ x h kk, F x h kk = .yes → ∃ v h', kk v h' = .yes ∧ ∀ K μ w x', MR K μ h w → VR μ x x' → ∃ μ' v' n w', (g x').run P w = .ok n w' ∧ Gives n v' ∧ Ext μ μ' ∧ VR μ' v v' ∧ MR K μ' h' w'
def NW2 [Rho] (P : Program) (F : AV → AV → Hp → (AV → Hp → Ans) → Ans) (g : Value → Value → Sem Next) : Prop :=
  ∀ x y h kk, F x y h kk = .yes → ∃ v h', kk v h' = .yes ∧ ∀ K μ w x' y', MR K μ h w → VR μ x x' → VR μ y y' → ∃ μ' v' n w', (g x' y').run P w = .ok n w' ∧ Gives n v' ∧ Ext μ μ' ∧ VR μ' v v' ∧ MR K μ' h' w'
def NW3 [Rho] (P : Program) (F : AV → AV → AV → Hp → (AV → Hp → Ans) → Ans) (g : Value → Value → Value → Sem Next) : Prop :=
  ∀ x y z h kk, F x y z h kk = .yes → ∃ v h', kk v h' = .yes ∧ ∀ K μ w x' y' z', MR K μ h w → VR μ x x' → VR μ y y' → VR μ z z' → ∃ μ' v' n w', (g x' y' z').run P w = .ok n w' ∧ Gives n v' ∧ Ext μ μ' ∧ VR μ' v v' ∧ MR K μ' h' w'
/-- Functions that may be entered. -/
def Enter (P : Program) (f : FuncId) : Prop := ∃ fn, P.funcs[f]? = some fn ∧ fn.body.isSome = true ∧ fn.name ≠ "runtime.NumGoroutine"
/-- An operation of the model does what its class says. -/
def OpOk [Rho] (P : Program) (o : Oper) : OpF → Prop
  | .bad => True
  | .mv x => ∀ ρ w, (execOp ρ o).run P w = .ok (.value (ρ x)) w
  | .p1 F x => ∃ g, (∀ ρ, execOp ρ o = g (ρ x)) ∧ N1 P F g
  | .p2 F x y => ∃ g, (∀ ρ, execOp ρ o = g (ρ x) (ρ y)) ∧ N2 P F g
  | .p3 F x y z => ∃ g, (∀ ρ, execOp ρ o = g (ρ x) (ρ y) (ρ z)) ∧ N3 P F g
  | .pl F xs => ∃ g, (∀ ρ, execOp ρ o = g (xs.map ρ)) ∧ NL P F g
  | .l1 F x => ∃ g, (∀ ρ, execOp ρ o = g (ρ x)) ∧ NR1 P F g
  | .l2 F x y => ∃ g, (∀ ρ, execOp ρ o = g (ρ x) (ρ y)) ∧ NR2 P F g
  | .al F xs => ∃ g, (∀ ρ, execOp ρ o = g (xs.map ρ)) ∧ NA P F g
  | .w1 F x => ∃ g, (∀ ρ, execOp ρ o = g (ρ x)) ∧ NW1 P F g
  | .w2 F x y => ∃ g, (∀ ρ, execOp ρ o = g (ρ x) (ρ y)) ∧ NW2 P F g
  | .w3 F x y z => ∃ g, (∀ ρ, execOp ρ o = g (ρ x) (ρ y) (ρ z)) ∧ NW3 P F g
  | .cf f xs => ∀ ρ w, ρ (.func f) = .func (.func f) #[] #[] → Enter P f → (execOp ρ o).run P w = .ok (.enter f (xs.map ρ).toArray) w
  | .cv g xs => ∀ ρ w f a b, ρ g = .func (.func f) a b → Enter P f → (execOp ρ o).run P w = .ok (.enter f (a ++ ((xs.map ρ).toArray ++ b))) w
def val (s : Sem Value) : Sem Next := do pure (.value (← s))
def unit (s : Sem Unit) : Sem Next := do s; pure .skip
section
variable {P : Program} {T : Ty} {o : Oper}
theorem run_val {s : Sem Value} {w w' : World} {v : Value} (h : s.run P w = .ok v w') : (val s).run P w = .ok (.value v) w' := by simp [val, h]
theorem P1.n [Rho] {F : AV → (AV → Ans) → Ans} {f : Value → Sem Value} (h : P1 P F f) : N1 P F (fun x => val (f x)) := fun x kk hy =>
  let ⟨v, h1, h2⟩ := h x kk hy
  ⟨v, h1, fun μ x' hx => let ⟨v', h3, h4⟩ := h2 μ x' hx; ⟨v', h3, fun w => run_val (h4 w)⟩⟩
theorem P2.n [Rho] {F : AV → AV → (AV → Ans) → Ans} {f : Value → Value → Sem Value} (h : P2 P F f) : N2 P F (fun x y => val (f x y)) := fun x y kk hy =>
  let ⟨v, h1, h2⟩ := h x y kk hy
  ⟨v, h1, fun μ x' y' hx hy => let ⟨v', h3, h4⟩ := h2 μ x' y' hx hy; ⟨v', h3, fun w => run_val (h4 w)⟩⟩
theorem P3.n [Rho] {F : AV → AV → AV → (AV → Ans) → Ans} {f : Value → Value → Value → Sem Value} (h : P3 P F f) : N3 P F (fun x y z => val (f x y z)) := fun x y z kk hy =>
  let ⟨v, h1, h2⟩ := h x y z kk hy
  ⟨v, h1, fun μ x' y' z' hx hy hz => let ⟨v', h3, h4⟩ := h2 μ x' y' z' hx hy hz; ⟨v', h3, fun w => run_val (h4 w)⟩⟩
theorem PL.n [Rho] {F : List AV → (AV → Ans) → Ans} {f : List Value → Sem Value} (h : PL P F f) : NL P F (fun x => val (f x)) := fun l kk hy =>
  let ⟨v, h1, h2⟩ := h l kk hy
  ⟨v, h1, fun μ x' hx => let ⟨v', h3, h4⟩ := h2 μ x' hx; ⟨v', h3, fun w => run_val (h4 w)⟩⟩
theorem L1.n [Rho] {F : AV → Hp → (AV → Ans) → Ans} {f : Value → Sem Value} (h : L1 P F f) : NR1 P F (fun x => val (f x)) := fun x hp kk hy =>
  let ⟨v, h1, h2⟩ := h x hp kk hy
  ⟨v, h1, fun K μ w x' hr hx => let ⟨v', h3, h4⟩ := h2 K μ w x' hr hx; ⟨v', h3, run_val h4⟩⟩
theorem L2.n [Rho] {F : AV → AV → Hp → (AV → Ans) → Ans} {f : Value → Value → Sem Value} (h : L2 P F f) : NR2 P F (fun x y => val (f x y)) := fun x y hp kk hy =>
  let ⟨v, h1, h2⟩ := h x y hp kk hy
  ⟨v, h1, fun K μ w x' y' hr hx hy => let ⟨v', h3, h4⟩ := h2 K μ w x' y' hr hx hy; ⟨v', h3, run_val h4⟩⟩
theorem AL.n [Rho] {F : List AV → Nm → (AV → Blk → Ans) → Ans} {f : List Value → Sem Value} (h : AL P F f) : NA P F (fun x => val (f x)) := fun l nm kk hy =>
  let ⟨v, b, h1, h2, h3⟩ := h l nm kk hy
  ⟨v, b, h1, h2, fun μ xs w hx => let ⟨v', o, size, es, h4, h5⟩ := h3 μ xs w hx; ⟨v', o, size, es, run_val h4, h5⟩⟩
theorem W1.n [Rho] {F : AV → Hp → (AV → Hp → Ans) → Ans} {f : Value → Sem Value} (h : W1 P F f) : NW1 P F (fun x => val (f x)) := fun x hp kk hy =>
  let ⟨v, h', h1, h2⟩ := h x hp kk hy
  ⟨v, h', h1, fun K μ w x' hr hx => let ⟨μ', v', w', h3, h4, h5, h6⟩ := h2 K μ w x' hr hx; ⟨μ', v', _, w', run_val h3, .inl rfl, h4, h5, h6⟩⟩
theorem W2.n [Rho] {F : AV → AV → Hp → (AV → Hp → Ans) → Ans} {f : Value → Value → Sem Value} (h : W2 P F f) : NW2 P F (fun x y => val (f x y)) := fun x y hp kk hy =>
  let ⟨v, h', h1, h2⟩ := h x y hp kk hy
  ⟨v, h', h1, fun K μ w x' y' hr hx hy => let ⟨μ', v', w', h3, h4, h5, h6⟩ := h2 K μ w x' y' hr hx hy; ⟨μ', v', _, w', run_val h3, .inl rfl, h4, h5, h6⟩⟩
theorem run_unit {s : Sem Unit} {w w' : World} {v : Value} (h : (do s; pure undef : Sem Value).run P w = .ok v w') : (unit s).run P w = .ok .skip w' ∧ v = undef := by
  rw [Sem.run_bind] at h
  cases hs : s.run P w with
  | halt x w2 => rw [hs] at h; cases h
  | ok u w2 =>
    rw [hs] at h
    have h' : (Result.ok undef w2 : Result Value) = .ok v w' := h
    cases h'
    exact ⟨by simp [unit, hs], rfl⟩
theorem W2.u [Rho] {F : AV → AV → Hp → (AV → Hp → Ans) → Ans} {f : Value → Value → Sem Unit} (h : W2 P F (fun x y => do f x y; pure undef)) : NW2 P F (fun x y => unit (f x y)) := fun x y hp kk hy =>
  let ⟨v, h', h1, h2⟩ := h x y hp kk hy
  ⟨v, h', h1, fun K μ w x' y' hr hx hy => let ⟨μ', v', w', h3, h4, h5, h6⟩ := h2 K μ w x' y' hr hx hy; ⟨μ', v', _, w', (run_unit h3).1, .inr ⟨rfl, (run_unit h3).2⟩, h4, h5, h6⟩⟩
theorem W3.u [Rho] {F : AV → AV → AV → Hp → (AV → Hp → Ans) → Ans} {f : Value → Value → Value → Sem Unit} (h : W3 P F (fun x y z => do f x y z; pure undef)) : NW3 P F (fun x y z => unit (f x y z)) := fun x y z hp kk hy =>
  let ⟨v, h', h1, h2⟩ := h x y z hp kk hy
  ⟨v, h', h1, fun K μ w x' y' z' hr hx hy hz => let ⟨μ', v', w', h3, h4, h5, h6⟩ := h2 K μ w x' y' z' hr hx hy hz; ⟨μ', v', _, w', (run_unit h3).1, .inr ⟨rfl, (run_unit h3).2⟩, h4, h5, h6⟩⟩
/-! ### Which operation is of which class -/
theorem binF_ok [Rho] (hT : TyOk P T) (hO : StructOk P T) {op : BinOp} {t : TypeId} {x y : Operand} {yt : TypeId} (ho : o.op = .binOp op t x y yt) : OpOk P o (binF T op t x y) := by
  have ex : ∀ F, P2 P F (bin2 op t x y) → OpOk P o (.p2 F x y) := fun F h => ⟨fun a b => val (bin2 op t x y a b), fun ρ => by unfold execOp; rw [ho]; rfl, h.n⟩
  unfold binF
  split
  · rename_i j hu
    cases op with
    | add => exact ex _ (add_p2Y j)
    | sub => exact ex _ (sub_p2Y j)
    | mul => exact ex _ (mul_p2Y j)
    | quo => exact ex _ (quo_p2Y j)
    | rem => exact ex _ (rem_p2Y j)
    | and => exact ex _ (and_p2Y j)
    | or => exact ex _ (or_p2Y j)
    | xor => exact ex _ (xor_p2Y j)
    | shl => exact ex _ (shl_p2Y j)
    | shr => exact ex _ (shr_p2Y j)
    | andNot => exact ex _ (andNot_p2Y j)
    | eql => exact ex _ (eql_p2Y hT.holds j)
    | neq => exact ex _ (neq_p2Y hT.holds j)
    | lss => exact ex _ (lss_p2Y hT.holds j)
    | leq => exact ex _ (leq_p2Y hT.holds j)
    | gtr => exact ex _ (gtr_p2Y hT.holds j)
    | geq => exact ex _ (geq_p2Y hT.holds j)
  · cases op with
    | add => exact ex _ (cat_p2)
    | eql => exact ex _ (eqlS_p2Y hT.holds)
    | neq => exact ex _ (neqS_p2Y hT.holds)
    | lss => exact ex _ (lssS_p2)
    | leq => exact ex _ (leqS_p2)
    | gtr => exact ex _ (gtrS_p2)
    | geq => exact ex _ (geqS_p2)
    | _ => exact trivial
  · rename_i hu
    have hu := hT.und hu
    cases op with
    | eql => exact ex _ (eqlB_p2 hu)
    | neq => exact ex _ (neqB_p2 hu)
    | _ => exact trivial
  · rename_i e hu
    have hu := hT.und hu
    cases hi : inf T e with
    | none => exact trivial
    | some i =>
      have hI := hT.info e i hi
      simp only
      split
      · exact trivial
      · rename_i hz
        cases op with
        | eql => exact ex _ (ptr_p2 false hu hI hz)
        | neq => exact ex _ (ptr_p2 true hu hI hz)
        | _ => exact trivial
  · rename_i e hu
    have hu := hT.und hu
    cases op with
    | eql => exact ex _ (nilSl_p2 false hu)
    | neq => exact ex _ (nilSl_p2 true hu)
    | _ => exact trivial
  · rename_i k e hu
    have hu := hT.und hu
    cases op with
    | eql => exact ex _ (nilM_p2 false hu)
    | neq => exact ex _ (nilM_p2 true hu)
    | _ => exact trivial
  · rename_i a b c hu
    have hu := hT.und hu
    cases op with
    | eql => exact ex _ (nilF_p2 false hu)
    | neq => exact ex _ (nilF_p2 true hu)
    | _ => exact trivial
  · cases op with
    | add => exact ex _ (cadd_p2Y hT.holds)
    | mul => exact ex _ (cmul_p2)
    | eql => exact ex _ (ceq_p2Y hT.holds false)
    | neq => exact ex _ (ceq_p2Y hT.holds true)
    | _ => exact trivial
  · rename_i fs hu
    split
    · rename_i ks s f hk hs
      cases op with
      | eql => exact ex _ (struct_p2 false hT hO (hT.und hu) hu hk hs)
      | neq => exact ex _ (struct_p2 true hT hO (hT.und hu) hu hk hs)
      | _ => exact trivial
    · exact trivial
  · exact trivial
theorem unF_ok [Rho] (hT : TyOk P T) {op : UnOp} {t : TypeId} {x : Operand} (ho : o.op = .unOp op t x) : OpOk P o (unF T op t x) := by
  have ex : ∀ F, P1 P F (fun a => Op.unary op a) → OpOk P o (.p1 F x) := fun F h => ⟨fun a => val (Op.unary op a), fun ρ => by unfold execOp; rw [ho]; rfl, h.n⟩
  unfold unF
  split
  · split
    · rename_i j hu; exact ex _ (neg_p1Y j)
    · exact trivial
  · exact ex _ not_p1
  · split
    · rename_i j hu; exact ex _ (com_p1Y j)
    · exact trivial
  · exact trivial
theorem convF_ok [Rho] (hT : TyOk P T) {s d : TypeId} {x : Operand} (ho : o.op = .convert s d x) : OpOk P o (convF T s d x) := by
  have eq : ∀ ρ, execOp ρ o = val (convert s d (ρ x)) := fun ρ => by unfold execOp; rw [ho]; rfl
  have ex : ∀ F, P1 P F (fun a => convert s d a) → OpOk P o (.p1 F x) := fun F h => ⟨fun a => val (convert s d a), eq, h.n⟩
  unfold convF
  split
  · rename_i i j h1 h2; exact ex _ (by simpa using conv_p1Y i j (hT.und h1) (hT.und h2))
  · rename_i i h1 h2; exact ex _ (intFlo_p1Y hT.holds i (hT.und h1) (hT.und h2))
  · rename_i j h1 h2; exact ex _ (floInt_p1Y hT.holds j (hT.und h1) (hT.und h2))
  · rename_i h1 h2; exact ex _ (strstr_p1 (hT.und h1) (hT.und h2))
  · rename_i e h1 h2
    split
    · rename_i h3; exact ⟨fun a => val (convert s d a), eq, (bytStr_l1 (hT.und h1) (hT.und h3) (hT.und h2)).n⟩
    · exact trivial
  · rename_i e h1 h2
    split
    · rename_i h3; exact ⟨fun a => val (convert s d a), eq, (strByt_w1 (hT.und h1) (hT.und h2) (hT.und h3)).n⟩
    · exact trivial
  · rename_i e' e h1 h2
    split
    · rename_i h3
      split
      · rename_i h4
        subst h4
        exact ⟨fun a => val (convert s s a), eq, (bytByt_w1 (hT.und h2) (hT.und h3)).n⟩
      · exact trivial
    · exact trivial
  · exact trivial
end
end
end Go.Proofs.YteefpemaeecicaaGreatDoor.Ev
end
section
open Go
namespace Go.Proofs.YteefpemaeecicaaGreatDoor.Ev
set_option linter.unusedVariables false
set_option linter.unusedSimpArgs false
set_option linter.constructorNameAsVariable false
noncomputable section
section
variable {P : Program} {T : Ty} {o : Oper}
theorem VRs.one [Rho] {μ : Mp} {a : AV} {l : List AV} {xs : List Value} (h : VRs μ (a :: l) xs) : ∃ v r, xs = v :: r ∧ VR μ a v ∧ VRs μ l r := h.cons_inv
/-- The bounds of a slice, out of a list of operands. -/
theorem slice_list [Rho] {t : TypeId} {x : Operand} {lo hi mx : Option Operand} (ho : o.op = .slice t x lo hi mx) {G : AV → Option AV → Option AV → Option AV → (AV → Ans) → Ans}
    (law : ∀ (x : AV) (a b c : Option AV) (kk : AV → Ans), (c.isSome = true → b.isSome = true) → (mx.isSome = c.isSome) → G x a b c kk = .yes → ∃ v, kk v = .yes ∧ ∀ μ x' l h' m, VR μ x x' → OR μ a l → OR μ b h' → OR μ c m → ∃ v', VR μ v v' ∧ ∀ w, (Instr.sliceAt t x' l h' m).run P w = .ok v' w)
    (F : List AV → (AV → Ans) → Ans)
    (h000 : lo = none → hi = none → mx = none → F = fun l0 kk => List.rec (motive := fun _ => Ans) Ans.no (fun x l1 _ => G x none none none kk) l0)
    (h100 : ∀ a, lo = some a → hi = none → mx = none → F = fun l0 kk => List.rec (motive := fun _ => Ans) Ans.no (fun x l1 _ => List.rec (motive := fun _ => Ans) Ans.no (fun a l2 _ => G x (some a) none none kk) l1) l0)
    (h010 : ∀ b, lo = none → hi = some b → mx = none → F = fun l0 kk => List.rec (motive := fun _ => Ans) Ans.no (fun x l1 _ => List.rec (motive := fun _ => Ans) Ans.no (fun a l2 _ => G x none (some a) none kk) l1) l0)
    (h110 : ∀ a b, lo = some a → hi = some b → mx = none → F = fun l0 kk => List.rec (motive := fun _ => Ans) Ans.no (fun x l1 _ => List.rec (motive := fun _ => Ans) Ans.no (fun a l2 _ => List.rec (motive := fun _ => Ans) Ans.no (fun b l3 _ => G x (some a) (some b) none kk) l2) l1) l0)
    (h011 : ∀ b c, lo = none → hi = some b → mx = some c → F = fun l0 kk => List.rec (motive := fun _ => Ans) Ans.no (fun x l1 _ => List.rec (motive := fun _ => Ans) Ans.no (fun a l2 _ => List.rec (motive := fun _ => Ans) Ans.no (fun b l3 _ => G x none (some a) (some b) kk) l2) l1) l0)
    (h111 : ∀ a b c, lo = some a → hi = some b → mx = some c → F = fun l0 kk => List.rec (motive := fun _ => Ans) Ans.no (fun x l1 _ => List.rec (motive := fun _ => Ans) Ans.no (fun a l2 _ => List.rec (motive := fun _ => Ans) Ans.no (fun b l3 _ => List.rec (motive := fun _ => Ans) Ans.no (fun c l4 _ => G x (some a) (some b) (some c) kk) l3) l2) l1) l0)
    (hbad : hi = none → mx.isSome = true → F = fun _ _ => Ans.no) :
    OpOk P o (.pl F (x :: (lo.toList ++ (hi.toList ++ mx.toList)))) := by
  have eq : ∀ ρ, execOp ρ o = val (Instr.sliceAt t (ρ x) (lo.map ρ) (hi.map ρ) (mx.map ρ)) := fun ρ => by unfold execOp; rw [ho]; rfl
  cases hi with
  | none =>
    cases mx with
    | some c =>
      rw [hbad rfl rfl]
      cases lo with
      | none => exact ⟨fun xs => val (Instr.sliceAt t (xs.headD undef) none none (some (xs.getD 1 undef))), fun ρ => eq ρ, fun l kk h => by cases h⟩
      | some a => exact ⟨fun xs => val (Instr.sliceAt t (xs.headD undef) (some (xs.getD 1 undef)) none (some (xs.getD 2 undef))), fun ρ => eq ρ, fun l kk h => by cases h⟩
    | none =>
      cases lo with
      | none =>
        rw [h000 rfl rfl rfl]
        refine ⟨fun xs => val (Instr.sliceAt t (xs.headD undef) none none none), fun ρ => eq ρ, fun l kk h => ?_⟩
        obtain ⟨x, l, rfl, h1⟩ := inv_cons h
        obtain ⟨v, h2, h3⟩ := law x none none none kk (fun e => by cases e) rfl h1
        refine ⟨v, h2, fun μ xs hx => ?_⟩
        obtain ⟨x', r, rfl, k1, _⟩ := hx.cons_inv
        obtain ⟨v', q1, q2⟩ := h3 μ x' none none none k1 trivial trivial trivial
        exact ⟨v', q1, fun w => run_val (q2 w)⟩
      | some a =>
        rw [h100 a rfl rfl rfl]
        refine ⟨fun xs => val (Instr.sliceAt t (xs.headD undef) (some (xs.getD 1 undef)) none none), fun ρ => eq ρ, fun l kk h => ?_⟩
        obtain ⟨x, l, rfl, h1⟩ := inv_cons h
        obtain ⟨a', l, rfl, h1⟩ := inv_cons h1
        obtain ⟨v, h2, h3⟩ := law x (some a') none none kk (fun e => by cases e) rfl h1
        refine ⟨v, h2, fun μ xs hx => ?_⟩
        obtain ⟨x', r, rfl, k1, hx⟩ := hx.cons_inv
        obtain ⟨y', r, rfl, k2, hx⟩ := hx.cons_inv
        obtain ⟨v', q1, q2⟩ := h3 μ x' (some y') none none k1 k2 trivial trivial
        exact ⟨v', q1, fun w => run_val (q2 w)⟩
  | some b =>
    cases mx with
    | none =>
      cases lo with
      | none =>
        rw [h010 b rfl rfl rfl]
        refine ⟨fun xs => val (Instr.sliceAt t (xs.headD undef) none (some (xs.getD 1 undef)) none), fun ρ => eq ρ, fun l kk h => ?_⟩
        obtain ⟨x, l, rfl, h1⟩ := inv_cons h
        obtain ⟨a', l, rfl, h1⟩ := inv_cons h1
        obtain ⟨v, h2, h3⟩ := law x none (some a') none kk (fun e => by cases e) rfl h1
        refine ⟨v, h2, fun μ xs hx => ?_⟩
        obtain ⟨x', r, rfl, k1, hx⟩ := hx.cons_inv
        obtain ⟨y', r, rfl, k2, hx⟩ := hx.cons_inv
        obtain ⟨v', q1, q2⟩ := h3 μ x' none (some y') none k1 trivial k2 trivial
        exact ⟨v', q1, fun w => run_val (q2 w)⟩
      | some a =>
        rw [h110 a b rfl rfl rfl]
        refine ⟨fun xs => val (Instr.sliceAt t (xs.headD undef) (some (xs.getD 1 undef)) (some (xs.getD 2 undef)) none), fun ρ => eq ρ, fun l kk h => ?_⟩
        obtain ⟨x, l, rfl, h1⟩ := inv_cons h
        obtain ⟨a', l, rfl, h1⟩ := inv_cons h1
        obtain ⟨b', l, rfl, h1⟩ := inv_cons h1
        obtain ⟨v, h2, h3⟩ := law x (some a') (some b') none kk (fun e => by cases e) rfl h1
        refine ⟨v, h2, fun μ xs hx => ?_⟩
        obtain ⟨x', r, rfl, k1, hx⟩ := hx.cons_inv
        obtain ⟨y', r, rfl, k2, hx⟩ := hx.cons_inv
        obtain ⟨z', r, rfl, k3, hx⟩ := hx.cons_inv
        obtain ⟨v', q1, q2⟩ := h3 μ x' (some y') (some z') none k1 k2 k3 trivial
        exact ⟨v', q1, fun w => run_val (q2 w)⟩
    | some c =>
      cases lo with
      | none =>
        rw [h011 b c rfl rfl rfl]
        refine ⟨fun xs => val (Instr.sliceAt t (xs.headD undef) none (some (xs.getD 1 undef)) (some (xs.getD 2 undef))), fun ρ => eq ρ, fun l kk h => ?_⟩
        obtain ⟨x, l, rfl, h1⟩ := inv_cons h
        obtain ⟨a', l, rfl, h1⟩ := inv_cons h1
        obtain ⟨b', l, rfl, h1⟩ := inv_cons h1
        obtain ⟨v, h2, h3⟩ := law x none (some a') (some b') kk (fun e => rfl) rfl h1
        refine ⟨v, h2, fun μ xs hx => ?_⟩
        obtain ⟨x', r, rfl, k1, hx⟩ := hx.cons_inv
        obtain ⟨y', r, rfl, k2, hx⟩ := hx.cons_inv
        obtain ⟨z', r, rfl, k3, hx⟩ := hx.cons_inv
        obtain ⟨v', q1, q2⟩ := h3 μ x' none (some y') (some z') k1 trivial k2 k3
        exact ⟨v', q1, fun w => run_val (q2 w)⟩
      | some a =>
        rw [h111 a b c rfl rfl rfl]
        refine ⟨fun xs => val (Instr.sliceAt t (xs.headD undef) (some (xs.getD 1 undef)) (some (xs.getD 2 undef)) (some (xs.getD 3 undef))), fun ρ => eq ρ, fun l kk h => ?_⟩
        obtain ⟨x, l, rfl, h1⟩ := inv_cons h
        obtain ⟨a', l, rfl, h1⟩ := inv_cons h1
        obtain ⟨b', l, rfl, h1⟩ := inv_cons h1
        obtain ⟨c', l, rfl, h1⟩ := inv_cons h1
        obtain ⟨v, h2, h3⟩ := law x (some a') (some b') (some c') kk (fun e => rfl) rfl h1
        refine ⟨v, h2, fun μ xs hx => ?_⟩
        obtain ⟨x', r, rfl, k1, hx⟩ := hx.cons_inv
        obtain ⟨y', r, rfl, k2, hx⟩ := hx.cons_inv
        obtain ⟨z', r, rfl, k3, hx⟩ := hx.cons_inv
        obtain ⟨u', r, rfl, k4, hx⟩ := hx.cons_inv
        obtain ⟨v', q1, q2⟩ := h3 μ x' (some y') (some z') (some u') k1 k2 k3 k4
        exact ⟨v', q1, fun w => run_val (q2 w)⟩
theorem sliceF_ok [Rho] (hT : TyOk P T) {t : TypeId} {x : Operand} {lo hi mx : Option Operand} (ho : o.op = .slice t x lo hi mx) : OpOk P o (sliceF T t x lo hi mx) := by
  unfold sliceF
  cases hu : und T t with
  | none => exact trivial
  | some d =>
    cases d with
    | string =>
      cases mx with
      | some c => exact trivial
      | none =>
        refine slice_list ho (G := fun x a b _ => fSliceS x a b) (fun x a b c kk h1 h2 h => ?_) _ (fun a b c => ?_) (fun q a b c => ?_) (fun q a b c => ?_) (fun q q' a b c => ?_) (fun q q' a b c => ?_) (fun q q' q'' a b c => ?_) (fun a b => by cases b)
        · obtain ⟨v, k1, k2⟩ := sliceS_law (hT.und hu) h
          refine ⟨v, k1, fun μ x' l h' m hx ha hb hc => ?_⟩
          have : m = none := by
            cases c with
            | some c => cases h2
            | none => cases m with | none => rfl | some m => exact hc.elim
          subst this
          exact k2 μ x' l h' hx ha hb
        · subst a; subst b; rfl
        · subst a; subst b; rfl
        · subst a; subst b; rfl
        · subst a; subst b; rfl
        · cases c
        · cases c
    | slice e =>
      cases hs : shp T e with
      | none => simp only [hs]; exact trivial
      | some r =>
        obtain ⟨s, f⟩ := r
        simp only [hs]
        obtain ⟨⟨i, hi', hsz⟩, s0, _⟩ := shp_spec (w := default) hT hs
        refine slice_list ho (G := fSlice s) (fun x a b c kk h1 h2 h => slice_law (hT.und hu) hi' hsz s0 h1 h) _ (fun a b c => ?_) (fun q a b c => ?_) (fun q a b c => ?_) (fun q q' a b c => ?_) (fun q q' a b c => ?_) (fun q q' q'' a b c => ?_) (fun a b => ?_)
        · subst a; subst b; subst c; rfl
        · subst a; subst b; subst c; rfl
        · subst a; subst b; subst c; rfl
        · subst a; subst b; subst c; rfl
        · subst a; subst b; subst c; rfl
        · subst a; subst b; subst c; rfl
        · subst a; cases mx with | none => cases b | some c => cases lo <;> rfl
    | array n e =>
      cases hs : shp T e with
      | none => simp only [hs]; exact trivial
      | some r =>
        obtain ⟨s, f⟩ := r
        simp only [hs]
        obtain ⟨⟨i, hi', hsz⟩, s0, _⟩ := shp_spec (w := default) hT hs
        split
        · rename_i hn
          refine slice_list ho (G := fSliceA s n) (fun x a b c kk h1 h2 h => sliceA_law (hT.und hu) hi' hsz hn h1 h) _ (fun a b c => ?_) (fun q a b c => ?_) (fun q a b c => ?_) (fun q q' a b c => ?_) (fun q q' a b c => ?_) (fun q q' q'' a b c => ?_) (fun a b => ?_)
          · subst a; subst b; subst c; rfl
          · subst a; subst b; subst c; rfl
          · subst a; subst b; subst c; rfl
          · subst a; subst b; subst c; rfl
          · subst a; subst b; subst c; rfl
          · subst a; subst b; subst c; rfl
          · subst a; cases mx with | none => cases b | some c => cases lo <;> rfl
        · exact trivial
    | _ => exact trivial
theorem fieldAddrF_ok [Rho] (hT : TyOk P T) {t : TypeId} {x : Operand} {i : Nat} (ho : o.op = .fieldAddr t x i) : OpOk P o (fieldAddrF T t x i) := by
  unfold fieldAddrF
  split
  · rename_i fs hu
    split
    · rename_i f hf
      split
      · rename_i j hj
        split
        · exact trivial
        · rename_i hz
          exact ⟨fun a => val (Instr.fieldAt t a i), fun ρ => by unfold execOp; rw [ho]; rfl, (fieldAddr_p1 (hT.und hu) hf (hT.info _ _ hj) hz).n⟩
      · exact trivial
    · exact trivial
  · exact trivial
theorem fieldF_ok [Rho] (hT : TyOk P T) {t : TypeId} {x : Operand} {i : Nat} (ho : o.op = .field t x i) : OpOk P o (fieldF T t x i) := by
  unfold fieldF
  split
  · rename_i fs sx fx hu hs
    split
    · rename_i f hf
      split
      · rename_i s fo hs2
        split
        · rename_i hle
          split
          · exact ⟨fun a => val (Instr.field t a i), fun ρ => by unfold execOp; rw [ho]; rfl, (field1_p1 hT (hT.und hu) hs hf hs2 hle).n⟩
          · rename_i hne
            exact ⟨fun a => val (Instr.field t a i), fun ρ => by unfold execOp; rw [ho]; rfl, (fieldA_p1 hT (hT.und hu) hs hf hs2 (fun e => hne e) hle).n⟩
        · exact trivial
      · exact trivial
    · exact trivial
  · exact trivial
theorem indexAddrF_ok [Rho] (hT : TyOk P T) {t : TypeId} {x i : Operand} (ho : o.op = .indexAddr t x i) : OpOk P o (indexAddrF T t x i) := by
  unfold indexAddrF
  split
  · rename_i e hu
    split
    · rename_i j hj
      split
      · exact trivial
      · exact ⟨fun a b => val (Instr.indexAt t a b), fun ρ => by unfold execOp; rw [ho]; rfl, (indexAddrS_p2 (hT.und hu) (hT.info _ _ hj)).n⟩
    · exact trivial
  · rename_i n e hu
    split
    · rename_i j hj
      split
      · exact trivial
      · rename_i hn
        exact ⟨fun a b => val (Instr.indexAt t a b), fun ρ => by unfold execOp; rw [ho]; rfl, (indexAddrA_p2 (hT.und hu) (hT.info _ _ hj) (by omega)).n⟩
    · exact trivial
  · exact trivial
theorem indexF_ok [Rho] (hT : TyOk P T) {t : TypeId} {x i : Operand} (ho : o.op = .index t x i) : OpOk P o (indexF T t x i) := by
  unfold indexF
  split
  · rename_i n e hu
    split
    · rename_i sx fx s f hs hs2
      split
      · rename_i hn
        split
        · exact ⟨fun a b => val (Instr.index t a b), fun ρ => by unfold execOp; rw [ho]; rfl, (index1_p2 hT (hT.und hu) hs hs2 hn.1 hn.2).n⟩
        · rename_i hne
          exact ⟨fun a b => val (Instr.index t a b), fun ρ => by unfold execOp; rw [ho]; rfl, (indexA_p2 hT (hT.und hu) hs hs2 (fun e => hne e) hn.1 hn.2).n⟩
      · exact trivial
    · exact trivial
  · rename_i hu
    exact ⟨fun a b => val (Instr.index t a b), fun ρ => by unfold execOp; rw [ho]; rfl, (indexS_p2 (hT.und hu)).n⟩
  · exact trivial
theorem loadF_ok [Rho] (hT : TyOk P T) {t : TypeId} {x : Operand} (ho : o.op = .load t x) : OpOk P o (loadF T t x) := by
  unfold loadF
  split
  · rename_i s hs
    exact ⟨fun a => val (Instr.loadAt t a), fun ρ => by unfold execOp; rw [ho]; rfl, (load1_l1 hT hs).n⟩
  · rename_i s f hne hs
    cases f with
    | zero => exact (hne rfl).elim
    | succ f => exact ⟨fun a => val (Instr.loadAt t a), fun ρ => by unfold execOp; rw [ho]; rfl, (loadA_l1 hT hs).n⟩
  · exact trivial
theorem storeF_ok [Rho] (hT : TyOk P T) {t : TypeId} {x y : Operand} (ho : o.op = .store t x y) : OpOk P o (storeF T t x y) := by
  unfold storeF
  split
  · rename_i s hs
    exact ⟨fun a b => unit (Instr.storeAt t a b), fun ρ => by unfold execOp; rw [ho]; rfl, (store1_w2 hT hs).u⟩
  · rename_i s f hne hs
    cases f with
    | zero => exact (hne rfl).elim
    | succ f => exact ⟨fun a b => unit (Instr.storeAt t a b), fun ρ => by unfold execOp; rw [ho]; rfl, (storeA_w2 hT hs).u⟩
  · exact trivial
theorem pairs_eq (ρ : Operand → Value) (ps : Array (Nat × Operand)) : ps.map (fun (i, x) => (i, ρ x)) = (((ps.toList.map (·.1)).zip ((ps.toList.map (·.2)).map ρ))).toArray := by
  apply Array.toList_inj.1
  rw [Array.toList_map, List.toList_toArray]
  generalize ps.toList = l
  induction l with
  | nil => rfl
  | cons p l ih => simp [ih]
theorem buildF_ok [Rho] (hT : TyOk P T) {t : TypeId} {ps : Array (Nat × Operand)} (ho : o.op = .build t ps) : OpOk P o (buildF T t ps.toList) := by
  have eq : ∀ ρ, execOp ρ o = (fun xs => val (Instr.build t ((ps.toList.map (·.1)).zip xs).toArray)) ((ps.toList.map (·.2)).map ρ) := fun ρ => by
    unfold execOp; rw [ho]
    show val (Instr.build t (ps.map fun (i, x) => (i, ρ x))) = _
    rw [pairs_eq]
  unfold buildF
  split
  · rename_i z sx fx fs hz hs hu
    split
    · rename_i hall
      split
      · rename_i qs hq
        refine ⟨_, eq, (buildS_pl hT hz hs (hT.und hu) (fun f hf => ?_) hq).n⟩
        have := List.all_eq_true.1 hall f hf
        obtain ⟨i, hi⟩ := Option.isSome_iff_exists.1 this
        exact ⟨i, hT.info _ _ hi⟩
      · exact trivial
    · exact trivial
  · rename_i z sx fx n e hz hs hu
    split
    · rename_i j hj
      split
      · rename_i qs hq
        exact ⟨_, eq, (buildA_pl hT hz hs (hT.und hu) (hT.info _ _ hj) hq).n⟩
      · exact trivial
    · exact trivial
  · exact trivial
theorem buildSliceF_ok [Rho] (hT : TyOk P T) {t : TypeId} {len : Nat} {ps : Array (Nat × Operand)} (ho : o.op = .buildSlice t len ps) : OpOk P o (buildSliceF T t len ps.toList) := by
  have eq : ∀ ρ, execOp ρ o = (fun xs => val (Instr.buildSlice t len ((ps.toList.map (·.1)).zip xs).toArray)) ((ps.toList.map (·.2)).map ρ) := fun ρ => by
    unfold execOp; rw [ho]
    show val (Instr.buildSlice t len (ps.map fun (i, x) => (i, ρ x))) = _
    rw [pairs_eq]
  unfold buildSliceF
  split
  · rename_i e hu
    split
    · rename_i z s f hz hs
      split
      · rename_i hc
        refine ⟨_, eq, (buildSlice_al hT (hT.und hu) hz hs hc.1 hc.2.1 (fun p hp => ?_)).n⟩
        have := List.all_eq_true.1 hc.2.2 p hp
        simpa using this
      · exact trivial
    · exact trivial
  · exact trivial
theorem makeSliceF_ok [Rho] (hT : TyOk P T) {t : TypeId} {l c : Operand} (ho : o.op = .makeSlice t l c) : OpOk P o (makeSliceF T t l c) := by
  unfold makeSliceF
  split
  · rename_i e hu
    split
    · rename_i z s f i hz hs hi
      split
      · rename_i hb
        exact ⟨fun a b => val (Instr.makeSlice t a b), fun ρ => by unfold execOp; rw [ho]; rfl, (makeSlice_w2 hT (hT.und hu) hz hs (hT.info _ _ hi) hb).n⟩
      · exact trivial
    · exact trivial
  · exact trivial
end
end
end Go.Proofs.YteefpemaeecicaaGreatDoor.Ev
end
section
open Go
namespace Go.Proofs.YteefpemaeecicaaGreatDoor.Ev
set_option linter.unusedVariables false
set_option linter.unusedSimpArgs false
set_option linter.constructorNameAsVariable false
noncomputable section
section
variable {P : Program} {T : Ty} {o : Oper}
theorem minMaxF_ok [Rho] (hT : TyOk P T) {c : Call} {x y : Operand} {g : Bool} (ho : o.op = .call c) (hc : c.callee = .builtin (if g then .max else .min)) (ha : c.args.toList = [x, y]) : OpOk P o (minMaxF T g (c.argTypes.getD 0 0) x y) := by
  have hargs : ∀ ρ : Operand → Value, c.args.map ρ = #[ρ x, ρ y] := fun ρ => by apply Array.toList_inj.1; simp [ha]
  unfold minMaxF
  split
  · rename_i j hu
    cases g with
    | false => exact ⟨fun a b => val (Builtin.min_ c.argTypes o.type #[a, b]), fun ρ => by unfold execOp; rw [ho]; simp [resolve, hc, invoke, builtin, hargs, val], (minMaxY_p2 hT.holds (c := 2) (by omega) (min_p2 j _ _) (fun a b => by cases j <;> rfl)).n⟩
    | true => exact ⟨fun a b => val (Builtin.max_ c.argTypes o.type #[a, b]), fun ρ => by unfold execOp; rw [ho]; simp [resolve, hc, invoke, builtin, hargs, val], (minMaxY_p2 hT.holds (c := 4) (by omega) (max_p2 j _ _) (fun a b => by cases j <;> rfl)).n⟩
  · exact trivial
theorem run_enter {f : FuncId} (h : Enter P f) (args : Array Value) (w : World) : (callFunc f args).run P w = .ok (.enter f args) w := by
  obtain ⟨fn, h1, h2, h3⟩ := h
  cases hb : fn.body with
  | none => rw [hb] at h2; cases h2
  | some b => simp [callFunc, h1, h3, hb]
theorem callF_ok [Rho] (hT : TyOk P T) {c : Call} (ho : o.op = .call c) : OpOk P o (callF T c) := by
  have eq : ∀ ρ, execOp ρ o = (do let d ← resolve ρ c o.type; invoke d.target d.args) := fun ρ => by unfold execOp; rw [ho]
  unfold callF
  split
  · -- a function by its number
    rename_i f hc
    intro ρ w hf he
    rw [eq]
    simp only [resolve, hc, hf, Deferred.ofValue, Sem.run_bind, Sem.run_pure, Result.andThen_ok, invoke]
    rw [run_enter he]
    congr 2
    apply Array.toList_inj.1
    simp
  · rename_i g hne hc
    intro ρ w f a b hg he
    rw [eq]
    simp only [resolve, hc, hg, Deferred.ofValue, Sem.run_bind, Sem.run_pure, Result.andThen_ok, invoke]
    rw [run_enter he]
    congr 2
    apply Array.toList_inj.1
    simp
  · exact trivial
  · rename_i b hc
    have hx1 : ∀ x, c.args.toList = [x] → ∀ ρ : Operand → Value, c.args.map ρ = #[ρ x] := fun x ha ρ => by apply Array.toList_inj.1; simp [ha]
    have hx2 : ∀ x y, c.args.toList = [x, y] → ∀ ρ : Operand → Value, c.args.map ρ = #[ρ x, ρ y] := fun x y ha ρ => by apply Array.toList_inj.1; simp [ha]
    split
    · rename_i x y ha
      split
      · exact trivial
      · rename_i e d hne h1 h2
        split
        · rename_i s f i z hs hi hz
          split
          · rename_i hb
            cases q0 : c.argTypes[0]? with
            | none => rw [q0] at h1; cases h1
            | some t =>
              rw [q0] at h1
              cases q1 : c.argTypes[1]? with
              | none => rw [q1] at h2; cases h2
              | some u =>
                rw [q1] at h2
                refine ⟨fun a b => val (Builtin.append_ c.argTypes o.type #[a, b]), fun ρ => by rw [eq]; simp [resolve, hc, invoke, builtin, hx2 x y ha, val], (append_w2 hT q0 q1 (hT.und h1) (hT.und h2) (fun k hk => hne k hk) (hT.info _ _ hi) hs hz hb.2).n⟩
          · exact trivial
        · exact trivial
      · exact trivial
    · rename_i x y ha
      split
      · rename_i e h1
        split
        · rename_i s f hs
          cases q0 : c.argTypes[0]? with
          | none => rw [q0] at h1; cases h1
          | some t =>
            rw [q0] at h1
            exact ⟨fun a b => val (Builtin.copy_ c.argTypes o.type #[a, b]), fun ρ => by rw [eq]; simp [resolve, hc, invoke, builtin, hx2 x y ha, val], (copy_w2 hT q0 (hT.und h1) hs).n⟩
        · exact trivial
      · exact trivial
    · rename_i x ha
      cases q0 : c.argTypes[0]? with
      | none => exact trivial
      | some t =>
        have eq1 : ∀ ρ, execOp ρ o = val (Builtin.len_ c.argTypes o.type #[ρ x]) := fun ρ => by rw [eq]; simp [resolve, hc, invoke, builtin, hx1 x ha, val]
        simp only [Option.bind_some]
        split
        · rename_i h1; exact ⟨fun a => val (Builtin.len_ c.argTypes o.type #[a]), eq1, (lenS_p1 q0 (hT.und h1)).n⟩
        · rename_i e h1; exact ⟨fun a => val (Builtin.len_ c.argTypes o.type #[a]), eq1, (lenL_p1 q0 (hT.und h1)).n⟩
        · rename_i k e h1; exact ⟨fun a => val (Builtin.len_ c.argTypes o.type #[a]), eq1, (lenM_l1 q0 (hT.und h1)).n⟩
        · rename_i n e h1
          split
          · rename_i hn; exact ⟨fun a => val (Builtin.len_ c.argTypes o.type #[a]), eq1, (lenA_p1 q0 (hT.und h1) hn).n⟩
          · exact trivial
        · exact trivial
    · rename_i x y ha; exact minMaxF_ok hT (g := false) ho hc ha
    · rename_i x y ha; exact minMaxF_ok hT (g := true) ho hc ha
    · rename_i x y ha; exact ⟨fun a b => val (Builtin.complex_ c.argTypes o.type #[a, b]), fun ρ => by rw [eq]; simp [resolve, hc, invoke, builtin, hx2 x y ha, val], (complex_p2Y _ _).n⟩
    · rename_i x ha; exact ⟨fun a => val (Builtin.real_ c.argTypes o.type #[a]), fun ρ => by rw [eq]; simp [resolve, hc, invoke, builtin, hx1 x ha, val], (real_p1Y _ _).n⟩
    · rename_i x ha; exact ⟨fun a => val (Builtin.imag_ c.argTypes o.type #[a]), fun ρ => by rw [eq]; simp [resolve, hc, invoke, builtin, hx1 x ha, val], (imag_p1Y _ _).n⟩
    · exact trivial
theorem keyT_ok [Rho] (hT : TyOk P T) {t : Nat} {E : AV → AV → (Bool → Ans) → Ans} (h : keyT T t = some E) : ∃ d, P.underlying t = some d ∧ ((∃ k, d = .int k) ∨ d = .string) ∧ KeyOk d E := by
  unfold keyT at h
  split at h
  · rename_i k hu; cases h; exact ⟨_, hT.und hu, .inl ⟨k, rfl⟩, keyN_ok k⟩
  · rename_i hu; cases h; exact ⟨_, hT.und hu, .inr rfl, keyS_ok⟩
  · cases h
theorem nil_n1 [Rho] {o : Oper} {y : Operand} (ho : o.op = .nilCheck y) : N1 P fNil (fun v => execOp (fun _ => v) o) := by
  intro x kk h
  obtain ⟨h1, h2⟩ := inv_if h
  refine ⟨x, h2, fun μ x' hx => ⟨x', hx, fun w => ?_⟩⟩
  cases hx <;> first | (unfold execOp; rw [ho]; rfl) | cases h1
theorem opF_ok [Rho] (hT : TyOk P T) (hO : StructOk P T) (o : Oper) : OpOk P o (opF T o.op) := by
  generalize ho : o.op = op
  unfold opF
  split
  · rename_i x; intro ρ w; unfold execOp; rw [ho]; rfl
  · rename_i x; intro ρ w; unfold execOp; rw [ho]; rfl
  · rename_i c a b
    refine ⟨fun c a b => val (do pure (if ← asBool c then a else b)), fun ρ => by unfold execOp; rw [ho]; simp [val], pick_p3.n⟩
  · rename_i t
    split
    · rename_i z s f hz hs
      exact ⟨fun _ => val (Instr.alloc t true (.tuple #[])), fun ρ => by unfold execOp; rw [ho]; rfl, (alloc_al hT hs hz).n⟩
    · exact trivial
  · rename_i t x
    split
    · rename_i s f hs
      exact ⟨fun xs => val (Instr.box t (xs.headD undef)), fun ρ => by unfold execOp; rw [ho]; rfl, (box_al hT hs).n⟩
    · exact trivial
  · exact buildF_ok hT ho
  · exact buildSliceF_ok hT ho
  · exact loadF_ok hT ho
  · exact storeF_ok hT ho
  · rename_i x
    exact ⟨fun v => execOp (fun _ => v) o, fun ρ => by unfold execOp; rw [ho], nil_n1 ho⟩
  · exact binF_ok hT hO ho
  · exact unF_ok hT ho
  · exact convF_ok hT ho
  · rename_i f a b
    refine ⟨fun xs => val (Instr.makeFunc (.func f) (xs.take a.size).toArray (xs.drop a.size).toArray), fun ρ => ?_, fun l kk h => ⟨_, h, fun μ xs hx => ?_⟩⟩
    · unfold execOp; rw [ho]
      show val (Instr.makeFunc (.func f) (a.map ρ) (b.map ρ)) = _
      have e1 : a.map ρ = ((((a.toList ++ b.toList).map ρ).take a.size).toArray) := by apply Array.toList_inj.1; simp [List.take_append]
      have e2 : b.map ρ = ((((a.toList ++ b.toList).map ρ).drop a.size).toArray) := by apply Array.toList_inj.1; simp [List.drop_append]
      rw [e1, e2]
    · rw [ltake_eq, ldrop_eq]
      have h1 := hx.take a.size
      have h2 := hx.drop a.size
      refine ⟨.func (.func f) (xs.take a.size).toArray (xs.drop a.size).toArray, .fn f _ _ _ _ (by simpa using h1.1) (by simpa using h2.1) (fun i u c hu hc => h1.2 i u c hu (by simpa using hc)) (fun i u c hu hc => h2.2 i u c hu (by simpa using hc)), fun w => rfl⟩
  · exact ⟨fun _ => val (Instr.makeMap _ none), fun ρ => by unfold execOp; rw [ho]; rfl, (makeMap_w1 (fun x w => by simp [Instr.makeMap])).n⟩
  · rename_i t k n
    split
    · rename_i a b hu
      exact ⟨fun x => val (Instr.makeMap t (some x)), fun ρ => by unfold execOp; rw [ho]; rfl, (makeMapN_w1 (hT.und hu)).n⟩
    · exact trivial
  · exact makeSliceF_ok hT ho
  · exact sliceF_ok hT ho
  · exact fieldAddrF_ok hT ho
  · exact fieldF_ok hT ho
  · exact indexAddrF_ok hT ho
  · exact indexF_ok hT ho
  · rename_i t x i ok
    split
    · rename_i kt e hu
      split
      · rename_i z E hz hk
        obtain ⟨d, h1, h2, h3⟩ := keyT_ok hT hk
        have hs : ∃ s f, shp T e = some (s, f) := by
          unfold zeroA at hz
          cases h : shp T e with
          | none => rw [h] at hz; simp at hz
          | some r => exact ⟨r.1, r.2, rfl⟩
        obtain ⟨s, f, hs⟩ := hs
        exact ⟨fun a b => val (Instr.lookup t a b ok), fun ρ => by unfold execOp; rw [ho]; rfl, (lookup_l2 hT (hT.und hu) h1 h2 h3 hz hs).n⟩
      · exact trivial
    · exact trivial
  · rename_i t m i v
    split
    · rename_i kt e hu
      split
      · rename_i E hk
        obtain ⟨d, h1, h2, h3⟩ := keyT_ok hT hk
        exact ⟨fun a b c => unit (Instr.mapUpdate t a b c), fun ρ => by unfold execOp; rw [ho]; rfl, (upd_w3 (hT.und hu) h1 h2 h3).u⟩
      · exact trivial
    · exact trivial
  · rename_i x i
    exact ⟨fun a => val (Instr.extract a i), fun ρ => by unfold execOp; rw [ho]; rfl, (extract_p1 i).n⟩
  · exact callF_ok hT ho
  · exact trivial
end
end
end Go.Proofs.YteefpemaeecicaaGreatDoor.Ev
end
section
open Go
namespace Go.Proofs.YteefpemaeecicaaGreatDoor.Ev
set_option linter.unusedVariables false
set_option linter.unusedSimpArgs false
set_option linter.constructorNameAsVariable false
noncomputable section
/-! ### What is known of the temporaries -/
@[reducible] def Env : Type := Nat → Option AV
def Env.put (n : Nat) (S : Env) (d : Option Nat) (v : AV) : Env := match d with
  | none => S
  | some d => fun t => if d < n ∧ t = d then some v else S t
def opV (S : Env) : Operand → Option AV
  | .tmp t => S t
  | .const v => some (ofV 8 v)
  | .func f => some (.fn f [] [])
  | .global _ => none
/-- The temporaries are as is known. -/
structure SR [Rho] (n : Nat) (μ : Mp) (S : Env) (a : Act) : Prop where
  size : n ≤ a.tmps.size
  defs : a.defers = []
  low : ∀ t v, S t = some v → t < n
  val : ∀ t v, S t = some v → VR μ v (a.tmps.getD t undef)
theorem SR.ext [Rho] {n : Nat} {μ μ' : Mp} {S : Env} {a : Act} (h : SR n μ S a) (hx : Ext μ μ') : SR n μ' S a := ⟨h.size, h.defs, h.low, fun t v e => (h.val t v e).ext hx⟩
theorem SR.op [Rho] {n : Nat} {μ : Mp} {S : Env} {a : Act} (h : SR n μ S a) {x : Operand} {v : AV} (e : opV S x = some v) : VR μ v (a.eval x) := by
  cases x with
  | tmp t => exact h.val t v e
  | const c => cases e; exact ofV_ok μ 8 c
  | func f => cases e; exact .fn f [] [] #[] #[] rfl rfl (fun i u c hu => by simp at hu) (fun i u c hu => by simp at hu)
  | global g => cases e
theorem SR.put [Rho] {n : Nat} {μ : Mp} {S : Env} {a : Act} (h : SR n μ S a) (d : Option Nat) {v : AV} {v' : Value} (hv : VR μ v v') : SR n μ (S.put n d v) (a.put d v') := by
  cases d with
  | none => exact h
  | some d =>
    have hsz : (a.tmps.setIfInBounds d v').size = a.tmps.size := by simp
    have get : ∀ t, t ≠ d → (a.tmps.setIfInBounds d v').getD t undef = a.tmps.getD t undef := fun t ht => by
      rw [Array.getD_eq_getD_getElem?, Array.getD_eq_getD_getElem?, Array.getElem?_setIfInBounds, if_neg (fun e => ht e.symm)]
    refine ⟨by show n ≤ (a.tmps.setIfInBounds d v').size; rw [hsz]; exact h.size, h.defs, fun t u e => ?_, fun t u e => ?_⟩
    · have e' : (if d < n ∧ t = d then some v else S t) = some u := e
      by_cases ht : d < n ∧ t = d
      · omega
      · rw [if_neg ht] at e'; exact h.low t u e'
    · show VR μ u ((a.tmps.setIfInBounds d v').getD t undef)
      have e' : (if d < n ∧ t = d then some v else S t) = some u := e
      by_cases ht : d < n ∧ t = d
      · rw [if_pos ht] at e'
        cases e'
        obtain ⟨hd, rfl⟩ := ht
        have hlt : t < a.tmps.size := Nat.lt_of_lt_of_le hd h.size
        rw [Array.getD_eq_getD_getElem?, Array.getElem?_setIfInBounds, if_pos rfl, if_pos hlt]
        exact hv
      · rw [if_neg ht] at e'
        have : t ≠ d := fun e2 => ht ⟨by have := h.low t u e'; omega, e2⟩
        rw [get t this]
        exact h.val t u e'
def eAt : (i : Nat) → Ve i → Nat → Option AV
  | 0, _, _ => none
  | i + 1, e, 0 => some (e : Ce (Ve i)).v
  | i + 1, e, d + 1 => eAt i (e : Ce (Ve i)).r d
theorem geV_spec (k : Nat) : ∀ (i d : Nat) (g : Gv k i), geV k i d = some g → ∀ fr e, eAt i e d = some (g.run fr e)
  | 0, d, g, h, fr, e => by cases h
  | i + 1, 0, g, h, fr, e => by
    have h' : some (⟨fun _ (e : Ce (Ve i)) => e.v⟩ : Gv k (i + 1)) = some g := h
    cases h'; rfl
  | i + 1, d + 1, g, h, fr, e => by
    cases hq : geV k i d with
    | none =>
      have h' : (Option.rec (motive := fun _ => Option (Gv k (i + 1))) none (fun g => Gv.rec (motive := fun _ => Option (Gv k (i + 1))) (fun g => some ⟨fun fr (e : Ce (Ve i)) => g fr e.r⟩) g) (geV k i d)) = some g := h
      rw [hq] at h'; cases h'
    | some g' =>
      have h' : (Option.rec (motive := fun _ => Option (Gv k (i + 1))) none (fun g => Gv.rec (motive := fun _ => Option (Gv k (i + 1))) (fun g => some ⟨fun fr (e : Ce (Ve i)) => g fr e.r⟩) g) (geV k i d)) = some g := h
      rw [hq] at h'
      have h2 : some (⟨fun fr (e : Ce (Ve i)) => g'.run fr e.r⟩ : Gv k (i + 1)) = some g := h'
      cases h2
      exact geV_spec k i d g' hq fr (e : Ce (Ve i)).r
def srcV (k i : Nat) (fr : Tr AV k) (e : Ve i) : Src → Option AV
  | .lvl j => if j < i then eAt i e (i - 1 - j) else none
  | .cst v => some v
  | .fr p => some (Tr.get (α := AV) k (paK k p) fr)
theorem srcG_spec {k i : Nat} {s : Src} {g : Gv k i} (h : srcG k i s = some g) (fr : Tr AV k) (e : Ve i) : srcV k i fr e s = some (g.run fr e) := by
  cases s with
  | lvl j =>
    have h' : bif_ (Nat.ble (Nat.succ j) i) (geV k i (Nat.sub (Nat.sub i 1) j)) none = some g := h
    rw [bif_eq] at h'
    split at h'
    · rename_i hj
      have hj : j < i := ble_iff.1 hj
      show (if j < i then _ else _) = _
      rw [if_pos hj]
      exact geV_spec k i _ g h' fr e
    · cases h'
  | cst v =>
    have h' : some (⟨fun _ _ => v⟩ : Gv k i) = some g := h
    cases h'; rfl
  | fr p =>
    have h' : some (⟨fun fr _ => (getc k (paK k p)).run fr⟩ : Gv k i) = some g := h
    cases h'
    show some (Tr.get (α := AV) k (paK k p) fr) = some ((getc k (paK k p)).run fr)
    rw [getc_eq]
section
variable {k : Nat} {E : Em}
def envOf (k : Nat) (E : Em) (i : Nat) (G : Gm) (fr : Tr AV k) (e : Ve i) : Env := fun t => (srcOf k E G t).bind (srcV k i fr e)
theorem opnd_spec {i : Nat} {G : Gm} {x : Operand} {g : Gv k i} (h : opnd k E i G x = some g) (fr : Tr AV k) (e : Ve i) : opV (envOf k E i G fr e) x = some (g.run fr e) := by
  unfold opnd at h
  cases hs : opS k E G x with
  | none => rw [hs] at h; cases h
  | some s =>
    rw [hs] at h
    have h2 := srcG_spec h fr e
    cases x with
    | tmp t =>
      have hs' : srcOf k E G t = some s := hs
      show (srcOf k E G t).bind _ = _
      rw [hs']; exact h2
    | const v =>
      have hs' : some (Src.cst (ofV 8 v)) = some s := hs
      cases hs'; exact h2
    | func f =>
      have hs' : some (Src.cst (.fn f [] [])) = some s := hs
      cases hs'; exact h2
    | global g => cases hs
/-- The values of some operands. -/
def opVs (S : Env) (l : List Operand) (vs : List AV) : Prop := vs.length = l.length ∧ ∀ (j : Nat) x v, l[j]? = some x → vs[j]? = some v → opV S x = some v
theorem opVs.vrs [Rho] {n : Nat} {μ : Mp} {S : Env} {a : Act} (h : SR n μ S a) {l : List Operand} {vs : List AV} (hv : opVs S l vs) : VRs μ vs (l.map a.eval) := by
  refine ⟨by simp [hv.1], fun j u c hu hc => ?_⟩
  rw [List.getElem?_map] at hc
  cases hl : l[j]? with
  | none => rw [hl] at hc; cases hc
  | some x =>
    rw [hl] at hc
    cases hc
    exact h.op (hv.2 j x u hl hu)
theorem opnds_spec {i : Nat} {G : Gm} (fr : Tr AV k) (e : Ve i) : ∀ {l : List Operand} {g : Gl k i}, opnds k E i G l = some g → opVs (envOf k E i G fr e) l (g.run fr e)
  | [], g, h => by
    have h' : some (⟨fun _ _ => []⟩ : Gl k i) = some g := h
    cases h'
    exact ⟨rfl, fun j x v hx => by simp at hx⟩
  | x :: l, g, h => by
    have h' : (Option.rec (motive := fun _ => Option (Gl k i)) none (fun g => (Option.rec (motive := fun _ => Option (Gl k i)) none (fun r => Gv.rec (motive := fun _ => Option (Gl k i)) (fun g => Gl.rec (motive := fun _ => Option (Gl k i)) (fun r => some ⟨fun fr e => g fr e :: r fr e⟩) r) g) (opnds k E i G l))) (opnd k E i G x)) = some g := h
    cases h1 : opnd k E i G x with
    | none => rw [h1] at h'; cases h'
    | some gx =>
      cases h2 : opnds k E i G l with
      | none => rw [h1, h2] at h'; cases h'
      | some gl =>
        rw [h1, h2] at h'
        have h3 : some (⟨fun fr e => gx.run fr e :: gl.run fr e⟩ : Gl k i) = some g := h'
        cases h3
        have ih := opnds_spec fr e h2
        refine ⟨by show (gx.run fr e :: gl.run fr e).length = _; simp [ih.1], fun j y v hy hv => ?_⟩
        cases j with
        | zero => simp at hy hv; subst hy; subst hv; exact opnd_spec h1 fr e
        | succ j => exact ih.2 j y v (by simpa using hy) (by simpa using hv)
end
/-! ### What an operation does -/
def PureW [Rho] (P : Program) (n : Nat) (o : Oper) (S : Env) (v : AV) : Prop := ∀ μ a w, SR n μ S a → ∀ (next : Act → World → Prop) Q, (∀ v', VR μ v v' → next (a.put o.dst v') w) → o.wp P a w next Q
def LoadW [Rho] (P : Program) (n : Nat) (o : Oper) (S : Env) (h : Hp) (v : AV) : Prop := ∀ K μ a w, MR K μ h w → SR n μ S a → ∀ (next : Act → World → Prop) Q, (∀ v', VR μ v v' → next (a.put o.dst v') w) → o.wp P a w next Q
def LayW [Rho] (P : Program) (n : Nat) (o : Oper) (S : Env) (nm : Nm) (v : AV) (b : Blk) : Prop := ∀ μ a w, SR n μ S a → ∀ (next : Act → World → Prop) Q,
  (∀ v' obj size es, (∀ μ', Ext μ μ' → μ' nm = some ⟨w.heap.size, size, es⟩ → VR μ' v v' ∧ ∀ w', w'.heap[w.heap.size]? = some obj → BlkR μ' w' b ⟨w.heap.size, size, es⟩) → next (a.put o.dst v') { w with heap := w.heap.push obj }) → o.wp P a w next Q
def StepW [Rho] (P : Program) (n : Nat) (o : Oper) (S : Env) (h : Hp) (v : AV) (h' : Hp) : Prop := ∀ K μ a w, MR K μ h w → SR n μ S a → ∀ (next : Act → World → Prop) Q,
  (∀ μ' v' w', Ext μ μ' → VR μ' v v' → MR K μ' h' w' → next (a.put o.dst v') w') → o.wp P a w next Q
theorem PureW.load [Rho] {P : Program} {n : Nat} {o : Oper} {S : Env} {v : AV} (h : PureW P n o S v) (hp : Hp) : LoadW P n o S hp v := fun K μ a w hr hs next Q hn => h μ a w hs next Q hn
theorem LoadW.step [Rho] {P : Program} {n : Nat} {o : Oper} {S : Env} {v : AV} {hp : Hp} (h : LoadW P n o S hp v) : StepW P n o S hp v hp := fun K μ a w hr hs next Q hn => h K μ a w hr hs next Q (fun v' hv => hn μ v' w (Ext.refl μ) hv hr)
theorem LayW.step [Rho] {P : Program} {n : Nat} {o : Oper} {S : Env} {v : AV} {b : Blk} {hp : Hp} {c' : Nm} (h : LayW P n o S hp.c v b) (hc : hp.c.rank < c'.rank) : StepW P n o S hp v ⟨Mem.to hp.c hp.m b, c'⟩ := fun K μ a w hr hs next Q hn =>
  h μ a w hs next Q (fun v' obj size es hv => by
    have hx := Mp.to_ext (μ := μ) (c := hp.c) ⟨w.heap.size, size, es⟩ (hr.fresh (Nat.le_refl _))
    obtain ⟨h1, h2⟩ := hv _ hx (Mp.to_same _ _ _)
    exact hn _ v' _ hx h1 (hr.new (Nat.le_refl _) hc obj b size es (Kp.above hr) (h2 _ (by simp))))
/-- A way to run functions, and what it says. -/
def HSound [Rho] (P : Program) (hn : H) : Prop := ∀ f l h kk, hn.run f l h kk = .yes → Enter P f ∧ ∃ v h', kk v h' = .yes ∧ ∀ K μ w (args : Array Value), MR K μ h w → VRs μ l args.toList →
  Calls P f args w (fun e w' => ∃ μ' v', e = .returned v' ∧ Ext μ μ' ∧ VR μ' v v' ∧ MR K μ' h' w')
section
variable {P : Program} {n : Nat} {o : Oper} {S : Env}
theorem wp_value {a : Act} {w w' : World} {v : Value} {next : Act → World → Prop} {Q : Exit → Act → World → Prop} {nx : Next} (h : (execOp a.eval o).run P w = .ok nx w') (hg : Gives nx v) (hn : next (a.put o.dst v) w') : o.wp P a w next Q := by
  unfold Oper.wp
  rw [h]
  rcases hg with rfl | ⟨rfl, rfl⟩
  · exact hn
  · exact hn
theorem mv_pure [Rho] {x : Operand} {v : AV} (ho : OpOk P o (.mv x)) (hx : opV S x = some v) : PureW P n o S v := fun μ a w hs next Q hn =>
  wp_value (ho a.eval w) (.inl rfl) (hn _ (hs.op hx))
theorem p1_pure [Rho] {F : AV → (AV → Ans) → Ans} {x : Operand} {u : AV} {kk : AV → Ans} (ho : OpOk P o (.p1 F x)) (hx : opV S x = some u) (h : F u kk = .yes) : ∃ v, kk v = .yes ∧ PureW P n o S v := by
  obtain ⟨g, h1, h2⟩ := ho
  obtain ⟨v, h3, h4⟩ := h2 u kk h
  refine ⟨v, h3, fun μ a w hs next Q hn => ?_⟩
  obtain ⟨v', h5, h6⟩ := h4 μ _ (hs.op hx)
  exact wp_value (by rw [h1]; exact h6 w) (.inl rfl) (hn v' h5)
theorem p2_pure [Rho] {F : AV → AV → (AV → Ans) → Ans} {x y : Operand} {u r : AV} {kk : AV → Ans} (ho : OpOk P o (.p2 F x y)) (hx : opV S x = some u) (hy : opV S y = some r) (h : F u r kk = .yes) : ∃ v, kk v = .yes ∧ PureW P n o S v := by
  obtain ⟨g, h1, h2⟩ := ho
  obtain ⟨v, h3, h4⟩ := h2 u r kk h
  refine ⟨v, h3, fun μ a w hs next Q hn => ?_⟩
  obtain ⟨v', h5, h6⟩ := h4 μ _ _ (hs.op hx) (hs.op hy)
  exact wp_value (by rw [h1]; exact h6 w) (.inl rfl) (hn v' h5)
theorem p3_pure [Rho] {F : AV → AV → AV → (AV → Ans) → Ans} {x y z : Operand} {u r q : AV} {kk : AV → Ans} (ho : OpOk P o (.p3 F x y z)) (hx : opV S x = some u) (hy : opV S y = some r) (hz : opV S z = some q) (h : F u r q kk = .yes) : ∃ v, kk v = .yes ∧ PureW P n o S v := by
  obtain ⟨g, h1, h2⟩ := ho
  obtain ⟨v, h3, h4⟩ := h2 u r q kk h
  refine ⟨v, h3, fun μ a w hs next Q hn => ?_⟩
  obtain ⟨v', h5, h6⟩ := h4 μ _ _ _ (hs.op hx) (hs.op hy) (hs.op hz)
  exact wp_value (by rw [h1]; exact h6 w) (.inl rfl) (hn v' h5)
theorem pl_pure [Rho] {F : List AV → (AV → Ans) → Ans} {xs : List Operand} {us : List AV} {kk : AV → Ans} (ho : OpOk P o (.pl F xs)) (hx : opVs S xs us) (h : F us kk = .yes) : ∃ v, kk v = .yes ∧ PureW P n o S v := by
  obtain ⟨g, h1, h2⟩ := ho
  obtain ⟨v, h3, h4⟩ := h2 us kk h
  refine ⟨v, h3, fun μ a w hs next Q hn => ?_⟩
  obtain ⟨v', h5, h6⟩ := h4 μ _ (hx.vrs hs)
  exact wp_value (by rw [h1]; exact h6 w) (.inl rfl) (hn v' h5)
theorem l1_load [Rho] {F : AV → Hp → (AV → Ans) → Ans} {x : Operand} {u : AV} {hp : Hp} {kk : AV → Ans} (ho : OpOk P o (.l1 F x)) (hx : opV S x = some u) (h : F u hp kk = .yes) : ∃ v, kk v = .yes ∧ LoadW P n o S hp v := by
  obtain ⟨g, h1, h2⟩ := ho
  obtain ⟨v, h3, h4⟩ := h2 u hp kk h
  refine ⟨v, h3, fun K μ a w hr hs next Q hn => ?_⟩
  obtain ⟨v', h5, h6⟩ := h4 K μ w _ hr (hs.op hx)
  exact wp_value (by rw [h1]; exact h6) (.inl rfl) (hn v' h5)
theorem l2_load [Rho] {F : AV → AV → Hp → (AV → Ans) → Ans} {x y : Operand} {u r : AV} {hp : Hp} {kk : AV → Ans} (ho : OpOk P o (.l2 F x y)) (hx : opV S x = some u) (hy : opV S y = some r) (h : F u r hp kk = .yes) : ∃ v, kk v = .yes ∧ LoadW P n o S hp v := by
  obtain ⟨g, h1, h2⟩ := ho
  obtain ⟨v, h3, h4⟩ := h2 u r hp kk h
  refine ⟨v, h3, fun K μ a w hr hs next Q hn => ?_⟩
  obtain ⟨v', h5, h6⟩ := h4 K μ w _ _ hr (hs.op hx) (hs.op hy)
  exact wp_value (by rw [h1]; exact h6) (.inl rfl) (hn v' h5)
theorem al_lay [Rho] {F : List AV → Nm → (AV → Blk → Ans) → Ans} {xs : List Operand} {us : List AV} {nm : Nm} {kk : AV → Blk → Ans} (ho : OpOk P o (.al F xs)) (hx : opVs S xs us) (h : F us nm kk = .yes) : ∃ v b, kk v b = .yes ∧ b ≠ .no ∧ LayW P n o S nm v b := by
  obtain ⟨g, h1, h2⟩ := ho
  obtain ⟨v, b, h3, h4, h5⟩ := h2 us nm kk h
  refine ⟨v, b, h3, h4, fun μ a w hs next Q hn => ?_⟩
  obtain ⟨v', obj, size, es, h6, h7⟩ := h5 μ _ w (hx.vrs hs)
  exact wp_value (by rw [h1]; exact h6) (.inl rfl) (hn v' obj size es h7)
theorem w1_step [Rho] {F : AV → Hp → (AV → Hp → Ans) → Ans} {x : Operand} {u : AV} {hp : Hp} {kk : AV → Hp → Ans} (ho : OpOk P o (.w1 F x)) (hx : opV S x = some u) (h : F u hp kk = .yes) : ∃ v h', kk v h' = .yes ∧ StepW P n o S hp v h' := by
  obtain ⟨g, h1, h2⟩ := ho
  obtain ⟨v, h', h3, h4⟩ := h2 u hp kk h
  refine ⟨v, h', h3, fun K μ a w hr hs next Q hn => ?_⟩
  obtain ⟨μ', v', nx, w', h5, h6, h7, h8, h9⟩ := h4 K μ w _ hr (hs.op hx)
  exact wp_value (by rw [h1]; exact h5) h6 (hn μ' v' w' h7 h8 h9)
theorem w2_step [Rho] {F : AV → AV → Hp → (AV → Hp → Ans) → Ans} {x y : Operand} {u r : AV} {hp : Hp} {kk : AV → Hp → Ans} (ho : OpOk P o (.w2 F x y)) (hx : opV S x = some u) (hy : opV S y = some r) (h : F u r hp kk = .yes) : ∃ v h', kk v h' = .yes ∧ StepW P n o S hp v h' := by
  obtain ⟨g, h1, h2⟩ := ho
  obtain ⟨v, h', h3, h4⟩ := h2 u r hp kk h
  refine ⟨v, h', h3, fun K μ a w hr hs next Q hn => ?_⟩
  obtain ⟨μ', v', nx, w', h5, h6, h7, h8, h9⟩ := h4 K μ w _ _ hr (hs.op hx) (hs.op hy)
  exact wp_value (by rw [h1]; exact h5) h6 (hn μ' v' w' h7 h8 h9)
theorem w3_step [Rho] {F : AV → AV → AV → Hp → (AV → Hp → Ans) → Ans} {x y z : Operand} {u r q : AV} {hp : Hp} {kk : AV → Hp → Ans} (ho : OpOk P o (.w3 F x y z)) (hx : opV S x = some u) (hy : opV S y = some r) (hz : opV S z = some q) (h : F u r q hp kk = .yes) : ∃ v h', kk v h' = .yes ∧ StepW P n o S hp v h' := by
  obtain ⟨g, h1, h2⟩ := ho
  obtain ⟨v, h', h3, h4⟩ := h2 u r q hp kk h
  refine ⟨v, h', h3, fun K μ a w hr hs next Q hn => ?_⟩
  obtain ⟨μ', v', nx, w', h5, h6, h7, h8, h9⟩ := h4 K μ w _ _ _ hr (hs.op hx) (hs.op hy) (hs.op hz)
  exact wp_value (by rw [h1]; exact h5) h6 (hn μ' v' w' h7 h8 h9)
theorem call_step [Rho] {f : FuncId} {l : List AV} {hp : Hp} {kk : AV → Hp → Ans} {hn : H} (hS : HSound P hn) (h : hn.run f l hp kk = .yes)
    (hx : Enter P f → ∀ μ a w, SR n μ S a → ∃ args : Array Value, (execOp a.eval o).run P w = .ok (.enter f args) w ∧ VRs μ l args.toList) : ∃ v h', kk v h' = .yes ∧ StepW P n o S hp v h' := by
  obtain ⟨he, v, h', h1, h2⟩ := hS f l hp kk h
  refine ⟨v, h', h1, fun K μ a w hr hs next Q hnx => ?_⟩
  obtain ⟨args, h3, h4⟩ := hx he μ a w hs
  unfold Oper.wp
  rw [h3, Oper.upon_enter]
  refine (h2 K μ w args hr h4).mono fun e w' he => ?_
  obtain ⟨μ', v', rfl, q1, q2, q3⟩ := he
  exact hnx μ' v' w' q1 q2 q3
theorem cf_step [Rho] {f : FuncId} {xs : List Operand} {us : List AV} {hp : Hp} {kk : AV → Hp → Ans} {hn : H} (ho : OpOk P o (.cf f xs)) (hS : HSound P hn) (hx : opVs S xs us) (h : hn.run f us hp kk = .yes) : ∃ v h', kk v h' = .yes ∧ StepW P n o S hp v h' :=
  call_step hS h fun he μ a w hs => ⟨_, ho a.eval w rfl he, hx.vrs hs⟩
theorem cv_step [Rho] {g : Operand} {xs : List Operand} {us : List AV} {u : AV} {hp : Hp} {kk : AV → Hp → Ans} {hn : H} (ho : OpOk P o (.cv g xs)) (hS : HSound P hn) (hg : opV S g = some u) (hx : opVs S xs us)
    (h : ∃ f a b, u = .fn f a b ∧ hn.run f (lapp a (lapp us b)) hp kk = .yes) : ∃ v h', kk v h' = .yes ∧ StepW P n o S hp v h' := by
  obtain ⟨f, a, b, rfl, h⟩ := h
  rw [lapp_eq, lapp_eq] at h
  refine call_step hS h fun he μ act w hs => ?_
  have hv := hs.op hg
  generalize hq : act.eval g = q at hv
  cases hv with
  | fn f a b x y h1 h2 h3 h4 =>
    refine ⟨_, ho act.eval w f x y hq he, ?_⟩
    have r1 : VRs μ a x.toList := ⟨by simpa using h1, fun i u c hu hc => h3 i u c hu (by simpa using hc)⟩
    have r2 : VRs μ b y.toList := ⟨by simpa using h2, fun i u c hu hc => h4 i u c hu (by simpa using hc)⟩
    have := r1.app ((hx.vrs hs).app r2)
    simpa using this
end
end
end Go.Proofs.YteefpemaeecicaaGreatDoor.Ev
end
section
open Go
namespace Go.Proofs.YteefpemaeecicaaGreatDoor.Ev
set_option linter.unusedVariables false
set_option linter.unusedSimpArgs false
set_option linter.constructorNameAsVariable false
noncomputable section
/-- Levels that are named are there. -/
def WfG (i : Nat) (G : Gm) : Prop := ∀ t j, t < 512 → G.at t = some (.lvl j) → j < i
theorem Gm.at_no (t : Nat) : Gm.no.at t = none := by
  show tget 3 (paK 3 t) (fillT none 3) = none
  rw [tget_eq, fillT_get]
theorem WfG.no (i : Nat) : WfG i Gm.no := fun t j ht h => by rw [Gm.at_no] at h; cases h
theorem Gm.at_to (G : Gm) {t d : Nat} (s : Src) (ht : t < 512) (hd : d < 512) : (G.to d s).at t = if t = d then some s else G.at t := by
  show tget 3 (paK 3 t) (tset 3 (paK 3 d) G.t (some s)) = if t = d then some s else tget 3 (paK 3 t) G.t
  rw [tget_eq, tget_eq, tset_eq, Tr.get_set 3 G.t (some s) (by omega) (by omega)]
structure EOk (E : Em) : Prop where
  n : E.n ≤ 512
  t : ∀ t p, t < 512 → tget 3 (paK 3 t) E.t = some p → E.l[p]? = some t
section
variable {k : Nat} {E : Em}
theorem srcOf_eq (G : Gm) (t : Nat) : srcOf k E G t = if t < E.n then (match G.at t with | some s => some s | none => (match tget 3 (paK 3 t) E.t with | some p => if p < 8 ^ k then some (.fr p) else none | none => none)) else none := by
  unfold srcOf
  rw [bif_eq]
  by_cases h : t < E.n
  · rw [if_pos (ble_iff.2 h), if_pos h]
    cases G.at t with
    | some s => rfl
    | none =>
      cases tget 3 (paK 3 t) E.t with
      | none => rfl
      | some p =>
        show bif_ _ _ _ = _
        rw [bif_eq]
        by_cases hp : p < 8 ^ k
        · rw [if_pos (show Nat.ble (Nat.succ p) (Nat.pow 8 k) = true from ble_iff.2 hp)]; simp [hp]
        · rw [if_neg (show ¬ Nat.ble (Nat.succ p) (Nat.pow 8 k) = true from fun e => hp (ble_iff.1 e))]; simp [hp]
  · rw [if_neg (fun e => h (ble_iff.1 e)), if_neg h]
theorem dstG_eq (d : Option Nat) (s : Src) (G : Gm) : dstG E d s G = match d with | none => G | some d => if d < E.n then G.to d s else G := by
  cases d with
  | none => rfl
  | some d =>
    show bif_ _ _ _ = _
    rw [bif_eq]
    by_cases h : d < E.n
    · rw [if_pos (ble_iff.2 h)]; simp [h]
    · rw [if_neg (fun e => h (ble_iff.1 e))]; simp [h]
/-- A source of another level than i. -/
theorem eAt_some : ∀ (i : Nat) (e : Ve i) (d : Nat), d < i → ∃ v, eAt i e d = some v
  | i + 1, e, 0, _ => ⟨_, rfl⟩
  | i + 1, e, d + 1, h => eAt_some i (e : Ce (Ve i)).r d (by omega)
theorem srcV_up {i : Nat} {fr : Tr AV k} {e : Ve i} {v : AV} {s : Src} (h : ∀ j, s = .lvl j → j < i) : srcV k (i + 1) fr (⟨v, e⟩ : Ce (Ve i)) s = srcV k i fr e s := by
  cases s with
  | lvl j =>
    have hj := h j rfl
    show (if j < i + 1 then eAt (i + 1) (⟨v, e⟩ : Ce (Ve i)) (i + 1 - 1 - j) else none) = if j < i then eAt i e (i - 1 - j) else none
    rw [if_pos (by omega), if_pos hj, show i + 1 - 1 - j = (i - 1 - j) + 1 by omega]
    rfl
  | cst v => rfl
  | fr p => rfl
theorem srcOf_lvl {i : Nat} {G : Gm} (hE : EOk E) (hG : WfG i G) {t : Nat} {s : Src} (h : srcOf k E G t = some s) : ∀ j, s = .lvl j → j < i := by
  intro j hj
  subst hj
  rw [srcOf_eq] at h
  split at h
  · rename_i ht
    cases hg : G.at t with
    | some s' => rw [hg] at h; simp only [Option.some.injEq] at h; subst h; exact hG t j (by have := hE.n; omega) hg
    | none =>
      rw [hg] at h
      simp only at h
      cases hp : tget 3 (paK 3 t) E.t with
      | none => rw [hp] at h; cases h
      | some p => rw [hp] at h; simp only at h; split at h <;> cases h
  · cases h
/-- A new level holds a temporary. -/
theorem env_step (hE : EOk E) {i : Nat} {G : Gm} (hG : WfG i G) (fr : Tr AV k) (e : Ve i) (v : AV) (d : Option Nat) :
    envOf k E (i + 1) (dstG E d (.lvl i) G) fr (⟨v, e⟩ : Ce (Ve i)) = (envOf k E i G fr e).put E.n d v ∧ WfG (i + 1) (dstG E d (.lvl i) G) := by
  have up : ∀ t, (srcOf k E G t).bind (srcV k (i + 1) fr (⟨v, e⟩ : Ce (Ve i))) = (srcOf k E G t).bind (srcV k i fr e) := fun t => by
    cases hs : srcOf k E G t with
    | none => rfl
    | some s => exact srcV_up (srcOf_lvl hE hG hs)
  rw [dstG_eq]
  cases d with
  | none => exact ⟨funext up, fun t j ht h => by have := hG t j ht h; omega⟩
  | some d =>
    simp only
    by_cases hd : d < E.n
    · rw [if_pos hd]
      have hd5 : d < 512 := by have := hE.n; omega
      refine ⟨funext fun t => ?_, fun t j ht h => ?_⟩
      · show (srcOf k E (G.to d (.lvl i)) t).bind _ = if d < E.n ∧ t = d then some v else (srcOf k E G t).bind (srcV k i fr e)
        by_cases ht : t = d
        · subst ht
          rw [if_pos ⟨hd, rfl⟩, srcOf_eq, if_pos hd, Gm.at_to G _ hd5 hd5, if_pos rfl]
          show (if i < i + 1 then eAt (i + 1) (⟨v, e⟩ : Ce (Ve i)) (i + 1 - 1 - i) else none) = _
          rw [if_pos (by omega), show i + 1 - 1 - i = 0 by omega]
          rfl
        · rw [if_neg (fun h => ht h.2), ← up t]
          congr 1
          rw [srcOf_eq, srcOf_eq]
          by_cases hn : t < E.n
          · rw [if_pos hn, if_pos hn, Gm.at_to G _ (by have := hE.n; omega) hd5, if_neg ht]
          · rw [if_neg hn, if_neg hn]
      · rw [Gm.at_to G _ ht hd5] at h
        split at h
        · cases h; omega
        · have := hG t j ht h; omega
    · rw [if_neg hd]
      refine ⟨funext fun t => ?_, fun t j ht h => by have := hG t j ht h; omega⟩
      show _ = if d < E.n ∧ t = d then some v else _
      rw [if_neg (fun h => hd h.1)]
      exact up t
/-- A copy: a temporary is what an operand is. -/
theorem env_mv (hE : EOk E) {i : Nat} {G : Gm} (hG : WfG i G) (fr : Tr AV k) (e : Ve i) {x : Operand} {s : Src} (hs : opS k E G x = some s) (d : Option Nat) :
    ∃ v, opV (envOf k E i G fr e) x = some v ∧ envOf k E i (dstG E d s G) fr e = (envOf k E i G fr e).put E.n d v ∧ WfG i (dstG E d s G) := by
  have lv : ∀ j, s = .lvl j → j < i := by
    cases x with
    | tmp t => exact srcOf_lvl hE hG hs
    | const c => intro j hj; subst hj; cases hs
    | func f => intro j hj; subst hj; cases hs
    | global g => cases hs
  obtain ⟨v, hv⟩ : ∃ v, srcV k i fr e s = some v := by
    cases s with
    | lvl j =>
      have hj := lv j rfl
      obtain ⟨v, h⟩ := eAt_some i e (i - 1 - j) (by omega)
      exact ⟨v, by show (if j < i then _ else _) = _; rw [if_pos hj]; exact h⟩
    | cst v => exact ⟨v, rfl⟩
    | fr p => exact ⟨_, rfl⟩
  refine ⟨v, ?_, ?_⟩
  · cases x with
    | tmp t =>
      have hs' : srcOf k E G t = some s := hs
      show (srcOf k E G t).bind _ = _
      rw [hs']; exact hv
    | const c => cases hs; exact hv
    | func f => cases hs; exact hv
    | global g => cases hs
  · rw [dstG_eq]
    cases d with
    | none => exact ⟨rfl, hG⟩
    | some d =>
      simp only
      by_cases hd : d < E.n
      · rw [if_pos hd]
        have hd5 : d < 512 := by have := hE.n; omega
        refine ⟨funext fun t => ?_, fun t j ht h => ?_⟩
        · show (srcOf k E (G.to d s) t).bind _ = if d < E.n ∧ t = d then some v else (srcOf k E G t).bind (srcV k i fr e)
          by_cases ht : t = d
          · subst ht
            rw [if_pos ⟨hd, rfl⟩, srcOf_eq, if_pos hd, Gm.at_to G _ hd5 hd5, if_pos rfl]
            exact hv
          · rw [if_neg (fun h => ht h.2)]
            congr 1
            rw [srcOf_eq, srcOf_eq]
            by_cases hn : t < E.n
            · rw [if_pos hn, if_pos hn, Gm.at_to G _ (by have := hE.n; omega) hd5, if_neg ht]
            · rw [if_neg hn, if_neg hn]
        · rw [Gm.at_to G _ ht hd5] at h
          split at h
          · have h' : s = .lvl j := by simpa using h
            exact lv j h'
          · exact hG t j ht h
      · rw [if_neg hd]
        refine ⟨funext fun t => ?_, hG⟩
        show _ = if d < E.n ∧ t = d then some v else _
        rw [if_neg (fun h => hd h.1)]
/-! ### The frame -/
/-- What is known of a temporary goes to its place. -/
def flushAt (k : Nat) (E : Em) (i : Nat) (G : Gm) (fr : Tr AV k) (e : Ve i) (old : AV) : Option Nat → AV
  | some t => if t < E.n then (match G.at t with | some s => (srcV k i fr e s).getD old | none => old) else old
  | none => old
def flushL (k : Nat) (E : Em) (i : Nat) (G : Gm) (l : List Nat) : Nat → Option (Fl k i) := (lrec l (fun (_ : Nat) => (some ⟨fun fr _ kk => kk fr⟩ : Option (Fl k i))) (fun t _ ih p => (Option.rec (motive := fun _ => Option (Fl k i)) (ih (Nat.succ p)) (fun s => bif_ (sameP s p) (ih (Nat.succ p)) (bif_ (Nat.ble (Nat.succ p) (Nat.pow 8 k)) ((Option.rec (motive := fun _ => Option (Fl k i)) (none) (fun g => (Option.rec (motive := fun _ => Option (Fl k i)) (none) (fun f => Fl.rec (motive := fun _ => Option (Fl k i)) (fun f => Gv.rec (motive := fun _ => Option (Fl k i)) (fun g => Sc.rec (motive := fun _ => Option (Fl k i)) (fun st => some ⟨fun fr e kk => f fr e fun cur => st cur (g fr e) kk⟩) (setc k (paK k p))) g) f) (ih (Nat.succ p)))) (srcG k i s))) none)) (bif_ (Nat.ble (Nat.succ t) E.n) (G.at t) none))) : Nat → Option (Fl k i))
theorem flushO_spec {i : Nat} {G : Gm} : ∀ (l : List Nat) (p : Nat) {f : Fl k i}, flushL k E i G l p = some f →
    ∃ F : Tr AV k → Ve i → Tr AV k, (∀ fr e kk, f.run fr e kk = kk (F fr e)) ∧ ∀ fr e q, q < 8 ^ k → Tr.get (α := AV) k (paK k q) (F fr e) = flushAt k E i G fr e (Tr.get (α := AV) k (paK k q) fr) (if p ≤ q then l[q - p]? else none)
  | [], p, f, h => by
    have h' : some (⟨fun fr _ kk => kk fr⟩ : Fl k i) = some f := h
    cases h'
    refine ⟨fun fr _ => fr, fun fr e kk => rfl, fun fr e q hq => ?_⟩
    split <;> rfl
  | t :: l, p, f, h => by
    have cons : ∀ {F : Tr AV k → Ve i → Tr AV k}, (∀ fr e q, q < 8 ^ k → Tr.get (α := AV) k (paK k q) (F fr e) = flushAt k E i G fr e (Tr.get (α := AV) k (paK k q) fr) (if p + 1 ≤ q then l[q - (p + 1)]? else none)) →
        (∀ fr e, flushAt k E i G fr e (Tr.get (α := AV) k (paK k p) fr) (some t) = Tr.get (α := AV) k (paK k p) fr) →
        ∀ fr e q, q < 8 ^ k → Tr.get (α := AV) k (paK k q) (F fr e) = flushAt k E i G fr e (Tr.get (α := AV) k (paK k q) fr) (if p ≤ q then (t :: l)[q - p]? else none) := by
      intro F hF h0 fr e q hq
      rw [hF fr e q hq]
      by_cases h1 : p + 1 ≤ q
      · rw [if_pos h1, if_pos (by omega), show q - p = (q - (p + 1)) + 1 by omega, List.getElem?_cons_succ]
      · rw [if_neg h1]
        by_cases h2 : p ≤ q
        · have : q = p := by omega
          subst this
          rw [if_pos h2, Nat.sub_self, List.getElem?_cons_zero, h0]
          rfl
        · rw [if_neg h2]
    have h' := h
    change (Option.rec (motive := fun _ => Option (Fl k i)) _ _ (bif_ (Nat.ble (Nat.succ t) E.n) (G.at t) none)) = some f at h'
    rw [bif_eq] at h'
    by_cases ht : t < E.n
    · rw [if_pos (ble_iff.2 ht)] at h'
      cases hg : G.at t with
      | none =>
        rw [hg] at h'
        obtain ⟨F, h1, h2⟩ := flushO_spec l (p + 1) h'
        exact ⟨F, h1, cons h2 (fun fr e => by simp [flushAt, ht, hg])⟩
      | some s =>
        rw [hg] at h'
        change bif_ _ _ _ = some f at h'
        rw [bif_eq] at h'
        split at h'
        · rename_i hsp
          have hs : s = .fr p := by
            cases s <;> first | (have := beq_iff.1 hsp; subst this; rfl) | cases hsp
          obtain ⟨F, h1, h2⟩ := flushO_spec l (p + 1) h'
          exact ⟨F, h1, cons h2 (fun fr e => by simp [flushAt, ht, hg, hs, srcV])⟩
        · rw [bif_eq] at h'
          split at h'
          · rename_i hp
            have hp : p < 8 ^ k := ble_iff.1 hp
            cases hgs : srcG k i s with
            | none => rw [hgs] at h'; cases h'
            | some g =>
              rw [hgs] at h'
              cases hrest : flushL k E i G l (p + 1) with
              | none =>
                exfalso
                change (Option.rec (motive := fun _ => Option (Fl k i)) none _ (flushL k E i G l (p + 1))) = some f at h'
                rw [hrest] at h'
                cases h'
              | some f' =>
                change (Option.rec (motive := fun _ => Option (Fl k i)) none _ (flushL k E i G l (p + 1))) = some f at h'
                rw [hrest] at h'
                have h3 : some (⟨fun fr e kk => f'.run fr e fun cur => (setc k (paK k p)).run cur (g.run fr e) kk⟩ : Fl k i) = some f := h'
                cases h3
                obtain ⟨F, h1, h2⟩ := flushO_spec l (p + 1) hrest
                refine ⟨fun fr e => Tr.set (α := AV) k (paK k p) (F fr e) (g.run fr e), fun fr e kk => ?_, fun fr e q hq => ?_⟩
                · show f'.run fr e (fun cur => (setc k (paK k p)).run cur (g.run fr e) kk) = _
                  rw [h1, setc_eq]
                · rw [Tr.get_set k _ _ hq hp]
                  by_cases hqp : q = p
                  · subst hqp
                    rw [if_pos rfl, if_pos (Nat.le_refl _), Nat.sub_self, List.getElem?_cons_zero]
                    simp [flushAt, ht, hg, srcG_spec hgs fr e]
                  · rw [if_neg hqp, h2 fr e q hq]
                    by_cases h4 : p + 1 ≤ q
                    · rw [if_pos h4, if_pos (by omega), show q - p = (q - (p + 1)) + 1 by omega, List.getElem?_cons_succ]
                    · rw [if_neg h4, if_neg (by omega)]
          · cases h'
    · rw [if_neg (fun e => ht (ble_iff.1 e))] at h'
      obtain ⟨F, h1, h2⟩ := flushO_spec l (p + 1) h'
      exact ⟨F, h1, cons h2 (fun fr e => by simp [flushAt, ht])⟩
/-- What the frame tells. -/
def frEnv (k : Nat) (E : Em) (fr : Tr AV k) : Env := envOf k E 0 Gm.no fr unitV
theorem flush_spec [Rho] (hE : EOk E) {i : Nat} {G : Gm} (hG : WfG i G) {fr : Tr AV k} {e : Ve i} {kk : Tr AV k → Ans} (h : (flush k E i G).run fr e kk = .yes) :
    ∃ fr', kk fr' = .yes ∧ ∀ μ a, SR E.n μ (envOf k E i G fr e) a → SR E.n μ (frEnv k E fr') a := by
  unfold flush at h
  cases hf : flushO k E i G with
  | none => rw [hf] at h; cases h
  | some f =>
    rw [hf] at h
    obtain ⟨F, h1, h2⟩ := flushO_spec E.l 0 hf
    have h3 : f.run fr e kk = .yes := h
    rw [h1] at h3
    refine ⟨F fr e, h3, fun μ a hs => ⟨hs.size, hs.defs, fun t v hv => ?_, fun t v hv => ?_⟩⟩
    · have hv' : (srcOf k E Gm.no t).bind (srcV k 0 (F fr e) unitV) = some v := hv
      rw [srcOf_eq] at hv'
      split at hv'
      · assumption
      · cases hv'
    · have hv' : (srcOf k E Gm.no t).bind (srcV k 0 (F fr e) unitV) = some v := hv
      rw [srcOf_eq] at hv'
      split at hv'
      · rename_i ht
        rw [Gm.at_no] at hv'
        simp only at hv'
        cases hp : tget 3 (paK 3 t) E.t with
        | none => rw [hp] at hv'; cases hv'
        | some p =>
          rw [hp] at hv'
          simp only at hv'
          split at hv'
          · rename_i hpk
            have hl := hE.t t p (by have := hE.n; omega) hp
            have hv2 : Tr.get (α := AV) k (paK k p) (F fr e) = v := by simpa [srcV] using hv'
            rw [h2 fr e p hpk, if_pos (Nat.zero_le _), Nat.sub_zero, hl] at hv2
            simp only [flushAt, if_pos ht] at hv2
            cases hg : G.at t with
            | none =>
              rw [hg] at hv2
              refine hs.val t v ?_
              show (srcOf k E G t).bind _ = _
              rw [srcOf_eq, if_pos ht, hg]
              simp only [hp, if_pos hpk]
              show some _ = _
              rw [← hv2]
            | some s =>
              rw [hg] at hv2
              simp only at hv2
              cases hsv : srcV k i fr e s with
              | none =>
                exfalso
                cases s with
                | lvl j =>
                  have hj := hG t j (by have := hE.n; omega) hg
                  obtain ⟨u, hu⟩ := eAt_some i e (i - 1 - j) (by omega)
                  have hsv' : (if j < i then eAt i e (i - 1 - j) else none) = none := hsv
                  rw [if_pos hj, hu] at hsv'
                  cases hsv'
                | cst c => cases hsv
                | fr p => cases hsv
              | some u =>
                rw [hsv] at hv2
                refine hs.val t v ?_
                show (srcOf k E G t).bind _ = _
                rw [srcOf_eq, if_pos ht, hg]
                show srcV k i fr e s = _
                rw [hsv]; rw [← hv2]; rfl
          · cases hv'
      · cases hv'
end
end
end Go.Proofs.YteefpemaeecicaaGreatDoor.Ev
end
section
open Go
namespace Go.Proofs.YteefpemaeecicaaGreatDoor.Ev
set_option linter.unusedVariables false
set_option linter.unusedSimpArgs false
set_option linter.constructorNameAsVariable false
noncomputable section
section
variable {P : Program} {T : Ty} {k : Nat} {E : Em}
/-- How a call is taken from the context. -/
theorem node_yes [Rho] {hn : H} (hS : HSound P hn) {o : Oper} {f : OpF} (ho : OpOk P o f) {i : Nat} {G : Gm} {nx : Oc k (i + 1)} {cx : Cx k} {fr : Tr AV k} {e : Ve i} {h : Hp} (hcx : cx.hn = hn)
    (hy : (node k E i G f nx).run cx fr e h = .yes) : ∃ v h', nx.run cx fr (⟨v, e⟩ : Ce (Ve i)) h' = .yes ∧ StepW P E.n o (envOf k E i G fr e) h v h' := by
  cases f with
  | bad => cases hy
  | mv x =>
    simp only [node] at hy
    cases hq : opnd k E i G x with
    | none => rw [hq] at hy; cases hy
    | some g =>
      rw [hq] at hy
      exact ⟨g.run fr e, h, hy, ((mv_pure ho (opnd_spec hq fr e)).load h).step⟩
  | p1 F x =>
    simp only [node] at hy
    cases hq : opnd k E i G x with
    | none => rw [hq] at hy; cases hy
    | some g =>
      rw [hq] at hy
      have hy' : F (g.run fr e) (fun v => nx.run cx fr (⟨v, e⟩ : Ce (Ve i)) h) = .yes := hy
      obtain ⟨v, h1, h2⟩ := p1_pure (n := E.n) ho (opnd_spec hq fr e) hy'
      exact ⟨v, h, h1, (h2.load h).step⟩
  | p2 F x y =>
    simp only [node] at hy
    cases hq : opnd k E i G x with
    | none => rw [hq] at hy; cases hy
    | some g =>
      cases hq2 : opnd k E i G y with
      | none => rw [hq, hq2] at hy; cases hy
      | some g2 =>
        rw [hq, hq2] at hy
        have hy' : F (g.run fr e) (g2.run fr e) (fun v => nx.run cx fr (⟨v, e⟩ : Ce (Ve i)) h) = .yes := hy
        obtain ⟨v, h1, h2⟩ := p2_pure (n := E.n) ho (opnd_spec hq fr e) (opnd_spec hq2 fr e) hy'
        exact ⟨v, h, h1, (h2.load h).step⟩
  | p3 F x y z =>
    simp only [node] at hy
    cases hq : opnd k E i G x with
    | none => rw [hq] at hy; cases hy
    | some g =>
      cases hq2 : opnd k E i G y with
      | none => rw [hq, hq2] at hy; cases hy
      | some g2 =>
        cases hq3 : opnd k E i G z with
        | none => rw [hq, hq2, hq3] at hy; cases hy
        | some g3 =>
          rw [hq, hq2, hq3] at hy
          have hy' : F (g.run fr e) (g2.run fr e) (g3.run fr e) (fun v => nx.run cx fr (⟨v, e⟩ : Ce (Ve i)) h) = .yes := hy
          obtain ⟨v, h1, h2⟩ := p3_pure (n := E.n) ho (opnd_spec hq fr e) (opnd_spec hq2 fr e) (opnd_spec hq3 fr e) hy'
          exact ⟨v, h, h1, (h2.load h).step⟩
  | pl F xs =>
    simp only [node] at hy
    cases hq : opnds k E i G xs with
    | none => rw [hq] at hy; cases hy
    | some g =>
      rw [hq] at hy
      have hy' : F (g.run fr e) (fun v => nx.run cx fr (⟨v, e⟩ : Ce (Ve i)) h) = .yes := hy
      obtain ⟨v, h1, h2⟩ := pl_pure (n := E.n) ho (opnds_spec fr e hq) hy'
      exact ⟨v, h, h1, (h2.load h).step⟩
  | l1 F x =>
    simp only [node] at hy
    cases hq : opnd k E i G x with
    | none => rw [hq] at hy; cases hy
    | some g =>
      rw [hq] at hy
      have hy' : F (g.run fr e) h (fun v => nx.run cx fr (⟨v, e⟩ : Ce (Ve i)) h) = .yes := hy
      obtain ⟨v, h1, h2⟩ := l1_load (n := E.n) ho (opnd_spec hq fr e) hy'
      exact ⟨v, h, h1, h2.step⟩
  | l2 F x y =>
    simp only [node] at hy
    cases hq : opnd k E i G x with
    | none => rw [hq] at hy; cases hy
    | some g =>
      cases hq2 : opnd k E i G y with
      | none => rw [hq, hq2] at hy; cases hy
      | some g2 =>
        rw [hq, hq2] at hy
        have hy' : F (g.run fr e) (g2.run fr e) h (fun v => nx.run cx fr (⟨v, e⟩ : Ce (Ve i)) h) = .yes := hy
        obtain ⟨v, h1, h2⟩ := l2_load (n := E.n) ho (opnd_spec hq fr e) (opnd_spec hq2 fr e) hy'
        exact ⟨v, h, h1, h2.step⟩
  | al F xs =>
    simp only [node] at hy
    cases hq : opnds k E i G xs with
    | none => rw [hq] at hy; cases hy
    | some g =>
      rw [hq] at hy
      have hy' : F (g.run fr e) h.c (fun v b => Nm.nxt h.c fun c' => nx.run cx fr (⟨v, e⟩ : Ce (Ve i)) ⟨Mem.to h.c h.m b, c'⟩) = .yes := hy
      obtain ⟨v, b, h1, _, h2⟩ := al_lay (n := E.n) ho (opnds_spec fr e hq) hy'
      obtain ⟨c', q1, q2⟩ := Nm.nxt_yes h1
      rw [q2] at h1
      exact ⟨v, _, h1, h2.step (by omega)⟩
  | w1 F x =>
    simp only [node] at hy
    cases hq : opnd k E i G x with
    | none => rw [hq] at hy; cases hy
    | some g =>
      rw [hq] at hy
      have hy' : F (g.run fr e) h (fun v h => nx.run cx fr (⟨v, e⟩ : Ce (Ve i)) h) = .yes := hy
      exact w1_step ho (opnd_spec hq fr e) hy'
  | w2 F x y =>
    simp only [node] at hy
    cases hq : opnd k E i G x with
    | none => rw [hq] at hy; cases hy
    | some g =>
      cases hq2 : opnd k E i G y with
      | none => rw [hq, hq2] at hy; cases hy
      | some g2 =>
        rw [hq, hq2] at hy
        have hy' : F (g.run fr e) (g2.run fr e) h (fun v h => nx.run cx fr (⟨v, e⟩ : Ce (Ve i)) h) = .yes := hy
        exact w2_step ho (opnd_spec hq fr e) (opnd_spec hq2 fr e) hy'
  | w3 F x y z =>
    simp only [node] at hy
    cases hq : opnd k E i G x with
    | none => rw [hq] at hy; cases hy
    | some g =>
      cases hq2 : opnd k E i G y with
      | none => rw [hq, hq2] at hy; cases hy
      | some g2 =>
        cases hq3 : opnd k E i G z with
        | none => rw [hq, hq2, hq3] at hy; cases hy
        | some g3 =>
          rw [hq, hq2, hq3] at hy
          have hy' : F (g.run fr e) (g2.run fr e) (g3.run fr e) h (fun v h => nx.run cx fr (⟨v, e⟩ : Ce (Ve i)) h) = .yes := hy
          exact w3_step ho (opnd_spec hq fr e) (opnd_spec hq2 fr e) (opnd_spec hq3 fr e) hy'
  | cf f xs =>
    simp only [node] at hy
    cases hq : opnds k E i G xs with
    | none => rw [hq] at hy; cases hy
    | some g =>
      rw [hq] at hy
      have hy' : cx.hn.run f (g.run fr e) h (fun v h => nx.run cx fr (⟨v, e⟩ : Ce (Ve i)) h) = .yes := hy
      rw [hcx] at hy'
      exact cf_step ho hS (opnds_spec fr e hq) hy'
  | cv g xs =>
    simp only [node] at hy
    cases hq : opnd k E i G g with
    | none => rw [hq] at hy; cases hy
    | some gg =>
      cases hq2 : opnds k E i G xs with
      | none => rw [hq, hq2] at hy; cases hy
      | some gl =>
        rw [hq, hq2] at hy
        obtain ⟨f, a, b, hfn, h1⟩ := inv_fn hy
        have hy' : cx.hn.run f (lapp a (lapp (gl.run fr e) b)) h (fun v h => nx.run cx fr (⟨v, e⟩ : Ce (Ve i)) h) = .yes := h1
        rw [hcx] at hy'
        exact cv_step ho hS (opnd_spec hq fr e) (opnds_spec fr e hq2) ⟨f, a, b, hfn, hy'⟩
/-- What an operation under its guard does: it is done, or left out. -/
def GuardW [Rho] (P : Program) (ops : Array Oper) (n : Nat) (o : Oper) (S : Env) (h : Hp) (v : AV) (h' : Hp) : Prop := ∀ K μ a w, MR K μ h w → SR n μ S a → ∀ (next : Act → World → Prop) Q, (∀ μ' v' w', Ext μ μ' → VR μ' v v' → MR K μ' h' w' → next (a.put o.dst v') w') →
  (if Region.wanted o (yielded ops a.tmps) then o.wp P a w next Q ∨ (o.asks P a w ∧ LetsOut Q) else next (a.put o.dst undef) w)
theorem yield_val [Rho] {n : Nat} {μ : Mp} {S : Env} {a : Act} (hs : SR n μ S a) {ops : Array Oper} {g t : Nat} (hg : guardT ops.toList g = some t) {v : AV} (hv : S t = some v) {r : Option Bool} (hr : ∀ v', VR μ v v' → (match v' with | .bool b => some b | _ => none) = r) : yielded ops a.tmps g = r := by
  unfold guardT at hg
  rw [Array.getElem?_toList] at hg
  have hlt := hs.low t v hv
  have hsz := hs.size
  have hget : a.tmps[t]? = some (a.tmps.getD t undef) := by
    rw [Array.getElem?_eq_getElem (by omega), Array.getD_eq_getD_getElem?, Array.getElem?_eq_getElem (by omega)]
    rfl
  have := hr _ (hs.val t v hv)
  unfold yielded
  rw [hg, Option.bind_some, hget, ← this]
  generalize a.tmps.getD t undef = q
  cases q <;> rfl
theorem guarded_yes [Rho] {hn : H} (hS : HSound P hn) (hT : TyOk P T) (hO : StructOk P T) {ops : Array Oper} {o : Oper} {i : Nat} {G : Gm} {nx : Oc k (i + 1)} {cx : Cx k} {fr : Tr AV k} {e : Ve i} {h : Hp} (hcx : cx.hn = hn)
    (hy : (guarded T k E ops.toList i G o nx).run cx fr e h = .yes) : ∃ v h', nx.run cx fr (⟨v, e⟩ : Ce (Ve i)) h' = .yes ∧ GuardW P ops E.n o (envOf k E i G fr e) h v h' := by
  have skip : nx.run cx fr (⟨.tu [], e⟩ : Ce (Ve i)) h = .yes → (∀ μ a, SR E.n μ (envOf k E i G fr e) a → Region.wanted o (yielded ops a.tmps) = false) → ∃ v h', nx.run cx fr (⟨v, e⟩ : Ce (Ve i)) h' = .yes ∧ GuardW P ops E.n o (envOf k E i G fr e) h v h' :=
    fun h1 h2 => ⟨_, h, h1, fun K μ a w hr hs next Q hnx => by
      rw [h2 μ a hs, if_neg (by simp)]
      exact hnx μ undef w (Ext.refl μ) (VR.undef μ) hr⟩
  have doit : (node k E i G (opF T o.op) nx).run cx fr e h = .yes → (∀ μ a, SR E.n μ (envOf k E i G fr e) a → Region.wanted o (yielded ops a.tmps) = true) → ∃ v h', nx.run cx fr (⟨v, e⟩ : Ce (Ve i)) h' = .yes ∧ GuardW P ops E.n o (envOf k E i G fr e) h v h' := by
    intro h1 h2
    obtain ⟨v, h', q1, q2⟩ := node_yes hS (opF_ok hT hO o) hcx h1
    exact ⟨v, h', q1, fun K μ a w hr hs next Q hnx => by
      rw [h2 μ a hs, if_pos rfl]
      exact .inl (q2 K μ a w hr hs next Q hnx)⟩
  unfold guarded at hy
  cases hg : o.guard with
  | none =>
    rw [hg] at hy
    exact doit hy (fun μ a hs => by unfold Region.wanted; rw [hg])
  | some gw =>
    obtain ⟨g, want⟩ := gw
    rw [hg] at hy
    have hw : ∀ r : Option Bool, ∀ tmps, yielded ops tmps g = r → Region.wanted o (yielded ops tmps) = (r == some want) := fun r tmps hr => by unfold Region.wanted; rw [hg]; simp only [hr]
    cases ht : guardT ops.toList g with
    | none =>
      simp only [ht] at hy
      refine skip hy (fun μ a hs => ?_)
      rw [hw none a.tmps ?_]
      · rfl
      · unfold guardT at ht
        rw [Array.getElem?_toList] at ht
        unfold yielded
        rw [ht]
        rfl
    | some t =>
      simp only [ht] at hy
      cases hq : opnd k E i G (.tmp t) with
      | none => rw [hq] at hy; cases hy
      | some gt =>
        rw [hq] at hy
        have hv := opnd_spec hq fr e
        have hv' : envOf k E i G fr e t = some (gt.run fr e) := hv
        rcases inv_gd_ hy with ⟨b, hb, h1⟩ | ⟨l, hl, h1⟩
        · rw [hb] at hv'
          rcases inv_bif h1 with ⟨e1, h2⟩ | ⟨e1, h2⟩
          · refine doit h2 (fun μ a hs => ?_)
            rw [hw (some b) a.tmps (yield_val hs ht hv' (fun v' hvv => by rw [hvv.b_inv]))]
            rw [eqB_eq] at e1
            simpa using e1
          · refine skip h2 (fun μ a hs => ?_)
            rw [hw (some b) a.tmps (yield_val hs ht hv' (fun v' hvv => by rw [hvv.b_inv]))]
            rw [eqB_eq] at e1
            simpa using e1
        · rw [hl] at hv'
          obtain ⟨hl0, h2⟩ := inv_nil h1
          refine skip h2 (fun μ a hs => ?_)
          rw [hw none a.tmps (yield_val hs ht hv' (fun v' hvv => by obtain ⟨x, rfl, _⟩ := hvv.tu_inv; rfl))]
          rfl
/-- The operations of a region, from one on. -/
theorem regS_yes [Rho] {hn : H} (hS : HSound P hn) (hT : TyOk P T) (hO : StructOk P T) (hE : EOk E) {ops : Array Oper} {K : (i : Nat) → Gm → Oc k i} {cx : Cx k} {fr : Tr AV k} (hcx : cx.hn = hn) :
    ∀ (l : List Oper) (j i : Nat) (G : Gm) (e : Ve i) (h : Hp), WfG i G → ops.toList.drop j = l → (regS T k E ops.toList K l i G).run cx fr e h = .yes →
      ∃ i' G' e' h', (K i' G').run cx fr e' h' = .yes ∧ WfG i' G' ∧ ∀ Kp μ a w, MR Kp μ h w → SR E.n μ (envOf k E i G fr e) a → ∀ Q, (∀ μ' a' w', Ext μ μ' → SR E.n μ' (envOf k E i' G' fr e') a' → MR Kp μ' h' w' → Q .normal a' w') → wpOps P ops Q (List.range' j (ops.size - j)) a w
  | [], j, i, G, e, h, hG, hd, hy => by
    refine ⟨i, G, e, h, hy, hG, fun Kp μ a w hr hs Q hq => ?_⟩
    have : ops.size - j = 0 := by
      have := congrArg List.length hd
      simpa using this
    rw [this]
    exact hq μ a w (Ext.refl μ) hs hr
  | o :: l, j, i, G, e, h, hG, hd, hy => by
    have hlen := congrArg List.length hd
    simp only [List.length_drop, Array.length_toList, List.length_cons] at hlen
    have hsub : ops.size - j = (ops.size - (j + 1)) + 1 := by omega
    have hoj : ops[j]? = some o := by
      rw [← Array.getElem?_toList]
      have := congrArg (·[0]?) hd
      simpa using this
    have hd' : ops.toList.drop (j + 1) = l := by
      have := congrArg List.tail hd
      simpa using this
    have hy' : (Option.rec (motive := fun _ => Oc k i) (guarded T k E ops.toList i G o (regS T k E ops.toList K l (i + 1) (dstG E o.dst (.lvl i) G))) (fun s => regS T k E ops.toList K l i (dstG E o.dst s G)) (mvS k E G o)).run cx fr e h = .yes := hy
    cases hm : mvS k E G o with
    | none =>
      rw [hm] at hy'
      obtain ⟨v, h1, q1, q2⟩ := guarded_yes hS hT hO hcx hy'
      obtain ⟨s1, s2⟩ := env_step hE hG fr e v o.dst
      obtain ⟨i', G', e', h', r1, r2, r3⟩ := regS_yes hS hT hO hE hcx l (j + 1) (i + 1) _ (⟨v, e⟩ : Ce (Ve i)) h1 s2 hd' q1
      refine ⟨i', G', e', h', r1, r2, fun Kp μ a w hr hs Q hq => ?_⟩
      rw [hsub, List.range'_succ]
      simp only [wpOps, hoj]
      refine q2 Kp μ a w hr hs _ Q (fun μ' v' w' hx hv hr' => ?_)
      refine r3 Kp μ' _ w' hr' ?_ Q (fun μ2 a2 w2 hx2 hs2 hr2 => hq μ2 a2 w2 (hx.trans hx2) hs2 hr2)
      rw [s1]
      exact (hs.ext hx).put o.dst hv
    | some s =>
      rw [hm] at hy'
      have hmv : o.guard = none ∧ ∃ x, (o.op = .move x ∨ o.op = .assign x) ∧ opS k E G x = some s := by
        unfold mvS at hm
        split at hm
        · rename_i x hg ho; exact ⟨hg, x, .inl ho, hm⟩
        · rename_i x hg ho; exact ⟨hg, x, .inr ho, hm⟩
        · cases hm
      obtain ⟨hg, x, ho, hs0⟩ := hmv
      obtain ⟨v, hv, s1, s2⟩ := env_mv hE hG fr e hs0 o.dst
      obtain ⟨i', G', e', h', r1, r2, r3⟩ := regS_yes hS hT hO hE hcx l (j + 1) i _ e h s2 hd' hy'
      refine ⟨i', G', e', h', r1, r2, fun Kp μ a w hr hs Q hq => ?_⟩
      rw [hsub, List.range'_succ]
      simp only [wpOps, hoj]
      have hw : Region.wanted o (yielded ops a.tmps) = true := by unfold Region.wanted; rw [hg]
      rw [hw, if_pos rfl]
      refine .inl ?_
      have hrun : ∀ w, (execOp a.eval o).run P w = .ok (.value (a.eval x)) w := fun w => by
        unfold execOp
        rcases ho with ho | ho <;> rw [ho] <;> rfl
      refine wp_value (hrun w) (.inl rfl) ?_
      refine r3 Kp μ _ w hr ?_ Q hq
      rw [s1]
      exact hs.put o.dst (hs.op hv)
end
end
end Go.Proofs.YteefpemaeecicaaGreatDoor.Ev
end
section
open Go
namespace Go.Proofs.YteefpemaeecicaaGreatDoor.Ev
set_option linter.unusedVariables false
set_option linter.unusedSimpArgs false
set_option linter.constructorNameAsVariable false
noncomputable section
/-- How code ends. -/
inductive Out (k : Nat) where
  | nrm (i : Nat) (G : Gm) (fr : Tr AV k) (e : Ve i) (h : Hp)
  | ext (id : Nat) (fr : Tr AV k) (h : Hp)
  | gto (l : Nat) (fr : Tr AV k) (h : Hp)
  | ret (v : AV) (h : Hp)
def OutYes {k : Nat} (cx : Cx k) (K : (i : Nat) → Gm → Oc k i) : Out k → Prop
  | .nrm i G fr e h => (K i G).run cx fr e h = .yes ∧ WfG i G
  | .ext id fr h => cx.e id fr h = .yes
  | .gto l fr h => cx.g l fr h = .yes
  | .ret v h => cx.r v h = .yes
def OutPost [Rho] {k : Nat} (P : Program) (E : Em) (fn : Func) (Kp : Kp) (μ0 : Mp) : Out k → Exit → Act → World → Prop
  | .nrm i G fr e h, .normal, a, w => ∃ μ, Ext μ0 μ ∧ SR E.n μ (envOf k E i G fr e) a ∧ MR Kp μ h w
  | .ext id fr h, .exit id', a, w => id' = id ∧ ∃ μ, Ext μ0 μ ∧ SR E.n μ (frEnv k E fr) a ∧ MR Kp μ h w
  | .gto l fr h, .goto l', a, w => l' = l ∧ ∃ μ, Ext μ0 μ ∧ SR E.n μ (frEnv k E fr) a ∧ MR Kp μ h w
  | .ret v h, .ret, a, w => ∃ μ, Ext μ0 μ ∧ a.defers = [] ∧ MR Kp μ h w ∧ ∃ v', VR μ v v' ∧ (results fn a.tmps).run P w = .ok v' w
  | _, _, _, _ => False
section
variable {P : Program} {T : Ty} {k : Nat} {E : Em} {fn : Func}
theorem OutPost.mono [Rho] {Kp : Kp} {μ0 μ1 : Mp} (hx : Ext μ0 μ1) {o : Out k} {e : Exit} {a : Act} {w : World} (h : OutPost P E fn Kp μ1 o e a w) : OutPost P E fn Kp μ0 o e a w := by
  cases o with
  | nrm i G fr e' h' => cases e <;> first | exact h.elim | (obtain ⟨μ, h1, h2⟩ := h; exact ⟨μ, hx.trans h1, h2⟩)
  | ext id fr h' => cases e <;> first | exact h.elim | (obtain ⟨h0, μ, h1, h2⟩ := h; exact ⟨h0, μ, hx.trans h1, h2⟩)
  | gto id fr h' => cases e <;> first | exact h.elim | (obtain ⟨h0, μ, h1, h2⟩ := h; exact ⟨h0, μ, hx.trans h1, h2⟩)
  | ret v h' => cases e <;> first | exact h.elim | (obtain ⟨μ, h1, h2⟩ := h; exact ⟨μ, hx.trans h1, h2⟩)
/-- Code does what an ending says. -/
def Does [Rho] (P : Program) (E : Em) (fn : Func) (c : Code) (S : Env) (h : Hp) (o : Out k) : Prop := ∀ Kp μ a w, MR Kp μ h w → SR E.n μ S a → c.wp P (OutPost P E fn Kp μ o) a w
def CodeW [Rho] (P : Program) (E : Em) (fn : Func) (c : Code) (K : (i : Nat) → Gm → Oc k i) (cx : Cx k) (S : Env) (h : Hp) : Prop := ∃ o, OutYes cx K o ∧ Does P E fn c S h o
structure CcOk [Rho] (P : Program) (E : Em) (fn : Func) (hn : H) (c : Code) (cc : Cc k) : Prop where
  it : ∀ K i G cx fr e h, cx.hn = hn → WfG i G → (cc.it K i G).run cx fr e h = .yes → CodeW P E fn c K cx (envOf k E i G fr e) h
  lab : ∀ l K cl, cc.lab l K = some cl → ∃ rest, findLabel c l = some rest ∧ ∀ cx fr h, cx.hn = hn → cl.run cx fr unitV h = .yes → CodeW P E fn rest K cx (frEnv k E fr) h
  non : ∀ l K, cc.lab l K = none → findLabel c l = none
theorem CcOk.nolab [Rho] {hn : H} {c : Code} {it : ((i : Nat) → Gm → Oc k i) → (i : Nat) → Gm → Oc k i} (hl : ∀ l, findLabel c l = none) (h : ∀ K i G cx fr e h, cx.hn = hn → WfG i G → (it K i G).run cx fr e h = .yes → CodeW P E fn c K cx (envOf k E i G fr e) h) : CcOk P E fn hn c ⟨it, noLab k⟩ :=
  ⟨h, fun l K cl e => (by cases e), fun l K _ => hl l⟩
/-- One piece behind another one. -/
theorem seqW [Rho] {hn : H} {x y : Code} {cy : Cc k} (hy : CcOk P E fn hn y cy) {K : (i : Nat) → Gm → Oc k i} {cx : Cx k} {S : Env} {h : Hp} (hcx : cx.hn = hn) (hx : CodeW P E fn x (cy.it K) cx S h) : CodeW P E fn (.seq x y) K cx S h := by
  obtain ⟨o, h1, h2⟩ := hx
  cases o with
  | nrm i G fr e h' =>
    obtain ⟨h3, h4⟩ := h1
    obtain ⟨o2, h5, h6⟩ := hy.it K i G cx fr e h' hcx h4 h3
    refine ⟨o2, h5, fun Kp μ a w hr hs => wp_seq (wp_mono (h2 Kp μ a w hr hs) fun ex a w hp => ?_)⟩
    cases ex <;> first | exact hp.elim | skip
    obtain ⟨μ', q1, q2, q3⟩ := hp
    exact wp_mono (h6 Kp μ' a w q3 q2) fun ex a w hp => hp.mono q1
  | ext id fr h' => exact ⟨.ext id fr h', h1, fun Kp μ a w hr hs => wp_seq (wp_mono (h2 Kp μ a w hr hs) fun ex a w hp => by cases ex <;> first | exact hp.elim | exact hp)⟩
  | gto id fr h' => exact ⟨.gto id fr h', h1, fun Kp μ a w hr hs => wp_seq (wp_mono (h2 Kp μ a w hr hs) fun ex a w hp => by cases ex <;> first | exact hp.elim | exact hp)⟩
  | ret v h' => exact ⟨.ret v h', h1, fun Kp μ a w hr hs => wp_seq (wp_mono (h2 Kp μ a w hr hs) fun ex a w hp => by cases ex <;> first | exact hp.elim | exact hp)⟩
/-- The end of a piece, flushed. -/
theorem flK_yes [Rho] (hE : EOk E) {i : Nat} {G : Gm} {cx : Cx k} {fr : Tr AV k} {e : Ve i} {h : Hp} (hG : WfG i G) (hy : (flK k E i G).run cx fr e h = .yes) :
    ∃ fr', cx.n fr' h = .yes ∧ ∀ μ a, SR E.n μ (envOf k E i G fr e) a → SR E.n μ (frEnv k E fr') a := by
  have hy' : (flush k E i G).run fr e (fun fr => cx.n fr h) = .yes := hy
  exact flush_spec hE hG hy'
/-- A piece whose end is flushed. -/
def inner (cx : Cx k) (K : (i : Nat) → Gm → Oc k i) : Cx k := ⟨cx.hn, fun fr h => (K 0 Gm.no).run cx fr unitV h, cx.e, cx.g, cx.r⟩
theorem flushW [Rho] (hE : EOk E) {c : Code} {cx : Cx k} {S : Env} {h : Hp} {i : Nat} {G : Gm} {fr : Tr AV k} {e : Ve i} {h' : Hp} (h1 : OutYes cx (flK k E) (.nrm i G fr e h')) (h2 : Does P E fn c S h (.nrm i G fr e h')) :
    ∃ fr', cx.n fr' h' = .yes ∧ Does P E fn c S h (.nrm 0 Gm.no fr' unitV h') := by
  obtain ⟨fr', q1, q2⟩ := flK_yes hE h1.2 h1.1
  refine ⟨fr', q1, fun Kp μ a w hr hs => wp_mono (h2 Kp μ a w hr hs) fun ex a w hp => ?_⟩
  cases ex <;> first | exact hp.elim | skip
  obtain ⟨μ', q3, q4, q5⟩ := hp
  exact ⟨μ', q3, q2 μ' a q4, q5⟩
theorem innerW [Rho] (hE : EOk E) {c : Code} {cx : Cx k} {K : (i : Nat) → Gm → Oc k i} {S : Env} {h : Hp} (hc : CodeW P E fn c (flK k E) (inner cx K) S h) : CodeW P E fn c K cx S h := by
  obtain ⟨o, h1, h2⟩ := hc
  cases o with
  | nrm i G fr e h' =>
    obtain ⟨fr', q1, q2⟩ := flushW hE h1 h2
    exact ⟨.nrm 0 Gm.no fr' unitV h', ⟨q1, WfG.no 0⟩, q2⟩
  | ext id fr h' => exact ⟨.ext id fr h', h1, h2⟩
  | gto id fr h' => exact ⟨.gto id fr h', h1, h2⟩
  | ret v h' => exact ⟨.ret v h', h1, h2⟩
theorem cond_ok [Rho] (hE : EOk E) {hn : H} {c : Operand} {x y : Code} {cx cy : Cc k} (hx : CcOk P E fn hn x cx) (hy : CcOk P E fn hn y cy) : CcOk P E fn hn (.cond c x y) ⟨condC k E c cx cy, noLab k⟩ := by
  refine CcOk.nolab (fun l => rfl) fun K i G c0 fr e h hc0 hG hrun => ?_
  simp only [condC] at hrun
  cases hq : opnd k E i G c with
  | none => rw [hq] at hrun; cases hrun
  | some g =>
    rw [hq] at hrun
    have hv := opnd_spec hq fr e
    obtain ⟨b, hb, h1⟩ := inv_b hrun
    rw [hb] at hv
    rcases inv_bif h1 with ⟨rfl, h2⟩ | ⟨rfl, h2⟩
    · have h3 : (cx.it (flK k E) i G).run (inner c0 K) fr e h = .yes := h2
      obtain ⟨o, q1, q2⟩ := innerW hE (hx.it _ i G _ fr e h hc0 hG h3)
      exact ⟨o, q1, fun Kp μ a w hr hs => wp_cond_true (hs.op hv).b_inv (q2 Kp μ a w hr hs)⟩
    · have h3 : (cy.it (flK k E) i G).run (inner c0 K) fr e h = .yes := h2
      obtain ⟨o, q1, q2⟩ := innerW hE (hy.it _ i G _ fr e h hc0 hG h3)
      exact ⟨o, q1, fun Kp μ a w hr hs => wp_cond_false (hs.op hv).b_inv (q2 Kp μ a w hr hs)⟩
theorem block_ok [Rho] (hE : EOk E) {hn : H} {id : Nat} {x : Code} {cx : Cc k} (hx : CcOk P E fn hn x cx) : CcOk P E fn hn (.block id x) ⟨blockC k E id cx, noLab k⟩ := by
  refine CcOk.nolab (fun l => rfl) fun K i G c0 fr e h hc0 hG hrun => ?_
  have h3 : (cx.it (flK k E) i G).run ⟨c0.hn, fun fr h => (K 0 Gm.no).run c0 fr unitV h, fun j fr h => (Bool.rec (motive := fun _ => Ans) (c0.e j fr h) ((K 0 Gm.no).run c0 fr unitV h) (Nat.beq j id)), c0.g, c0.r⟩ fr e h = .yes := hrun
  obtain ⟨o, h1, h2⟩ := hx.it _ i G ⟨c0.hn, fun fr h => (K 0 Gm.no).run c0 fr unitV h, fun j fr h => (Bool.rec (motive := fun _ => Ans) (c0.e j fr h) ((K 0 Gm.no).run c0 fr unitV h) (Nat.beq j id)), c0.g, c0.r⟩ fr e h hc0 hG h3
  cases o with
  | nrm i' G' fr' e' h' =>
    obtain ⟨fr2, q1, q2⟩ := flushW hE h1 h2
    refine ⟨.nrm 0 Gm.no fr2 unitV h', ⟨q1, WfG.no 0⟩, fun Kp μ a w hr hs => wp_block (wp_mono (q2 Kp μ a w hr hs) fun ex a w hp => ?_)⟩
    cases ex <;> first | exact hp.elim | exact hp
  | ext id' fr' h' =>
    have h4 : (Bool.rec (motive := fun _ => Ans) (c0.e id' fr' h') ((K 0 Gm.no).run c0 fr' unitV h') (Nat.beq id' id)) = .yes := h1
    rcases inv_bif h4 with ⟨e1, h5⟩ | ⟨e1, h5⟩
    · have e1 := beq_iff.1 e1
      subst e1
      refine ⟨.nrm 0 Gm.no fr' unitV h', ⟨h5, WfG.no 0⟩, fun Kp μ a w hr hs => wp_block (wp_mono (h2 Kp μ a w hr hs) fun ex a w hp => ?_)⟩
      cases ex <;> first | exact hp.elim | skip
      obtain ⟨rfl, q⟩ := hp
      simp only [Exit.inBlock, if_true]
      exact q
    · have e1 : id' ≠ id := fun hh => by rw [beq_iff.2 hh] at e1; cases e1
      refine ⟨.ext id' fr' h', h5, fun Kp μ a w hr hs => wp_block (wp_mono (h2 Kp μ a w hr hs) fun ex a w hp => ?_)⟩
      cases ex <;> first | exact hp.elim | skip
      obtain ⟨rfl, q⟩ := hp
      simp only [Exit.inBlock, if_neg e1]
      exact ⟨rfl, q⟩
  | gto l fr' h' =>
    exact ⟨.gto l fr' h', h1, fun Kp μ a w hr hs => wp_block (wp_mono (h2 Kp μ a w hr hs) fun ex a w hp => by cases ex <;> first | exact hp.elim | exact hp)⟩
  | ret v h' =>
    exact ⟨.ret v h', h1, fun Kp μ a w hr hs => wp_block (wp_mono (h2 Kp μ a w hr hs) fun ex a w hp => by cases ex <;> first | exact hp.elim | exact hp)⟩
/-! ### Loops -/
def LoopWp (P : Program) (c : Code) (Q : Exit → Act → World → Prop) (a : Act) (w : World) : Prop := ∀ (b : Frame) (k : List Item) (cs : List Frame), ∃ e a' w', Q e a' w' ∧ Arrives P (lone (b.at a (.code c :: .inLoop c :: k)) cs w) b k cs e a' w'
theorem loop_bind {c : Code} {Q Q1 : Exit → Act → World → Prop} {a : Act} {w : World} (hc : c.wp P Q1 a w) (hq : ∀ e a w, Q1 e a w → (match e with | .normal => LoopWp P c Q a w | e => Q e a w)) : LoopWp P c Q a w := by
  intro b k cs
  obtain ⟨e, a₁, w₁, h1, harr⟩ := hc b (.inLoop c :: k) cs
  have h2 := hq e a₁ w₁ h1
  cases e with
  | normal =>
    obtain ⟨e₂, a₂, w₂, hq₂, harr₂⟩ := h2 b k cs
    exact ⟨e₂, a₂, w₂, hq₂, .of_steps (Steps.trans harr (.one step_inLoop)) harr₂⟩
  | exit id => exact ⟨_, a₁, w₁, h2, .pass (x := .inLoop c) rfl (fun _ _ => .inl (by simp)) harr⟩
  | goto l => exact ⟨_, a₁, w₁, h2, .pass (x := .inLoop c) rfl (fun _ _ => .inl (by simp)) harr⟩
  | ret => exact ⟨_, a₁, w₁, h2, .pass (x := .inLoop c) rfl (fun _ _ => .inl (by simp)) harr⟩
  | panic ch => exact ⟨_, a₁, w₁, h2, .pass (x := .inLoop c) rfl (fun _ _ => .inl (by simp)) harr⟩
  | outgrown => exact ⟨_, a₁, w₁, h2, .pass (x := .inLoop c) rfl (fun _ _ => .inl (by simp)) harr⟩
theorem loop_wp {c : Code} {Q : Exit → Act → World → Prop} {a : Act} {w : World} (h : LoopWp P c Q a w) : (Code.loop c).wp P Q a w := fun b k cs =>
  let ⟨e, a', w', hq, harr⟩ := h b k cs
  ⟨e, a', w', hq, .of_steps (.one step_loop) harr⟩
theorem LoopWp.mono {c : Code} {Q Q' : Exit → Act → World → Prop} {a : Act} {w : World} (h : LoopWp P c Q a w) (hq : ∀ e a w, Q e a w → Q' e a w) : LoopWp P c Q' a w := fun b k cs =>
  let ⟨e, a', w', h1, harr⟩ := h b k cs
  ⟨e, a', w', hq _ _ _ h1, harr⟩
theorem loop_ok [Rho] (hE : EOk E) {hn : H} {x : Code} {cx : Cc k} (hx : CcOk P E fn hn x cx) : CcOk P E fn hn (.loop x) ⟨fun _ => loopC k E cx, noLab k⟩ := by
  refine CcOk.nolab (fun l => rfl) fun K i G c0 fr e h hc0 hG hrun => ?_
  let lp : Nat → Tr AV k → Hp → Ans := fun n => (nrec n (fun _ _ => Ans.no) (fun _ self fr h => (Oc.rec (motive := fun _ => Ans) (fun run => run ⟨c0.hn, self, c0.e, c0.g, c0.r⟩ fr unitV h) (cx.it (flK k E) 0 Gm.no))) : Tr AV k → Hp → Ans)
  have key : ∀ (n : Nat) (fr : Tr AV k) (h : Hp), lp n fr h = .yes →
      ∃ o, (∀ K, OutYes c0 K o) ∧ ∀ Kp μ a w, MR Kp μ h w → SR E.n μ (frEnv k E fr) a → LoopWp P x (OutPost P E fn Kp μ o) a w := by
    intro n
    induction n with
    | zero => intro fr h hh; cases hh
    | succ n ih =>
      intro fr h hh
      have h3 : (cx.it (flK k E) 0 Gm.no).run ⟨c0.hn, lp n, c0.e, c0.g, c0.r⟩ fr unitV h = .yes := hh
      obtain ⟨o, h1, h2⟩ := hx.it _ 0 Gm.no ⟨c0.hn, lp n, c0.e, c0.g, c0.r⟩ fr unitV h hc0 (WfG.no 0) h3
      cases o with
      | nrm i' G' fr' e' h' =>
        obtain ⟨fr2, q1, q2⟩ := flushW hE h1 h2
        obtain ⟨o2, q3, q4⟩ := ih fr2 h' q1
        refine ⟨o2, q3, fun Kp μ a w hr hs => loop_bind (q2 Kp μ a w hr hs) fun ex a w hp => ?_⟩
        cases ex <;> first | exact hp.elim | skip
        obtain ⟨μ', p1, p2, p3⟩ := hp
        exact (q4 Kp μ' a w p3 p2).mono fun e a w hp => hp.mono p1
      | ext id fr' h' => exact ⟨.ext id fr' h', fun _ => h1, fun Kp μ a w hr hs => loop_bind (h2 Kp μ a w hr hs) fun ex a w hp => by cases ex <;> first | exact hp.elim | exact hp⟩
      | gto id fr' h' => exact ⟨.gto id fr' h', fun _ => h1, fun Kp μ a w hr hs => loop_bind (h2 Kp μ a w hr hs) fun ex a w hp => by cases ex <;> first | exact hp.elim | exact hp⟩
      | ret v h' => exact ⟨.ret v h', fun _ => h1, fun Kp μ a w hr hs => loop_bind (h2 Kp μ a w hr hs) fun ex a w hp => by cases ex <;> first | exact hp.elim | exact hp⟩
  have hrun' : (flush k E i G).run fr e (fun fr => lp loopFuel fr h) = .yes := hrun
  obtain ⟨fr', q1, q2⟩ := flush_spec hE hG hrun'
  obtain ⟨o, h1, h2⟩ := key loopFuel fr' h q1
  exact ⟨o, h1 K, fun Kp μ a w hr hs => loop_wp (h2 Kp μ a w hr (q2 μ a hs))⟩
/-! ### Scopes -/
def ScopeWp (P : Program) (c : Code) (Q : Exit → Act → World → Prop) (rest : Code) (a : Act) (w : World) : Prop := ∀ (b : Frame) (k : List Item) (cs : List Frame), ∃ e a' w', Q e a' w' ∧ Arrives P (lone (b.at a (.code rest :: .inScope c :: k)) cs w) b k cs e a' w'
theorem ScopeWp.mono {c r : Code} {Q Q' : Exit → Act → World → Prop} {a : Act} {w : World} (h : ScopeWp P c Q r a w) (hq : ∀ e a w, Q e a w → Q' e a w) : ScopeWp P c Q' r a w := fun b k cs =>
  let ⟨e, a', w', h1, harr⟩ := h b k cs
  ⟨e, a', w', hq _ _ _ h1, harr⟩
theorem scope_bind {c rest : Code} {Q Q1 : Exit → Act → World → Prop} {a : Act} {w : World} (hc : rest.wp P Q1 a w)
    (hq : ∀ e a w, Q1 e a w → (match e with | .goto l => (findLabel c l = none ∧ Q (.goto l) a w) ∨ ∃ r, findLabel c l = some r ∧ ScopeWp P c Q r a w | e => Q e a w)) : ScopeWp P c Q rest a w := by
  intro b k cs
  obtain ⟨e, a₁, w₁, h1, harr⟩ := hc b (.inScope c :: k) cs
  have h2 := hq e a₁ w₁ h1
  cases e with
  | normal => exact ⟨.normal, a₁, w₁, h2, Steps.trans harr (.one step_inScope)⟩
  | exit id => exact ⟨.exit id, a₁, w₁, h2, fun k' hk => harr k' (by simp [exitTo, hk])⟩
  | goto l =>
    rcases h2 with ⟨h3, h4⟩ | ⟨r, h3, h4⟩
    · exact ⟨.goto l, a₁, w₁, h4, fun k' hk => harr k' (by simp [gotoIn, h3, hk])⟩
    · obtain ⟨e₂, a₂, w₂, hq₂, harr₂⟩ := h4 b k cs
      exact ⟨e₂, a₂, w₂, hq₂, .of_steps (harr _ (by simp [gotoIn, h3])) harr₂⟩
  | ret => exact ⟨_, a₁, w₁, h2, harr⟩
  | panic ch => exact ⟨_, a₁, w₁, h2, harr⟩
  | outgrown => exact ⟨_, a₁, w₁, h2, harr⟩
theorem scope_wp {c : Code} {Q : Exit → Act → World → Prop} {a : Act} {w : World} (h : ScopeWp P c Q c a w) : (Code.scope c).wp P Q a w := fun b k cs =>
  let ⟨e, a', w', hq, harr⟩ := h b k cs
  ⟨e, a', w', hq, .of_steps (.one step_scope) harr⟩
theorem scope_ok [Rho] (hE : EOk E) {hn : H} {x : Code} {cx : Cc k} (hx : CcOk P E fn hn x cx) : CcOk P E fn hn (.scope x) ⟨scopeC k E cx, noLab k⟩ := by
  refine CcOk.nolab (fun l => rfl) fun K i G c0 fr e h hc0 hG hrun => ?_
  let self : Nat → Nat → Tr AV k → Hp → Ans := fun n => (nrec n (fun _ _ _ => Ans.no) (fun _ self l fr h => (Option.rec (motive := fun _ => Ans) (c0.g l fr h) (fun c => (Oc.rec (motive := fun _ => Ans) (fun run => run ⟨c0.hn, (fun fr h => (Oc.rec (motive := fun _ => Ans) (fun run => run c0 fr unitV h) (K 0 Gm.no))), c0.e, self, c0.r⟩ fr unitV h) c)) (cx.lab l (flK k E)))) : Nat → Tr AV k → Hp → Ans)
  -- what a piece within the scope makes of it
  have piece : ∀ (n : Nat) (rest : Code) (S : Env) (h : Hp) (o : Out k), OutYes ⟨c0.hn, fun fr h => (K 0 Gm.no).run c0 fr unitV h, c0.e, self n, c0.r⟩ (flK k E) o → Does P E fn rest S h o →
      (∀ l fr h, self n l fr h = .yes → ∃ o', OutYes c0 K o' ∧ ((findLabel x l = none ∧ o' = .gto l fr h) ∨ ∃ r, findLabel x l = some r ∧ ∀ Kp μ a w, MR Kp μ h w → SR E.n μ (frEnv k E fr) a → ScopeWp P x (OutPost P E fn Kp μ o') r a w)) →
      ∃ o', OutYes c0 K o' ∧ ∀ Kp μ a w, MR Kp μ h w → SR E.n μ S a → ScopeWp P x (OutPost P E fn Kp μ o') rest a w := by
    intro n rest S h o h1 h2 hg
    cases o with
    | nrm i' G' fr' e' h' =>
      obtain ⟨fr2, q1, q2⟩ := flushW hE h1 h2
      refine ⟨.nrm 0 Gm.no fr2 unitV h', ⟨q1, WfG.no 0⟩, fun Kp μ a w hr hs => scope_bind (q2 Kp μ a w hr hs) fun ex a w hp => ?_⟩
      cases ex <;> first | exact hp.elim | exact hp
    | ext id fr' h' =>
      refine ⟨.ext id fr' h', h1, fun Kp μ a w hr hs => scope_bind (h2 Kp μ a w hr hs) fun ex a w hp => ?_⟩
      cases ex <;> first | exact hp.elim | exact hp
    | ret v h' =>
      refine ⟨.ret v h', h1, fun Kp μ a w hr hs => scope_bind (h2 Kp μ a w hr hs) fun ex a w hp => ?_⟩
      cases ex <;> first | exact hp.elim | exact hp
    | gto l fr' h' =>
      obtain ⟨o', q1, q2⟩ := hg l fr' h' h1
      refine ⟨o', q1, fun Kp μ a w hr hs => scope_bind (h2 Kp μ a w hr hs) fun ex a w hp => ?_⟩
      cases ex <;> first | exact hp.elim | skip
      obtain ⟨rfl, μ', p1, p2, p3⟩ := hp
      rcases q2 with ⟨q3, rfl⟩ | ⟨r, q3, q4⟩
      · exact .inl ⟨q3, rfl, μ', p1, p2, p3⟩
      · exact .inr ⟨r, q3, (q4 Kp μ' a w p3 p2).mono fun e a w hp => hp.mono p1⟩
  have gotos : ∀ (n : Nat) l fr h, self n l fr h = .yes → ∃ o', OutYes c0 K o' ∧ ((findLabel x l = none ∧ o' = .gto l fr h) ∨ ∃ r, findLabel x l = some r ∧ ∀ Kp μ a w, MR Kp μ h w → SR E.n μ (frEnv k E fr) a → ScopeWp P x (OutPost P E fn Kp μ o') r a w) := by
    intro n
    induction n with
    | zero => intro l fr h hh; cases hh
    | succ n ih =>
      intro l fr h hh
      have h3 : (Option.rec (motive := fun _ => Ans) (c0.g l fr h) (fun c => (Oc.rec (motive := fun _ => Ans) (fun run => run ⟨c0.hn, (fun fr h => (Oc.rec (motive := fun _ => Ans) (fun run => run c0 fr unitV h) (K 0 Gm.no))), c0.e, self n, c0.r⟩ fr unitV h) c)) (cx.lab l (flK k E))) = .yes := hh
      cases hl : cx.lab l (flK k E) with
      | none =>
        rw [hl] at h3
        exact ⟨.gto l fr h, h3, .inl ⟨hx.non l _ hl, rfl⟩⟩
      | some cl =>
        rw [hl] at h3
        obtain ⟨rest, r1, r2⟩ := hx.lab l _ cl hl
        have h4 : cl.run ⟨c0.hn, fun fr h => (K 0 Gm.no).run c0 fr unitV h, c0.e, self n, c0.r⟩ fr unitV h = .yes := h3
        obtain ⟨o, h5, h6⟩ := r2 ⟨c0.hn, fun fr h => (K 0 Gm.no).run c0 fr unitV h, c0.e, self n, c0.r⟩ fr h hc0 h4
        obtain ⟨o', p1, p2⟩ := piece n rest _ h o h5 h6 ih
        exact ⟨o', p1, .inr ⟨rest, r1, p2⟩⟩
  have h3 : (cx.it (flK k E) i G).run ⟨c0.hn, fun fr h => (K 0 Gm.no).run c0 fr unitV h, c0.e, self 1000, c0.r⟩ fr e h = .yes := hrun
  obtain ⟨o, h1, h2⟩ := hx.it _ i G ⟨c0.hn, fun fr h => (K 0 Gm.no).run c0 fr unitV h, c0.e, self 1000, c0.r⟩ fr e h hc0 hG h3
  obtain ⟨o', p1, p2⟩ := piece 1000 x _ h o h1 h2 (gotos 1000)
  exact ⟨o', p1, fun Kp μ a w hr hs => scope_wp (p2 Kp μ a w hr hs)⟩
end
end
end Go.Proofs.YteefpemaeecicaaGreatDoor.Ev
end
section
open Go
namespace Go.Proofs.YteefpemaeecicaaGreatDoor.Ev
set_option linter.unusedVariables false
set_option linter.unusedSimpArgs false
set_option linter.constructorNameAsVariable false
noncomputable section
section
variable {P : Program} {T : Ty} {k : Nat} {E : Em} {fn : Func}
/-- What is asked of the regions that draw. -/
def DrawOk [Rho] (P : Program) (E : Em) (hn : H) (rd : List Oper → ((i : Nat) → Gm → Oc k i) → (i : Nat) → Gm → Oc k i) : Prop :=
  ∀ (ops : Array Oper) (K : (i : Nat) → Gm → Oc k i) (i : Nat) (G : Gm) (cx : Cx k) (fr : Tr AV k) (e : Ve i) (h : Hp), cx.hn = hn → WfG i G → (rd ops.toList K i G).run cx fr e h = .yes →
    ∃ i' G' e' h', (K i' G').run cx fr e' h' = .yes ∧ WfG i' G' ∧ ∀ Kp μ a w, MR Kp μ h w → SR E.n μ (envOf k E i G fr e) a → ∀ Q, (∀ μ' a' w', Ext μ μ' → SR E.n μ' (envOf k E i' G' fr e') a' → MR Kp μ' h' w' → Q .normal a' w') → wpAny P .any ops Q ops.size (Array.replicate ops.size false) a { w with drawn := w.drawn + 1 }
/-! ### What a call gives back -/
def resRun (tmps : Array Value) : ResultVar → Sem Value
  | .tmp t => pure (tmps.getD t undef)
  | .cell a t => do loadVar t (← asAddr (tmps.getD a undef))
theorem resK_cons (T : Ty) (r : ResultVar) (rs : List ResultVar) (i : Nat) (G : Gm) : resK T k E (r :: rs) i G = (match r with
    | .tmp t => (Option.rec (motive := fun _ => Ov k i) (badV k i) (fun x => Gv.rec (motive := fun _ => Ov k i) (fun x => ⟨fun fr e _ kk => kk (x fr e)⟩) x) (opnd k E i G (.tmp t)))
    | .cell a t => (Option.rec (motive := fun _ => Ov k i) (badV k i) (fun x => Gv.rec (motive := fun _ => Ov k i) (fun x => match shp T t with | some (_, 0) => ⟨fun fr e h kk => fLoad1 (x fr e) h kk⟩ | some (s, f) => ⟨fun fr e h kk => fLoadA s f (x fr e) h kk⟩ | none => badV k i) x) (opnd k E i G (.tmp a)))) :: resK T k E rs i G := rfl
theorem res_one [Rho] (hT : TyOk P T) {r : ResultVar} {i : Nat} {G : Gm} {fr : Tr AV k} {e : Ve i} {h : Hp} {kk : AV → Ans} {g : Ov k i} {rest : List (Ov k i)} (hl : resK T k E [r] i G = g :: rest) (hy : g.run fr e h kk = .yes) :
    ∃ v, kk v = .yes ∧ ∀ Kp μ a w, MR Kp μ h w → SR E.n μ (envOf k E i G fr e) a → ∃ v', VR μ v v' ∧ (resRun a.tmps r).run P w = .ok v' w := by
  rw [resK_cons] at hl
  have hg := (List.cons.inj hl).1
  cases r with
  | tmp t =>
    simp only at hg
    cases hq : opnd k E i G (.tmp t) with
    | none => rw [hq] at hg; subst hg; cases hy
    | some x =>
      rw [hq] at hg
      subst hg
      have hv := opnd_spec hq fr e
      exact ⟨_, hy, fun Kp μ a w hr hs => ⟨_, hs.op hv, rfl⟩⟩
  | cell a t =>
    simp only at hg
    cases hq : opnd k E i G (.tmp a) with
    | none => rw [hq] at hg; subst hg; cases hy
    | some x =>
      rw [hq] at hg
      have hv := opnd_spec hq fr e
      have fin : ∀ (v : AV) (hk : kk v = .yes) (hp : ∀ μ u, VR μ (x.run fr e) u → ∃ ad, u = .pointer (some ad)) (hl : ∀ K μ w x', MR K μ h w → VR μ (x.run fr e) x' → ∃ v', VR μ v v' ∧ (Instr.loadAt t x').run P w = .ok v' w), ∃ v, kk v = .yes ∧ ∀ Kp μ a' w, MR Kp μ h w → SR E.n μ (envOf k E i G fr e) a' → ∃ v', VR μ v v' ∧ (resRun a'.tmps (.cell a t)).run P w = .ok v' w := by
        intro v hk hp hl
        refine ⟨v, hk, fun Kp μ a' w hr hs => ?_⟩
        have hx := hs.op hv
        obtain ⟨v', q1, q2⟩ := hl Kp μ w _ hr hx
        obtain ⟨ad, he⟩ := hp _ _ hx
        have he' : a'.tmps.getD a undef = .pointer (some ad) := he
        refine ⟨v', q1, ?_⟩
        rw [he] at q2
        simp only [Instr.loadAt, Instr.sureAddr, Sem.run_bind, Sem.run_pure, Result.andThen_ok] at q2
        simp only [resRun, he', asAddr, Sem.run_bind, Sem.run_pure, Result.andThen_ok]
        exact q2
      have hg' : (match shp T t with | some (_, 0) => (⟨fun fr e h kk => fLoad1 (x.run fr e) h kk⟩ : Ov k i) | some (s, f) => ⟨fun fr e h kk => fLoadA s f (x.run fr e) h kk⟩ | none => badV k i) = g := hg
      cases hs : shp T t with
      | none => rw [hs] at hg'; subst hg'; cases hy
      | some sf =>
        obtain ⟨s, f⟩ := sf
        rw [hs] at hg'
        cases f with
        | zero =>
          simp only at hg'
          subst hg'
          have hy' : fLoad1 (x.run fr e) h kk = .yes := hy
          obtain ⟨v, h1, h2⟩ := load1_l1 hT hs (x.run fr e) h kk hy'
          refine fin v h1 (fun μ u hu => ?_) h2
          rcases inv_py_ hy' with ⟨nm, off, hp, _⟩ | ⟨j, e', hp, h5⟩
          · rw [hp] at hu
            obtain ⟨bk, _, he⟩ := hu.p_inv
            exact ⟨_, he⟩
          · rw [hp] at hu
            obtain ⟨q1, _⟩ := inv_if h5
            obtain ⟨k', ad, _, he, _⟩ := hu.yp_inv (ble_iff.1 (and_eq.1 q1).1)
            exact ⟨_, he⟩
        | succ f =>
          simp only at hg'
          subst hg'
          have hy' : fLoadA s (f + 1) (x.run fr e) h kk = .yes := hy
          obtain ⟨v, h1, h2⟩ := loadA_l1 hT hs (x.run fr e) h kk hy'
          obtain ⟨nm, off, hp, _⟩ := inv_p hy'
          refine fin v h1 (fun μ u hu => ?_) h2
          rw [hp] at hu
          obtain ⟨bk, _, he⟩ := hu.p_inv
          exact ⟨_, he⟩
theorem res_all [Rho] (hT : TyOk P T) {i : Nat} {G : Gm} {fr : Tr AV k} {e : Ve i} {h : Hp} : ∀ (rs : List ResultVar) {kk : List AV → Ans}, (lrec (resK T k E rs i G) (fun kk => kk []) (fun g _ ih kk => (Ov.rec (motive := fun _ => Ans) (fun run => run fr e h fun v => ih fun vs => kk (v :: vs)) g)) : (List AV → Ans) → Ans) kk = .yes →
    ∃ vs, kk vs = .yes ∧ vs.length = rs.length ∧ ∀ Kp μ a w, MR Kp μ h w → SR E.n μ (envOf k E i G fr e) a → ∃ xs, VRs μ vs xs ∧ (rs.mapM (resRun a.tmps)).run P w = .ok xs w
  | [], kk, hy => ⟨[], hy, rfl, fun Kp μ a w hr hs => ⟨[], VRs.nil μ, rfl⟩⟩
  | r :: rs, kk, hy => by
    rw [resK_cons] at hy
    generalize hg : (match r with
      | .tmp t => (Option.rec (motive := fun _ => Ov k i) (badV k i) (fun x => Gv.rec (motive := fun _ => Ov k i) (fun x => ⟨fun fr e _ kk => kk (x fr e)⟩) x) (opnd k E i G (.tmp t)))
      | .cell a t => (Option.rec (motive := fun _ => Ov k i) (badV k i) (fun x => Gv.rec (motive := fun _ => Ov k i) (fun x => match shp T t with | some (_, 0) => ⟨fun fr e h kk => fLoad1 (x fr e) h kk⟩ | some (s, f) => ⟨fun fr e h kk => fLoadA s f (x fr e) h kk⟩ | none => badV k i) x) (opnd k E i G (.tmp a)))) = g at hy
    have hl : resK T k E [r] i G = g :: [] := by rw [resK_cons, hg]; rfl
    have hy' : g.run fr e h (fun v => (lrec (resK T k E rs i G) (fun kk => kk []) (fun g _ ih kk => (Ov.rec (motive := fun _ => Ans) (fun run => run fr e h fun v => ih fun vs => kk (v :: vs)) g)) : (List AV → Ans) → Ans) fun vs => kk (v :: vs)) = .yes := hy
    obtain ⟨v, h1, h2⟩ := res_one hT hl hy'
    obtain ⟨vs, h3, h4, h5⟩ := res_all hT rs h1
    refine ⟨v :: vs, h3, by simp [h4], fun Kp μ a w hr hs => ?_⟩
    obtain ⟨v', q1, q2⟩ := h2 Kp μ a w hr hs
    obtain ⟨xs, q3, q4⟩ := h5 Kp μ a w hr hs
    refine ⟨v' :: xs, VRs.cons q1 q3, ?_⟩
    rw [List.mapM_cons, Sem.run_bind, q2, Result.andThen_ok, Sem.run_bind, q4]
    rfl
theorem results_eq (fn : Func) (tmps : Array Value) {xs : List Value} {w : World} (h : (fn.results.toList.mapM (resRun tmps)).run P w = .ok xs w) :
    (results fn tmps).run P w = .ok (match xs with | [x] => x | _ => .tuple xs.toArray) w := by
  have hm : (fn.results.mapM (resRun tmps)).run P w = .ok xs.toArray w := by
    rw [Array.mapM_eq_mapM_toList, Sem.run_map, h]; rfl
  have he : results fn tmps = (do let vs ← fn.results.mapM (resRun tmps); pure (if h : vs.size = 1 then vs[0] else .tuple vs)) := by
    unfold results
    congr 1
  rw [he, Sem.run_bind, hm, Result.andThen_ok]
  rcases xs with _ | ⟨x, _ | ⟨y, xs⟩⟩ <;> rfl
theorem resG_yes [Rho] (hT : TyOk P T) {i : Nat} {G : Gm} {cx : Cx k} {fr : Tr AV k} {e : Ve i} {h : Hp} (hy : (resG T k E fn.results.toList i G).run cx fr e h = .yes) :
    ∃ v, cx.r v h = .yes ∧ ∀ Kp μ a w, MR Kp μ h w → SR E.n μ (envOf k E i G fr e) a → ∃ v', VR μ v v' ∧ (results fn a.tmps).run P w = .ok v' w := by
  generalize hrs : fn.results.toList = rs at hy
  have tup : ∀ μ (vs : List AV) (xs : List Value), VRs μ vs xs → VR μ (.tu vs) (.tuple xs.toArray) := fun μ vs xs hv => .tu vs _ (by simpa using hv.1) (fun i u c hu hc => hv.2 i u c hu (by simpa using hc))
  rcases rs with _ | ⟨r, _ | ⟨r2, rs⟩⟩
  · refine ⟨.tu [], hy, fun Kp μ a w hr hs => ⟨.tuple #[], tup μ [] [] (VRs.nil μ), ?_⟩⟩
    exact results_eq (xs := []) fn a.tmps (by rw [hrs]; rfl)
  · generalize hl : resK T k E [r] i G = l
    have hy' := hy
    unfold resG at hy'
    simp only [hl] at hy'
    cases l with
    | nil => rw [resK_cons] at hl; cases hl
    | cons g rest =>
      have hrest : rest = [] := by rw [resK_cons] at hl; exact (List.cons.inj hl).2.symm
      subst hrest
      have hy2 : g.run fr e h (fun v => cx.r v h) = .yes := hy'
      obtain ⟨v, h1, h2⟩ := res_one hT hl hy2
      refine ⟨v, h1, fun Kp μ a w hr hs => ?_⟩
      obtain ⟨v', q1, q2⟩ := h2 Kp μ a w hr hs
      refine ⟨v', q1, results_eq (xs := [v']) fn a.tmps ?_⟩
      rw [hrs, List.mapM_cons, Sem.run_bind, q2]
      rfl
  · have hy2 : (lrec (resK T k E (r :: r2 :: rs) i G) (fun kk => kk []) (fun g _ ih kk => (Ov.rec (motive := fun _ => Ans) (fun run => run fr e h fun v => ih fun vs => kk (v :: vs)) g)) : (List AV → Ans) → Ans) (fun vs => cx.r (.tu vs) h) = .yes := by
      have hy' := hy
      unfold resG at hy'
      simp only [resK_cons] at hy' ⊢
      exact hy'
    obtain ⟨vs, h1, h3, h2⟩ := res_all hT _ hy2
    refine ⟨.tu vs, h1, fun Kp μ a w hr hs => ?_⟩
    obtain ⟨xs, q1, q2⟩ := h2 Kp μ a w hr hs
    refine ⟨.tuple xs.toArray, tup μ vs xs q1, ?_⟩
    have := results_eq fn a.tmps (xs := xs) (by rw [hrs]; exact q2)
    have hlen : xs.length = rs.length + 2 := by rw [q1.1, h3]; rfl
    rcases xs with _ | ⟨x, _ | ⟨y, xs⟩⟩
    · simp at hlen
    · simp at hlen
    · exact this
/-! ### All of the code -/
theorem seq_ok [Rho] {hn : H} {x y : Code} {cx cy : Cc k} (hx : CcOk P E fn hn x cx) (hy : CcOk P E fn hn y cy) : CcOk P E fn hn (.seq x y) ⟨fun K => cx.it (cy.it K), fun l K => (Option.rec (motive := fun _ => Option (Oc k 0)) (cy.lab l K) (fun c => some c) (cx.lab l (cy.it K)))⟩ := by
  refine ⟨fun K i G c0 fr e h hc hG hrun => seqW hy hc (hx.it _ i G c0 fr e h hc hG hrun), fun l K cl hl => ?_, fun l K hl => ?_⟩
  · cases h1 : cx.lab l (cy.it K) with
    | some c =>
      simp only [h1] at hl
      have hl' : some c = some cl := hl
      cases hl'
      obtain ⟨rest, r1, r2⟩ := hx.lab l _ cl h1
      refine ⟨.seq rest y, by simp [findLabel, r1], fun c0 fr h hc hrun => ?_⟩
      exact seqW hy hc (r2 c0 fr h hc hrun)
    | none =>
      simp only [h1] at hl
      obtain ⟨rest, r1, r2⟩ := hy.lab l K cl hl
      exact ⟨rest, by simp [findLabel, hx.non l _ h1, r1], r2⟩
  · cases h1 : cx.lab l (cy.it K) with
    | some c => simp only [h1] at hl; cases hl
    | none =>
      simp only [h1] at hl
      simp [findLabel, hx.non l _ h1, hy.non l K hl]
theorem comp_ok [Rho] {hn : H} (hS : HSound P hn) (hT : TyOk P T) (hO : StructOk P T) (hE : EOk E) (hM : P.follows .mixedOrders = true) {rd : List Oper → ((i : Nat) → Gm → Oc k i) → (i : Nat) → Gm → Oc k i} (hD : DrawOk P E hn rd) (c : Code) : CcOk P E fn hn c (comp T k E fn.results.toList rd c) := by
  have nrm : ∀ {c : Code} {K : (i : Nat) → Gm → Oc k i} {cx : Cx k} {S : Env} {h : Hp} {i' : Nat} {G' : Gm} {fr : Tr AV k} {e' : Ve i'} {h' : Hp}, (K i' G').run cx fr e' h' = .yes → WfG i' G' → (∀ Kp μ a w, MR Kp μ h w → SR E.n μ S a → ∀ Q : Exit → Act → World → Prop, (∀ μ' a' w', Ext μ μ' → SR E.n μ' (envOf k E i' G' fr e') a' → MR Kp μ' h' w' → Q .normal a' w') → c.wp P Q a w) → CodeW P E fn c K cx S h :=
    fun h1 h2 h3 => ⟨.nrm _ _ _ _ _, ⟨h1, h2⟩, fun Kp μ a w hr hs => h3 Kp μ a w hr hs _ fun μ' a' w' q1 q2 q3 => ⟨μ', q1, q2, q3⟩⟩
  induction c with
  | skip => exact CcOk.nolab (fun l => rfl) fun K i G c0 fr e h hc hG hrun => nrm hrun hG fun Kp μ a w hr hs Q hq => wp_skip (hq μ a w (Ext.refl μ) hs hr)
  | region id ops d =>
    cases d with
    | false =>
      refine CcOk.nolab (fun l => rfl) fun K i G c0 fr e h hc hG hrun => ?_
      obtain ⟨i', G', e', h', h1, h2, h3⟩ := regS_yes hS hT hO hE hc ops.toList 0 i G e h hG rfl hrun
      refine nrm h1 h2 fun Kp μ a w hr hs Q hq => wp_region ?_
      have := h3 Kp μ a w hr hs Q hq
      rw [List.range_eq_range']
      exact this
    | true =>
      refine CcOk.nolab (fun l => rfl) fun K i G c0 fr e h hc hG hrun => ?_
      obtain ⟨i', G', e', h', h1, h2, h3⟩ := hD ops K i G c0 fr e h hc hG hrun
      exact nrm h1 h2 fun Kp μ a w hr hs Q hq => wp_region_any hM (h3 Kp μ a w hr hs Q hq)
  | seq x y ihx ihy => exact seq_ok ihx ihy
  | cond c x y ihx ihy => exact cond_ok hE ihx ihy
  | block id x ih => exact block_ok hE ih
  | loop x ih => exact loop_ok hE ih
  | rangeFunc a b c d => exact CcOk.nolab (fun l => rfl) fun K i G c0 fr e h hc hG hrun => by cases hrun
  | exit id =>
    refine CcOk.nolab (fun l => rfl) fun K i G c0 fr e h hc hG hrun => ?_
    have hrun' : (flush k E i G).run fr e (fun fr => c0.e id fr h) = .yes := hrun
    obtain ⟨fr', q1, q2⟩ := flush_spec hE hG hrun'
    exact ⟨.ext id fr' h, q1, fun Kp μ a w hr hs => wp_exit ⟨rfl, μ, Ext.refl μ, q2 μ a hs, hr⟩⟩
  | scope x ih => exact scope_ok hE ih
  | label l =>
    refine ⟨fun K i G c0 fr e h hc hG hrun => nrm hrun hG fun Kp μ a w hr hs Q hq => wp_label (hq μ a w (Ext.refl μ) hs hr), fun l' K cl hl => ?_, fun l' K hl => ?_⟩
    · have hl' : bif_ (Nat.beq l l') (some (K 0 Gm.no)) none = some cl := hl
      rw [bif_eq] at hl'
      split at hl'
      · rename_i he
        have he := beq_iff.1 he
        subst he
        cases hl'
        exact ⟨.skip, by simp [findLabel], fun c0 fr h hc hrun => nrm hrun (WfG.no 0) fun Kp μ a w hr hs Q hq => wp_skip (hq μ a w (Ext.refl μ) hs hr)⟩
      · cases hl'
    · have hl' : bif_ (Nat.beq l l') (some (K 0 Gm.no)) none = none := hl
      rw [bif_eq] at hl'
      split at hl'
      · cases hl'
      · rename_i he
        have : l ≠ l' := fun e => he (beq_iff.2 e)
        simp [findLabel, this]
  | goto l =>
    refine CcOk.nolab (fun l => rfl) fun K i G c0 fr e h hc hG hrun => ?_
    have hrun' : (flush k E i G).run fr e (fun fr => c0.g l fr h) = .yes := hrun
    obtain ⟨fr', q1, q2⟩ := flush_spec hE hG hrun'
    exact ⟨.gto l fr' h, q1, fun Kp μ a w hr hs => wp_goto ⟨rfl, μ, Ext.refl μ, q2 μ a hs, hr⟩⟩
  | ret =>
    refine CcOk.nolab (fun l => rfl) fun K i G c0 fr e h hc hG hrun => ?_
    obtain ⟨v, h1, h2⟩ := resG_yes (fn := fn) hT hrun
    exact ⟨.ret v h, h1, fun Kp μ a w hr hs => wp_ret ⟨μ, Ext.refl μ, hs.defs, hr, h2 Kp μ a w hr hs⟩⟩
  | refuse s => exact CcOk.nolab (fun l => rfl) fun K i G c0 fr e h hc hG hrun => by cases hrun
end
end
end Go.Proofs.YteefpemaeecicaaGreatDoor.Ev
end
section
open Go
namespace Go.Proofs.YteefpemaeecicaaGreatDoor.Ev
set_option linter.unusedVariables false
set_option linter.unusedSimpArgs false
set_option linter.constructorNameAsVariable false
noncomputable section
theorem takeA_yes : ∀ (i : Nat) (l : List AV) (kk : Ve i → List AV → Ans), takeA i l kk = .yes → ∃ e, kk e (l.drop i) = .yes ∧ i ≤ l.length ∧ ∀ j, j < i → eAt i e (i - 1 - j) = l[j]?
  | 0, l, kk, h => ⟨(), h, Nat.zero_le _, fun j hj => by omega⟩
  | i + 1, l, kk, h => by
    have h' : takeA i l (fun e l => (List.rec (motive := fun _ => Ans) Ans.no (fun a t _ => kk (⟨a, e⟩ : Ce (Ve i)) t) l)) = .yes := h
    obtain ⟨e, h1, h2, h3⟩ := takeA_yes i l _ h'
    obtain ⟨a, t, ht, h4⟩ := inv_cons h1
    have hlen : i < l.length := by
      have := congrArg List.length ht
      simp at this
      omega
    have ha : l[i]? = some a := by
      have := congrArg (·[0]?) ht
      simpa using this
    have ht' : l.drop (i + 1) = t := by
      have := congrArg List.tail ht
      simpa using this
    refine ⟨(⟨a, e⟩ : Ce (Ve i)), by rw [ht']; exact h4, hlen, fun j hj => ?_⟩
    by_cases hji : j = i
    · subst hji
      rw [show j + 1 - 1 - j = 0 by omega, ha]
      rfl
    · rw [show i + 1 - 1 - j = (i - 1 - j) + 1 by omega]
      exact h3 j (by omega)
theorem argG_spec : ∀ (m : Nat), m ≤ 512 → ∀ t, t < 512 → (argG m).at t = if t < m then some (.lvl t) else none
  | 0, _, t, ht => by rw [if_neg (by omega)]; exact Gm.at_no t
  | m + 1, hm, t, ht => by
    show ((argG m).to m (.lvl m)).at t = _
    rw [Gm.at_to _ _ ht (by omega), argG_spec m (by omega) t ht]
    by_cases h : t = m
    · subst h; rw [if_pos rfl, if_pos (by omega)]
    · rw [if_neg h]
      by_cases h2 : t < m
      · rw [if_pos h2, if_pos (by omega)]
      · rw [if_neg h2, if_neg (by omega)]
theorem EOk.of (n : Nat) (l : List Nat) (hn : n ≤ 512) : EOk (Em.of n l) := by
  refine ⟨hn, fun t p ht h => ?_⟩
  have gen : ∀ (r : List Nat) (q : Nat) (tr : Tr (Option Nat) 3), (∀ t p, t < 512 → tget 3 (paK 3 t) tr = some p → l[p]? = some t) → l.drop q = r →
      ∀ t p, t < 512 → tget 3 (paK 3 t) ((lrec r (fun (_ : Nat) t => t) (fun a _ ih p t => ih (Nat.succ p) (bif_ (Nat.ble (Nat.succ a) 512) (tset 3 (paK 3 a) t (some p)) t)) : Nat → Tr (Option Nat) 3 → Tr (Option Nat) 3) q tr) = some p → l[p]? = some t := by
    intro r
    induction r with
    | nil => intro q tr h0 _ t p ht h; exact h0 t p ht h
    | cons a r ih =>
      intro q tr h0 hd t p ht h
      have ha : l[q]? = some a := by
        have := congrArg (·[0]?) hd
        simpa using this
      have hd' : l.drop (q + 1) = r := by
        have := congrArg List.tail hd
        simpa using this
      refine ih (q + 1) _ (fun t2 p2 ht2 h3 => ?_) hd' t p ht h
      rw [bif_eq] at h3
      split at h3
      · rename_i ha5
        have ha5 : a < 512 := ble_iff.1 ha5
        rw [tget_eq, tset_eq, Tr.get_set 3 tr _ (by omega) (by omega)] at h3
        split at h3
        · rename_i e
          have h4 : q = p2 := by simpa using h3
          rw [e, ← h4]; exact ha
        · exact h0 t2 p2 ht2 (by rw [tget_eq]; exact h3)
      · exact h0 t2 p2 ht2 h3
  exact gen l 0 (fillT none 3) (fun t p ht h => by rw [tget_eq, fillT_get] at h; cases h) rfl t p ht h
/-- A function's closure is sound. -/
def FcOk [Rho] (P : Program) (f : FuncId) (c : Fc) : Prop := ∀ hn, HSound P hn → ∀ l h kk, c.run hn l h kk = .yes → Enter P f ∧ ∃ v h', kk v h' = .yes ∧ ∀ K μ w (args : Array Value), MR K μ h w → VRs μ l args.toList →
  Calls P f args w (fun e w' => ∃ μ' v', e = .returned v' ∧ Ext μ μ' ∧ VR μ' v v' ∧ MR K μ' h' w')
section
variable {P : Program} {T : Ty}
/-- What is asked of the program, once and for all. -/
structure ProgOk [Rho] (P : Program) (T : Ty) : Prop where
  types : TyOk P T
  structs : StructOk P T
  mixed : P.follows .mixedOrders = true
  names : ∀ (f : FuncId) (fn : Func), P.funcs[f]? = some fn → fn.body.isSome = true → fn.name ≠ "runtime.NumGoroutine"
  draw : ∀ (k : Nat) (E : Em) (hn : H), EOk E → HSound P hn → DrawOk P E hn (regD T k E)
theorem cfn_ok [Rho] (hP : ProgOk P T) {f : FuncId} {fn : Func} {c : Code} (hf : P.funcs[f]? = some fn) (hb : fn.body = some c) (fi : Fi) (h1 : fn.params.size + fn.nfree ≤ fn.ntmps) (h2 : fn.params.size + fn.nfree ≤ 512) :
    FcOk P f (cfn T fi fn.ntmps (fn.params.size + fn.nfree) fn.results.toList c) := by
  intro hn hS l h kk hy
  refine ⟨⟨fn, hf, by rw [hb]; rfl, hP.names f fn hf (by rw [hb]; rfl)⟩, ?_⟩
  generalize hm : fn.params.size + fn.nfree = m at h1 h2 hy
  have hE : EOk (Em.of (minN fn.ntmps 512) fi.E) := EOk.of _ _ (by rw [minN_eq]; omega)
  generalize hEq : Em.of (minN fn.ntmps 512) fi.E = E at hE
  have hEn : E.n = min fn.ntmps 512 := by rw [← hEq, ← minN_eq]; rfl
  have hy' : takeA m l (fun e rest => (List.rec (motive := fun _ => Ans) (((comp T fi.k E fn.results.toList (regD T fi.k E) c).it (resG T fi.k E fn.results.toList) m (argG m)).run ⟨hn, fun _ _ => Ans.no, fun _ _ _ => Ans.no, fun _ _ _ => Ans.no, kk⟩ (fillT .u fi.k) e h) (fun _ _ _ => Ans.no) rest)) = .yes := by
    rw [← hEq]; exact hy
  obtain ⟨e, h3, h4, h5⟩ := takeA_yes m l _ hy'
  obtain ⟨hl, h6⟩ := inv_nil h3
  have hlen : l.length = m := by
    have := congrArg List.length hl
    simp at this
    omega
  have hG : WfG m (argG m) := fun t j ht hg => by
    rw [argG_spec m h2 t ht] at hg
    split at hg
    · cases hg; assumption
    · cases hg
  have hC := comp_ok (fn := fn) hS hP.types hP.structs hE hP.mixed (hP.draw fi.k E hn hE hS) c
  obtain ⟨o, h7, h8⟩ := hC.it _ m (argG m) ⟨hn, fun _ _ => Ans.no, fun _ _ _ => Ans.no, fun _ _ _ => Ans.no, kk⟩ (fillT .u fi.k) e h rfl hG h6
  have hstart : ∀ μ (args : Array Value), VRs μ l args.toList → SR E.n μ (envOf fi.k E m (argG m) (fillT .u fi.k) e) { tmps := args ++ Array.replicate (fn.ntmps - args.size) undef, defers := [] } := by
    intro μ args hv
    have hsz : args.size = m := by have := hv.1; simp at this; omega
    refine ⟨by simp; omega, rfl, fun t v hv' => ?_, fun t v hv' => ?_⟩
    · have hv2 : (srcOf fi.k E (argG m) t).bind (srcV fi.k m (fillT .u fi.k) e) = some v := hv'
      rw [srcOf_eq] at hv2
      split at hv2
      · assumption
      · cases hv2
    · have hv2 : (srcOf fi.k E (argG m) t).bind (srcV fi.k m (fillT .u fi.k) e) = some v := hv'
      rw [srcOf_eq] at hv2
      split at hv2
      · rename_i ht
        rw [argG_spec m h2 t (by omega)] at hv2
        by_cases htm : t < m
        · rw [if_pos htm] at hv2
          have hv3 : (if t < m then eAt m e (m - 1 - t) else none) = some v := hv2
          rw [if_pos htm, h5 t htm] at hv3
          obtain ⟨c, q1, q2⟩ := hv.at hv3
          have hlt : t < args.size := by omega
          have hget : (args ++ Array.replicate (fn.ntmps - args.size) undef).getD t undef = c := by
            have q1' : args[t]? = some c := by simpa using q1
            rw [Array.getD_eq_getD_getElem?, Array.getElem?_append_left hlt, q1']
            rfl
          show VR μ v ((args ++ Array.replicate (fn.ntmps - args.size) undef).getD t undef)
          rw [hget]
          exact q2
        · rw [if_neg htm] at hv2
          simp only at hv2
          cases hp : tget 3 (paK 3 t) E.t with
          | none => rw [hp] at hv2; cases hv2
          | some p =>
            rw [hp] at hv2
            simp only at hv2
            split at hv2
            · have hv3 : some (Tr.get (α := AV) fi.k (paK fi.k p) (fillT .u fi.k)) = some v := hv2
              rw [fillT_get] at hv3
              cases hv3
              exact .u _
            · cases hv2
      · cases hv2
  cases o with
  | nrm i' G' fr' e' h' =>
    obtain ⟨v, q1, q2⟩ := resG_yes (fn := fn) hP.types h7.1
    refine ⟨v, h', q1, fun K μ w args hr hv => calls_of_wp hf hb (wp_mono (h8 K μ _ w hr (hstart μ args hv)) fun ex a w' hp => ?_)⟩
    cases ex <;> first | exact hp.elim | skip
    obtain ⟨μ', p1, p2, p3⟩ := hp
    obtain ⟨v', r1, r2⟩ := q2 K μ' a w' p3 p2
    exact ⟨p2.defs, v', r2, μ', v', rfl, p1, r1, p3⟩
  | ext id fr' h' => cases h7
  | gto id fr' h' => cases h7
  | ret v h' =>
    refine ⟨v, h', h7, fun K μ w args hr hv => calls_of_wp hf hb (wp_mono (h8 K μ _ w hr (hstart μ args hv)) fun ex a w' hp => ?_)⟩
    cases ex <;> first | exact hp.elim | skip
    obtain ⟨μ', p1, p2, p3, v', r1, r2⟩ := hp
    exact ⟨p2, v', r2, μ', v', rfl, p1, r1, p3⟩
/-- The table of functions is the program's. -/
def FsOk (P : Program) (Fs : Tr (Option Func) 4) : Prop := ∀ f fn, f < 4096 → tget 4 (paK 4 f) Fs = some fn → P.funcs[f]? = some fn
theorem fnc_ok [Rho] (hP : ProgOk P T) {Fs : Tr (Option Func) 4} (hF : FsOk P Fs) (fis : Nat → Fi) (f : Nat) : FcOk P f (fnc T Fs fis f) := by
  intro hn hS l h kk hy
  unfold fnc at hy
  split at hy
  · cases hy
  · rename_i fn hfn
    split at hfn
    · rename_i hlt
      have hf := hF f fn hlt hfn
      split at hy
      · cases hy
      · rename_i body hb
        rw [bif_eq] at hy
        split at hy
        · rename_i hc
          obtain ⟨c1, c2⟩ := and_eq.1 hc
          exact cfn_ok hP hf hb (fis f) (ble_iff.1 c1) (ble_iff.1 c2) hn hS l h kk hy
        · cases hy
    · cases hfn
/-- Functions by their numbers, so deep. -/
def callsN (runF : Nat → Fc) (n : Nat) : H := nrec n ⟨fun _ _ _ _ => .no⟩ (fun _ ih => ⟨fun f args h kk => Fc.rec (motive := fun _ => Ans) (fun run => run ih args h kk) (runF f)⟩)
theorem callsN_ok [Rho] {runF : Nat → Fc} (hR : ∀ f, FcOk P f (runF f)) : ∀ n, HSound P (callsN runF n)
  | 0 => fun f l h kk hy => by cases hy
  | n + 1 => fun f l h kk hy => by
    have hy' : (runF f).run (callsN runF n) l h kk = .yes := hy
    exact hR f _ (callsN_ok hR n) l h kk hy'
end
end
end Go.Proofs.YteefpemaeecicaaGreatDoor.Ev
end
