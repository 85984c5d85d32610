/- Templates of memories: what is matched belongs, under other names, of other unknowns. No condition. -/
import Derived.Test.YteefpemaeecicaaGreatDoorExRun
section
open Go Go.RowKit
namespace Go.Proofs.YteefpemaeecicaaGreatDoor.Ev
set_option linter.unusedVariables false
set_option linter.unusedSimpArgs false
set_option linter.constructorNameAsVariable false
noncomputable section
/-- Unknowns that are expressions of others. -/
@[reducible] def Rho.sub [R : Rho] (σ : List Ex) : Rho := { n := fun i => den (getE σ i), v := Rho.v, vc := Rho.vc, inp := Rho.inp }
theorem den_inst [R : Rho] (σ : List Ex) : ∀ e, @den (Rho.sub σ) e = den (instE σ e)
  | .var i => rfl
  | .lit n => rfl
  | .op c w a b => by
    show exD c w (@den (Rho.sub σ) a) (@den (Rho.sub σ) b) = exD c w (den (instE σ a)) (den (instE σ b))
    rw [den_inst σ a, den_inst σ b]
theorem numE_den [Rho] : ∀ (e : Ex) {g : Nat → Bool}, numE e g = true → g (den e) = true
  | .var i, g, h => by cases (show false = true from h)
  | .lit n, g, h => h
  | .op c w a b, g, h => numE_den b (g := fun y => g (exD c w (den a) y)) (numE_den a (g := fun x => numE b fun y => g (exD c w x y)) h)
/-! ### Names -/
def lk (ps : List (Nm × Nm)) (n : Nm) : Option Nm := match ps with
  | [] => none
  | (x, y) :: t => if x = n then some y else lk t n
def mpS (ps : List (Nm × Nm)) (μ : Mp) : Mp := fun n => (lk ps n).bind μ
theorem nm_beq {a b : Nm} : Nm.beq a b = true ↔ a = b := by rw [Nm.beq_eq]; exact decide_eq_true_iff
theorem lk_cons (x y n : Nm) (t : List (Nm × Nm)) : lk ((x, y) :: t) n = if x = n then some y else lk t n := rfl
theorem nmOk_cons (x y n m : Nm) (t : List (Nm × Nm)) : nmOk ((x, y) :: t) n m = bif_ (Nm.beq x n) (Nm.beq y m) (nmOk t n m) := rfl
theorem renN_cons (x y n : Nm) (t : List (Nm × Nm)) : renN ((x, y) :: t) n = bif_ (Nm.beq x n) y (renN t n) := rfl
theorem nmOk_lk (ps : List (Nm × Nm)) {n m : Nm} (h : nmOk ps n m = true) : lk ps n = some m := by
  induction ps with
  | nil => cases (show false = true from h)
  | cons p t ih =>
    obtain ⟨x, y⟩ := p
    rw [nmOk_cons, bif_eq] at h
    rw [lk_cons]
    by_cases e : x = n
    · rw [if_pos (nm_beq.2 e)] at h; rw [if_pos e]; exact congrArg some (nm_beq.1 h)
    · rw [if_neg (fun hb => e (nm_beq.1 hb))] at h; rw [if_neg e]; exact ih h
theorem renN_lk (ps : List (Nm × Nm)) (n : Nm) : renN ps n = (lk ps n).getD n := by
  induction ps with
  | nil => rfl
  | cons p t ih =>
    obtain ⟨x, y⟩ := p
    rw [renN_cons, bif_eq, lk_cons]
    by_cases e : x = n
    · rw [if_pos (nm_beq.2 e), if_pos e]; rfl
    · rw [if_neg (fun hb => e (nm_beq.1 hb)), if_neg e]; exact ih
theorem lk_mem {ps : List (Nm × Nm)} {n m : Nm} (h : lk ps n = some m) : (n, m) ∈ ps := by
  induction ps with
  | nil => exact nomatch h
  | cons p t ih =>
    obtain ⟨x, y⟩ := p
    rw [lk_cons] at h
    by_cases e : x = n
    · rw [if_pos e] at h
      rw [← e, ← Option.some.inj h]
      exact List.mem_cons_self
    · rw [if_neg e] at h; exact List.mem_cons_of_mem _ (ih h)
theorem lk_some {ps : List (Nm × Nm)} {n m : Nm} (h : (n, m) ∈ ps) : ∃ m', lk ps n = some m' := by
  induction ps with
  | nil => exact nomatch h
  | cons p t ih =>
    obtain ⟨x, y⟩ := p
    rw [lk_cons]
    by_cases e : x = n
    · exact ⟨y, if_pos e⟩
    · rw [if_neg e]
      rcases List.mem_cons.1 h with h | h
      · exact (e (congrArg Prod.fst h).symm).elim
      · exact ih h
/-! ### Values -/
section
variable {ps : List (Nm × Nm)} {σ : List Ex}
theorem n8_get {α : Type} (t : N8 α) (d : D8) : nget t d = D8.rec (motive := fun _ => α) t.a0 t.a1 t.a2 t.a3 t.a4 t.a5 t.a6 t.a7 d := by cases d <;> rfl
theorem ren_a1 (s : Nat) (t : N8 AV) : ∃ t', renA ps σ (.a1 s t) = .a1 s t' ∧ ∀ p : Pa 1, Tr.get (α := AV) 1 p t' = renA ps σ (Tr.get (α := AV) 1 p t) := by
  obtain ⟨a0, a1, a2, a3, a4, a5, a6, a7⟩ := t
  exact ⟨⟨renA ps σ a0, renA ps σ a1, renA ps σ a2, renA ps σ a3, renA ps σ a4, renA ps σ a5, renA ps σ a6, renA ps σ a7⟩, rfl, fun ⟨d, _⟩ => by cases d <;> rfl⟩
def n8m {α β : Type} (f : α → β) (t : N8 α) : N8 β := ⟨f t.a0, f t.a1, f t.a2, f t.a3, f t.a4, f t.a5, f t.a6, f t.a7⟩
theorem n8m_get {α β : Type} (f : α → β) (t : N8 α) (d : D8) : nget (n8m f t) d = f (nget t d) := by cases d <;> rfl
theorem ren_a2 (s : Nat) (t : N8 (N8 AV)) : ∃ t', renA ps σ (.a2 s t) = .a2 s t' ∧ ∀ p : Pa 2, Tr.get (α := AV) 2 p t' = renA ps σ (Tr.get (α := AV) 2 p t) := by
  refine ⟨n8m (n8m (renA ps σ)) t, ?_, fun ⟨d, ⟨d', _⟩⟩ => ?_⟩
  · obtain ⟨⟨⟩, ⟨⟩, ⟨⟩, ⟨⟩, ⟨⟩, ⟨⟩, ⟨⟩, ⟨⟩⟩ := t
    rfl
  · show nget (nget (n8m (n8m (renA ps σ)) t) d) d' = renA ps σ (nget (nget t d) d')
    rw [n8m_get, n8m_get]
theorem ren_a3 (s : Nat) (t : N8 (N8 (N8 AV))) : ∃ t', renA ps σ (.a3 s t) = .a3 s t' ∧ ∀ p : Pa 3, Tr.get (α := AV) 3 p t' = renA ps σ (Tr.get (α := AV) 3 p t) := by
  refine ⟨n8m (n8m (n8m (renA ps σ))) t, ?_, fun ⟨d, ⟨d', ⟨d'', _⟩⟩⟩ => ?_⟩
  · obtain ⟨⟨⟨⟩, ⟨⟩, ⟨⟩, ⟨⟩, ⟨⟩, ⟨⟩, ⟨⟩, ⟨⟩⟩, ⟨⟨⟩, ⟨⟩, ⟨⟩, ⟨⟩, ⟨⟩, ⟨⟩, ⟨⟩, ⟨⟩⟩, ⟨⟨⟩, ⟨⟩, ⟨⟩, ⟨⟩, ⟨⟩, ⟨⟩, ⟨⟩, ⟨⟩⟩, ⟨⟨⟩, ⟨⟩, ⟨⟩, ⟨⟩, ⟨⟩, ⟨⟩, ⟨⟩, ⟨⟩⟩, ⟨⟨⟩, ⟨⟩, ⟨⟩, ⟨⟩, ⟨⟩, ⟨⟩, ⟨⟩, ⟨⟩⟩, ⟨⟨⟩, ⟨⟩, ⟨⟩, ⟨⟩, ⟨⟩, ⟨⟩, ⟨⟩, ⟨⟩⟩, ⟨⟨⟩, ⟨⟩, ⟨⟩, ⟨⟩, ⟨⟩, ⟨⟩, ⟨⟩, ⟨⟩⟩, ⟨⟨⟩, ⟨⟩, ⟨⟩, ⟨⟩, ⟨⟩, ⟨⟩, ⟨⟩, ⟨⟩⟩⟩ := t
    rfl
  · show nget (nget (nget (n8m (n8m (n8m (renA ps σ))) t) d) d') d'' = renA ps σ (nget (nget (nget t d) d') d'')
    rw [n8m_get, n8m_get, n8m_get]
/-! What is matched, componentwise. -/
def n8b {α β : Type} (f : α → β → Bool) (t : N8 α) (u : N8 β) : Bool := and_ (and_ (and_ (f t.a0 u.a0) (f t.a1 u.a1)) (and_ (f t.a2 u.a2) (f t.a3 u.a3))) (and_ (and_ (f t.a4 u.a4) (f t.a5 u.a5)) (and_ (f t.a6 u.a6) (f t.a7 u.a7)))
theorem n8b_get {α β : Type} {f : α → β → Bool} {t : N8 α} {u : N8 β} (h : n8b f t u = true) (d : D8) : f (nget t d) (nget u d) = true := by
  obtain ⟨h1, h2⟩ := and_eq.1 h
  obtain ⟨h3, h4⟩ := and_eq.1 h1
  obtain ⟨h5, h6⟩ := and_eq.1 h2
  obtain ⟨k0, k1⟩ := and_eq.1 h3
  obtain ⟨k2, k3⟩ := and_eq.1 h4
  obtain ⟨k4, k5⟩ := and_eq.1 h5
  obtain ⟨k6, k7⟩ := and_eq.1 h6
  cases d
  · exact k0
  · exact k1
  · exact k2
  · exact k3
  · exact k4
  · exact k5
  · exact k6
  · exact k7
theorem mtc_a1 {s s' : Nat} {t t' : N8 AV} (h : mtcV ps σ (.a1 s t) (.a1 s' t') = true) : s = s' ∧ ∀ p : Pa 1, mtcV ps σ (Tr.get (α := AV) 1 p t) (Tr.get (α := AV) 1 p t') = true := by
  have e : mtcV ps σ (.a1 s t) (.a1 s' t') = and_ (Nat.beq s s') (n8b (mtcV ps σ) t t') := by
    obtain ⟨⟩ := t
    obtain ⟨⟩ := t'
    rfl
  rw [e] at h
  obtain ⟨h1, h2⟩ := and_eq.1 h
  exact ⟨beq_iff.1 h1, fun ⟨d, _⟩ => n8b_get h2 d⟩
theorem mtc_a2 {s s' : Nat} {t t' : N8 (N8 AV)} (h : mtcV ps σ (.a2 s t) (.a2 s' t') = true) : s = s' ∧ ∀ p : Pa 2, mtcV ps σ (Tr.get (α := AV) 2 p t) (Tr.get (α := AV) 2 p t') = true := by
  have e : mtcV ps σ (.a2 s t) (.a2 s' t') = and_ (Nat.beq s s') (n8b (n8b (mtcV ps σ)) t t') := by
    obtain ⟨⟨⟩, ⟨⟩, ⟨⟩, ⟨⟩, ⟨⟩, ⟨⟩, ⟨⟩, ⟨⟩⟩ := t
    obtain ⟨⟨⟩, ⟨⟩, ⟨⟩, ⟨⟩, ⟨⟩, ⟨⟩, ⟨⟩, ⟨⟩⟩ := t'
    rfl
  rw [e] at h
  obtain ⟨h1, h2⟩ := and_eq.1 h
  exact ⟨beq_iff.1 h1, fun ⟨d, ⟨d', _⟩⟩ => n8b_get (n8b_get h2 d) d'⟩
theorem mtc_a3 {s s' : Nat} {t t' : N8 (N8 (N8 AV))} (h : mtcV ps σ (.a3 s t) (.a3 s' t') = true) : s = s' ∧ ∀ p : Pa 3, mtcV ps σ (Tr.get (α := AV) 3 p t) (Tr.get (α := AV) 3 p t') = true := by
  have e : mtcV ps σ (.a3 s t) (.a3 s' t') = and_ (Nat.beq s s') (n8b (n8b (n8b (mtcV ps σ))) t t') := by
    obtain ⟨⟨⟨⟩, ⟨⟩, ⟨⟩, ⟨⟩, ⟨⟩, ⟨⟩, ⟨⟩, ⟨⟩⟩, ⟨⟨⟩, ⟨⟩, ⟨⟩, ⟨⟩, ⟨⟩, ⟨⟩, ⟨⟩, ⟨⟩⟩, ⟨⟨⟩, ⟨⟩, ⟨⟩, ⟨⟩, ⟨⟩, ⟨⟩, ⟨⟩, ⟨⟩⟩, ⟨⟨⟩, ⟨⟩, ⟨⟩, ⟨⟩, ⟨⟩, ⟨⟩, ⟨⟩, ⟨⟩⟩, ⟨⟨⟩, ⟨⟩, ⟨⟩, ⟨⟩, ⟨⟩, ⟨⟩, ⟨⟩, ⟨⟩⟩, ⟨⟨⟩, ⟨⟩, ⟨⟩, ⟨⟩, ⟨⟩, ⟨⟩, ⟨⟩, ⟨⟩⟩, ⟨⟨⟩, ⟨⟩, ⟨⟩, ⟨⟩, ⟨⟩, ⟨⟩, ⟨⟩, ⟨⟩⟩, ⟨⟨⟩, ⟨⟩, ⟨⟩, ⟨⟩, ⟨⟩, ⟨⟩, ⟨⟩, ⟨⟩⟩⟩ := t
    obtain ⟨⟨⟨⟩, ⟨⟩, ⟨⟩, ⟨⟩, ⟨⟩, ⟨⟩, ⟨⟩, ⟨⟩⟩, ⟨⟨⟩, ⟨⟩, ⟨⟩, ⟨⟩, ⟨⟩, ⟨⟩, ⟨⟩, ⟨⟩⟩, ⟨⟨⟩, ⟨⟩, ⟨⟩, ⟨⟩, ⟨⟩, ⟨⟩, ⟨⟩, ⟨⟩⟩, ⟨⟨⟩, ⟨⟩, ⟨⟩, ⟨⟩, ⟨⟩, ⟨⟩, ⟨⟩, ⟨⟩⟩, ⟨⟨⟩, ⟨⟩, ⟨⟩, ⟨⟩, ⟨⟩, ⟨⟩, ⟨⟩, ⟨⟩⟩, ⟨⟨⟩, ⟨⟩, ⟨⟩, ⟨⟩, ⟨⟩, ⟨⟩, ⟨⟩, ⟨⟩⟩, ⟨⟨⟩, ⟨⟩, ⟨⟩, ⟨⟩, ⟨⟩, ⟨⟩, ⟨⟩, ⟨⟩⟩, ⟨⟨⟩, ⟨⟩, ⟨⟩, ⟨⟩, ⟨⟩, ⟨⟩, ⟨⟩, ⟨⟩⟩⟩ := t'
    rfl
  rw [e] at h
  obtain ⟨h1, h2⟩ := and_eq.1 h
  exact ⟨beq_iff.1 h1, fun ⟨d, ⟨d', ⟨d'', _⟩⟩⟩ => n8b_get (n8b_get (n8b_get h2 d) d') d''⟩
theorem mtc_a0 {s s' : Nat} {t t' : AV} (h : mtcV ps σ (.a0 s t) (.a0 s' t') = true) : s = s' ∧ mtcV ps σ t t' = true := by
  obtain ⟨h1, h2⟩ := and_eq.1 (show and_ (Nat.beq s s') (mtcV ps σ t t') = true from h)
  exact ⟨beq_iff.1 h1, h2⟩
/-- Under other names, of other unknowns. -/
theorem VR.ren [R : Rho] {μ1 μ' : Mp} (hm : ∀ n bk, μ1 n = some bk → μ' (renN ps n) = some bk) {p : AV} {v : Value} (h : @VR (Rho.sub σ) μ1 p v) : VR μ' (renA ps σ p) v := by
  induction h with
  | u v => exact .u v
  | x k r z hz => exact .x k r z hz
  | b x => exact .b x
  | n k u hu => exact .n k u hu
  | y k e =>
    have he : renA ps σ (.y (kc k) e) = .y (kc k) (instE σ e) := by cases k <;> rfl
    rw [he, den_inst σ e]
    exact .y k _
  | yo i => exact .yo i
  | ys l =>
    have he : ∀ l : List Ex, instE σ (mkE l) = mkE (l.map (instE σ)) := fun l => by
      induction l with
      | nil => rfl
      | cons a l ih => show Ex.op 0 0 (instE σ a) (instE σ (mkE l)) = _; rw [ih]; rfl
    have hr : renA ps σ (.y 9 (mkE l)) = .y 9 (mkE (l.map (instE σ))) := by
      show AV.y 9 (instE σ (mkE l)) = _
      rw [he]
    have hl : (l.map fun x => @den (Rho.sub σ) x % 256) = ((l.map (instE σ)).map fun x => den x % 256) := by
      rw [List.map_map]
      exact List.map_congr_left fun x _ => by rw [den_inst σ x]; rfl
    rw [hr, hl]
    exact .ys _
  | yl k le l a n cap h1 h2 h3 h4 h5 =>
    have he : ∀ l : List Ex, instE σ (mkE l) = mkE (l.map (instE σ)) := fun l => by
      induction l with
      | nil => rfl
      | cons a l ih => show Ex.op 0 0 (instE σ a) (instE σ (mkE l)) = _; rw [ih]; rfl
    have hr : renA ps σ (.y (16 + kc k) (.op 0 0 le (mkE l))) = .y (16 + kc k) (.op 0 0 (instE σ le) (mkE (l.map (instE σ)))) := by
      have : renA ps σ (.y (16 + kc k) (.op 0 0 le (mkE l))) = .y (16 + kc k) (.op 0 0 (instE σ le) (instE σ (mkE l))) := by cases k <;> rfl
      rw [this, he]
    have hl : (l.map fun x => @den (Rho.sub σ) x % km k) = ((l.map (instE σ)).map fun x => den x % km k) := by
      rw [List.map_map]
      exact List.map_congr_left fun x _ => by rw [den_inst σ x]; rfl
    rw [hl] at h1
    rw [den_inst σ le] at h5
    rw [hr]
    exact .yl k _ _ a n cap h1 (by rw [List.length_map]; exact h2) h3 h4 h5
  | yp k e a h1 =>
    have hr : renA ps σ (.y (24 + kc k) e) = .y (24 + kc k) (instE σ e) := by cases k <;> rfl
    rw [den_inst σ e] at h1
    rw [hr]
    exact .yp k _ a h1
  | yf e x h =>
    rw [den_inst σ e] at h
    exact .yf (instE σ e) x h
  | yc e1 e2 a b h1 h2 =>
    rw [den_inst σ e1] at h1
    rw [den_inst σ e2] at h2
    exact .yc (instE σ e1) (instE σ e2) a b h1 h2
  | f z x hz => exact .f z x hz
  | c x y a b hx hy => exact .c x y a b hx hy
  | s l hl => exact .s l hl
  | p0 => exact .p0
  | p nm off bk e => exact .p _ off bk (hm _ _ e)
  | sl0 => exact .sl0
  | sl nm off len cap bk e h1 h2 => exact .sl _ off len cap bk (hm _ _ e) h1 h2
  | so nm off len bk cap e h1 h2 h3 => exact .so _ off len bk cap (hm _ _ e) h1 h2 h3
  | se a cap => exact .se a cap
  | m0 => exact .m0
  | m nm bk e => exact .m _ bk (hm _ _ e)
  | fn0 => exact .fn0
  | fn f a b x y h1 h2 _ _ i1 i2 =>
    have hl : ∀ l : List AV, ∃ l' : List AV, l' = l.map (renA ps σ) := fun l => ⟨_, rfl⟩
    have hr : renA ps σ (.fn f a b) = .fn f (a.map (renA ps σ)) (b.map (renA ps σ)) := by
      have key : ∀ l : List AV, renA ps σ (.tu l) = .tu (l.map (renA ps σ)) := fun l => by
        induction l with
        | nil => rfl
        | cons a l ih =>
          have ih := AV.tu.inj ih
          show AV.tu (renA ps σ a :: _) = _
          exact congrArg (fun t => AV.tu (renA ps σ a :: t)) ih
      have e1 := AV.tu.inj (key a)
      have e2 := AV.tu.inj (key b)
      exact congr (congrArg (AV.fn f) e1) e2
    rw [hr]
    refine .fn f _ _ x y (by simp [h1]) (by simp [h2]) (fun i u c hu hc => ?_) (fun i u c hu hc => ?_)
    · rw [List.getElem?_map, Option.map_eq_some_iff] at hu
      obtain ⟨u0, h0, rfl⟩ := hu
      exact i1 i u0 c h0 hc
    · rw [List.getElem?_map, Option.map_eq_some_iff] at hu
      obtain ⟨u0, h0, rfl⟩ := hu
      exact i2 i u0 c h0 hc
  | if0 => exact .if0
  | tu l x h1 _ i1 =>
    have key : ∀ l : List AV, renA ps σ (.tu l) = .tu (l.map (renA ps σ)) := fun l => by
      induction l with
      | nil => rfl
      | cons a l ih =>
        have ih := AV.tu.inj ih
        show AV.tu (renA ps σ a :: _) = _
        exact congrArg (fun t => AV.tu (renA ps σ a :: t)) ih
    rw [key]
    refine .tu _ x (by simp [h1]) (fun i u c hu hc => ?_)
    rw [List.getElem?_map, Option.map_eq_some_iff] at hu
    obtain ⟨u0, h0, rfl⟩ := hu
    exact i1 i u0 c h0 hc
  | a0 s t x h1 h2 h3 _ i => exact .a0 s _ x h1 h2 h3 i
  | a1 s t x h1 h2 h3 _ i =>
    obtain ⟨t', e1, e2⟩ := ren_a1 (ps := ps) (σ := σ) s t
    rw [e1]
    exact .a1 s t' x h1 h2 h3 fun j c hc => by rw [e2]; exact i j c hc
  | a2 s t x h1 h2 h3 _ i =>
    obtain ⟨t', e1, e2⟩ := ren_a2 (ps := ps) (σ := σ) s t
    rw [e1]
    exact .a2 s t' x h1 h2 h3 fun j c hc => by rw [e2]; exact i j c hc
  | a3 s t x h1 h2 h3 _ i =>
    obtain ⟨t', e1, e2⟩ := ren_a3 (ps := ps) (σ := σ) s t
    rw [e1]
    exact .a3 s t' x h1 h2 h3 fun j c hc => by rw [e2]; exact i j c hc
/-- A number that is matched. -/
theorem VR.mtcN [R : Rho] {μ μ2 : Mp} {k : IntKind} {e : Ex} {a : AV} {v : Value} (hj : Ev.mtcN σ (kc k) e a = true) (h : VR μ a v) : @VR (Rho.sub σ) μ2 (.y (kc k) e) v := by
  have fin : ∀ k' : IntKind, kc k = kc k' → v = .int k' (k'.wrap (den (instE σ e) % km k' : Nat)) → @VR (Rho.sub σ) μ2 (.y (kc k) e) v := fun k' hk hv => by
    cases kc_inj hk
    rw [hv, ← den_inst σ e]
    exact @VR.y (Rho.sub σ) μ2 k e
  cases a with
  | n j x =>
    obtain ⟨h1, h2⟩ := and_eq.1 (show and_ (Nat.beq (kc k) j) (numE (instE σ e) fun y => Nat.beq (Nat.mod y (kmN (kc k))) x) = true from hj)
    have h1 := beq_iff.1 h1
    subst h1
    have h2 := numE_den (instE σ e) h2
    have h2 : den (instE σ e) % kmN (kc k) = x := beq_iff.1 (show Nat.beq (Nat.mod (den (instE σ e)) (kmN (kc k))) x = true from h2)
    rw [kmN_kc] at h2
    obtain ⟨_, hv⟩ := h.kn_inv
    exact fin k rfl (by rw [h2]; exact hv)
  | y j e' =>
    obtain ⟨h1, h2⟩ := and_eq.1 (show and_ (Nat.beq (kc k) j) (eqE (instE σ e) e') = true from hj)
    have h1 := beq_iff.1 h1
    subst h1
    have h2 := ebeq h2
    exact fin k rfl (by rw [h2]; exact h.yk_inv)
  | _ => cases (show false = true from hj)
theorem mtcY {j : Nat} {e : Ex} {w : AV} (h : mtcV ps σ (.y j e) w = true) : (j = 8 ∧ ∃ e', w = .y 8 e' ∧ e = e') ∨ (j ≤ 7 ∧ Ev.mtcN σ j e w = true) ∨ ((j = 10 ∨ j = 11) ∧ mtcF σ j e w = true) ∨ (16 ≤ j ∧ j ≤ 23 ∧ (∃ e', w = .y j e' ∧ e = e') ∧ instE σ e = e) := by
  have h1 : (Bool.rec (motive := fun _ => Bool) (Bool.rec (motive := fun _ => Bool) (Bool.rec (motive := fun _ => Bool) (mtcS σ j e w) (mtcF σ j e w) (or_ (Nat.beq j 10) (Nat.beq j 11))) (Ev.mtcN σ j e w) (Nat.ble j 7)) ((AVr false (fun _ _ => false) (fun _ => false) (fun _ _ => false) false (fun _ => false) false (fun _ _ _ _ _ => false) false (fun _ _ => false) (fun _ => false) false false false (fun _ _ _ => false) (fun _ _ _ => false) (fun _ _ _ => false) (fun _ _ _ => false) (fun _ _ _ _ => false) (fun _ _ _ => false) (fun _ => false) (fun _ _ => false) (fun _ _ => false) (fun j' e' => and_ (Nat.beq j' 8) (eqE e e')) (w))) (Nat.beq j 8)) = true := h
  cases hj : Nat.beq j 8 with
  | true =>
    rw [hj] at h1
    have hj := beq_iff.1 hj
    cases w with
    | y j' e' =>
      obtain ⟨k1, k2⟩ := and_eq.1 (show and_ (Nat.beq j' 8) (eqE e e') = true from h1)
      have k1 := beq_iff.1 k1
      subst k1
      exact .inl ⟨hj, e', rfl, ebeq k2⟩
    | _ => cases (show false = true from h1)
  | false =>
    rw [hj] at h1
    cases h7 : Nat.ble j 7 with
    | true => rw [h7] at h1; exact .inr (.inl ⟨ble_iff.1 h7, h1⟩)
    | false =>
      rw [h7] at h1
      cases ho : or_ (Nat.beq j 10) (Nat.beq j 11) with
      | true =>
        rw [ho] at h1
        refine .inr (.inr (.inl ⟨?_, h1⟩))
        rcases or_eq.1 ho with q | q
        · exact .inl (beq_iff.1 q)
        · exact .inr (beq_iff.1 q)
      | false =>
        rw [ho] at h1
        have h1 : mtcS σ j e w = true := h1
        unfold mtcS at h1
        cases hc : and_ (Nat.ble 16 j) (Nat.ble j 23) with
        | false => rw [hc] at h1; cases (show false = true from h1)
        | true =>
          rw [hc] at h1
          obtain ⟨c1, c2⟩ := and_eq.1 hc
          cases w with
          | y j' e' =>
            obtain ⟨k1, k2⟩ := and_eq.1 (show and_ (Nat.beq j' j) (and_ (eqE e e') (eqE (instE σ e) e)) = true from h1)
            obtain ⟨k3, k4⟩ := and_eq.1 k2
            have k1 := beq_iff.1 k1
            subst k1
            exact .inr (.inr (.inr ⟨ble_iff.1 c1, ble_iff.1 c2, ⟨e', rfl, ebeq k3⟩, ebeq k4⟩))
          | _ => cases (show false = true from h1)
theorem mtcF_y {j j' : Nat} {e e' : Ex} (h : mtcF σ j e (.y j' e') = true) : and_ (Nat.beq j j') (and_ (eqE (instE σ e) e') (or_ (Nat.beq j 11) (Ex.rec (motive := fun _ => Bool) (fun _ => false) (fun _ => false) (fun c_ w_ a_ b_ _ _ => and_ (Nat.beq c_ 0) (Nat.beq w_ 0)) e))) = true := h
theorem natB_yes [Rho] {e : Ex} {z : Int} (h : natB e z = true) : den e ≤ 9007199254740991 ∧ z = (den e : Nat) := by
  have h1 := numE_den e h
  obtain ⟨h2, h3⟩ := and_eq.1 (show and_ (Nat.ble (den e) 9007199254740991) (eqI z (Int.ofNat (den e))) = true from h1)
  exact ⟨ble_iff.1 h2, ibeq h3⟩
/-- What is matched belongs. -/
theorem VR.mtc [R : Rho] {μ μ2 : Mp} (hm : ∀ n m bk, nmOk ps n m = true → μ m = some bk → μ2 n = some bk) {a : AV} {v : Value} (h : VR μ a v) : ∀ {p : AV}, mtcV ps σ p a = true → @VR (Rho.sub σ) μ2 p v := by
  have ff : ∀ {Q : Prop}, false = true → Q := fun h => by cases h
  have noy : ∀ {j : Nat} {e : Ex} {w : AV} {Q : Prop}, (∀ j' e', w ≠ .y j' e') → Ev.mtcN σ j e w = false → mtcF σ j e w = false → mtcV ps σ (.y j e) w = true → Q := fun h1 h2 h3 h => by
    rcases mtcY h with ⟨_, e', h4, _⟩ | ⟨_, h4⟩ | ⟨_, h4⟩ | ⟨_, _, ⟨e', h4, _⟩, _⟩
    · exact (h1 _ e' h4).elim
    · rw [h2] at h4; cases h4
    · rw [h3] at h4; cases h4
    · exact (h1 _ e' h4).elim
  induction h with
  | u v => intro p hp; cases p with
    | u => exact @VR.u (Rho.sub σ) μ2 v
    | y j e => exact noy (fun j' e' h => (by cases h)) rfl rfl hp
    | _ => exact ff (show false = true from hp)
  | x k r z hz => intro p hp; cases p with
    | u => exact @VR.u (Rho.sub σ) μ2 _
    | y j e => exact noy (fun j' e' h => (by cases h)) rfl rfl hp
    | _ => exact ff (show false = true from hp)
  | b x => intro p hp; cases p with
    | u => exact @VR.u (Rho.sub σ) μ2 _
    | b y =>
      have e : x = y := (bbeq (show eqB y x = true from hp)).symm
      rw [← e]; exact @VR.b (Rho.sub σ) μ2 x
    | y j e => exact noy (fun j' e' h => (by cases h)) rfl rfl hp
    | _ => exact ff (show false = true from hp)
  | n k u hu => intro p hp; cases p with
    | u => exact @VR.u (Rho.sub σ) μ2 _
    | n j x =>
      obtain ⟨h1, h2⟩ := and_eq.1 (show and_ (Nat.beq j (kc k)) (Nat.beq x u) = true from hp)
      rw [beq_iff.1 h1, beq_iff.1 h2]; exact @VR.n (Rho.sub σ) μ2 k u hu
    | y j e =>
      rcases mtcY hp with ⟨_, e', h1, _⟩ | ⟨_, h2⟩ | ⟨_, h1⟩ | ⟨h16, h23, ⟨e', h1, h2⟩, hst⟩
      · cases h1
      · have h3 : j = kc k := beq_iff.1 (and_eq.1 (show and_ (Nat.beq j (kc k)) (numE (instE σ e) fun y => Nat.beq (Nat.mod y (kmN j)) u) = true from h2)).1
        subst h3
        exact VR.mtcN h2 (VR.n (μ := μ) k u hu)
      · exact ff (show false = true from h1)
      · cases h1
    | _ => exact ff (show false = true from hp)
  | y k e0 => intro p hp; cases p with
    | u => exact @VR.u (Rho.sub σ) μ2 _
    | y j e =>
      have hk := kc_lt k
      rcases mtcY hp with ⟨_, e', h1, _⟩ | ⟨_, h2⟩ | ⟨hj, h1⟩ | ⟨h16, h23, ⟨e', h1, h2⟩, hst⟩
      · have := (AV.y.inj h1).1; omega
      · have h3 : j = kc k := beq_iff.1 (and_eq.1 (show and_ (Nat.beq j (kc k)) (eqE (instE σ e) e0) = true from h2)).1
        subst h3
        exact VR.mtcN h2 (VR.y (μ := μ) k e0)
      · have h3 : j = kc k := beq_iff.1 (and_eq.1 (mtcF_y h1)).1
        omega
      · have := (AV.y.inj h1).1; omega
    | _ => exact ff (show false = true from hp)
  | yo i => intro p hp; cases p with
    | u => exact @VR.u (Rho.sub σ) μ2 _
    | y j e =>
      rcases mtcY hp with ⟨hj, e', h1, h2⟩ | ⟨hj, h2⟩ | ⟨hj, h1⟩ | ⟨h16, h23, ⟨e', h1, h2⟩, hst⟩
      · subst hj; subst h2
        rw [← (AV.y.inj h1).2]
        exact @VR.yo (Rho.sub σ) μ2 i
      · have h3 : j = 8 := beq_iff.1 (and_eq.1 (show and_ (Nat.beq j 8) (eqE (instE σ e) (.var i)) = true from h2)).1
        omega
      · have h3 : j = 8 := beq_iff.1 (and_eq.1 (mtcF_y h1)).1
        omega
      · have := (AV.y.inj h1).1; omega
    | _ => exact ff (show false = true from hp)
  | ys l => intro p hp; cases p with
    | u => exact @VR.u (Rho.sub σ) μ2 _
    | y j e =>
      rcases mtcY hp with ⟨hj, e', h1, h2⟩ | ⟨hj, h2⟩ | ⟨hj, h1⟩ | ⟨h16, h23, ⟨e', h1, h2⟩, hst⟩
      · have := (AV.y.inj h1).1; omega
      · have h3 : j = 9 := beq_iff.1 (and_eq.1 (show and_ (Nat.beq j 9) (eqE (instE σ e) (mkE l)) = true from h2)).1
        omega
      · have h3 : j = 9 := beq_iff.1 (and_eq.1 (mtcF_y h1)).1
        omega
      · have := (AV.y.inj h1).1; omega
    | _ => exact ff (show false = true from hp)
  | yl k le l a n cap => intro p hp; cases p with
    | u => exact @VR.u (Rho.sub σ) μ2 _
    | y j e =>
      rcases mtcY hp with ⟨hj, e', h1, h2⟩ | ⟨hj, h2⟩ | ⟨hj, h1⟩ | ⟨h16, h23, ⟨e', h1, h2⟩, hst⟩
      · have := (AV.y.inj h1).1; omega
      · have h3 : j = 16 + kc k := beq_iff.1 (and_eq.1 (show and_ (Nat.beq j (16 + kc k)) (eqE (instE σ e) (.op 0 0 le (mkE l))) = true from h2)).1
        omega
      · have h3 : j = 16 + kc k := beq_iff.1 (and_eq.1 (mtcF_y h1)).1
        omega
      · obtain ⟨e1, e2⟩ := AV.y.inj h1
        subst e1
        subst h2
        subst e2
        have hst : Ex.op 0 0 (instE σ le) (instE σ (mkE l)) = .op 0 0 le (mkE l) := hst
        obtain ⟨_, _, s1, s2⟩ := Ex.op.inj hst
        have he : ∀ l : List Ex, instE σ (mkE l) = mkE (l.map (instE σ)) := fun l => by
          induction l with
          | nil => rfl
          | cons a l ih => show Ex.op 0 0 (instE σ a) (instE σ (mkE l)) = _; rw [ih]; rfl
        have inj : ∀ l m : List Ex, mkE l = mkE m → l.length = m.length → l = m := fun l => by
          induction l with
          | nil => intro m _ hl; exact (List.length_eq_zero_iff.1 hl.symm).symm
          | cons a l ih =>
            intro m h hl
            cases m with
            | nil => cases hl
            | cons b m =>
              obtain ⟨_, _, t1, t2⟩ := Ex.op.inj (show Ex.op 0 0 a (mkE l) = .op 0 0 b (mkE m) from h)
              rw [t1, ih m t2 (Nat.succ.inj hl)]
        rw [he] at s2
        have s3 := inj _ _ s2 (List.length_map _)
        have hl : (l.map fun x => @den (Rho.sub σ) x % km k) = l.map fun x => den x % km k := by
          conv => rhs; rw [← s3]
          rw [List.map_map]
          exact List.map_congr_left fun x _ => by rw [den_inst σ x]; rfl
        refine @VR.yl (Rho.sub σ) μ2 k le l a n cap ?_ ‹_› ‹_› ‹_› ?_
        · rw [hl]; assumption
        · rw [den_inst σ le, s1]; assumption
    | _ => exact ff (show false = true from hp)
  | yp k e0 a => intro p hp; cases p with
    | u => exact @VR.u (Rho.sub σ) μ2 _
    | y j e =>
      rcases mtcY hp with ⟨hj, e', h1, h2⟩ | ⟨hj, h2⟩ | ⟨hj, h1⟩ | ⟨h16, h23, ⟨e', h1, h2⟩, hst⟩
      · have := (AV.y.inj h1).1; omega
      · have h3 : j = 24 + kc k := beq_iff.1 (and_eq.1 (show and_ (Nat.beq j (24 + kc k)) (eqE (instE σ e) e0) = true from h2)).1
        omega
      · have h3 : j = 24 + kc k := beq_iff.1 (and_eq.1 (mtcF_y h1)).1
        omega
      · have := (AV.y.inj h1).1; omega
    | _ => exact ff (show false = true from hp)
  | yf e0 x hx => intro p hp; cases p with
    | u => exact @VR.u (Rho.sub σ) μ2 _
    | y j e =>
      rcases mtcY hp with ⟨hj, e', h1, h2⟩ | ⟨hj, h2⟩ | ⟨hj, h1⟩ | ⟨h16, h23, ⟨e', h1, h2⟩, hst⟩
      · have := (AV.y.inj h1).1; omega
      · have h3 : j = 11 := beq_iff.1 (and_eq.1 (show and_ (Nat.beq j 11) (eqE (instE σ e) e0) = true from h2)).1
        omega
      · obtain ⟨k1, k2⟩ := and_eq.1 (mtcF_y h1)
        have k1 := beq_iff.1 k1
        subst k1
        have k3 := ebeq (and_eq.1 k2).1
        refine @VR.yf (Rho.sub σ) μ2 e x ?_
        rw [den_inst, k3]; exact hx
      · have := (AV.y.inj h1).1; omega
    | _ => exact ff (show false = true from hp)
  | yc e1 e2 a b hx hy => intro p hp; cases p with
    | u => exact @VR.u (Rho.sub σ) μ2 _
    | y j e =>
      rcases mtcY hp with ⟨hj, e', h1, h2⟩ | ⟨hj, h2⟩ | ⟨hj, h1⟩ | ⟨h16, h23, ⟨e', h1, h2⟩, hst⟩
      · have := (AV.y.inj h1).1; omega
      · have h3 : j = 10 := beq_iff.1 (and_eq.1 (show and_ (Nat.beq j 10) (eqE (instE σ e) (.op 0 0 e1 e2)) = true from h2)).1
        omega
      · obtain ⟨k1, k2⟩ := and_eq.1 (mtcF_y h1)
        have k1 := beq_iff.1 k1
        subst k1
        have k3 := ebeq (and_eq.1 k2).1
        cases e with
        | var i => exact ff (show false = true from (and_eq.1 k2).2)
        | lit n => cases k3
        | op c w p1 p2 =>
          obtain ⟨g1, g2, g3, g4⟩ := Ex.op.inj k3
          subst g1; subst g2
          refine @VR.yc (Rho.sub σ) μ2 p1 p2 a b ?_ ?_
          · rw [den_inst]
            show Flo a (den (instE σ p1) % _ : Nat)
            rw [show instE σ p1 = e1 from g3]; exact hx
          · rw [den_inst]
            show Flo b (den (instE σ p2) % _ : Nat)
            rw [show instE σ p2 = e2 from g4]; exact hy
      · have := (AV.y.inj h1).1; omega
    | _ => exact ff (show false = true from hp)
  | f z x hz => intro p hp; cases p with
    | u => exact @VR.u (Rho.sub σ) μ2 _
    | f y =>
      have e : y = z := ibeq (show eqI y z = true from hp)
      rw [e]; exact @VR.f (Rho.sub σ) μ2 z x hz
    | y j e =>
      rcases mtcY hp with ⟨hj, e', h1, h2⟩ | ⟨hj, h2⟩ | ⟨hj, h1⟩ | ⟨h16, h23, ⟨e', h1, h2⟩, hst⟩
      · cases h1
      · exact ff (show false = true from h2)
      · obtain ⟨k1, k2⟩ := and_eq.1 (show and_ (Nat.beq j 11) (natB (instE σ e) z) = true from h1)
        have k1 := beq_iff.1 k1
        subst k1
        obtain ⟨n1, n2⟩ := natB_yes k2
        refine @VR.yf (Rho.sub σ) μ2 e x ?_
        rw [den_inst, Nat.mod_eq_of_lt (by omega), ← n2]; exact hz
      · cases h1
    | _ => exact ff (show false = true from hp)
  | c x y a b hx hy => intro p hp; cases p with
    | u => exact @VR.u (Rho.sub σ) μ2 _
    | c x' y' =>
      obtain ⟨h1, h2⟩ := and_eq.1 (show and_ (eqI x' x) (eqI y' y) = true from hp)
      rw [ibeq h1, ibeq h2]; exact @VR.c (Rho.sub σ) μ2 x y a b hx hy
    | y j e =>
      rcases mtcY hp with ⟨hj, e', h1, h2⟩ | ⟨hj, h2⟩ | ⟨hj, h1⟩ | ⟨h16, h23, ⟨e', h1, h2⟩, hst⟩
      · cases h1
      · exact ff (show false = true from h2)
      · obtain ⟨k1, k2⟩ := and_eq.1 (show and_ (Nat.beq j 10) (Ex.rec (motive := fun _ => Bool) (fun _ => false) (fun _ => false) (fun c_ w_ a_ b_ _ _ => and_ (and_ (Nat.beq c_ 0) (Nat.beq w_ 0)) (and_ (natB (instE σ a_) x) (natB (instE σ b_) y))) e) = true from h1)
        have k1 := beq_iff.1 k1
        subst k1
        cases e with
        | var i => exact ff k2
        | lit n => exact ff k2
        | op c w e1 e2 =>
          obtain ⟨k3, k4⟩ := and_eq.1 (show and_ (and_ (Nat.beq c 0) (Nat.beq w 0)) (and_ (natB (instE σ e1) x) (natB (instE σ e2) y)) = true from k2)
          obtain ⟨k5, k6⟩ := and_eq.1 k3
          obtain ⟨k7, k8⟩ := and_eq.1 k4
          have k5 := beq_iff.1 k5
          have k6 := beq_iff.1 k6
          subst k5; subst k6
          obtain ⟨n1, n2⟩ := natB_yes k7
          obtain ⟨n3, n4⟩ := natB_yes k8
          refine @VR.yc (Rho.sub σ) μ2 e1 e2 a b ?_ ?_
          · rw [den_inst, Nat.mod_eq_of_lt (by omega), ← n2]; exact hx
          · rw [den_inst, Nat.mod_eq_of_lt (by omega), ← n4]; exact hy
      · cases h1
    | _ => exact ff (show false = true from hp)
  | s l hl => intro p hp; cases p with
    | u => exact @VR.u (Rho.sub σ) μ2 _
    | s l' =>
      have e : l' = l := lbeq (show eqL l' l = true from hp)
      rw [e]; exact @VR.s (Rho.sub σ) μ2 l hl
    | y j e => exact noy (fun j' e' h => (by cases h)) rfl rfl hp
    | _ => exact ff (show false = true from hp)
  | p0 => intro p hp; cases p with
    | u => exact @VR.u (Rho.sub σ) μ2 _
    | p0 => exact @VR.p0 (Rho.sub σ) μ2
    | y j e => exact noy (fun j' e' h => (by cases h)) rfl rfl hp
    | _ => exact ff (show false = true from hp)
  | p nm off bk e => intro p hp; cases p with
    | u => exact @VR.u (Rho.sub σ) μ2 _
    | p n o =>
      obtain ⟨h1, h2⟩ := and_eq.1 (show and_ (nmOk ps n nm) (Nat.beq o off) = true from hp)
      rw [beq_iff.1 h2]; exact @VR.p (Rho.sub σ) μ2 _ off bk (hm _ _ _ h1 e)
    | y j e => exact noy (fun j' e' h => (by cases h)) rfl rfl hp
    | _ => exact ff (show false = true from hp)
  | sl0 => intro p hp; cases p with
    | u => exact @VR.u (Rho.sub σ) μ2 _
    | sl0 => exact @VR.sl0 (Rho.sub σ) μ2
    | y j e => exact noy (fun j' e' h => (by cases h)) rfl rfl hp
    | _ => exact ff (show false = true from hp)
  | sl nm off len cap bk e h1 h2 => intro p hp; cases p with
    | u => exact @VR.u (Rho.sub σ) μ2 _
    | se =>
      have hl : len = 0 := beq_iff.1 (show Nat.beq len 0 = true from hp)
      subst hl; exact @VR.se (Rho.sub σ) μ2 _ _
    | sl n o l c =>
      obtain ⟨k1, k2⟩ := and_eq.1 (show and_ (nmOk ps n nm) (and_ (Nat.beq o off) (and_ (Nat.beq l len) (Nat.beq c cap))) = true from hp)
      obtain ⟨k3, k4⟩ := and_eq.1 k2
      obtain ⟨k5, k6⟩ := and_eq.1 k4
      rw [beq_iff.1 k3, beq_iff.1 k5, beq_iff.1 k6]; exact @VR.sl (Rho.sub σ) μ2 _ off len cap bk (hm _ _ _ k1 e) h1 h2
    | y j e => exact noy (fun j' e' h => (by cases h)) rfl rfl hp
    | _ => exact ff (show false = true from hp)
  | so nm off len bk cap e h1 h2 h3 => intro p hp; cases p with
    | u => exact @VR.u (Rho.sub σ) μ2 _
    | se =>
      have hl : len = 0 := beq_iff.1 (show Nat.beq len 0 = true from hp)
      subst hl; exact @VR.se (Rho.sub σ) μ2 _ _
    | so n o l =>
      obtain ⟨k1, k2⟩ := and_eq.1 (show and_ (nmOk ps n nm) (and_ (Nat.beq o off) (Nat.beq l len)) = true from hp)
      obtain ⟨k3, k4⟩ := and_eq.1 k2
      rw [beq_iff.1 k3, beq_iff.1 k4]; exact @VR.so (Rho.sub σ) μ2 _ off len bk cap (hm _ _ _ k1 e) h1 h2 h3
    | y j e => exact noy (fun j' e' h => (by cases h)) rfl rfl hp
    | _ => exact ff (show false = true from hp)
  | se a cap => intro p hp; cases p with
    | u => exact @VR.u (Rho.sub σ) μ2 _
    | se => exact @VR.se (Rho.sub σ) μ2 _ _
    | y j e => exact noy (fun j' e' h => (by cases h)) rfl rfl hp
    | _ => exact ff (show false = true from hp)
  | m0 => intro p hp; cases p with
    | u => exact @VR.u (Rho.sub σ) μ2 _
    | m0 => exact @VR.m0 (Rho.sub σ) μ2
    | y j e => exact noy (fun j' e' h => (by cases h)) rfl rfl hp
    | _ => exact ff (show false = true from hp)
  | m nm bk e => intro p hp; cases p with
    | u => exact @VR.u (Rho.sub σ) μ2 _
    | m n => exact @VR.m (Rho.sub σ) μ2 _ bk (hm _ _ _ (show nmOk ps n nm = true from hp) e)
    | y j e => exact noy (fun j' e' h => (by cases h)) rfl rfl hp
    | _ => exact ff (show false = true from hp)
  | fn0 => intro p hp; cases p with
    | u => exact @VR.u (Rho.sub σ) μ2 _
    | fn0 => exact @VR.fn0 (Rho.sub σ) μ2
    | y j e => exact noy (fun j' e' h => (by cases h)) rfl rfl hp
    | _ => exact ff (show false = true from hp)
  | fn f a b x y h1 h2 _ _ i1 i2 => intro p hp; cases p with
    | u => exact @VR.u (Rho.sub σ) μ2 _
    | y j e => exact noy (fun j' e' h => (by cases h)) rfl rfl hp
    | _ => exact ff (show false = true from hp)
  | if0 => intro p hp; cases p with
    | u => exact @VR.u (Rho.sub σ) μ2 _
    | if0 => exact @VR.if0 (Rho.sub σ) μ2
    | y j e => exact noy (fun j' e' h => (by cases h)) rfl rfl hp
    | _ => exact ff (show false = true from hp)
  | tu l x h1 _ i1 => intro p hp; cases p with
    | u => exact @VR.u (Rho.sub σ) μ2 _
    | y j e => exact noy (fun j' e' h => (by cases h)) rfl rfl hp
    | _ => exact ff (show false = true from hp)
  | a0 s t x h1 h2 h3 _ i => intro p hp; cases p with
    | u => exact @VR.u (Rho.sub σ) μ2 _
    | a0 s' t' =>
      obtain ⟨k1, k2⟩ := mtc_a0 hp
      rw [k1]; exact @VR.a0 (Rho.sub σ) μ2 s _ x h1 h2 h3 fun j c hc => i j c hc k2
    | y j e => exact noy (fun j' e' h => (by cases h)) rfl rfl hp
    | _ => exact ff (show false = true from hp)
  | a1 s t x h1 h2 h3 _ i => intro p hp; cases p with
    | u => exact @VR.u (Rho.sub σ) μ2 _
    | a1 s' t' =>
      obtain ⟨k1, k2⟩ := mtc_a1 hp
      rw [k1]; exact @VR.a1 (Rho.sub σ) μ2 s t' x h1 h2 h3 fun j c hc => i j c hc (k2 _)
    | y j e => exact noy (fun j' e' h => (by cases h)) rfl rfl hp
    | _ => exact ff (show false = true from hp)
  | a2 s t x h1 h2 h3 _ i => intro p hp; cases p with
    | u => exact @VR.u (Rho.sub σ) μ2 _
    | a2 s' t' =>
      obtain ⟨k1, k2⟩ := mtc_a2 hp
      rw [k1]; exact @VR.a2 (Rho.sub σ) μ2 s t' x h1 h2 h3 fun j c hc => i j c hc (k2 _)
    | y j e => exact noy (fun j' e' h => (by cases h)) rfl rfl hp
    | _ => exact ff (show false = true from hp)
  | a3 s t x h1 h2 h3 _ i => intro p hp; cases p with
    | u => exact @VR.u (Rho.sub σ) μ2 _
    | a3 s' t' =>
      obtain ⟨k1, k2⟩ := mtc_a3 hp
      rw [k1]; exact @VR.a3 (Rho.sub σ) μ2 s t' x h1 h2 h3 fun j c hc => i j c hc (k2 _)
    | y j e => exact noy (fun j' e' h => (by cases h)) rfl rfl hp
    | _ => exact ff (show false = true from hp)
end
end
end Go.Proofs.YteefpemaeecicaaGreatDoor.Ev
end
section
open Go Go.RowKit
namespace Go.Proofs.YteefpemaeecicaaGreatDoor.Ev
set_option linter.unusedVariables false
set_option linter.unusedSimpArgs false
set_option linter.constructorNameAsVariable false
noncomputable section
section
variable {ps : List (Nm × Nm)} {σ : List Ex}
theorem shB_isE {f s : Nat} {v : AV} (h0 : f = 0 → s = 1) (h : shB f s v = true) : isE f s v := by
  rcases f with _ | _ | _ | _ | _ | f
  · exact h0 rfl
  · cases v <;> first | exact beq_iff.1 h | cases (show false = true from h)
  · cases v <;> first | exact beq_iff.1 h | cases (show false = true from h)
  · cases v <;> first | exact beq_iff.1 h | cases (show false = true from h)
  · cases v <;> first | exact beq_iff.1 h | cases (show false = true from h)
  · cases (show false = true from h)
theorem mtcT_get {k k' f s : Nat} {t : Tr AV k} {t' : Tr AV k'} : ∀ (cnt : Nat), mtcT ps σ k k' t t' f s cnt = true → ∀ q, q < cnt → shB f s (Tr.get k (paK k q) t) = true ∧ mtcV ps σ (Tr.get k (paK k q) t) (Tr.get k' (paK k' q) t') = true
  | 0, _, q, hq => by omega
  | cnt + 1, h, q, hq => by
    obtain ⟨h1, h2⟩ := and_eq.1 (show and_ (and_ (shB f s (tget k (paK k cnt) t)) (mtcV ps σ (tget k (paK k cnt) t) (tget k' (paK k' cnt) t'))) (mtcT ps σ k k' t t' f s cnt) = true from h)
    by_cases e : q = cnt
    · subst e
      rw [tget_eq, tget_eq] at h1
      exact and_eq.1 h1
    · exact mtcT_get cnt h2 q (by omega)
theorem mtc_cell {f s : Nat} {p a : AV} (hp : isE f s p) (ha : isE f s a) (h : mtcV ps σ p a = true) (j : Nat) : mtcV ps σ (cellOf f p j) (cellOf f a j) = true := by
  rcases f with _ | _ | _ | _ | _ | f
  · exact h
  · obtain ⟨x, rfl⟩ := isE1 hp
    obtain ⟨y, rfl⟩ := isE1 ha
    exact (mtc_a0 h).2
  · obtain ⟨x, rfl⟩ := isE2 hp
    obtain ⟨y, rfl⟩ := isE2 ha
    exact (mtc_a1 h).2 _
  · obtain ⟨x, rfl⟩ := isE3 hp
    obtain ⟨y, rfl⟩ := isE3 ha
    exact (mtc_a2 h).2 _
  · obtain ⟨x, rfl⟩ := isE4 hp
    obtain ⟨y, rfl⟩ := isE4 ha
    exact (mtc_a3 h).2 _
  · exact (isE5 hp).elim
theorem mtcP_get : ∀ {l l' : List (AV × AV)}, mtcP ps σ l l' = true → l.length = l'.length ∧ ∀ (i : Nat) p q, l[i]? = some p → l'[i]? = some q → mtcV ps σ p.1 q.1 = true ∧ mtcV ps σ p.2 q.2 = true
  | [], [], _ => ⟨rfl, fun i p q h => by simp at h⟩
  | [], _ :: _, h => by cases (show false = true from h)
  | _ :: _, [], h => by cases (show false = true from h)
  | (x, y) :: l, (x', y') :: l', h => by
    obtain ⟨h1, h2⟩ := and_eq.1 (show and_ (mtcV ps σ x x') (and_ (mtcV ps σ y y') (mtcP ps σ l l')) = true from h)
    obtain ⟨h3, h4⟩ := and_eq.1 h2
    obtain ⟨h5, h6⟩ := mtcP_get h4
    refine ⟨by simp [h5], fun i p q hp hq => ?_⟩
    cases i with
    | zero =>
      have hp : some (x, y) = some p := hp
      have hq : some (x', y') = some q := hq
      cases hp; cases hq
      exact ⟨h1, h3⟩
    | succ i => exact h6 i p q (by simpa using hp) (by simpa using hq)
theorem BlkR.fit [R : Rho] {μ μ2 : Mp} {w : World} {p a : Blk} {bk : Bk} (hm : ∀ n m bk, nmOk ps n m = true → μ m = some bk → μ2 n = some bk) (h : BlkR μ w a bk) (hb : blkM ps σ p a = true) : a ≠ .no ∧ @BlkR (Rho.sub σ) μ2 w p bk := by
  cases p with
  | no => cases (show false = true from hb)
  | mp l =>
    cases a with
    | no => cases (show false = true from hb)
    | cells => cases (show false = true from hb)
    | mp l' =>
      obtain ⟨es, clock, h1, h2, h3, h4⟩ := h
      obtain ⟨k1, k2⟩ := mtcP_get (show mtcP ps σ l l' = true from hb)
      refine ⟨fun e => (by cases e), es, clock, h1, by rw [h2, k1], fun i x e hx he => ?_, h4⟩
      have hlt : i < l'.length := by
        have := (List.getElem?_eq_some_iff.1 hx).1
        omega
      have hy : l'[i]? = some l'[i] := by simp [hlt]
      obtain ⟨q1, q2⟩ := k2 i x l'[i] hx hy
      obtain ⟨q3, q4⟩ := h3 i l'[i] e hy he
      exact ⟨q3.mtc hm q1, q4.mtc hm q2⟩
  | cells ty op n es form ke t =>
    cases a with
    | no => cases (show false = true from hb)
    | mp => cases (show false = true from hb)
    | cells ty' op' n' es' form' ke' t' =>
      obtain ⟨h1, h2⟩ := and_eq.1 (show and_ (and_ (Nat.beq ty ty') (and_ (Nat.beq es es') (Nat.beq form form'))) (and_ (and_ (Nat.ble n n') (and_ (Nat.beq (Nat.mul (Nat.div n es) es) n) (Nat.ble (Nat.div n es) (Nat.pow 8 ke)))) (mtcT ps σ ke ke' t t' form es (Nat.div n es))) = true from hb)
      obtain ⟨e1, h3⟩ := and_eq.1 h1
      obtain ⟨e2, e3⟩ := and_eq.1 h3
      obtain ⟨h4, h5⟩ := and_eq.1 h2
      obtain ⟨e4, h6⟩ := and_eq.1 h4
      obtain ⟨e5, e6⟩ := and_eq.1 h6
      have e1 := beq_iff.1 e1
      have e2 := beq_iff.1 e2
      have e3 := beq_iff.1 e3
      subst e1; subst e2; subst e3
      have e4 := ble_iff.1 e4
      have e5 : n / es * es = n := beq_iff.1 e5
      have e6 : n / es ≤ 8 ^ ke := ble_iff.1 e6
      obtain ⟨arr, fr, k1, k2⟩ := h
      have hcnt := mtcT_get _ h5
      have hes := k2.hpos
      have hq : ∀ q, q * es < n → q < n / es := fun q hq => by
        rw [← e5] at hq
        exact Nat.lt_of_mul_lt_mul_right hq
      have hleaf : ∀ q, q * es < n → isE form es (Tr.get (α := AV) ke (paK ke q) t) := fun q hl => shB_isE k2.hform0 (hcnt q (hq q hl)).1
      refine ⟨fun e => (by cases e), arr, fr, k1, @CellsR.mk (Rho.sub σ) μ2 arr fr n es form ke t bk k2.hsize k2.hes k2.hpos k2.hform k2.htop k2.hform0 (Nat.le_trans e4 k2.hn) ?_ k2.hfroz hleaf fun i hi => ?_⟩
      · rw [← e5, Nat.mul_comm]
        exact Nat.mul_le_mul_left es e6
      · obtain ⟨c, c1, c2, c3⟩ := k2.hcell i (by omega)
        have hdiv : i / es * es < n := Nat.lt_of_le_of_lt (Nat.div_mul_le_self i es) hi
        exact ⟨c, c1, c2, c3.mtc hm (mtc_cell (hleaf _ hdiv) (k2.hleaf _ (by omega)) (hcnt _ (hq _ hdiv)).2 _)⟩
/-! ### Memories -/
theorem rkN_eq (n : Nm) : rkN n = n.rank := rfl
theorem memT_at (T : List (Nm × Blk)) (n : Nm) (h : Mem.at n (memT T) ≠ .no) : ∃ b, (n, b) ∈ T ∧ Mem.at n (memT T) = b := by
  induction T with
  | nil => exact (h (Mem.at_none n)).elim
  | cons x T ih =>
    obtain ⟨m, b⟩ := x
    have e : memT ((m, b) :: T) = Mem.to m (memT T) b := rfl
    rw [e, Mem.at_to] at h ⊢
    by_cases hn : n = m
    · subst hn; exact ⟨b, List.mem_cons_self, if_pos rfl⟩
    · rw [if_neg hn] at h ⊢
      obtain ⟨b', h1, h2⟩ := ih h
      exact ⟨b', List.mem_cons_of_mem _ h1, h2⟩
theorem incT_lt {c : Nm} (T : List (Nm × Blk)) : ∀ lo, incT c T lo = true → ∀ x ∈ T, lo ≤ x.1.rank ∧ x.1.rank < c.rank := by
  induction T with
  | nil => intro lo _ x hx; cases hx
  | cons y T ih =>
    obtain ⟨m, b⟩ := y
    intro lo h x hx
    obtain ⟨h1, h2⟩ := and_eq.1 (show and_ (Nat.ble lo (rkN m)) (incT c T (Nat.succ (rkN m))) = true from h)
    have h1 := ble_iff.1 h1
    rw [rkN_eq] at h1 h2
    rcases List.mem_cons.1 hx with rfl | hx
    · refine ⟨h1, ?_⟩
      have : ∀ (T : List (Nm × Blk)) lo, incT c T lo = true → lo ≤ c.rank := by
        intro T
        induction T with
        | nil => intro lo h; exact ble_iff.1 (show Nat.ble lo (rkN c) = true from h)
        | cons z T ih =>
          intro lo h
          obtain ⟨m', b'⟩ := z
          obtain ⟨h3, h4⟩ := and_eq.1 (show and_ (Nat.ble lo (rkN m')) (incT c T (Nat.succ (rkN m'))) = true from h)
          have h3 := ble_iff.1 h3
          have := ih _ h4
          rw [rkN_eq] at h3 this
          omega
      exact this T _ h2
    · have := ih _ h2 x hx
      omega
theorem namesT_eq : ∀ {T : List (Nm × Blk)} {ps : List (Nm × Nm)}, namesT T ps = true → T.map Prod.fst = ps.map Prod.fst
  | [], [], _ => rfl
  | [], _ :: _, h => by cases (show false = true from h)
  | (_, _) :: _, [], h => by cases (show false = true from h)
  | (n, b) :: T, (x, y) :: ps, h => by
    obtain ⟨h1, h2⟩ := and_eq.1 (show and_ (Nm.beq n x) (namesT T ps) = true from h)
    simp only [List.map_cons]
    rw [nm_beq.1 h1, namesT_eq h2]
theorem notIn_mem {m : Nm} {ps : List (Nm × Nm)} (h : notIn m ps = true) : ∀ n, (n, m) ∉ ps := by
  induction ps with
  | nil => intro n hn; cases hn
  | cons x ps ih =>
    obtain ⟨a, y⟩ := x
    obtain ⟨h1, h2⟩ := and_eq.1 (show and_ (not_ (Nm.beq y m)) (notIn m ps) = true from h)
    intro n hn
    rcases List.mem_cons.1 hn with hn | hn
    · have : m = y := congrArg Prod.snd hn
      subst this
      rw [nm_beq.2 rfl] at h1
      cases h1
    · exact ih h2 n hn
theorem nodupP_inj {ps : List (Nm × Nm)} (h : nodupP ps = true) : ∀ {n n' m}, (n, m) ∈ ps → (n', m) ∈ ps → n = n' := by
  induction ps with
  | nil => intro n n' m hn; cases hn
  | cons x ps ih =>
    obtain ⟨a, y⟩ := x
    obtain ⟨h1, h2⟩ := and_eq.1 (show and_ (notIn y ps) (nodupP ps) = true from h)
    intro n n' m hn hn'
    rcases List.mem_cons.1 hn with g | g
    · rcases List.mem_cons.1 hn' with g' | g'
      · exact (congrArg Prod.fst g).trans (congrArg Prod.fst g').symm
      · have e : m = y := congrArg Prod.snd g
        rw [e] at g'
        exact (notIn_mem h1 _ g').elim
    · rcases List.mem_cons.1 hn' with g' | g'
      · have e : m = y := congrArg Prod.snd g'
        rw [e] at g
        exact (notIn_mem h1 _ g).elim
      · exact ih h2 g g'
theorem chkT_get {m : Mem} {T : List (Nm × Blk)} (h : chkT ps σ m T = true) : ∀ n b, (n, b) ∈ T → blkM ps σ b (Mem.at (renN ps n) m) = true := by
  induction T with
  | nil => intro n b hb; cases hb
  | cons x T ih =>
    obtain ⟨a, y⟩ := x
    obtain ⟨h1, h2⟩ := and_eq.1 (show and_ (blkM ps σ y (Mem.at (renN ps a) m)) (chkT ps σ m T) = true from h)
    intro n b hb
    rcases List.mem_cons.1 hb with hb | hb
    · cases hb; exact h1
    · exact ih h2 n b hb
/-- What a fitting memory is. -/
structure Fits (T : List (Nm × Blk)) (c : Nm) (ps : List (Nm × Nm)) (σ : List Ex) (m : Mem) : Prop where
  low : ∀ n y, lk ps n = some y → n.rank < c.rank
  has : ∀ n b, (n, b) ∈ T → ∃ y, lk ps n = some y ∧ blkM ps σ b (Mem.at y m) = true
  inj : ∀ n n' y, lk ps n = some y → lk ps n' = some y → n = n'
  dom : ∀ n y, lk ps n = some y → ∃ b, (n, b) ∈ T
theorem Fits.of {T : List (Nm × Blk)} {c : Nm} {m : Mem} (h : fitsT T c ps σ m = true) : Fits T c ps σ m := by
  obtain ⟨h1, h2⟩ := and_eq.1 h
  obtain ⟨h3, h4⟩ := and_eq.1 h1
  obtain ⟨h5, h6⟩ := and_eq.1 h2
  have hn := namesT_eq h4
  have dom : ∀ n y, lk ps n = some y → ∃ b, (n, b) ∈ T := fun n y hl => by
    have : n ∈ T.map Prod.fst := by rw [hn]; exact List.mem_map.2 ⟨(n, y), lk_mem hl, rfl⟩
    obtain ⟨⟨n', b⟩, hb, rfl⟩ := List.mem_map.1 this
    exact ⟨b, hb⟩
  refine ⟨fun n y hl => ?_, fun n b hb => ?_, fun n n' y ha hb => nodupP_inj h5 (lk_mem ha) (lk_mem hb), dom⟩
  · obtain ⟨b, hb⟩ := dom n y hl
    exact (incT_lt T _ h3 _ hb).2
  · have : n ∈ ps.map Prod.fst := by rw [← hn]; exact List.mem_map.2 ⟨(n, b), hb, rfl⟩
    obtain ⟨⟨n', y⟩, hy, rfl⟩ := List.mem_map.1 this
    obtain ⟨y', hy'⟩ := lk_some hy
    have hb' := chkT_get h6 _ _ hb
    rw [renN_lk, hy'] at hb'
    exact ⟨y', hy', hb'⟩
theorem mpS_some {μ : Mp} {n m : Nm} {bk : Bk} (hl : lk ps n = some m) (hm : μ m = some bk) : mpS ps μ n = some bk := by unfold mpS; rw [hl]; exact hm
theorem mpS_inv {μ : Mp} {n : Nm} {bk : Bk} (h : mpS ps μ n = some bk) : ∃ m, lk ps n = some m ∧ μ m = some bk := by
  unfold mpS at h
  cases hl : lk ps n with
  | none => rw [hl] at h; cases h
  | some m => rw [hl] at h; exact ⟨m, rfl, h⟩
/-- A memory that fits a template is one. -/
theorem MR.fit [R : Rho] {K K2 : Kp} {μ : Mp} {h : Hp} {w : World} (r : MR K μ h w) {T : List (Nm × Blk)} {c : Nm} (hf : Fits T c ps σ h.m)
    (os : w.os = K2.os) (tape : w.tape = K2.tape) (output : w.output = K2.output) (keep : ∀ b o, K2.F b = some o → w.heap[b]? = some o)
    (hF : ∀ n m bk, lk ps n = some m → μ m = some bk → K2.F bk.blk = none) (hN : ∀ nm, ¬ K2.N nm) (hlo : K2.lo ≤ w.heap.size) (hi : ∀ b o, Rho.inp b = some o → b < K2.lo ∧ K2.F b = some o) : @MR (Rho.sub σ) K2 (mpS ps μ) (hpT T c) w := by
  have hm : ∀ n m bk, nmOk ps n m = true → μ m = some bk → mpS ps μ n = some bk := fun n m bk h1 h2 => mpS_some (nmOk_lk ps h1) h2
  have live : ∀ n, Mem.at n (memT T) ≠ .no → ∃ y bk, lk ps n = some y ∧ Mem.at y h.m ≠ .no ∧ μ y = some bk ∧ @BlkR (Rho.sub σ) (mpS ps μ) w (Mem.at n (memT T)) bk := fun n hn => by
    obtain ⟨b, hb, e⟩ := memT_at T n hn
    obtain ⟨y, hy, hbm⟩ := hf.has n b hb
    have hne : Mem.at y h.m ≠ .no := fun e0 => by
      rw [e0] at hbm
      cases b <;> cases (show false = true from hbm)
    obtain ⟨bk, h1, h2, h3⟩ := r.live y hne
    rw [e]
    exact ⟨y, bk, hy, hne, h1, (h2.fit hm hbm).2⟩
  refine @MR.mk (Rho.sub σ) K2 _ _ _ os tape output keep (fun nm bk e => ?_) (fun nm hn => ?_) (fun nm h => (hN nm h).elim) hlo hi fun nm nm' bk bk' hn hn' e e' hb => ?_
  · obtain ⟨m, h1, h2⟩ := mpS_inv e
    exact ⟨(r.dom m bk h2).1, hf.low nm m h1⟩
  · obtain ⟨y, bk, h1, h2, h3, h4⟩ := live nm hn
    exact ⟨bk, mpS_some h1 h3, h4, hF nm y bk h1 h3⟩
  · obtain ⟨y, bk1, h1, h2, h3, h4⟩ := live nm hn
    obtain ⟨y', bk2, k1, k2, k3, k4⟩ := live nm' hn'
    rw [mpS_some h1 h3] at e
    rw [mpS_some k1 k3] at e'
    cases e; cases e'
    have := r.inj y y' _ _ h2 k2 h3 k3 hb
    subst this
    exact hf.inj _ _ _ h1 k1
/-- What a run from one memory to a template says of a call. -/
theorem calls_okM [R : Rho] {P : Program} {hn : H} (hS : HSound P hn) {f : Nat} {l : List AV} {h : Hp} {V : AV} {T : List (Nm × Blk)} {c : Nm} (hy : hn.run f l h (okM V T c ps σ) = .yes) :
    Enter P f ∧ ∀ K μ w (args : Array Value), (∀ nm, ¬ K.N nm) → MR K μ h w → VRs μ l args.toList → Calls P f args w (fun e w' => ∃ μ' v', e = .returned v' ∧ Ext μ μ' ∧ @VR (Rho.sub σ) (mpS ps μ') V v' ∧ @MR (Rho.sub σ) K (mpS ps μ') (hpT T c) w') := by
  obtain ⟨he, v, h', h1, h2⟩ := hS f l h _ hy
  obtain ⟨m', c'⟩ := h'
  obtain ⟨h3, _⟩ := inv_if (show (Bool.rec (motive := fun _ => Ans) Ans.no Ans.yes (and_ (mtcV ps σ V v) (fitsT T c ps σ m'))) = .yes from h1)
  obtain ⟨h4, h5⟩ := and_eq.1 h3
  have hf := Fits.of h5
  refine ⟨he, fun K μ w args hN hr hv => (h2 K μ w args hr hv).mono fun e w' ⟨μ', v', e1, e2, e3, e4⟩ => ?_⟩
  have hm : ∀ n m bk, nmOk ps n m = true → μ' m = some bk → mpS ps μ' n = some bk := fun n m bk h1 h2 => mpS_some (nmOk_lk ps h1) h2
  refine ⟨μ', v', e1, e2, e3.mtc hm h4, e4.fit hf e4.os e4.tape e4.output e4.keep (fun n m bk hl hb => ?_) hN e4.low e4.inp⟩
  obtain ⟨b, hb'⟩ := hf.dom n m hl
  obtain ⟨y, hy', hbm⟩ := hf.has n b hb'
  rw [hl] at hy'
  cases hy'
  have hne : Mem.at m m' ≠ .no := fun e0 => by
    rw [e0] at hbm
    cases b <;> cases (show false = true from hbm)
  obtain ⟨bk', q1, q2, q3⟩ := e4.live m hne
  rw [hb] at q1
  cases q1
  exact q3
end
end
end Go.Proofs.YteefpemaeecicaaGreatDoor.Ev
end
section
open Go Go.RowKit
namespace Go.Proofs.YteefpemaeecicaaGreatDoor.Ev
set_option linter.unusedVariables false
set_option linter.unusedSimpArgs false
set_option linter.constructorNameAsVariable false
noncomputable section
theorem MR.all [Rho] {K : Kp} {μ : Mp} {h : Hp} {w : World} (r : MR K μ h w) : w.os = K.os ∧ w.tape = K.tape ∧ w.output = K.output ∧ (∀ b o, K.F b = some o → w.heap[b]? = some o) ∧ (∀ nm bk, μ nm = some bk → bk.blk < w.heap.size ∧ nm.rank < h.c.rank) ∧ (∀ nm, Mem.at nm h.m ≠ .no → ∃ bk, μ nm = some bk ∧ BlkR μ w (Mem.at nm h.m) bk ∧ K.F bk.blk = none) ∧ K.lo ≤ w.heap.size ∧ (∀ b o, Rho.inp b = some o → b < K.lo ∧ K.F b = some o) ∧ ∀ nm nm' bk bk', Mem.at nm h.m ≠ .no → Mem.at nm' h.m ≠ .no → μ nm = some bk → μ nm' = some bk' → bk.blk = bk'.blk → nm = nm' :=
  ⟨r.os, r.tape, r.output, r.keep, r.dom, r.live, r.low, r.inp, r.inj⟩
theorem CellsR.all [Rho] {μ : Mp} {arr : Array Value} {fr : Nat × Nat} {n es form ke : Nat} {t : Tr AV ke} {bk : Bk} (h : CellsR μ arr fr n es form ke t bk) : arr.size = bk.size ∧ bk.es = es ∧ 0 < es ∧ form ≤ 4 ∧ es ≤ top form ∧ (form = 0 → es = 1) ∧ n ≤ bk.size ∧ n ≤ es * 8 ^ ke ∧ (fr.1 = fr.2 ∨ bk.size ≤ fr.1) ∧ (∀ q, q * es < n → isE form es (Tr.get (α := AV) ke (paK ke q) t)) ∧ ∀ i, i < n → ∃ c, arr[i]? = some c ∧ oneC c = true ∧ VR μ (cellOf form (Tr.get (α := AV) ke (paK ke (i / es)) t) (i % es)) c :=
  ⟨h.hsize, h.hes, h.hpos, h.hform, h.htop, h.hform0, h.hn, h.hnk, h.hfroz, h.hleaf, h.hcell⟩
/-- A call from a memory that is a template's to one that is another template's; the names of both stay. -/
def Ctr [Rho] (P : Program) (f : FuncId) (A : List AV) (T0 : List (Nm × Blk)) (c0 : Nm) (V : AV) (T1 : List (Nm × Blk)) (c1 : Nm) : Prop :=
  ∀ K μ w (args : Array Value), (∀ nm, ¬ K.N nm) → MR K μ (hpT T0 c0) w → VRs μ A args.toList → Calls P f args w (fun e w' => ∃ μ' v', e = .returned v' ∧ VR μ' V v' ∧ MR K μ' (hpT T1 c1) w' ∧ (∀ n b b', (n, b) ∈ T0 → (n, b') ∈ T1 → μ' n = μ n) ∧ ∀ n bk, μ' n = some bk → ∃ b, (n, b) ∈ T1)
section
variable {ps : List (Nm × Nm)} {σ : List Ex}
theorem lk_app (l : List (Nm × Nm)) (n : Nm) : lk (l ++ ps) n = match lk l n with | some y => some y | none => lk ps n := by
  induction l with
  | nil => rfl
  | cons x l ih =>
    obtain ⟨a, y⟩ := x
    rw [List.cons_append, lk_cons, lk_cons]
    by_cases e : a = n
    · rw [if_pos e, if_pos e]
    · rw [if_neg e, if_neg e]; exact ih
/-- Which new name stands for what. -/
def inv (l : List (Nm × Nm)) (nm : Nm) : Option Nm := match l with
  | [] => none
  | (x, y) :: t => if y = nm then some x else inv t nm
theorem inv_mem {l : List (Nm × Nm)} {nm n : Nm} (h : inv l nm = some n) : (n, nm) ∈ l := by
  induction l with
  | nil => exact nomatch h
  | cons p l ih =>
    obtain ⟨x, y⟩ := p
    have h : (if y = nm then some x else inv l nm) = some n := h
    by_cases e : y = nm
    · rw [if_pos e] at h
      rw [← e, ← Option.some.inj h]
      exact List.mem_cons_self
    · rw [if_neg e] at h; exact List.mem_cons_of_mem _ (ih h)
/-- New names rise. -/
structure Fresh (ns : List Nm) (c c' : Nm) (l : List (Nm × Nm)) : Prop where
  names : l.map Prod.fst = ns
  low : ∀ x ∈ l, c.rank ≤ x.2.rank ∧ x.2.rank < c'.rank
  le : c.rank ≤ c'.rank
  inv : ∀ n y, (n, y) ∈ l → Ev.inv l y = some n
theorem freshK_yes : ∀ {ns : List Nm} {c : Nm} {g : List (Nm × Nm) → Nm → Ans}, freshK ns c g = .yes → ∃ l c', g l c' = .yes ∧ Fresh ns c c' l
  | [], c, g, h => ⟨[], c, h, ⟨rfl, fun x hx => (nomatch hx), Nat.le_refl _, fun n y hx => (nomatch hx)⟩⟩
  | n :: ns, c, g, h => by
    have h : Nm.nxt c (fun c' => freshK ns c' fun l c'' => g ((n, c) :: l) c'') = .yes := h
    obtain ⟨q, hq, hg⟩ := Nm.nxt_yes h
    rw [hg] at h
    obtain ⟨l, c', h1, h2⟩ := freshK_yes h
    refine ⟨(n, c) :: l, c', h1, by simp [h2.names], fun x hx => ?_, by have := h2.le; omega, fun m y hx => ?_⟩
    · rcases List.mem_cons.1 hx with rfl | hx
      · have := h2.le; exact ⟨Nat.le_refl _, by show c.rank < c'.rank; omega⟩
      · have := h2.low x hx; omega
    · show (if c = y then some n else Ev.inv l y) = some m
      rcases List.mem_cons.1 hx with e | hx
      · rw [if_pos (congrArg Prod.snd e).symm, show m = n from congrArg Prod.fst e]
      · have h3 := h2.low _ hx
        have : c ≠ y := fun e => by subst e; have h3 : q.rank ≤ c.rank := h3.1; omega
        rw [if_neg this]
        exact h2.inv m y hx
theorem mapT_get (f : AV → AV) : ∀ (k : Nat) (p : Pa k) (t : Tr AV k), Tr.get k p (mapT f k t) = f (Tr.get k p t)
  | 0, _, _ => rfl
  | k + 1, ⟨d, r⟩, t => by
    have e : mapT f (k + 1) t = n8m (mapT f k) (t : N8 (Tr AV k)) := by
      obtain ⟨⟩ := (t : N8 (Tr AV k))
      rfl
    rw [e]
    show Tr.get k r (nget (n8m (mapT f k) (t : N8 (Tr AV k))) d) = f (Tr.get k r (nget (t : N8 (Tr AV k)) d))
    rw [n8m_get]
    exact mapT_get f k r _
theorem ren_isE {f s : Nat} {v : AV} (h : isE f s v) : isE f s (renA ps σ v) ∧ ∀ j, cellOf f (renA ps σ v) j = renA ps σ (cellOf f v j) := by
  rcases f with _ | _ | _ | _ | _ | f
  · exact ⟨h, fun j => rfl⟩
  · obtain ⟨x, rfl⟩ := isE1 h
    exact ⟨rfl, fun j => rfl⟩
  · obtain ⟨x, rfl⟩ := isE2 h
    obtain ⟨t', e1, e2⟩ := ren_a1 (ps := ps) (σ := σ) s x
    rw [e1]
    exact ⟨rfl, fun j => e2 _⟩
  · obtain ⟨x, rfl⟩ := isE3 h
    obtain ⟨t', e1, e2⟩ := ren_a2 (ps := ps) (σ := σ) s x
    rw [e1]
    exact ⟨rfl, fun j => e2 _⟩
  · obtain ⟨x, rfl⟩ := isE4 h
    obtain ⟨t', e1, e2⟩ := ren_a3 (ps := ps) (σ := σ) s x
    rw [e1]
    exact ⟨rfl, fun j => e2 _⟩
  · exact (isE5 h).elim
theorem BlkR.ren [R : Rho] {μ1 μ' : Mp} {w : World} {b : Blk} {bk : Bk} (hm : ∀ n bk, μ1 n = some bk → μ' (renN ps n) = some bk) (h : @BlkR (Rho.sub σ) μ1 w b bk) : BlkR μ' w (renB ps σ b) bk := by
  cases b with
  | no => exact trivial
  | mp l =>
    obtain ⟨es, clock, h1, h2, h3, h4⟩ := h
    have e : renB ps σ (.mp l) = .mp (l.map fun p => (renA ps σ p.1, renA ps σ p.2)) := by
      have : ∀ l : List (AV × AV), (lrec l [] fun a _ ih => (Prod.rec (motive := fun _ => List (AV × AV)) (fun x y => (renA ps σ x, renA ps σ y) :: ih) a)) = l.map fun p => (renA ps σ p.1, renA ps σ p.2) := fun l => by
        induction l with
        | nil => rfl
        | cons a l ih => obtain ⟨x, y⟩ := a; exact congrArg (_ :: ·) ih
      exact congrArg Blk.mp (this l)
    rw [e]
    refine ⟨es, clock, h1, by simp [h2], fun i p q hp hq => ?_, h4⟩
    rw [List.getElem?_map, Option.map_eq_some_iff] at hp
    obtain ⟨p0, hp0, rfl⟩ := hp
    obtain ⟨k1, k2⟩ := h3 i p0 q hp0 hq
    exact ⟨k1.ren hm, k2.ren hm⟩
  | cells ty op n es form ke t =>
    obtain ⟨arr, fr, h1, h2⟩ := h
    obtain ⟨a1, a2, a3, a4, a5, a6, a7, a8, a9, hleaf, hcell⟩ := @CellsR.all (Rho.sub σ) _ _ _ _ _ _ _ _ _ h2
    refine ⟨arr, fr, h1, { hsize := a1, hes := a2, hpos := a3, hform := a4, htop := a5, hform0 := a6, hn := a7, hnk := a8, hfroz := a9, hleaf := fun q hq => ?_, hcell := fun i hi => ?_ }⟩
    · rw [mapT_get]
      exact (ren_isE (hleaf q hq)).1
    · obtain ⟨c, c1, c2, c3⟩ := hcell i hi
      have hl := hleaf (i / es) (Nat.lt_of_le_of_lt (Nat.div_mul_le_self i es) hi)
      rw [mapT_get, (ren_isE hl).2]
      exact ⟨c, c1, c2, c3.ren hm⟩
theorem memT_mem {c : Nm} (T : List (Nm × Blk)) : ∀ lo, incT c T lo = true → ∀ n b, (n, b) ∈ T → Mem.at n (memT T) = b := by
  induction T with
  | nil => intro lo _ n b h; cases h
  | cons x T ih =>
    obtain ⟨m, b0⟩ := x
    intro lo h n b hb
    obtain ⟨_, h2⟩ := and_eq.1 (show and_ (Nat.ble lo (rkN m)) (incT c T (Nat.succ (rkN m))) = true from h)
    have e : memT ((m, b0) :: T) = Mem.to m (memT T) b0 := rfl
    rw [e, Mem.at_to]
    rcases List.mem_cons.1 hb with hb | hb
    · rw [if_pos (congrArg Prod.fst hb)]; exact (congrArg Prod.snd hb).symm
    · have := (incT_lt T _ h2 _ hb).1
      rw [rkN_eq] at this
      have hne : n ≠ m := fun e => by subst e; have this : n.rank + 1 ≤ n.rank := this; omega
      rw [if_neg hne]
      exact ih _ h2 n b hb
theorem putT_at (T : List (Nm × Blk)) (m : Mem) (a : Nm) : (∃ n b, (n, b) ∈ T ∧ renN ps n = a ∧ Mem.at a (putT T ps σ m) = renB ps σ b) ∨ ((∀ n b, (n, b) ∈ T → renN ps n ≠ a) ∧ Mem.at a (putT T ps σ m) = Mem.at a m) := by
  induction T with
  | nil => exact .inr ⟨fun n b h => (nomatch h), rfl⟩
  | cons x T ih =>
    obtain ⟨n, b⟩ := x
    have e : putT ((n, b) :: T) ps σ m = Mem.to (renN ps n) (putT T ps σ m) (renB ps σ b) := rfl
    rw [e, Mem.at_to]
    by_cases h : a = renN ps n
    · rw [if_pos h]; exact .inl ⟨n, b, List.mem_cons_self, h.symm, rfl⟩
    · rw [if_neg h]
      rcases ih with ⟨n', b', h1, h2, h3⟩ | ⟨h1, h2⟩
      · exact .inl ⟨n', b', List.mem_cons_of_mem _ h1, h2, h3⟩
      · refine .inr ⟨fun n' b' hb => ?_, h2⟩
        rcases List.mem_cons.1 hb with hb | hb
        · rw [show n' = n from congrArg Prod.fst hb]; exact fun e => h e.symm
        · exact h1 n' b' hb
theorem killP_at (l : List (Nm × Nm)) (m : Mem) (a : Nm) : Mem.at a (killP l m) ≠ .no → Mem.at a (killP l m) = Mem.at a m ∧ ∀ x, (x, a) ∉ l := by
  induction l with
  | nil => intro _; exact ⟨rfl, fun x h => (nomatch h)⟩
  | cons y l ih =>
    obtain ⟨x, y⟩ := y
    have e : killP ((x, y) :: l) m = Mem.to y (killP l m) .no := rfl
    rw [e, Mem.at_to]
    by_cases h : a = y
    · rw [if_pos h]; intro h; exact (h rfl).elim
    · rw [if_neg h]
      intro hn
      obtain ⟨h1, h2⟩ := ih hn
      refine ⟨h1, fun z hz => ?_⟩
      rcases List.mem_cons.1 hz with hz | hz
      · exact h (congrArg Prod.snd hz)
      · exact h2 z hz
theorem mtcL_ok [R : Rho] {μ μ2 : Mp} (hm : ∀ n m bk, nmOk ps n m = true → μ m = some bk → μ2 n = some bk) : ∀ {A l : List AV} {x : List Value}, mtcL ps σ A l = true → VRs μ l x → @VRs (Rho.sub σ) μ2 A x
  | [], [], x, _, h => by rw [h.nil_inv]; exact @VRs.nil (Rho.sub σ) μ2
  | [], _ :: _, _, h, _ => by cases (show false = true from h)
  | _ :: _, [], _, h, _ => by cases (show false = true from h)
  | a :: A, b :: l, x, h, hv => by
    obtain ⟨h1, h2⟩ := and_eq.1 (show and_ (mtcV ps σ a b) (mtcL ps σ A l) = true from h)
    obtain ⟨v, y, rfl, k1, k2⟩ := hv.cons_inv
    exact @VRs.cons (Rho.sub σ) _ _ _ _ _ (k1.mtc hm h1) (mtcL_ok hm h2 k2)
/-- What the names of two templates must be. -/
def newsB (T0 T1 : List (Nm × Blk)) (news : List Nm) : Bool := (T1.all fun x => (T0.any fun y => Nm.beq y.1 x.1) || news.any fun n => Nm.beq n x.1) && news.all fun n => !(T0.any fun y => Nm.beq y.1 n)
theorem ctF_ok [R : Rho] {P : Program} {f : FuncId} {A : List AV} {T0 T1 : List (Nm × Blk)} {c0 c1 : Nm} {V : AV} {news : List Nm} (he : Enter P f) (C : @Ctr (Rho.sub σ) P f A T0 c0 V T1 c1) (h1 : incT c1 T1 0 = true) (hn : newsB T0 T1 news = true) :
    FcOk P f (ctF A T0 c0 ps σ V T1 news) := by
  intro hh hS l h kk hy
  obtain ⟨m, c⟩ := h
  obtain ⟨h2, h3⟩ := inv_if (show (Bool.rec (motive := fun _ => Ans) Ans.no (freshK news c fun l' c' => kk (renA (lapp l' ps) σ V) ⟨putT T1 (lapp l' ps) σ (killP ps m), c'⟩) (and_ (mtcL ps σ A l) (fitsT T0 c0 ps σ m))) = .yes from hy)
  obtain ⟨h4, h5⟩ := and_eq.1 h2
  have hf := Fits.of h5
  obtain ⟨l', c', h6, hfr⟩ := freshK_yes h3
  rw [lapp_eq] at h6
  refine ⟨he, _, _, h6, fun K μ w args hr hv => ?_⟩
  -- what is the template's
  let S : Nat → Prop := fun b => ∃ n m bk, lk ps n = some m ∧ μ m = some bk ∧ bk.blk = b
  let K0 : Kp := ⟨w.os, w.tape, w.output, fun b => @ite _ (S b) (Classical.propDecidable _) none w.heap[b]?, fun _ => False, w.heap.size⟩
  have F1 : ∀ b, S b → K0.F b = none := fun b hs => if_pos hs
  have F2 : ∀ b, ¬ S b → K0.F b = w.heap[b]? := fun b hs => if_neg hs
  have live0 : ∀ n y, lk ps n = some y → Mem.at y m ≠ .no := fun n y hl e0 => by
    obtain ⟨b, hb⟩ := hf.dom n y hl
    obtain ⟨y', hy', hbm⟩ := hf.has n b hb
    rw [hl] at hy'; cases hy'
    rw [e0] at hbm
    cases b <;> cases (show false = true from hbm)
  have hm0 : ∀ n m bk, nmOk ps n m = true → μ m = some bk → mpS ps μ n = some bk := fun n m bk h1 h2 => mpS_some (nmOk_lk ps h1) h2
  have hr0 : @MR (Rho.sub σ) K0 (mpS ps μ) (hpT T0 c0) w := hr.fit hf rfl rfl rfl (fun b o hb => by
      by_cases hs : S b
      · rw [F1 b hs] at hb; cases hb
      · rw [F2 b hs] at hb; exact hb) (fun n m bk hl hb => F1 _ ⟨n, m, bk, hl, hb, rfl⟩) (fun _ h => h) (Nat.le_refl _) (fun b o hb => by
      have hk := (hr.inp b o hb).2
      have h0 := hr.keep b o hk
      have hS : ¬ S b := fun ⟨n, y, bk, q1, q2, q3⟩ => by
        obtain ⟨bk2, p1, _, p3⟩ := hr.live y (live0 n y q1)
        rw [q2] at p1; cases p1
        rw [q3, hk] at p3; cases p3
      exact ⟨heap_lt h0, by rw [F2 _ hS]; exact h0⟩)
  refine (C K0 (mpS ps μ) w args (fun _ h => h) hr0 (mtcL_ok hm0 h4 hv)).mono fun e w' ⟨μ1, v', e1, hv1, hr1, hag, hdom⟩ => ?_
  obtain ⟨ros, rtape, rout, rkeep, rdom, rlive, size, rinp, rinj⟩ := @MR.all (Rho.sub σ) _ _ _ _ hr1
  have size : w.heap.size ≤ w'.heap.size := size
  let μ' : Mp := fun nm => match inv l' nm with | some n => μ1 n | none => μ nm
  have old : ∀ nm bk, μ nm = some bk → inv l' nm = none := fun nm bk hb => by
    cases hi : inv l' nm with
    | none => rfl
    | some n =>
      have := (hfr.low _ (inv_mem hi)).1
      have h2 := (hr.dom nm bk hb).2
      have this : c.rank ≤ nm.rank := this
      have h2 : nm.rank < c.rank := h2
      omega
  have mold : ∀ nm bk, μ nm = some bk → μ' nm = some bk := fun nm bk hb => by
    show (match inv l' nm with | some n => μ1 n | none => μ nm) = some bk
    rw [old nm bk hb]; exact hb
  -- names of the second template
  obtain ⟨n1, n2⟩ := (Bool.and_eq_true _ _).mp hn
  have isnew : ∀ n b, (n, b) ∈ T1 → (∃ b0, (n, b0) ∈ T0) ∨ n ∈ news := fun n b hb => by
    have := List.all_eq_true.1 n1 _ hb
    rcases (Bool.or_eq_true _ _).mp this with h | h
    · obtain ⟨y, hy, e⟩ := List.any_eq_true.1 h
      have e := nm_beq.1 e
      exact .inl ⟨y.2, by rw [← (show y.1 = n from e)]; exact hy⟩
    · obtain ⟨y, hy, e⟩ := List.any_eq_true.1 h
      have e := nm_beq.1 e
      exact .inr (by rw [← (show y = n from e)]; exact hy)
  have notold : ∀ n, n ∈ news → ∀ b, (n, b) ∉ T0 := fun n hnn b hb => by
    have := List.all_eq_true.1 n2 n hnn
    rw [Bool.not_eq_true'] at this
    have h := List.any_eq_false.1 this _ hb
    exact h (nm_beq.2 rfl)
  have lknew : ∀ n, n ∈ news → ∃ y, lk l' n = some y ∧ inv l' y = some n := fun n hnn => by
    rw [← hfr.names] at hnn
    obtain ⟨⟨x, y⟩, hy, rfl⟩ := List.mem_map.1 hnn
    obtain ⟨y', hy'⟩ := lk_some hy
    exact ⟨y', hy', hfr.inv _ _ (lk_mem hy')⟩
  have lkold : ∀ n, n ∉ news → lk l' n = none := fun n hnn => by
    cases h : lk l' n with
    | none => rfl
    | some y =>
      exact (hnn (by rw [← hfr.names]; exact List.mem_map.2 ⟨_, lk_mem h, rfl⟩)).elim
  have hm : ∀ n bk, μ1 n = some bk → μ' (renN (l' ++ ps) n) = some bk := fun n bk hb => by
    obtain ⟨b, hb1⟩ := hdom n bk hb
    rw [renN_lk, lk_app]
    by_cases hnn : n ∈ news
    · obtain ⟨y, hy1, hy2⟩ := lknew n hnn
      rw [hy1]
      show (match inv l' y with | some n => μ1 n | none => μ y) = some bk
      rw [hy2]; exact hb
    · rw [lkold n hnn]
      rcases isnew n b hb1 with ⟨b0, hb0⟩ | h
      · obtain ⟨y, hy, _⟩ := hf.has n b0 hb0
        have hag := hag n b0 b hb0 hb1
        rw [hag] at hb
        obtain ⟨y', hy', hb'⟩ := mpS_inv hb
        rw [hy']
        exact mold y' bk hb'
      · exact (hnn h).elim
  -- blocks that are no template's
  have other : ∀ a, Mem.at a m ≠ .no → (∀ x, (x, a) ∉ ps) → ∃ bk o, μ a = some bk ∧ BlkR μ w (Mem.at a m) bk ∧ K.F bk.blk = none ∧ w.heap[bk.blk]? = some o ∧ w'.heap[bk.blk]? = some o ∧ K0.F bk.blk = some o := fun a ha hx => by
    obtain ⟨bk, b1, b2, b3⟩ := hr.live a ha
    have hS : ¬ S bk.blk := fun ⟨n, y, bk', q1, q2, q3⟩ => by
      have := hr.inj a y bk bk' ha (live0 n y q1) b1 q2 q3.symm
      subst this
      exact hx n (lk_mem q1)
    have ho : ∃ o, w.heap[bk.blk]? = some o := ⟨_, Array.getElem?_eq_getElem (hr.dom a bk b1).1⟩
    obtain ⟨o, ho⟩ := ho
    have hF : K0.F bk.blk = some o := by rw [F2 _ hS]; exact ho
    exact ⟨bk, o, b1, b2, b3, ho, rkeep _ _ hF, hF⟩
  have tmpl : ∀ n b, (n, b) ∈ T1 → renB (l' ++ ps) σ b ≠ .no → ∃ bk, μ1 n = some bk ∧ Mem.at n (memT T1) ≠ .no ∧ @BlkR (Rho.sub σ) μ1 w' b bk ∧ K0.F bk.blk = none ∧ K.F bk.blk = none := fun n b hb hne => by
    have hbn : b ≠ .no := fun e => by rw [e] at hne; exact hne rfl
    have hat := memT_mem T1 0 h1 n b hb
    have hlv : Mem.at n (memT T1) ≠ .no := by rw [hat]; exact hbn
    obtain ⟨bk, b1, b2, b3⟩ := rlive n hlv
    have b2 : @BlkR (Rho.sub σ) μ1 w' (Mem.at n (memT T1)) bk := b2
    rw [hat] at b2
    refine ⟨bk, b1, hlv, b2, b3, ?_⟩
    by_cases hS : S bk.blk
    · obtain ⟨x, y, bk', q1, q2, q3⟩ := hS
      obtain ⟨bk2, p1, _, p3⟩ := hr.live y (live0 x y q1)
      rw [q2] at p1; cases p1
      rw [← q3]; exact p3
    · rw [F2 _ hS] at b3
      cases hk : K.F bk.blk with
      | none => rfl
      | some o => have := hr.keep _ _ hk; rw [b3] at this; cases this
  have parts : ∀ a, Mem.at a (putT T1 (l' ++ ps) σ (killP ps m)) ≠ .no → (∃ n b bk, (n, b) ∈ T1 ∧ renN (l' ++ ps) n = a ∧ Mem.at a (putT T1 (l' ++ ps) σ (killP ps m)) = renB (l' ++ ps) σ b ∧ μ1 n = some bk ∧ Mem.at n (memT T1) ≠ .no ∧ @BlkR (Rho.sub σ) μ1 w' b bk ∧ K0.F bk.blk = none ∧ K.F bk.blk = none) ∨
      (Mem.at a (putT T1 (l' ++ ps) σ (killP ps m)) = Mem.at a m ∧ Mem.at a m ≠ .no ∧ ∀ x, (x, a) ∉ ps) := fun a ha => by
    rcases putT_at (ps := l' ++ ps) (σ := σ) T1 (killP ps m) a with ⟨n, b, q1, q2, q3⟩ | ⟨q1, q2⟩
    · rw [q3] at ha
      obtain ⟨bk, p1, p2, p3, p4, p5⟩ := tmpl n b q1 ha
      exact .inl ⟨n, b, bk, q1, q2, q3, p1, p2, p3, p4, p5⟩
    · rw [q2] at ha
      obtain ⟨q3, q4⟩ := killP_at ps m a ha
      exact .inr ⟨q2.trans q3, by rw [← q3]; exact ha, q4⟩
  refine ⟨μ', v', e1, mold, hv1.ren hm, ?_⟩
  refine { os := ros.trans hr.os, tape := rtape.trans hr.tape, output := rout.trans hr.output, keep := fun b o hb => ?_, dom := fun nm bk hb => ?_, live := fun a ha => ?_, res := fun nm hnm => ?_, low := Nat.le_trans hr.low size, inp := hr.inp, inj := fun a a' bk bk' ha ha' hb hb' hbk => ?_ }
  · have h0 := hr.keep b o hb
    have hS : ¬ S b := fun ⟨n, y, bk, q1, q2, q3⟩ => by
      obtain ⟨bk2, p1, _, p3⟩ := hr.live y (live0 n y q1)
      rw [q2] at p1; cases p1
      rw [q3, hb] at p3; cases p3
    exact rkeep b o (by rw [F2 _ hS]; exact h0)
  · have hb : (match inv l' nm with | some n => μ1 n | none => μ nm) = some bk := hb
    cases hi : inv l' nm with
    | some n =>
      rw [hi] at hb
      exact ⟨(rdom n bk hb).1, (hfr.low _ (inv_mem hi)).2⟩
    | none =>
      rw [hi] at hb
      have := hr.dom nm bk hb
      exact ⟨Nat.lt_of_lt_of_le this.1 size, Nat.lt_of_lt_of_le this.2 hfr.le⟩
  · rcases parts a ha with ⟨n, b, bk, q1, q2, q3, p1, p2, p3, p4, p5⟩ | ⟨q1, q2, q3⟩
    · refine ⟨bk, by rw [← q2]; exact hm n bk p1, ?_, p5⟩
      show BlkR μ' w' (Mem.at a (putT T1 (l' ++ ps) σ (killP ps m))) bk
      rw [q3]
      exact p3.ren hm
    · obtain ⟨bk, o, p1, p2, p3, p4, p5, _⟩ := other a q2 q3
      refine ⟨bk, mold a bk p1, ?_, p3⟩
      show BlkR μ' w' (Mem.at a (putT T1 (l' ++ ps) σ (killP ps m))) bk
      rw [q1]
      exact p2.ext mold (p5.trans p4.symm)
  · obtain ⟨q1, q2⟩ := hr.res nm hnm
    refine ⟨?_, Nat.lt_of_lt_of_le q2 hfr.le⟩
    show (match inv l' nm with | some n => μ1 n | none => μ nm) = none
    cases hi : inv l' nm with
    | none => exact q1
    | some n =>
      have := (hfr.low _ (inv_mem hi)).1
      have this : c.rank ≤ nm.rank := this
      have q2 : nm.rank < c.rank := q2
      omega
  · rcases parts a ha with ⟨n, b, bk1, q1, q2, q3, p1, p2, p3, p4, p5⟩ | ⟨q1, q2, q3⟩
    · have e1 : μ' a = some bk1 := by rw [← q2]; exact hm n bk1 p1
      rw [e1] at hb; cases hb
      rcases parts a' ha' with ⟨n', b', bk2, r1, r2, r3, s1, s2, s3, s4, s5⟩ | ⟨r1, r2, r3⟩
      · have e2 : μ' a' = some bk2 := by rw [← r2]; exact hm n' bk2 s1
        rw [e2] at hb'; cases hb'
        have := rinj n n' _ _ p2 s2 p1 s1 hbk
        rw [← q2, ← r2, this]
      · obtain ⟨bk2, o, t1, t2, t3, t4, t5, t6⟩ := other a' r2 r3
        rw [mold a' bk2 t1] at hb'; cases hb'
        rw [hbk, t6] at p4; cases p4
    · obtain ⟨bk1, o, t1, t2, t3, t4, t5, t6⟩ := other a q2 q3
      rw [mold a bk1 t1] at hb; cases hb
      rcases parts a' ha' with ⟨n', b', bk2, r1, r2, r3, s1, s2, s3, s4, s5⟩ | ⟨r1, r2, r3⟩
      · have e2 : μ' a' = some bk2 := by rw [← r2]; exact hm n' bk2 s1
        rw [e2] at hb'; cases hb'
        rw [← hbk, t6] at s4; cases s4
      · obtain ⟨bk2, o', u1, u2, u3, u4, u5, u6⟩ := other a' r2 r3
        rw [mold a' bk2 u1] at hb'; cases hb'
        exact hr.inj a a' _ _ q2 r2 t1 u1 hbk
end
end
end Go.Proofs.YteefpemaeecicaaGreatDoor.Ev
end
section
open Go Go.RowKit
namespace Go.Proofs.YteefpemaeecicaaGreatDoor.Ev
set_option linter.unusedVariables false
set_option linter.unusedSimpArgs false
set_option linter.constructorNameAsVariable false
noncomputable section
section
variable {P : Program} {T : Ty} {k : Nat} {E : Em} {fn : Func} {ps : List (Nm × Nm)} {σ : List Ex}
theorem gmL_spec : ∀ (l : List Nat) (i : Nat) (G : Gm), (∀ t ∈ l, t < 512) → ∀ t, t < 512 → (∃ j, (gmL l i G).at t = some (.lvl (i + j)) ∧ l[j]? = some t) ∨ (gmL l i G).at t = G.at t
  | [], i, G, _, t, _ => .inr rfl
  | a :: l, i, G, h, t, ht => by
    have e : gmL (a :: l) i G = gmL l (i + 1) (G.to a (.lvl i)) := rfl
    rw [e]
    rcases gmL_spec l (i + 1) (G.to a (.lvl i)) (fun t ht => h t (List.mem_cons_of_mem _ ht)) t ht with ⟨j, h1, h2⟩ | h1
    · exact .inl ⟨j + 1, by rw [h1, show i + 1 + j = i + (j + 1) by omega], h2⟩
    · rw [h1, Gm.at_to G _ ht (h a List.mem_cons_self)]
      by_cases ha : t = a
      · rw [if_pos ha]; exact .inl ⟨0, rfl, by rw [ha]; rfl⟩
      · rw [if_neg ha]; exact .inr rfl
/-- What a piece of code is run from: some slots, a memory. -/
structure At [Rho] (E : Em) (ts : List Nat) (avs : List AV) (Kp : Kp) (μ : Mp) (h : Hp) (a : Act) (w : World) : Prop where
  mem : MR Kp μ h w
  slot : ∀ (j : Nat) t v, ts[j]? = some t → avs[j]? = some v → VR μ v (a.tmps.getD t undef)
  size : E.n ≤ a.tmps.size
  defs : a.defers = []
theorem at_sr [Rho] (hE : EOk E) {ts : List Nat} (hts : ∀ t ∈ ts, t < 512) {avs : List AV} {Kp : Kp} {μ : Mp} {h : Hp} {a : Act} {w : World} (hA : At E ts avs Kp μ h a w) {e : Ve ts.length} (h5 : ∀ j, j < ts.length → eAt ts.length e (ts.length - 1 - j) = avs[j]?) : SR E.n μ (envOf k E ts.length (gmL ts 0 Gm.no) (fillT .u k) e) a := by
  refine ⟨hA.size, hA.defs, fun t v hv => ?_, fun t v hv => ?_⟩
  · have hv2 : (srcOf k E (gmL ts 0 Gm.no) t).bind (srcV k ts.length (fillT .u k) e) = some v := hv
    rw [srcOf_eq] at hv2
    split at hv2
    · assumption
    · cases hv2
  · have hv2 : (srcOf k E (gmL ts 0 Gm.no) t).bind (srcV k ts.length (fillT .u k) e) = some v := hv
    rw [srcOf_eq] at hv2
    split at hv2
    · rename_i ht
      have ht5 : t < 512 := Nat.lt_of_lt_of_le ht hE.n
      rcases gmL_spec ts 0 Gm.no hts t ht5 with ⟨j, q1, q2⟩ | q1
      · rw [q1] at hv2
        have hj := (List.getElem?_eq_some_iff.1 q2).1
        have hv3 : (if 0 + j < ts.length then eAt ts.length e (ts.length - 1 - (0 + j)) else none) = some v := hv2
        rw [Nat.zero_add, if_pos hj, h5 j hj] at hv3
        exact hA.slot j t v q2 hv3
      · rw [q1, Gm.at_no] at hv2
        simp only at hv2
        cases hp : tget 3 (paK 3 t) E.t with
        | none => rw [hp] at hv2; cases hv2
        | some p =>
          rw [hp] at hv2
          simp only at hv2
          split at hv2
          · have hv3 : some (Tr.get (α := AV) k (paK k p) (fillT .u k)) = some v := hv2
            rw [fillT_get] at hv3
            cases hv3
            exact .u _
          · cases hv2
    · cases hv2
theorem frag_out [Rho] (hP : ProgOk P T) {hn : H} (hS : HSound P hn) (hE : EOk E) {rs : List ResultVar} (hrs : fn.results.toList = rs) {c : Code} {ts : List Nat} (hts : ∀ t ∈ ts, t < 512) {avs : List AV} {h : Hp} {N : (i : Nat) → Gm → Oc k i} {X : Nat → Tr AV k → Hp → Ans} {Rt : AV → Hp → Ans}
    (hy : fragRun T hn k E rs c ts avs h N X Rt = .yes) :
    ∃ o : Out k, OutYes ⟨hn, fun _ _ => Ans.no, X, fun _ _ _ => Ans.no, Rt⟩ N o ∧ ∀ Kp μ a w, At E ts avs Kp μ h a w → c.wp P (OutPost P E fn Kp μ o) a w := by
  obtain ⟨e, h3, h4, h5⟩ := takeA_yes ts.length avs _ hy
  obtain ⟨hl, h6⟩ := inv_nil h3
  rw [regF_eq, ← hrs] at h6
  have hG : WfG ts.length (gmL ts 0 Gm.no) := fun t j ht hg => by
    rcases gmL_spec ts 0 Gm.no hts t ht with ⟨j', q1, q2⟩ | q1
    · rw [q1] at hg
      have := (List.getElem?_eq_some_iff.1 q2).1
      cases hg
      omega
    · rw [q1, Gm.at_no] at hg; cases hg
  have hC := comp_ok (fn := fn) hS hP.types hP.structs hE hP.mixed (hP.draw k E hn hE hS) c
  obtain ⟨o, h7, h8⟩ := hC.it N ts.length (gmL ts 0 Gm.no) ⟨hn, fun _ _ => Ans.no, X, fun _ _ _ => Ans.no, Rt⟩ (fillT .u k) e h rfl hG h6
  exact ⟨o, h7, fun Kp μ a w hA => h8 Kp μ a w hA.mem (at_sr hE hts hA h5)⟩
/-- Where a piece of code comes to: some slots, a memory, under other names, of other unknowns. -/
structure Ends [R : Rho] (E : Em) (ps : List (Nm × Nm)) (σ : List Ex) (pat : List (Nat × AV)) (T : List (Nm × Blk)) (c : Nm) (Kp : Kp) (μ : Mp) (a : Act) (w : World) : Prop where
  ex : ∃ μ', Ext μ μ' ∧ @MR (Rho.sub σ) Kp (mpS ps μ') (hpT T c) w ∧ (∀ t p, (t, p) ∈ pat → @VR (Rho.sub σ) (mpS ps μ') p (a.tmps.getD t undef))
  size : E.n ≤ a.tmps.size
  defs : a.defers = []
theorem slotsK_yes [Rho] {i : Nat} {G : Gm} {fr : Tr AV k} {e : Ve i} {ok : Ans} : ∀ {pat : List (Nat × AV)}, slotsK k E ps σ i G fr e pat ok = .yes → ok = .yes ∧ ∀ t p, (t, p) ∈ pat → ∃ v, opV (envOf k E i G fr e) (.tmp t) = some v ∧ mtcV ps σ p v = true
  | [], h => ⟨h, fun t p hp => nomatch hp⟩
  | (t0, p0) :: pat, h => by
    have h : (Option.rec (motive := fun _ => Ans) Ans.no (fun g => (Bool.rec (motive := fun _ => Ans) Ans.no (slotsK k E ps σ i G fr e pat ok) (mtcV ps σ p0 (Gv.rec (motive := fun _ => AV) (fun run => run fr e) g)))) (opnd k E i G (.tmp t0))) = .yes := h
    obtain ⟨g, hg, h1⟩ := inv_opt h
    obtain ⟨h2, h3⟩ := inv_if h1
    obtain ⟨h4, h5⟩ := slotsK_yes h3
    refine ⟨h4, fun t p hp => ?_⟩
    rcases List.mem_cons.1 hp with hp | hp
    · cases hp
      exact ⟨_, opnd_spec hg fr e, h2⟩
    · exact h5 t p hp
theorem MR.fits [R : Rho] {K : Kp} {μ : Mp} {h : Hp} {w : World} (r : MR K μ h w) {T : List (Nm × Blk)} {c : Nm} (hf : fitsT T c ps σ h.m = true) (hN : ∀ nm, ¬ K.N nm) : @MR (Rho.sub σ) K (mpS ps μ) (hpT T c) w := by
  have hf := Fits.of hf
  refine r.fit hf r.os r.tape r.output r.keep (fun n m bk hl hb => ?_) hN r.low r.inp
  obtain ⟨b, hb'⟩ := hf.dom n m hl
  obtain ⟨y, hy', hbm⟩ := hf.has n b hb'
  rw [hl] at hy'
  cases hy'
  have hne : Mem.at m h.m ≠ .no := fun e0 => by
    rw [e0] at hbm
    cases b <;> cases (show false = true from hbm)
  obtain ⟨bk', q1, q2, q3⟩ := r.live m hne
  rw [hb] at q1
  cases q1
  exact q3
theorem memK_yes {T : List (Nm × Blk)} {c : Nm} {h : Hp} (hy : memK T c ps σ h = .yes) : fitsT T c ps σ h.m = true := (inv_if (show (Bool.rec (motive := fun _ => Ans) Ans.no Ans.yes (fitsT T c ps σ h.m)) = .yes from hy)).1
theorem ends_of [R : Rho] {Kp : Kp} {μ μ' : Mp} (hN : ∀ nm, ¬ Kp.N nm) {i : Nat} {G : Gm} {fr : Tr AV k} {e : Ve i} {h : Hp} {pat : List (Nat × AV)} {Tm : List (Nm × Blk)} {cm : Nm} (hy : slotsK k E ps σ i G fr e pat (memK Tm cm ps σ h) = .yes) {a : Act} {w : World} (hx : Ext μ μ') (hs : SR E.n μ' (envOf k E i G fr e) a) (hr : MR Kp μ' h w) : Ends E ps σ pat Tm cm Kp μ a w := by
  obtain ⟨h1, h2⟩ := slotsK_yes hy
  have hf := memK_yes h1
  have hm : ∀ n m bk, nmOk ps n m = true → μ' m = some bk → mpS ps μ' n = some bk := fun n m bk h1 h2 => mpS_some (nmOk_lk ps h1) h2
  refine ⟨⟨μ', hx, hr.fits hf hN, fun t p hp => ?_⟩, hs.size, hs.defs⟩
  obtain ⟨v, q1, q2⟩ := h2 t p hp
  exact (hs.op q1).mtc hm q2
/-- A piece that comes to its end. -/
theorem fragN_ok [Rho] (hP : ProgOk P T) {hn : H} (hS : HSound P hn) (hE : EOk E) {c : Code} {ts : List Nat} (hts : ∀ t ∈ ts, t < 512) {avs : List AV} {h : Hp} {pat : List (Nat × AV)} {Tm : List (Nm × Blk)} {cm : Nm}
    (hy : fragN T hn k E fn.results.toList c ts avs h pat Tm cm ps σ = .yes) {Kp : Kp} (hN : ∀ nm, ¬ Kp.N nm) {μ : Mp} {a : Act} {w : World} (hA : At E ts avs Kp μ h a w) {Q : Exit → Act → World → Prop} (hQ : ∀ a' w', Ends E ps σ pat Tm cm Kp μ a' w' → Q .normal a' w') : c.wp P Q a w := by
  obtain ⟨o, h1, h2⟩ := frag_out (fn := fn) hP hS hE rfl hts hy
  cases o with
  | nrm i' G' fr' e' h' =>
    have h3 : slotsK k E ps σ i' G' fr' e' pat (memK Tm cm ps σ h') = .yes := h1.1
    refine wp_mono (h2 Kp μ a w hA) fun ex a' w' hp => ?_
    cases ex <;> first | exact hp.elim | skip
    obtain ⟨μ', q1, q2, q3⟩ := hp
    exact hQ a' w' (ends_of hN h3 q1 q2 q3)
  | ext id fr h => cases h1
  | gto l fr h => cases h1
  | ret v h => cases h1
/-- A piece that leaves a block. -/
theorem fragX_ok [Rho] (hP : ProgOk P T) {hn : H} (hS : HSound P hn) (hE : EOk E) {c : Code} {ts : List Nat} (hts : ∀ t ∈ ts, t < 512) {avs : List AV} {h : Hp} {id : Nat} {pat : List (Nat × AV)} {Tm : List (Nm × Blk)} {cm : Nm}
    (hy : fragX T hn k E fn.results.toList c ts avs h id pat Tm cm ps σ = .yes) {Kp : Kp} (hN : ∀ nm, ¬ Kp.N nm) {μ : Mp} {a : Act} {w : World} (hA : At E ts avs Kp μ h a w) {Q : Exit → Act → World → Prop} (hQ : ∀ a' w', Ends E ps σ pat Tm cm Kp μ a' w' → Q (.exit id) a' w') : c.wp P Q a w := by
  obtain ⟨o, h1, h2⟩ := frag_out (fn := fn) hP hS hE rfl hts hy
  cases o with
  | nrm i' G' fr' e' h' => cases h1.1
  | ext id' fr' h' =>
    obtain ⟨h3, h4⟩ := inv_if (show (Bool.rec (motive := fun _ => Ans) Ans.no (slotsK k E ps σ 0 Gm.no fr' () pat (memK Tm cm ps σ h')) (Nat.beq id' id)) = .yes from h1)
    have h3 := beq_iff.1 h3
    subst h3
    refine wp_mono (h2 Kp μ a w hA) fun ex a' w' hp => ?_
    cases ex <;> first | exact hp.elim | skip
    obtain ⟨rfl, μ', q1, q2, q3⟩ := hp
    exact hQ a' w' (ends_of hN h4 q1 q2 q3)
  | gto l fr h => cases h1
  | ret v h => cases h1
/-- A piece that comes back. -/
theorem fragR_ok [R : Rho] (hP : ProgOk P T) {hn : H} (hS : HSound P hn) (hE : EOk E) {c : Code} {ts : List Nat} (hts : ∀ t ∈ ts, t < 512) {avs : List AV} {h : Hp} {V : AV} {Tm : List (Nm × Blk)} {cm : Nm}
    (hy : fragR T hn k E fn.results.toList c ts avs h V Tm cm ps σ = .yes) {Kp : Kp} (hN : ∀ nm, ¬ Kp.N nm) {μ : Mp} {a : Act} {w : World} (hA : At E ts avs Kp μ h a w) {Q : Exit → Act → World → Prop}
    (hQ : ∀ a' w' v' μ', Ext μ μ' → a'.defers = [] → (results fn a'.tmps).run P w' = .ok v' w' → @VR (Rho.sub σ) (mpS ps μ') V v' → @MR (Rho.sub σ) Kp (mpS ps μ') (hpT Tm cm) w' → Q .ret a' w') : c.wp P Q a w := by
  obtain ⟨o, h1, h2⟩ := frag_out (fn := fn) hP hS hE rfl hts hy
  cases o with
  | nrm i' G' fr' e' h' => cases h1.1
  | ext id fr h => cases h1
  | gto l fr h => cases h1
  | ret v h' =>
    obtain ⟨h3, _⟩ := inv_if (show (Bool.rec (motive := fun _ => Ans) Ans.no Ans.yes (and_ (mtcV ps σ V v) (fitsT Tm cm ps σ h'.m))) = .yes from h1)
    obtain ⟨h4, h5⟩ := and_eq.1 h3
    refine wp_mono (h2 Kp μ a w hA) fun ex a' w' hp => ?_
    cases ex <;> first | exact hp.elim | skip
    obtain ⟨μ', q1, q2, q3, v', q4, q5⟩ := hp
    have hm : ∀ n m bk, nmOk ps n m = true → μ' m = some bk → mpS ps μ' n = some bk := fun n m bk h1 h2 => mpS_some (nmOk_lk ps h1) h2
    exact hQ a' w' v' μ' q1 q2 q5 (q4.mtc hm h4) (q3.fits h5 hN)
end
end
end Go.Proofs.YteefpemaeecicaaGreatDoor.Ev
end
section
open Go Go.RowKit
namespace Go.Proofs.YteefpemaeecicaaGreatDoor.Ev
set_option linter.unusedVariables false
set_option linter.unusedSimpArgs false
set_option linter.constructorNameAsVariable false
noncomputable section
structure Rho.Same (R1 R2 : Rho) : Prop where
  n : ∀ i, R1.n i % 18446744073709551616 = R2.n i % 18446744073709551616
  v : R1.v = R2.v
  inp : R1.inp = R2.inp
theorem kmN_dvd (w : Nat) : kmN w ∣ 18446744073709551616 := by
  unfold kmN
  split <;> decide
theorem mod_cong {a b w : Nat} (h : a % 18446744073709551616 = b % 18446744073709551616) : a % kmN w = b % kmN w := by
  rw [← Nat.mod_mod_of_dvd a (kmN_dvd w), h, Nat.mod_mod_of_dvd b (kmN_dvd w)]
theorem den_cong {R1 R2 : Rho} (h : Rho.Same R1 R2) : ∀ e, @den R1 e % 18446744073709551616 = @den R2 e % 18446744073709551616
  | .var i => h.n i
  | .lit n => rfl
  | .op c w a b => by
    show exF c w (@den R1 a % kmN w) (@den R1 b % kmN w) % _ = exF c w (@den R2 a % kmN w) (@den R2 b % kmN w) % _
    rw [mod_cong (den_cong h a), mod_cong (den_cong h b)]
theorem VR.cong {R1 R2 : Rho} (h : Rho.Same R1 R2) {μ : Mp} {a : AV} {v : Value} (r : @VR R1 μ a v) : @VR R2 μ a v := by
  induction r with
  | u v => exact @VR.u R2 μ v
  | x k r z hz => exact @VR.x R2 μ k r z hz
  | b x => exact @VR.b R2 μ x
  | n k u hu => exact @VR.n R2 μ k u hu
  | y k e =>
    have : @den R1 e % km k = @den R2 e % km k := by rw [← kmN_kc]; exact mod_cong (den_cong h e)
    rw [this]; exact @VR.y R2 μ k e
  | yo i => rw [h.v]; exact @VR.yo R2 μ i
  | ys l =>
    have : (l.map fun x => @den R1 x % 256) = l.map fun x => @den R2 x % 256 := List.map_congr_left fun x _ => mod_cong (w := 0) (den_cong h x)
    rw [this]; exact @VR.ys R2 μ l
  | yl k le l a n cap h1 h2 h3 h4 h5 =>
    have e : (l.map fun x => @den R1 x % km k) = l.map fun x => @den R2 x % km k := List.map_congr_left fun x _ => by rw [← kmN_kc]; exact mod_cong (den_cong h x)
    rw [e] at h1
    rw [den_cong h le] at h5
    refine @VR.yl R2 μ k le l a n cap ?_ h2 h3 h4 h5
    rcases h1 with h1 | ⟨b, off, arr, ty, fr, q1, q2, q3⟩
    · exact .inl h1
    · exact .inr ⟨b, off, arr, ty, fr, q1, by rw [← h.inp]; exact q2, q3⟩
  | yp k e a h1 =>
    have he : @den R1 e % km k = @den R2 e % km k := by rw [← kmN_kc]; exact mod_cong (den_cong h e)
    rw [he] at h1
    refine @VR.yp R2 μ k e a ?_
    rcases h1 with h1 | ⟨b, off, arr, ty, fr, q1, q2, q3⟩
    · exact .inl h1
    · exact .inr ⟨b, off, arr, ty, fr, q1, by rw [← h.inp]; exact q2, q3⟩
  | yf e x hx => rw [den_cong h e] at hx; exact @VR.yf R2 μ e x hx
  | yc e1 e2 a b h1 h2 =>
    rw [den_cong h e1] at h1
    rw [den_cong h e2] at h2
    exact @VR.yc R2 μ e1 e2 a b h1 h2
  | f z x hz => exact @VR.f R2 μ z x hz
  | c x y a b hx hy => exact @VR.c R2 μ x y a b hx hy
  | s l hl => exact @VR.s R2 μ l hl
  | p0 => exact @VR.p0 R2 μ
  | p nm off bk e => exact @VR.p R2 μ nm off bk e
  | sl0 => exact @VR.sl0 R2 μ
  | sl nm off len cap bk e h1 h2 => exact @VR.sl R2 μ nm off len cap bk e h1 h2
  | so nm off len bk cap e h1 h2 h3 => exact @VR.so R2 μ nm off len bk cap e h1 h2 h3
  | se a cap => exact @VR.se R2 μ a cap
  | m0 => exact @VR.m0 R2 μ
  | m nm bk e => exact @VR.m R2 μ nm bk e
  | fn0 => exact @VR.fn0 R2 μ
  | fn f a b x y h1 h2 _ _ i1 i2 => exact @VR.fn R2 μ f a b x y h1 h2 i1 i2
  | if0 => exact @VR.if0 R2 μ
  | tu l x h1 _ i1 => exact @VR.tu R2 μ l x h1 i1
  | a0 s t x h1 h2 h3 _ i => exact @VR.a0 R2 μ s t x h1 h2 h3 i
  | a1 s t x h1 h2 h3 _ i => exact @VR.a1 R2 μ s t x h1 h2 h3 i
  | a2 s t x h1 h2 h3 _ i => exact @VR.a2 R2 μ s t x h1 h2 h3 i
  | a3 s t x h1 h2 h3 _ i => exact @VR.a3 R2 μ s t x h1 h2 h3 i
theorem VRs.cong {R1 R2 : Rho} (h : Rho.Same R1 R2) {μ : Mp} {l : List AV} {x : List Value} (r : @VRs R1 μ l x) : @VRs R2 μ l x := ⟨r.1, fun i u c hu hc => (r.2 i u c hu hc).cong h⟩
theorem CellsR.cong {R1 R2 : Rho} (h : Rho.Same R1 R2) {μ : Mp} {arr : Array Value} {fr : Nat × Nat} {n es form ke : Nat} {t : Tr AV ke} {bk : Bk} (r : @CellsR R1 μ arr fr n es form ke t bk) : @CellsR R2 μ arr fr n es form ke t bk := by
  obtain ⟨a1, a2, a3, a4, a5, a6, a7, a8, a9, hleaf, hcell⟩ := @CellsR.all R1 _ _ _ _ _ _ _ _ _ r
  exact @CellsR.mk R2 μ arr fr n es form ke t bk a1 a2 a3 a4 a5 a6 a7 a8 a9 hleaf fun i hi => let ⟨c, c1, c2, c3⟩ := hcell i hi; ⟨c, c1, c2, c3.cong h⟩
theorem BlkR.cong {R1 R2 : Rho} (h : Rho.Same R1 R2) {μ : Mp} {w : World} {b : Blk} {bk : Bk} (r : @BlkR R1 μ w b bk) : @BlkR R2 μ w b bk := by
  cases b with
  | no => exact trivial
  | mp l =>
    obtain ⟨es, clock, h1, h2, h3, h4⟩ := r
    exact ⟨es, clock, h1, h2, fun i p q hp hq => ⟨(h3 i p q hp hq).1.cong h, (h3 i p q hp hq).2.cong h⟩, h4⟩
  | cells ty op n es form ke t =>
    obtain ⟨arr, fr, h1, h2⟩ := r
    exact ⟨arr, fr, h1, h2.cong h⟩
theorem MR.cong {R1 R2 : Rho} (h : Rho.Same R1 R2) {K : Kp} {μ : Mp} {hp : Hp} {w : World} (r : @MR R1 K μ hp w) (hN : ∀ nm, ¬ K.N nm) : @MR R2 K μ hp w := by
  obtain ⟨ros, rtape, rout, rkeep, rdom, rlive, size, rinp, rinj⟩ := @MR.all R1 _ _ _ _ r
  exact @MR.mk R2 K μ hp w ros rtape rout rkeep rdom (fun nm hn => let ⟨bk, b1, b2, b3⟩ := rlive nm hn; ⟨bk, b1, b2.cong h, b3⟩) (fun nm h => (hN nm h).elim) size (fun b o hb => rinp b o (by rw [h.inp]; exact hb)) rinj
theorem Rho.Same.of_sub {R R2 : Rho} {σ : List Ex} (hn : ∀ i, @den R (getE σ i) % 18446744073709551616 = R2.n i % 18446744073709551616) (hv : R.v = R2.v) (hi : R.inp = R2.inp) : Rho.Same (@Rho.sub R σ) R2 := ⟨hn, hv, hi⟩
/-! ### Loops -/
theorem loop_meas {P : Program} {α : Type} {c : Code} {id : Nat} (m : α → Nat) (Inv : α → Act → World → Prop) (Fin : Act → World → Prop)
    (hb : ∀ s a w, Inv s a w → c.wp P (fun ex a' w' => (ex = .exit id ∧ Fin a' w') ∨ (ex = .normal ∧ ∃ s', m s' < m s ∧ Inv s' a' w')) a w) :
    ∀ s a w, Inv s a w → (Code.block id (.loop c)).wp P (fun ex a' w' => ex = .normal ∧ Fin a' w') a w := by
  have key : ∀ n s a w, m s < n → Inv s a w → LoopWp P c (fun ex a' w' => ex = .exit id ∧ Fin a' w') a w := by
    intro n
    induction n with
    | zero => intro s a w h; omega
    | succ n ih =>
      intro s a w hlt hi
      refine loop_bind (hb s a w hi) fun ex a' w' hq => ?_
      rcases hq with ⟨rfl, hf⟩ | ⟨rfl, s', h1, h2⟩
      · exact ⟨rfl, hf⟩
      · exact ih s' a' w' (by omega) h2
  intro s a w hi
  refine wp_block (wp_mono (loop_wp (key _ s a w (Nat.lt_succ_self _) hi)) fun ex a' w' hq => ?_)
  obtain ⟨rfl, hf⟩ := hq
  simp only [Exit.inBlock, if_true]
  exact ⟨trivial, hf⟩
/-- A function's begin. -/
theorem at_start [Rho] {E : Em} {fn : Func} (hE : E.n ≤ fn.ntmps) {avs : List AV} {Kp : Kp} {μ : Mp} {h : Hp} {w : World} {args : Array Value} (hr : MR Kp μ h w) (hv : VRs μ avs args.toList) : At E (List.range avs.length) avs Kp μ h { tmps := args ++ Array.replicate (fn.ntmps - args.size) undef, defers := [] } w := by
  refine ⟨hr, fun j t v ht hv' => ?_, by simp; omega, rfl⟩
  have hj := (List.getElem?_eq_some_iff.1 hv').1
  have ht' : t = j := by
    rw [List.getElem?_range hj] at ht
    exact (Option.some.inj ht).symm
  subst ht'
  have hlen : args.size = avs.length := by have := hv.1; simpa using this
  obtain ⟨c, q1, q2⟩ := hv.at hv'
  have q1' : args[t]? = some c := by simpa using q1
  show VR μ v ((args ++ Array.replicate (fn.ntmps - args.size) undef).getD t undef)
  rw [Array.getD_eq_getD_getElem?, Array.getElem?_append_left (by omega), q1']
  exact q2
/-- From an end to a begin: the names of a list stay, the unknowns are told anew. -/
theorem Ends.next {R R2 : Rho} {E : Em} {ps : List (Nm × Nm)} {σ : List Ex} {pat : List (Nat × AV)} {T : List (Nm × Blk)} {c : Nm} {Kp : Kp} (hN : ∀ nm, ¬ Kp.N nm) {μ : Mp} {a : Act} {w : World} (h : @Ends R E ps σ pat T c Kp μ a w)
    (hs : Rho.Same (@Rho.sub R σ) R2) (st : List Nm) (hst : (st.all fun n => (lk ps n).any fun m => Nm.beq m n) = true) (hd : ∀ n ∈ st, ∃ bk, μ n = some bk) :
    ∃ μ2, @At R2 E (pat.map Prod.fst) (pat.map Prod.snd) Kp μ2 (hpT T c) a w ∧ ∀ n ∈ st, μ2 n = μ n := by
  obtain ⟨⟨μ', h1, h2, h3⟩, h4, h5⟩ := h
  refine ⟨mpS ps μ', @At.mk R2 E _ _ Kp _ _ a w (h2.cong hs hN) (fun j t v ht hv => ?_) h4 h5, fun n hn => ?_⟩
  · rw [List.getElem?_map, Option.map_eq_some_iff] at ht hv
    obtain ⟨x, hx, rfl⟩ := ht
    obtain ⟨y, hy, rfl⟩ := hv
    rw [hx] at hy; cases hy
    exact (h3 x.1 x.2 (List.mem_of_getElem? hx)).cong hs
  · have := List.all_eq_true.1 hst n hn
    cases hl : lk ps n with
    | none => rw [hl] at this; cases this
    | some m =>
      rw [hl] at this
      have e : m = n := nm_beq.1 this
      subst e
      obtain ⟨bk, hb⟩ := hd m hn
      rw [hb]
      exact mpS_some hl (h1 m bk hb)
end
end Go.Proofs.YteefpemaeecicaaGreatDoor.Ev
end
section
open Go Go.RowKit
namespace Go.Proofs.YteefpemaeecicaaGreatDoor.Ev
set_option linter.unusedVariables false
set_option linter.unusedSimpArgs false
set_option linter.constructorNameAsVariable false
/-- The first piece, what follows it, what is within. -/
def cFst : Code → Code | .seq a _ => a | c => c
def cSnd : Code → Code | .seq _ b => b | c => c
def cIn : Code → Code | .block _ a => a | .loop a => a | .scope a => a | c => c
def cOf (fn : Func) : Code := fn.body.getD .skip
def blkB (b : Blk) : Bool := match b with | .no => false | _ => true
/-- Names rise, and each names something. -/
noncomputable def goodT (T : List (Nm × Blk)) (c : Nm) : Bool := incT c T 0 && T.all fun x => blkB x.2
noncomputable section
theorem goodT_live {T : List (Nm × Blk)} {c : Nm} (h : goodT T c = true) {n : Nm} {b : Blk} (hb : (n, b) ∈ T) : Mem.at n (memT T) ≠ .no := by
  obtain ⟨h1, h2⟩ := (Bool.and_eq_true _ _).mp h
  rw [memT_mem T 0 h1 n b hb]
  intro e
  have := List.all_eq_true.1 h2 _ hb
  rw [show ((n, b) : Nm × Blk).2 = b from rfl, e] at this
  cases this
theorem MR.names {R : Rho} {K : Kp} {μ : Mp} {T : List (Nm × Blk)} {c c' : Nm} {w : World} (h : goodT T c' = true) (r : @MR R K μ (hpT T c) w) {n : Nm} {b : Blk} (hb : (n, b) ∈ T) : ∃ bk, μ n = some bk := by
  obtain ⟨_, _, _, _, _, rlive, _, _, _⟩ := @MR.all R _ _ _ _ r
  obtain ⟨bk, h1, _⟩ := rlive n (goodT_live h hb)
  exact ⟨bk, h1⟩
theorem mpS_dom {ps : List (Nm × Nm)} {T : List (Nm × Blk)} (h : namesT T ps = true) {μ : Mp} {n : Nm} {bk : Bk} (hm : mpS ps μ n = some bk) : ∃ b, (n, b) ∈ T := by
  obtain ⟨m, h1, _⟩ := mpS_inv hm
  have : n ∈ T.map Prod.fst := by rw [namesT_eq h]; exact List.mem_map.2 ⟨(n, m), lk_mem h1, rfl⟩
  obtain ⟨⟨n', b⟩, hb, rfl⟩ := List.mem_map.1 this
  exact ⟨b, hb⟩
/-- The names of a list stay. -/
theorem mpS_stay {ps : List (Nm × Nm)} {μ μ' : Mp} (hx : Ext μ μ') {st : List Nm} (hst : (st.all fun n => (lk ps n).any fun m => Nm.beq m n) = true) (hd : ∀ n ∈ st, ∃ bk, μ n = some bk) : ∀ n ∈ st, mpS ps μ' n = μ n := by
  intro n hn
  have := List.all_eq_true.1 hst n hn
  cases hl : lk ps n with
  | none => rw [hl] at this; cases this
  | some m =>
    rw [hl] at this
    have e : m = n := nm_beq.1 this
    subst e
    obtain ⟨bk, hb⟩ := hd m hn
    rw [hb]
    exact mpS_some hl (hx m bk hb)
theorem Rho.Same.rfl' (R : Rho) : Rho.Same R R := ⟨fun _ => rfl, rfl, rfl⟩
theorem sub_nil (R : Rho) : Rho.Same (@Rho.sub R []) R := ⟨fun _ => rfl, rfl, rfl⟩
/-! ### What expressions are -/
theorem den_var [R : Rho] (i : Nat) : den (.var i) = R.n i := rfl
theorem den_lit [Rho] (n : Nat) : den (.lit n) = n := rfl
theorem den_op [Rho] (c w : Nat) (a b : Ex) : den (.op c w a b) = exF c w (den a % kmN w) (den b % kmN w) := rfl
theorem exF_add (w a b : Nat) : exF 0 w a b = a + b := rfl
theorem exF_sub (w a b : Nat) : exF 1 w a b = a + (kmN w - b) := rfl
theorem exF_rem (a b : Nat) : exF 10 3 a b = sRem (khN 3) (kmN 3) a b := rfl
theorem kmN_3 : kmN 3 = 18446744073709551616 := rfl
theorem kmN_7 : kmN 7 = 18446744073709551616 := rfl
theorem khN_3 : khN 3 = 9223372036854775808 := rfl
/-! ### What is taken, one by one -/
theorem holds_cons [Rho] {a : As} {l : List As} (h : cmpD a.c a.j (den a.x % kmN a.j) (den a.y % kmN a.j) = a.b) (t : Holds l) : Holds (a :: l) := fun x hx => by
  rcases List.mem_cons.1 hx with rfl | hx
  · exact h
  · exact t x hx
/-- Less than 2^53. -/
theorem take_lim [Rho] {e : Ex} (h : den e % 18446744073709551616 < 9007199254740992) : cmpD 2 7 (den e % kmN 7) (den (.lit 9007199254740992) % kmN 7) = true := ble_iff.2 (show den e % 18446744073709551616 + 1 ≤ 9007199254740992 by omega)
/-- Greater, of whole numbers from nought below 2^63. -/
theorem take_gt [Rho] {e : Ex} {n : Nat} {b : Bool} (h : den e % 18446744073709551616 < 9223372036854775808) (hn : n < 9223372036854775808) (hb : b = decide (n < den e % 18446744073709551616)) : cmpD 4 3 (den e % kmN 3) (den (.lit n) % kmN 3) = b := by
  show ltN 3 (n % 18446744073709551616) (den e % 18446744073709551616) = b
  rw [ltN3, hb]
  exact decide_eq_decide.2 (by omega)
theorem take_eq [Rho] {x y : Ex} {j : Nat} {b : Bool} (hb : b = decide (den x % kmN j = den y % kmN j)) : cmpD 0 j (den x % kmN j) (den y % kmN j) = b := by
  show Nat.beq _ _ = b
  rw [hb, Bool.eq_iff_iff, decide_eq_true_eq]
  exact beq_iff
theorem take_ne [Rho] {x y : Ex} {j : Nat} {b : Bool} (hb : b = decide (den x % kmN j ≠ den y % kmN j)) : cmpD 1 j (den x % kmN j) (den y % kmN j) = b := by
  show not_ (Nat.beq _ _) = b
  rw [hb, not_eq, Bool.eq_iff_iff, Bool.not_eq_true', decide_eq_true_eq]
  constructor
  · intro h e; rw [beq_iff.2 e] at h; cases h
  · intro h
    cases hb : Nat.beq (den x % kmN j) (den y % kmN j) with
    | false => rfl
    | true => exact (h (beq_iff.1 hb)).elim
/-- From the end of a piece back to its memory, under the old unknowns. -/
theorem back_to {R R2 : Rho} {σ : List Ex} (hs : Rho.Same (@Rho.sub R σ) R2) {K : Kp} (hN : ∀ nm, ¬ K.N nm) {μ : Mp} {T : List (Nm × Blk)} {c : Nm} {w : World} (r : @MR (@Rho.sub R σ) K μ (hpT T c) w) : @MR R2 K μ (hpT T c) w := r.cong hs hN
end
end Go.Proofs.YteefpemaeecicaaGreatDoor.Ev
end
section
open Go Go.RowKit
namespace Go.Proofs.YteefpemaeecicaaGreatDoor.Ev
set_option linter.unusedVariables false
set_option linter.unusedSimpArgs false
set_option linter.constructorNameAsVariable false
noncomputable section
/-- Of such values it gives this one. -/
def constF (A : List AV) (V : AV) : Fc := ⟨fun _ l h kk => Bool.rec (motive := fun _ => Ans) Ans.no (kk V h) (mtcL [] [] A l)⟩
theorem constF_ok [R : Rho] {P : Program} {f : FuncId} {A : List AV} {V : AV} (he : Enter P f) (C : ∀ μ w (args : Array Value), VRs μ A args.toList → Calls P f args w (fun e w' => ∃ v', e = .returned v' ∧ VR μ V v' ∧ Below w.heap.size w w')) : FcOk P f (constF A V) := by
  intro hn hS l h kk hy
  obtain ⟨h1, h2⟩ := inv_if (show (Bool.rec (motive := fun _ => Ans) Ans.no (kk V h) (mtcL [] [] A l)) = .yes from hy)
  refine ⟨he, V, h, h2, fun K μ w args hr hv => ?_⟩
  have hv2 : VRs μ A args.toList := VRs.cong (sub_nil R) (mtcL_ok (ps := []) (σ := []) (μ := μ) (μ2 := μ) (fun n m bk h => by cases (show false = true from h)) h1 hv)
  exact (C μ w args hv2).mono fun e w' ⟨v', e1, e2, e3⟩ => ⟨μ, v', e1, Ext.refl μ, e2, hr.keeps e3⟩
/-- A call that ends in 'true', from an empty memory. -/
theorem calls_true [Rho] {P : Program} {hn : H} (hS : HSound P hn) {f : Nat} {l : List AV} (hy : hn.run f l hp0 okT = .yes) (w : World) (args : Array Value) (hv : VRs mp0 l args.toList) (hi : ∀ b o, Rho.inp b = some o → w.heap[b]? = some o) : Calls P f args w (fun e w' => e = .returned (.bool true) ∧ Below w.heap.size w w') := by
  obtain ⟨he, v, h', h1, h2⟩ := hS f l hp0 okT hy
  refine (h2 _ mp0 w args (MR.start w hi) hv).mono fun e w' ⟨μ', v', e1, _, e3, e4⟩ => ?_
  have hv' := okT_yes h1
  subst hv'
  rw [e3.b_inv] at e1
  exact ⟨e1, e4.below⟩
end
end Go.Proofs.YteefpemaeecicaaGreatDoor.Ev
end
section
open Go Go.RowKit
namespace Go.Proofs.YteefpemaeecicaaGreatDoor.Ev
set_option linter.unusedVariables false
set_option linter.unusedSimpArgs false
set_option linter.constructorNameAsVariable false
noncomputable section
theorem Rho.Same.symm {R1 R2 : Rho} (h : Rho.Same R1 R2) : Rho.Same R2 R1 := ⟨fun i => (h.n i).symm, h.v.symm, h.inp.symm⟩
theorem Ctr.cong {R1 R2 : Rho} (hs : Rho.Same R1 R2) {P : Program} {f : FuncId} {A : List AV} {T0 T1 : List (Nm × Blk)} {c0 c1 : Nm} {V : AV} (C : @Ctr R1 P f A T0 c0 V T1 c1) : @Ctr R2 P f A T0 c0 V T1 c1 := by
  intro K μ w args hN hr hv
  refine (C K μ w args hN (hr.cong hs.symm hN) (hv.cong hs.symm)).mono fun e w' ⟨μ', v', e1, e2, e3, e4, e5⟩ => ?_
  exact ⟨μ', v', e1, e2.cong hs, e3.cong hs hN, e4, e5⟩
theorem sameE_ok [Rho] {tk : List As} (hA : Holds tk) {x y : Ex} (h : sameE tk x y = true) : den x % 18446744073709551616 = den y % 18446744073709551616 := by
  have h : Bool.rec (motive := fun _ => Bool) (Option.rec (motive := fun _ => Bool) false (fun r => r) (wCmp tk 0 7 x y)) true (eqE x y) = true := h
  cases he : eqE x y with
  | true => rw [ebeq he]
  | false =>
    rw [he] at h
    cases hw : wCmp tk 0 7 x y with
    | none => rw [hw] at h; cases h
    | some r =>
      rw [hw] at h
      have h : r = true := h
      subst h
      have := wCmp_ok hA (by omega) hw
      exact beq_iff.1 (show Nat.beq (den x % 18446744073709551616) (den y % 18446744073709551616) = true from this)
theorem sameL_ok [Rho] {tk : List As} (hA : Holds tk) (i : Nat) : ∀ {l m : List Ex}, sameL tk l m = true → ∀ j, den ((lrec l (fun _ => .var i) (fun a _ ih j => Nat.rec (motive := fun _ => Ex) a (fun j _ => ih j) j) : Nat → Ex) j) % 18446744073709551616 = den ((lrec m (fun _ => .var i) (fun a _ ih j => Nat.rec (motive := fun _ => Ex) a (fun j _ => ih j) j) : Nat → Ex) j) % 18446744073709551616
  | [], [], _, _ => rfl
  | [], _ :: _, h, _ => by cases h
  | _ :: _, [], h, _ => by cases h
  | a :: l, b :: m, h, j => by
    obtain ⟨h1, h2⟩ := and_eq.1 (show and_ (sameE tk a b) (sameL tk l m) = true from h)
    cases j with
    | zero => exact sameE_ok hA h1
    | succ j => exact sameL_ok hA i h2 j
theorem same_of [R : Rho] {tk : List As} (hA : Holds tk) {l m : List Ex} (h : sameL tk l m = true) : Rho.Same (@Rho.sub R l) (@Rho.sub R m) := ⟨fun i => sameL_ok hA i h i, rfl, rfl⟩
theorem ctI_ok [R : Rho] {tk : List As} (hA : Holds tk) {P : Program} {f : FuncId} {A : List AV} {T0 T1 : List (Nm × Blk)} {c0 c1 : Nm} {s : List Ex} {V : AV} {news : List Nm} (he : Enter P f) (C : @Ctr (Rho.sub s) P f A T0 c0 V T1 c1) (h1 : incT c1 T1 0 = true) (hn : newsB T0 T1 news = true) : FcOk P f (ctI tk A T0 c0 s V T1 news) := by
  intro H hS l h kk hy
  obtain ⟨m, c⟩ := h
  have hy : (Fd.rec (motive := fun _ => Ans) (fun ps _ vs => Bool.rec (motive := fun _ => Ans) Ans.no (Fc.rec (motive := fun _ => Ans) (fun run => run H l ⟨m, c⟩ kk) (ctF A T0 c0 (fdP T0 ps) (fdS vs (lrec s 0 fun _ _ i => Nat.succ i)) V T1 news)) (sameL tk (fdS vs (lrec s 0 fun _ _ i => Nat.succ i)) s)) (fdR T0 m 8 (fdL A l ⟨[], [], []⟩)) : Ans) = .yes := hy
  cases hf : fdR T0 m 8 (fdL A l ⟨[], [], []⟩) with
  | mk ps nw vs =>
    rw [hf] at hy
    obtain ⟨h2, h3⟩ := inv_if hy
    exact ctF_ok (ps := fdP T0 ps) he (C.cong (same_of hA h2).symm) h1 hn H hS l ⟨m, c⟩ kk h3
theorem altF_ok [Rho] {P : Program} {f : FuncId} {A : List AV} {F G : Fc} (hF : FcOk P f F) (hG : FcOk P f G) : FcOk P f (altF A F G) := by
  intro H hS l h kk hy
  have hy : (Bool.rec (motive := fun _ => Ans) (Fc.rec (motive := fun _ => Ans) (fun run => run H l h kk) G) (Fc.rec (motive := fun _ => Ans) (fun run => run H l h kk) F) (mtcL [] [] A l) : Ans) = .yes := hy
  rcases inv_bif hy with ⟨_, h1⟩ | ⟨_, h1⟩
  · exact hF H hS l h kk h1
  · exact hG H hS l h kk h1
/-- Does a template fit what is there? -/
def fitI (tk : List As) (A : List AV) (T0 : List (Nm × Blk)) (c0 : Nm) (s : List Ex) (l : List AV) (m : Mem) : Bool := Fd.rec (motive := fun _ => Bool) (fun ps _ vs => and_ (sameL tk (fdS vs (lrec s 0 fun _ _ i => Nat.succ i)) s) (and_ (mtcL (fdP T0 ps) (fdS vs (lrec s 0 fun _ _ i => Nat.succ i)) A l) (fitsT T0 c0 (fdP T0 ps) (fdS vs (lrec s 0 fun _ _ i => Nat.succ i)) m))) (fdR T0 m 8 (fdL A l ⟨[], [], []⟩))
/-- Where it fits the one, else the other. -/
def orI (tk : List As) (A : List AV) (T0 : List (Nm × Blk)) (c0 : Nm) (s : List Ex) (F G : Fc) : Fc := ⟨fun H l h kk => Hp.rec (motive := fun _ => Ans) (fun m c => Bool.rec (motive := fun _ => Ans) (Fc.rec (motive := fun _ => Ans) (fun run => run H l ⟨m, c⟩ kk) G) (Fc.rec (motive := fun _ => Ans) (fun run => run H l ⟨m, c⟩ kk) F) (fitI tk A T0 c0 s l m)) h⟩
theorem orI_ok [Rho] {P : Program} {f : FuncId} {tk : List As} {A : List AV} {T0 : List (Nm × Blk)} {c0 : Nm} {s : List Ex} {F G : Fc} (hF : FcOk P f F) (hG : FcOk P f G) : FcOk P f (orI tk A T0 c0 s F G) := by
  intro H hS l h kk hy
  obtain ⟨m, c⟩ := h
  have hy : (Bool.rec (motive := fun _ => Ans) (Fc.rec (motive := fun _ => Ans) (fun run => run H l ⟨m, c⟩ kk) G) (Fc.rec (motive := fun _ => Ans) (fun run => run H l ⟨m, c⟩ kk) F) (fitI tk A T0 c0 s l m) : Ans) = .yes := hy
  rcases inv_bif hy with ⟨_, h1⟩ | ⟨_, h1⟩
  · exact hF H hS l _ kk h1
  · exact hG H hS l _ kk h1
end
end Go.Proofs.YteefpemaeecicaaGreatDoor.Ev
end
section
open Go Go.RowKit
namespace Go.Proofs.YteefpemaeecicaaGreatDoor.Ev
set_option linter.unusedVariables false
set_option linter.unusedSimpArgs false
set_option linter.constructorNameAsVariable false
noncomputable section
/-- Closures one behind the other. -/
def itN {k : Nat} (C : Cc k) (N : (i : Nat) → Gm → Oc k i) (n : Nat) : (i : Nat) → Gm → Oc k i := Cc.rec (motive := fun _ => (i : Nat) → Gm → Oc k i) (fun it _ => nrec n N fun _ ih => it ih) C
/-- A piece that comes to its end so many times. -/
def fragI (T : Ty) (hn : H) (k : Nat) (E : Em) (rs : List ResultVar) (c : Code) (n : Nat) (ts : List Nat) (avs : List AV) (h : Hp) (pat : List (Nat × AV)) (Tm : List (Nm × Blk)) (cm : Nm) (ps : List (Nm × Nm)) (σ : List Ex) : Ans := fragRun T hn k E rs c ts avs h (itN (comp T k E rs (regF T k E) c) (stopN k E pat Tm cm ps σ) n) (fun _ _ _ => Ans.no) (fun _ _ => Ans.no)
/-- So many times, each to its end. -/
def Iter (P : Program) (c : Code) (R : Act → World → Prop) : Nat → Act → World → Prop
  | 0, a, w => R a w
  | n + 1, a, w => c.wp P (fun ex a' w' => ex = .normal ∧ Iter P c R n a' w') a w
theorem Iter.mono {P : Program} {c : Code} {R R' : Act → World → Prop} (h : ∀ a w, R a w → R' a w) : ∀ {n a w}, Iter P c R n a w → Iter P c R' n a w
  | 0, a, w, q => h a w q
  | n + 1, a, w, q => wp_mono (show c.wp P _ a w from q) fun ex a' w' ⟨e, q⟩ => ⟨e, Iter.mono h q⟩
theorem Iter.loop {P : Program} {c : Code} {Q : Exit → Act → World → Prop} : ∀ {n a w}, Iter P c (LoopWp P c Q) n a w → LoopWp P c Q a w
  | 0, a, w, q => q
  | n + 1, a, w, q => loop_bind (show c.wp P _ a w from q) fun ex a' w' ⟨e, q⟩ => by
    subst e
    exact Iter.loop q
section
variable {P : Program} {T : Ty} {k : Nat} {E : Em} {fn : Func} {ps : List (Nm × Nm)} {σ : List Ex}
theorem iter_out [Rho] {hn : H} {c : Code} {cc : Cc k} (hC : CcOk P E fn hn c cc) {N : (i : Nat) → Gm → Oc k i} {cx : Cx k} (hcx : cx.hn = hn) (he : ∀ id fr h, cx.e id fr h ≠ .yes) (hg : ∀ l fr h, cx.g l fr h ≠ .yes) (hr : ∀ v h, cx.r v h ≠ .yes) :
    ∀ (n i : Nat) (G : Gm) (fr : Tr AV k) (e : Ve i) (h : Hp), WfG i G → (itN cc N n i G).run cx fr e h = .yes →
      ∃ i' G' fr' e' h', (N i' G').run cx fr' e' h' = .yes ∧ ∀ Kp μ a w, MR Kp μ h w → SR E.n μ (envOf k E i G fr e) a → Iter P c (fun a' w' => ∃ μ', Ext μ μ' ∧ SR E.n μ' (envOf k E i' G' fr' e') a' ∧ MR Kp μ' h' w') n a w := by
  intro n
  induction n with
  | zero => exact fun i G fr e h hG hy => ⟨i, G, fr, e, h, hy, fun Kp μ a w q1 q2 => ⟨μ, Ext.refl μ, q2, q1⟩⟩
  | succ n ih =>
    intro i G fr e h hG hy
    obtain ⟨o, h1, h2⟩ := hC.it (itN cc N n) i G cx fr e h hcx hG hy
    cases o with
    | nrm i1 G1 fr1 e1 hh1 =>
      obtain ⟨q1, q2⟩ := h1
      obtain ⟨i', G', fr', e', h', r1, r2⟩ := ih i1 G1 fr1 e1 hh1 q2 q1
      refine ⟨i', G', fr', e', h', r1, fun Kp μ a w m s => ?_⟩
      refine wp_mono (h2 Kp μ a w m s) fun ex a' w' hp => ?_
      cases ex <;> first | exact hp.elim | skip
      obtain ⟨μ1, p1, p2, p3⟩ := hp
      exact ⟨rfl, Iter.mono (fun a w ⟨μ2, s1, s2, s3⟩ => ⟨μ2, p1.trans s1, s2, s3⟩) (r2 Kp μ1 a' w' p3 p2)⟩
    | ext id fr h => exact (he _ _ _ h1).elim
    | gto l fr h => exact (hg _ _ _ h1).elim
    | ret v h => exact (hr _ _ h1).elim
theorem fragI_ok [Rho] (hP : ProgOk P T) {hn : H} (hS : HSound P hn) (hE : EOk E) {c : Code} {ts : List Nat} (hts : ∀ t ∈ ts, t < 512) {avs : List AV} {h : Hp} {pat : List (Nat × AV)} {Tm : List (Nm × Blk)} {cm : Nm} {n : Nat}
    (hy : fragI T hn k E fn.results.toList c n ts avs h pat Tm cm ps σ = .yes) {Kp : Kp} (hN : ∀ nm, ¬ Kp.N nm) {μ : Mp} {a : Act} {w : World} (hA : At E ts avs Kp μ h a w) {R : Act → World → Prop} (hR : ∀ a' w', Ends E ps σ pat Tm cm Kp μ a' w' → R a' w') : Iter P c R (n + 1) a w := by
  obtain ⟨o, h1, h2⟩ := frag_out (fn := fn) hP hS hE rfl hts hy
  have hC := comp_ok (fn := fn) hS hP.types hP.structs hE hP.mixed (hP.draw k E hn hE hS) c
  cases o with
  | nrm i' G' fr' e' h' =>
    obtain ⟨q1, q2⟩ := h1
    rw [regF_eq] at q1
    obtain ⟨i2, G2, fr2, e2, hh2, r1, r2⟩ := iter_out hC (cx := ⟨hn, fun _ _ => Ans.no, fun _ _ _ => Ans.no, fun _ _ _ => Ans.no, fun _ _ => Ans.no⟩) rfl (fun _ _ _ h => by cases h) (fun _ _ _ h => by cases h) (fun _ _ h => by cases h) n i' G' fr' e' h' q2 q1
    have h3 : slotsK k E ps σ i2 G2 fr2 e2 pat (memK Tm cm ps σ hh2) = .yes := r1
    refine wp_mono (h2 Kp μ a w hA) fun ex a' w' hp => ?_
    cases ex <;> first | exact hp.elim | skip
    obtain ⟨μ', p1, p2, p3⟩ := hp
    refine ⟨rfl, Iter.mono (fun a2 w2 ⟨μ2, s1, s2, s3⟩ => ?_) (r2 Kp μ' a' w' p3 p2)⟩
    exact hR a2 w2 (ends_of hN h3 (p1.trans s1) s2 s3)
  | ext id fr h => cases h1
  | gto l fr h => cases h1
  | ret v h => cases h1
/-- The first pieces of a row of pieces; what comes behind them. -/
def headC : Nat → Code → Code
  | 0, .seq a _ => a
  | k + 1, .seq a b => .seq a (headC k b)
  | _, c => c
def tailC : Nat → Code → Code
  | 0, .seq _ b => b
  | k + 1, .seq _ b => tailC k b
  | _, c => c
def isRow : Nat → Code → Bool
  | 0, .seq _ _ => true
  | k + 1, .seq _ b => isRow k b
  | _, _ => false
theorem head_out [Rho] {hn : H} (hS : HSound P hn) (hP : ProgOk P T) (hE : EOk E) {cx : Cx k} (hcx : cx.hn = hn) (he : ∀ id fr h, cx.e id fr h ≠ .yes) (hg : ∀ l fr h, cx.g l fr h ≠ .yes) (hr : ∀ v h, cx.r v h ≠ .yes) {N : (i : Nat) → Gm → Oc k i} :
    ∀ (n : Nat) (c : Code), isRow n c = true → ∀ (i : Nat) (G : Gm) (fr : Tr AV k) (e : Ve i) (h : Hp), WfG i G → ((comp T k E fn.results.toList (regD T k E) (headC n c)).it N i G).run cx fr e h = .yes →
      ∃ i' G' fr' e' h', (N i' G').run cx fr' e' h' = .yes ∧ ∀ Kp μ a w, MR Kp μ h w → SR E.n μ (envOf k E i G fr e) a → ∀ Q, (∀ μ' a' w', Ext μ μ' → SR E.n μ' (envOf k E i' G' fr' e') a' → MR Kp μ' h' w' → (tailC n c).wp P Q a' w') → c.wp P Q a w := by
  have one : ∀ (a b : Code) (M : (i : Nat) → Gm → Oc k i) (i : Nat) (G : Gm) (fr : Tr AV k) (e : Ve i) (h : Hp), WfG i G → ((comp T k E fn.results.toList (regD T k E) a).it M i G).run cx fr e h = .yes →
      ∃ i' G' fr' e' h', (M i' G').run cx fr' e' h' = .yes ∧ WfG i' G' ∧ ∀ Kp μ ac w, MR Kp μ h w → SR E.n μ (envOf k E i G fr e) ac → ∀ Q, (∀ μ' a' w', Ext μ μ' → SR E.n μ' (envOf k E i' G' fr' e') a' → MR Kp μ' h' w' → b.wp P Q a' w') → (Code.seq a b).wp P Q ac w := by
    intro a b M i G fr e h hG hy
    have hC := comp_ok (fn := fn) hS hP.types hP.structs hE hP.mixed (hP.draw k E hn hE hS) a
    obtain ⟨o, h1, h2⟩ := hC.it M i G cx fr e h hcx hG hy
    cases o with
    | nrm i1 G1 fr1 e1 hh1 =>
      obtain ⟨q1, q2⟩ := h1
      refine ⟨i1, G1, fr1, e1, hh1, q1, q2, fun Kp μ ac w m s Q hQ => wp_seq (wp_mono (h2 Kp μ ac w m s) fun ex a' w' hp => ?_)⟩
      cases ex <;> first | exact hp.elim | skip
      obtain ⟨μ1, p1, p2, p3⟩ := hp
      exact hQ μ1 a' w' p1 p2 p3
    | ext id fr h => exact (he _ _ _ h1).elim
    | gto l fr h => exact (hg _ _ _ h1).elim
    | ret v h => exact (hr _ _ h1).elim
  intro n
  induction n with
  | zero =>
    intro c hc i G fr e h hG hy
    cases c with
    | seq a b =>
      obtain ⟨i', G', fr', e', h', q1, _, q2⟩ := one a b N i G fr e h hG hy
      exact ⟨i', G', fr', e', h', q1, q2⟩
    | _ => cases hc
  | succ n ih =>
    intro c hc i G fr e h hG hy
    cases c with
    | seq a b =>
      obtain ⟨i1, G1, fr1, e1, hh1, q1, q2, q3⟩ := one a b ((comp T k E fn.results.toList (regD T k E) (headC n b)).it N) i G fr e h hG hy
      obtain ⟨i', G', fr', e', h', r1, r2⟩ := ih b hc i1 G1 fr1 e1 hh1 q2 q1
      exact ⟨i', G', fr', e', h', r1, fun Kp μ ac w m s Q hQ => q3 Kp μ ac w m s Q fun μ1 a' w' x1 s1 m1 => r2 Kp μ1 a' w' m1 s1 Q fun μ2 a2 w2 x2 s2 m2 => hQ μ2 a2 w2 (x1.trans x2) s2 m2⟩
    | _ => cases hc
/-- The first pieces, that come to their end. -/
theorem fragH_ok [Rho] (hP : ProgOk P T) {hn : H} (hS : HSound P hn) (hE : EOk E) {n : Nat} {c : Code} (hc : isRow n c = true) {ts : List Nat} (hts : ∀ t ∈ ts, t < 512) {avs : List AV} {h : Hp} {pat : List (Nat × AV)} {Tm : List (Nm × Blk)} {cm : Nm}
    (hy : fragN T hn k E fn.results.toList (headC n c) ts avs h pat Tm cm ps σ = .yes) {Kp : Kp} (hN : ∀ nm, ¬ Kp.N nm) {μ : Mp} {a : Act} {w : World} (hA : At E ts avs Kp μ h a w) {Q : Exit → Act → World → Prop} (hQ : ∀ a' w', Ends E ps σ pat Tm cm Kp μ a' w' → (tailC n c).wp P Q a' w') : c.wp P Q a w := by
  obtain ⟨e, h3, h4, h5⟩ := takeA_yes ts.length avs _ hy
  obtain ⟨hl, h6⟩ := inv_nil h3
  rw [regF_eq] at h6
  have hG : WfG ts.length (gmL ts 0 Gm.no) := fun t j ht hg => by
    rcases gmL_spec ts 0 Gm.no hts t ht with ⟨j', q1, q2⟩ | q1
    · rw [q1] at hg
      have := (List.getElem?_eq_some_iff.1 q2).1
      cases hg
      omega
    · rw [q1, Gm.at_no] at hg; cases hg
  obtain ⟨i', G', fr', e', h', r1, r2⟩ := head_out (fn := fn) hS hP hE (cx := ⟨hn, fun _ _ => Ans.no, fun _ _ _ => Ans.no, fun _ _ _ => Ans.no, fun _ _ => Ans.no⟩) rfl (fun _ _ _ h => by cases h) (fun _ _ _ h => by cases h) (fun _ _ h => by cases h) n c hc ts.length (gmL ts 0 Gm.no) (fillT .u k) e h hG h6
  have h3 : slotsK k E ps σ i' G' fr' e' pat (memK Tm cm ps σ h') = .yes := r1
  refine r2 Kp μ a w hA.mem (at_sr hE hts hA h5) Q fun μ' a' w' x s m => hQ a' w' (ends_of hN h3 x s m)
/-- A loop by a measure, many rounds at once. -/
theorem loop_measI {α : Type} {c : Code} {id : Nat} (m : α → Nat) (Inv : α → Act → World → Prop) (Fin : Act → World → Prop)
    (hb : ∀ s a w, Inv s a w → c.wp P (fun ex a' w' => ex = .exit id ∧ Fin a' w') a w ∨ ∃ n, Iter P c (fun a' w' => ∃ s', m s' < m s ∧ Inv s' a' w') n a w) :
    ∀ s a w, Inv s a w → (Code.block id (.loop c)).wp P (fun ex a' w' => ex = .normal ∧ Fin a' w') a w := by
  have key : ∀ n s a w, m s < n → Inv s a w → LoopWp P c (fun ex a' w' => ex = .exit id ∧ Fin a' w') a w := by
    intro n
    induction n with
    | zero => intro s a w h; omega
    | succ n ih =>
      intro s a w hlt hi
      rcases hb s a w hi with h | ⟨k, h⟩
      · exact loop_bind h fun ex a' w' hq => by
          obtain ⟨rfl, hf⟩ := hq
          exact ⟨rfl, hf⟩
      · exact Iter.loop (Iter.mono (fun a' w' ⟨s', h1, h2⟩ => ih s' a' w' (by omega) h2) h)
  intro s a w hi
  refine wp_block (wp_mono (loop_wp (key _ s a w (Nat.lt_succ_self _) hi)) fun ex a' w' hq => ?_)
  obtain ⟨rfl, hf⟩ := hq
  simp only [Exit.inBlock, if_true]
  exact ⟨trivial, hf⟩
end
end
end Go.Proofs.YteefpemaeecicaaGreatDoor.Ev
end
section
open Go Go.RowKit
namespace Go.Proofs.YteefpemaeecicaaGreatDoor.Ev
set_option linter.unusedVariables false
set_option linter.unusedSimpArgs false
set_option linter.constructorNameAsVariable false
noncomputable section
/-- A value of one cell that is not opaque. -/
def atomB (a : AV) : Bool := match a with
  | .y j _ => !(Nat.beq j 8)
  | .a0 _ _ => false | .a1 _ _ => false | .a2 _ _ => false | .a3 _ _ => false | .tu _ => false | .fn _ _ _ => false
  | _ => true
theorem den_v {R1 R2 : Rho} (hn : R1.n = R2.n) : ∀ e, @den R1 e = @den R2 e
  | .var i => congrFun hn i
  | .lit n => rfl
  | .op c w a b => by
    show exD c w (@den R1 a) (@den R1 b) = exD c w (@den R2 a) (@den R2 b)
    rw [den_v hn a, den_v hn b]
theorem rowI_v {R1 R2 : Rho} (hi : R1.inp = R2.inp) {k : IntKind} {a : Option Addr} {us : List Nat} (h : @RowI R1 k a us) : @RowI R2 k a us := by
  rcases h with h | ⟨b, off, arr, ty, fr, q1, q2, q3⟩
  · exact .inl h
  · exact .inr ⟨b, off, arr, ty, fr, q1, by rw [← hi]; exact q2, q3⟩
theorem VR.told {R1 R2 : Rho} (hn : R1.n = R2.n) (hi : R1.inp = R2.inp) {μ : Mp} {a : AV} {v : Value} (ha : atomB a = true) (r : @VR R1 μ a v) : @VR R2 μ a v := by
  cases r with
  | u => exact @VR.u R2 μ v
  | x k r z hz => exact @VR.x R2 μ k r z hz
  | b x => exact @VR.b R2 μ x
  | n k u hu => exact @VR.n R2 μ k u hu
  | y k e => rw [den_v hn e]; exact @VR.y R2 μ k e
  | yo i => cases ha
  | ys l =>
    have : (l.map fun x => @den R1 x % 256) = l.map fun x => @den R2 x % 256 := List.map_congr_left fun x _ => by rw [den_v hn x]
    rw [this]; exact @VR.ys R2 μ l
  | yf e x hx => rw [den_v hn e] at hx; exact @VR.yf R2 μ e x hx
  | yl k le l a n cap h1 h2 h3 h4 h5 =>
    have e : (l.map fun x => @den R1 x % km k) = l.map fun x => @den R2 x % km k := List.map_congr_left fun x _ => by rw [den_v hn x]
    rw [e] at h1
    rw [den_v hn le] at h5
    exact @VR.yl R2 μ k le l a n cap (rowI_v hi h1) h2 h3 h4 h5
  | yp k e a h1 =>
    rw [den_v hn e] at h1
    exact @VR.yp R2 μ k e a (rowI_v hi h1)
  | yc e1 e2 a b h1 h2 =>
    rw [den_v hn e1] at h1
    rw [den_v hn e2] at h2
    exact @VR.yc R2 μ e1 e2 a b h1 h2
  | f z x hz => exact @VR.f R2 μ z x hz
  | c x y a b hx hy => exact @VR.c R2 μ x y a b hx hy
  | s l hl => exact @VR.s R2 μ l hl
  | p0 => exact @VR.p0 R2 μ
  | p nm off bk e => exact @VR.p R2 μ nm off bk e
  | sl0 => exact @VR.sl0 R2 μ
  | sl nm off len cap bk e h1 h2 => exact @VR.sl R2 μ nm off len cap bk e h1 h2
  | so nm off len bk cap e h1 h2 h3 => exact @VR.so R2 μ nm off len bk cap e h1 h2 h3
  | se a cap => exact @VR.se R2 μ a cap
  | m0 => exact @VR.m0 R2 μ
  | m nm bk e => exact @VR.m R2 μ nm bk e
  | fn0 => exact @VR.fn0 R2 μ
  | if0 => exact @VR.if0 R2 μ
  | _ => cases ha
/-- A block none of whose cells is opaque. -/
def atomT (b : Blk) : Bool := match b with
  | .no => true
  | .mp _ => false
  | .cells _ _ n es form ke t => (List.range n).all fun i => atomB (cellOf form (Tr.get (α := AV) ke (paK ke (i / es)) t) (i % es))
theorem BlkR.told {R1 R2 : Rho} (hn : R1.n = R2.n) (hi : R1.inp = R2.inp) {μ : Mp} {w : World} {b : Blk} {bk : Bk} (hb : atomT b = true) (r : @BlkR R1 μ w b bk) : @BlkR R2 μ w b bk := by
  cases b with
  | no => exact trivial
  | mp l => cases hb
  | cells ty op n es form ke t =>
    obtain ⟨arr, fr, h1, h2⟩ := r
    obtain ⟨a1, a2, a3, a4, a5, a6, a7, a8, a9, hleaf, hcell⟩ := @CellsR.all R1 _ _ _ _ _ _ _ _ _ h2
    exact ⟨arr, fr, h1, @CellsR.mk R2 μ arr fr n es form ke t bk a1 a2 a3 a4 a5 a6 a7 a8 a9 hleaf fun i hi' =>
      let ⟨c, c1, c2, c3⟩ := hcell i hi'
      ⟨c, c1, c2, c3.told hn hi (List.all_eq_true.1 hb i (List.mem_range.2 hi'))⟩⟩
/-- Of a template none of whose cells is opaque the opaque values may be told anew. -/
theorem MR.told {R1 R2 : Rho} (hn : R1.n = R2.n) (hi : R1.inp = R2.inp) {T : List (Nm × Blk)} {c : Nm} (hT : (T.all fun x => atomT x.2) = true) {K : Kp} (hN : ∀ nm, ¬ K.N nm) {μ : Mp} {w : World} (r : @MR R1 K μ (hpT T c) w) : @MR R2 K μ (hpT T c) w := by
  obtain ⟨ros, rtape, rout, rkeep, rdom, rlive, size, rinp, rinj⟩ := @MR.all R1 _ _ _ _ r
  have hat : ∀ nm, atomT (Mem.at nm (memT T)) = true := fun nm => by
    by_cases e : Mem.at nm (memT T) = .no
    · rw [e]; rfl
    · obtain ⟨b, hb, e2⟩ := memT_at T nm e
      rw [e2]
      exact List.all_eq_true.1 hT _ hb
  exact @MR.mk R2 K μ (hpT T c) w ros rtape rout rkeep rdom (fun nm hnm => let ⟨bk, b1, b2, b3⟩ := rlive nm hnm; ⟨bk, b1, b2.told hn hi (hat nm), b3⟩) (fun nm h => (hN nm h).elim) size (fun b o hb => rinp b o (by rw [hi]; exact hb)) rinj
/-- A block that is kept becomes another one. -/
def Kp.upd (K : Kp) (b : Nat) (o : Obj) : Kp := { K with F := fun x => if x = b then some o else K.F x }
theorem MR.keptSet [R : Rho] {K : Kp} {μ : Mp} {h : Hp} {w : World} (r : MR K μ h w) {b : Nat} {o o' : Obj} (hb : K.F b = some o) (hi : Rho.inp b = none) : MR (K.upd b o') μ h (setR w b o') := by
  have h0 := r.keep b o hb
  refine { os := r.os, tape := r.tape, output := r.output, keep := fun x q hx => ?_, dom := fun nm bk e => by rw [setR_size]; exact r.dom nm bk e, live := fun nm hn => ?_, res := r.res, low := by rw [setR_size]; exact r.low, inp := fun x q hx => ?_, inj := r.inj }
  · have hx : (if x = b then some o' else K.F x) = some q := hx
    by_cases e : x = b
    · rw [if_pos e] at hx
      rw [e, setR_same h0]; exact hx
    · rw [if_neg e] at hx
      rw [setR_ne e]; exact r.keep x q hx
  · obtain ⟨bk, b1, b2, b3⟩ := r.live nm hn
    have ne : bk.blk ≠ b := fun e => by rw [e, hb] at b3; cases b3
    exact ⟨bk, b1, b2.ext (Ext.refl μ) (setR_ne ne), by show (if bk.blk = b then _ else _) = none; rw [if_neg ne]; exact b3⟩
  · have ne : x ≠ b := fun e => by subst e; rw [hi] at hx; cases hx
    obtain ⟨q1, q2⟩ := r.inp x q hx
    exact ⟨q1, by show (if x = b then _ else _) = _; rw [if_neg ne]; exact q2⟩
/-- A new block that is kept. -/
theorem MR.keptNew [R : Rho] {K : Kp} {μ : Mp} {h : Hp} {w : World} (r : MR K μ h w) (o : Obj) : MR (K.upd w.heap.size o) μ h { w with heap := w.heap.push o } := by
  have hget : ∀ x, x < w.heap.size → (w.heap.push o)[x]? = w.heap[x]? := fun x hx => by rw [Array.getElem?_push_lt hx, Array.getElem?_eq_getElem hx]
  have hnone : ∀ x, w.heap.size ≤ x → w.heap[x]? = none := fun x hx => Array.getElem?_eq_none hx
  refine { os := r.os, tape := r.tape, output := r.output, keep := fun x q hx => ?_, dom := fun nm bk e => ?_, live := fun nm hn => ?_, res := r.res, low := ?_, inp := fun x q hx => ?_, inj := r.inj }
  · have hx : (if x = w.heap.size then some o else K.F x) = some q := hx
    show (w.heap.push o)[x]? = some q
    by_cases e : x = w.heap.size
    · rw [if_pos e] at hx
      rw [e, Array.getElem?_push_size]; exact hx
    · rw [if_neg e] at hx
      have := r.keep x q hx
      rw [hget x (heap_lt this)]; exact this
  · have := r.dom nm bk e
    exact ⟨by show _ < (w.heap.push o).size; rw [Array.size_push]; omega, this.2⟩
  · obtain ⟨bk, b1, b2, b3⟩ := r.live nm hn
    have hlt := (r.dom nm bk b1).1
    have ne : bk.blk ≠ w.heap.size := by omega
    exact ⟨bk, b1, b2.ext (Ext.refl μ) (hget _ hlt), by show (if bk.blk = w.heap.size then _ else _) = none; rw [if_neg ne]; exact b3⟩
  · show K.lo ≤ (w.heap.push o).size
    rw [Array.size_push]
    have := r.low
    omega
  · obtain ⟨q1, q2⟩ := r.inp x q hx
    have := heap_lt (r.keep x q q2)
    exact ⟨q1, by show (if x = w.heap.size then _ else _) = _; rw [if_neg (by omega)]; exact q2⟩
end
end Go.Proofs.YteefpemaeecicaaGreatDoor.Ev
end
