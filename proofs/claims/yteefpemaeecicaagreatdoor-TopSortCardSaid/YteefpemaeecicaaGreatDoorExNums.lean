/- Trees of eight, the memory's tree of names: what is read, what is written. No condition. -/
import Derived.Test.YteefpemaeecicaaGreatDoorExBase2
import Derived.Laws.ComplexArith
import Derived.Laws.Shifts
import Derived.Laws.Small
import Derived.Laws.StructEq
import Derived.Laws.Pointers
import Derived.Laws.Strings
import Derived.Laws.Cover3
section
open Go
namespace Go.Proofs.YteefpemaeecicaaGreatDoor.Ev
set_option linter.unusedVariables false
set_option linter.unusedSimpArgs false
noncomputable section
def nget {α : Type} (n : N8 α) (d : D8) : α := match d with | .d0 => n.a0 | .d1 => n.a1 | .d2 => n.a2 | .d3 => n.a3 | .d4 => n.a4 | .d5 => n.a5 | .d6 => n.a6 | .d7 => n.a7
def nset {α : Type} (n : N8 α) (d : D8) (x : α) : N8 α := match d with | .d0 => { n with a0 := x } | .d1 => { n with a1 := x } | .d2 => { n with a2 := x } | .d3 => { n with a3 := x } | .d4 => { n with a4 := x } | .d5 => { n with a5 := x } | .d6 => { n with a6 := x } | .d7 => { n with a7 := x }
theorem nget_set {α : Type} (n : N8 α) (d d' : D8) (x : α) : nget (nset n d' x) d = if d = d' then x else nget n d := by
  cases d <;> cases d' <;> rfl
def Tr.get {α : Type} : (k : Nat) → Pa k → Tr α k → α
  | 0, _, t => t
  | k + 1, p, t => Tr.get k (p : Dp (Pa k)).r (nget (t : N8 (Tr α k)) (p : Dp (Pa k)).d)
def Tr.set {α : Type} : (k : Nat) → Pa k → Tr α k → α → Tr α k
  | 0, _, _, x => x
  | k + 1, p, t, x => nset (t : N8 (Tr α k)) (p : Dp (Pa k)).d (Tr.set k (p : Dp (Pa k)).r (nget (t : N8 (Tr α k)) (p : Dp (Pa k)).d) x)
theorem Tr.get_set_same {α : Type} : ∀ (k : Nat) (p : Pa k) (t : Tr α k) (x : α), Tr.get k p (Tr.set k p t x) = x
  | 0, _, _, _ => rfl
  | k + 1, p, t, x => by
    show Tr.get k (p : Dp (Pa k)).r (nget (nset (t : N8 (Tr α k)) (p : Dp (Pa k)).d _) (p : Dp (Pa k)).d) = x
    rw [nget_set, if_pos rfl]
    exact Tr.get_set_same k _ _ x
theorem Tr.get_set_ne {α : Type} : ∀ (k : Nat) (p q : Pa k) (t : Tr α k) (x : α), p ≠ q → Tr.get k p (Tr.set k q t x) = Tr.get k p t
  | 0, p, q, _, _, h => (h (by cases p; cases q; rfl)).elim
  | k + 1, ⟨d, r⟩, ⟨d', r'⟩, t, x, h => by
    show Tr.get k r (nget (nset (t : N8 (Tr α k)) d' _) d) = Tr.get k r (nget (t : N8 (Tr α k)) d)
    rw [nget_set]
    by_cases hd : d = d'
    · subst hd
      rw [if_pos rfl]
      exact Tr.get_set_ne k r r' _ x (fun e => h (by rw [e]))
    · rw [if_neg hd]
theorem gt_eq {α : Type} (d : D8) (n : N8 α) (kk : α → Ans) : Gt.rec (motive := fun _ => Ans) (fun run => run n kk) d.gt = kk (nget n d) := by cases d <;> rfl
theorem st_eq {α : Type} (d : D8) (n : N8 α) (f : α → (α → Ans) → Ans) (kk : N8 α → Ans) :
    St.rec (motive := fun _ => Ans) (fun run => run n f kk) d.st = f (nget n d) (fun c => kk (nset n d c)) := by cases d <;> rfl
theorem Tr.g_eq {α : Type} : ∀ (k : Nat) (p : Pa k) (t : Tr α k) (kk : α → Ans), Tr.g k p t kk = kk (Tr.get k p t)
  | 0, _, _, _ => rfl
  | k + 1, ⟨d, r⟩, t, kk => by
    show Gt.rec (motive := fun _ => Ans) (fun run => run (t : N8 (Tr α k)) (fun u => Tr.g k r u kk)) d.gt = _
    rw [gt_eq]
    exact Tr.g_eq k r _ kk
theorem Tr.s_eq {α : Type} : ∀ (k : Nat) (p : Pa k) (t : Tr α k) (f : α → (α → Ans) → Ans) (kk : Tr α k → Ans), Tr.s k p t f kk = f (Tr.get k p t) (fun c => kk (Tr.set k p t c))
  | 0, _, _, _, _ => rfl
  | k + 1, ⟨d, r⟩, t, f, kk => by
    show St.rec (motive := fun _ => Ans) (fun run => run (t : N8 (Tr α k)) (fun c kc => Tr.s k r c f kc) kk) d.st = _
    rw [st_eq]
    exact Tr.s_eq k r _ f _
theorem tget_eq {α : Type} : ∀ (k : Nat) (p : Pa k) (t : Tr α k), tget k p t = Tr.get k p t
  | 0, _, _ => rfl
  | k + 1, ⟨d, r⟩, t => by cases d <;> exact tget_eq k r _
theorem tset_eq {α : Type} : ∀ (k : Nat) (p : Pa k) (t : Tr α k) (x : α), tset k p t x = Tr.set k p t x
  | 0, _, _, _ => rfl
  | k + 1, ⟨d, r⟩, t, x => by
    have h := fun u => tset_eq k r u x
    cases d <;> (show (_ : N8 (Tr α k)) = nset _ _ _; simp only [nset, nget, ← h]; rfl)
theorem getc_eq : ∀ (k : Nat) (p : Pa k) (t : Tr AV k), (getc k p).run t = Tr.get k p t
  | 0, _, _ => rfl
  | k + 1, ⟨d, r⟩, t => by
    have h := getc_eq k r
    have e : getc (k + 1) (⟨d, r⟩ : Dp (Pa k)) = ⟨fun n => (getc k r).run (nget (n : N8 (Tr AV k)) d)⟩ := by cases d <;> rfl
    rw [e]
    exact h _
theorem setc_eq : ∀ (k : Nat) (p : Pa k) (t : Tr AV k) (v : AV) (kk : Tr AV k → Ans), (setc k p).run t v kk = kk (Tr.set k p t v)
  | 0, _, _, _, _ => rfl
  | k + 1, ⟨d, r⟩, t, v, kk => by
    have h := setc_eq k r
    have e : (setc (k + 1) (⟨d, r⟩ : Dp (Pa k))).run t v kk = (setc k r).run (nget (t : N8 (Tr AV k)) d) v (fun x => kk (nset (t : N8 (Tr AV k)) d x)) := by cases d <;> rfl
    rw [e, h]
    rfl
theorem D8.ofK_num (n : Nat) (h : n < 8) : (D8.ofK n).num = n := by
  rcases n with _ | _ | _ | _ | _ | _ | _ | _ | n
  all_goals first | rfl | omega
theorem D8.num_lt (d : D8) : d.num < 8 := by cases d <;> decide
theorem D8.num_inj {d d' : D8} (h : d.num = d'.num) : d = d' := by cases d <;> cases d' <;> first | rfl | cases h
theorem D8.ofK_inj {m n : Nat} (hm : m < 8) (hn : n < 8) (h : D8.ofK m = D8.ofK n) : m = n := by
  have := congrArg D8.num h
  rwa [D8.ofK_num m hm, D8.ofK_num n hn] at this
theorem paK_succ (k n : Nat) : paK (k + 1) n = (⟨D8.ofK (n / 8 ^ k % 8), paK k n⟩ : Dp (Pa k)) := rfl
theorem paK_inj : ∀ (k : Nat) {i j : Nat}, i < 8 ^ k → j < 8 ^ k → paK k i = paK k j → i = j
  | 0, i, j, hi, hj, _ => by simp at hi hj; omega
  | k + 1, i, j, hi, hj, h => by
    have key : ∀ (k : Nat) (a b : Nat), paK k a = paK k b → a % 8 ^ k = b % 8 ^ k := by
      intro k
      induction k with
      | zero => intro a b _; simp [Nat.mod_one]
      | succ k ih =>
        intro a b h
        rw [paK_succ, paK_succ] at h
        injection h with h1 h2
        have h2 := ih a b h2
        have h1 := D8.ofK_inj (Nat.mod_lt _ (by decide)) (Nat.mod_lt _ (by decide)) h1
        rw [Nat.pow_succ, Nat.mod_mul, Nat.mod_mul, h1, h2]
    have := key (k + 1) i j h
    rwa [Nat.mod_eq_of_lt hi, Nat.mod_eq_of_lt hj] at this
theorem Tr.get_set {α : Type} (k : Nat) {i j : Nat} (t : Tr α k) (x : α) (hi : i < 8 ^ k) (hj : j < 8 ^ k) :
    Tr.get k (paK k i) (Tr.set k (paK k j) t x) = if i = j then x else Tr.get k (paK k i) t := by
  by_cases h : i = j
  · subst h; rw [if_pos rfl, Tr.get_set_same]
  · rw [if_neg h, Tr.get_set_ne]
    exact fun e => h (paK_inj k hi hj e)
theorem fillT_get {α : Type} (x : α) : ∀ (k : Nat) (p : Pa k), Tr.get k p (fillT x k) = x
  | 0, _ => rfl
  | k + 1, ⟨d, r⟩ => by
    show Tr.get k r (nget (⟨fillT x k, fillT x k, fillT x k, fillT x k, fillT x k, fillT x k, fillT x k, fillT x k⟩ : N8 (Tr α k)) d) = x
    cases d <;> exact fillT_get x k r
theorem paK_mod : ∀ (k n : Nat), paK k (n % 8 ^ k) = paK k n
  | 0, _ => rfl
  | k + 1, n => by
    have h := paK_mod k (n % 8 ^ (k + 1))
    have h' := paK_mod k n
    rw [paK_succ, paK_succ]
    have e1 : n % 8 ^ (k + 1) / 8 ^ k % 8 = n / 8 ^ k % 8 := by
      rw [Nat.pow_succ, Nat.mod_mul_right_div_self, Nat.mod_mod]
    have e2 : n % 8 ^ (k + 1) % 8 ^ k = n % 8 ^ k := Nat.mod_mod_of_dvd n ⟨8, by rw [Nat.pow_succ]⟩
    rw [e1, ← h, e2, h']
theorem ldrop_eq {α : Type} : ∀ (l : List α) (i : Nat), ldrop l i = l.drop i
  | [], i => by cases i <;> rfl
  | a :: l, 0 => rfl
  | a :: l, i + 1 => ldrop_eq l i
theorem ltake_eq {α : Type} : ∀ (l : List α) (i : Nat), ltake l i = l.take i
  | [], i => by cases i <;> rfl
  | a :: l, 0 => rfl
  | a :: l, i + 1 => by show a :: ltake l i = a :: l.take i; rw [ltake_eq l i]
theorem lapp_eq {α : Type} : ∀ (l r : List α), lapp l r = l ++ r
  | [], r => rfl
  | a :: l, r => by show a :: lapp l r = a :: (l ++ r); rw [lapp_eq l r]
theorem lenK_eq {α : Type} (l : List α) (g : Nat → Ans) : lenK l g = g l.length := by
  have h : ∀ (l : List α) (i : Nat), (lrec l (fun (i : Nat) => g i) (fun _ _ ih i => natK (Nat.succ i) ih) : Nat → Ans) i = g (i + l.length) := by
    intro l
    induction l with
    | nil => intro i; rfl
    | cons a l ih =>
      intro i
      have := ih (i + 1)
      rw [List.length_cons, show i + (l.length + 1) = i + 1 + l.length by omega, ← this]
      rfl
  have := h l 0
  rw [Nat.zero_add] at this
  exact this
theorem natK_eq (n : Nat) (k : Nat → Ans) : natK n k = k n := by cases n <;> rfl
theorem bldD_get {α : Type} : ∀ (k : Nat) (l : List α) (i : Nat), i < 8 ^ k → Tr.get k (paK k i) (bldD k l) = l[i]?
  | 0, l, i, h => by
    have : i = 0 := by simp at h; omega
    subst this
    cases l <;> rfl
  | k + 1, l, i, h => by
    have hq : i / 8 ^ k < 8 := Nat.div_lt_of_lt_mul (by rw [Nat.pow_succ] at h; omega)
    have hr : i % 8 ^ k < 8 ^ k := Nat.mod_lt _ (Nat.pow_pos (by decide))
    have key : ∀ d : D8, Tr.get k (paK k i) (nget (bldD (k + 1) l : N8 (Tr (Option α) k)) d) = l[d.num * 8 ^ k + i % 8 ^ k]? := by
      intro d
      have e : nget (bldD (k + 1) l : N8 (Tr (Option α) k)) d = bldD k (l.drop (d.num * 8 ^ k)) := by
        cases d
        · show bldD k l = bldD k (l.drop (0 * 8 ^ k)); simp
        all_goals (show bldD k (ldrop l (Nat.mul _ (8 ^ k))) = _; rw [ldrop_eq]; rfl)
      rw [e, ← paK_mod k i, bldD_get k _ _ hr, List.getElem?_drop]
    rw [paK_succ]
    show Tr.get k (paK k i) (nget (bldD (k + 1) l : N8 (Tr (Option α) k)) (D8.ofK (i / 8 ^ k % 8))) = _
    rw [key, D8.ofK_num _ (Nat.mod_lt _ (by decide)), Nat.mod_eq_of_lt hq, Nat.mul_comm, Nat.div_add_mod]
/-! ### The memory's tree -/
def bget {α : Type} (n : NB α) (d : DB) : α := match d with | .d0 => n.a0 | .d1 => n.a1 | .d2 => n.a2 | .d3 => n.a3 | .d4 => n.a4 | .d5 => n.a5 | .d6 => n.a6 | .d7 => n.a7 | .d8 => n.a8 | .d9 => n.a9 | .d10 => n.a10 | .d11 => n.a11 | .d12 => n.a12 | .d13 => n.a13 | .d14 => n.a14 | .d15 => n.a15 | .d16 => n.a16 | .d17 => n.a17 | .d18 => n.a18 | .d19 => n.a19 | .d20 => n.a20 | .d21 => n.a21 | .d22 => n.a22 | .d23 => n.a23 | .d24 => n.a24 | .d25 => n.a25 | .d26 => n.a26 | .d27 => n.a27 | .d28 => n.a28 | .d29 => n.a29 | .d30 => n.a30 | .d31 => n.a31 | .d32 => n.a32 | .d33 => n.a33 | .d34 => n.a34 | .d35 => n.a35 | .d36 => n.a36 | .d37 => n.a37 | .d38 => n.a38 | .d39 => n.a39
def bset {α : Type} (n : NB α) (d : DB) (x : α) : NB α := match d with | .d0 => { n with a0 := x } | .d1 => { n with a1 := x } | .d2 => { n with a2 := x } | .d3 => { n with a3 := x } | .d4 => { n with a4 := x } | .d5 => { n with a5 := x } | .d6 => { n with a6 := x } | .d7 => { n with a7 := x } | .d8 => { n with a8 := x } | .d9 => { n with a9 := x } | .d10 => { n with a10 := x } | .d11 => { n with a11 := x } | .d12 => { n with a12 := x } | .d13 => { n with a13 := x } | .d14 => { n with a14 := x } | .d15 => { n with a15 := x } | .d16 => { n with a16 := x } | .d17 => { n with a17 := x } | .d18 => { n with a18 := x } | .d19 => { n with a19 := x } | .d20 => { n with a20 := x } | .d21 => { n with a21 := x } | .d22 => { n with a22 := x } | .d23 => { n with a23 := x } | .d24 => { n with a24 := x } | .d25 => { n with a25 := x } | .d26 => { n with a26 := x } | .d27 => { n with a27 := x } | .d28 => { n with a28 := x } | .d29 => { n with a29 := x } | .d30 => { n with a30 := x } | .d31 => { n with a31 := x } | .d32 => { n with a32 := x } | .d33 => { n with a33 := x } | .d34 => { n with a34 := x } | .d35 => { n with a35 := x } | .d36 => { n with a36 := x } | .d37 => { n with a37 := x } | .d38 => { n with a38 := x } | .d39 => { n with a39 := x }
theorem bget_same {α : Type} (n : NB α) (d : DB) (x : α) : bget (bset n d x) d = x := by cases d <;> rfl
theorem bget_ne {α : Type} (n : NB α) (d d' : DB) (x : α) (h : d ≠ d') : bget (bset n d' x) d = bget n d := by
  cases d' <;> (cases d <;> first | rfl | exact (h rfl).elim)
theorem at1_eq (d : DB) (n : NB Blk) : at1 d n = bget n d := by cases d <;> rfl
theorem at2_eq (d : DB) (n : NB (NB Blk)) : at2 d n = bget n d := by cases d <;> rfl
theorem at3_eq (d : DB) (n : NB (NB (NB Blk))) : at3 d n = bget n d := by cases d <;> rfl
theorem to1_eq (d : DB) (n : NB Blk) (f : Blk → Blk) : to1 d n f = bset n d (f (bget n d)) := by cases d <;> rfl
theorem to2_eq (d : DB) (n : NB (NB Blk)) (f : NB Blk → NB Blk) : to2 d n f = bset n d (f (bget n d)) := by cases d <;> rfl
theorem to3_eq (d : DB) (n : NB (NB (NB Blk))) (f : NB (NB Blk) → NB (NB Blk)) : to3 d n f = bset n d (f (bget n d)) := by cases d <;> rfl
theorem Mem.at_same (p : Nm) (m : Mem) (b : Blk) : Mem.at p (Mem.to p m b) = b := by
  obtain ⟨x, y, z⟩ := p
  show at1 z (at2 y (at3 x (to3 x m fun m => to2 y m fun m => to1 z m fun _ => b))) = b
  simp only [at1_eq, at2_eq, at3_eq, to1_eq, to2_eq, to3_eq, bget_same]
theorem Mem.at_ne (p q : Nm) (m : Mem) (b : Blk) (h : p ≠ q) : Mem.at p (Mem.to q m b) = Mem.at p m := by
  obtain ⟨x, y, z⟩ := p
  obtain ⟨x', y', z'⟩ := q
  show at1 z (at2 y (at3 x (to3 x' m fun m => to2 y' m fun m => to1 z' m fun _ => b))) = at1 z (at2 y (at3 x m))
  simp only [at1_eq, at2_eq, at3_eq, to1_eq, to2_eq, to3_eq]
  by_cases hx : x = x'
  · subst hx
    rw [bget_same]
    by_cases hy : y = y'
    · subst hy
      rw [bget_same, bget_ne]
      exact fun e => h (by rw [e])
    · rw [bget_ne _ _ _ _ hy]
  · rw [bget_ne _ _ _ _ hx]
theorem Mem.at_to (p q : Nm) (m : Mem) (b : Blk) : Mem.at p (Mem.to q m b) = if p = q then b else Mem.at p m := by
  by_cases h : p = q
  · subst h; rw [if_pos rfl, Mem.at_same]
  · rw [if_neg h, Mem.at_ne _ _ _ _ h]
theorem bset_get {α : Type} (n : NB α) (d : DB) : bset n d (bget n d) = n := by cases d <;> rfl
theorem Mem.to_at (p : Nm) (m : Mem) : Mem.to p m (Mem.at p m) = m := by
  obtain ⟨x, y, z⟩ := p
  show to3 x m (fun m' => to2 y m' fun m'' => to1 z m'' fun _ => at1 z (at2 y (at3 x m))) = m
  rw [to3_eq, to2_eq, to1_eq, at1_eq, at2_eq, at3_eq, bset_get, bset_get, bset_get]
theorem Mem.at_none (p : Nm) : Mem.at p Mem.none = .no := by
  obtain ⟨x, y, z⟩ := p
  have e : ∀ {α : Type} (d : DB) (u : α), bget (NB.all u) d = u := by intro α d u; cases d <;> rfl
  show at1 z (at2 y (at3 x (NB.all (NB.all (NB.all Blk.no))))) = .no
  rw [at3_eq, e, at2_eq, e, at1_eq, e]
/-- The number of a name. -/
def Nm.rank (p : Nm) : Nat := 40 * (40 * p.x.num + p.y.num) + p.z.num
theorem DB.num_lt (d : DB) : d.num < 40 := by cases d <;> decide
theorem DB.nxt_num {d d' : DB} (h : d.nxt = some d') : d'.num = d.num + 1 := by cases d <;> first | (cases h; rfl) | cases h
theorem DB.nxt_none {d : DB} (h : d.nxt = none) : d.num = 39 := by
  cases d
  case d39 => rfl
  all_goals cases h
def numInv (n : Nat) : DB := match n with | 0 => .d0 | 1 => .d1 | 2 => .d2 | 3 => .d3 | 4 => .d4 | 5 => .d5 | 6 => .d6 | 7 => .d7 | 8 => .d8 | 9 => .d9 | 10 => .d10 | 11 => .d11 | 12 => .d12 | 13 => .d13 | 14 => .d14 | 15 => .d15 | 16 => .d16 | 17 => .d17 | 18 => .d18 | 19 => .d19 | 20 => .d20 | 21 => .d21 | 22 => .d22 | 23 => .d23 | 24 => .d24 | 25 => .d25 | 26 => .d26 | 27 => .d27 | 28 => .d28 | 29 => .d29 | 30 => .d30 | 31 => .d31 | 32 => .d32 | 33 => .d33 | 34 => .d34 | 35 => .d35 | 36 => .d36 | 37 => .d37 | 38 => .d38 | _ => .d39
theorem DB.num_inj {d d' : DB} (h : d.num = d'.num) : d = d' := by
  have e : ∀ d : DB, numInv d.num = d := by intro d; cases d <;> rfl
  rw [← e d, ← e d', h]
theorem Nm.rank_inj {p q : Nm} (h : p.rank = q.rank) : p = q := by
  obtain ⟨x, y, z⟩ := p
  obtain ⟨x', y', z'⟩ := q
  have h : 40 * (40 * x.num + y.num) + z.num = 40 * (40 * x'.num + y'.num) + z'.num := h
  have := x.num_lt; have := y.num_lt; have := z.num_lt; have := x'.num_lt; have := y'.num_lt; have := z'.num_lt
  have e3 : z.num = z'.num := by omega
  have e2 : y.num = y'.num := by omega
  have e1 : x.num = x'.num := by omega
  rw [DB.num_inj e1, DB.num_inj e2, DB.num_inj e3]
theorem Nm.nxt_yes {p : Nm} {g : Nm → Ans} (h : p.nxt g = .yes) : ∃ q : Nm, q.rank = p.rank + 1 ∧ ∀ g, p.nxt g = g q := by
  obtain ⟨x, y, z⟩ := p
  change Option.rec (motive := fun _ => Ans) (Option.rec (motive := fun _ => Ans) (Option.rec (motive := fun _ => Ans) Ans.no (fun x => g ⟨x, .d0, .d0⟩) x.nxt) (fun y => g ⟨x, y, .d0⟩) y.nxt) (fun z => g ⟨x, y, z⟩) z.nxt = .yes at h
  have e : ∀ g, Nm.nxt ⟨x, y, z⟩ g = Option.rec (motive := fun _ => Ans) (Option.rec (motive := fun _ => Ans) (Option.rec (motive := fun _ => Ans) Ans.no (fun x => g ⟨x, .d0, .d0⟩) x.nxt) (fun y => g ⟨x, y, .d0⟩) y.nxt) (fun z => g ⟨x, y, z⟩) z.nxt := fun _ => rfl
  have n0 : DB.d0.num = 0 := rfl
  cases hz : z.nxt with
  | some z' =>
    refine ⟨⟨x, y, z'⟩, ?_, fun g => by rw [e, hz]⟩
    have := DB.nxt_num hz
    simp only [Nm.rank]; omega
  | none =>
    cases hy : y.nxt with
    | some y' =>
      refine ⟨⟨x, y', .d0⟩, ?_, fun g => by rw [e, hz, hy]⟩
      have := DB.nxt_num hy; have := DB.nxt_none hz
      simp only [Nm.rank, n0]; omega
    | none =>
      cases hx : x.nxt with
      | some x' =>
        refine ⟨⟨x', .d0, .d0⟩, ?_, fun g => by rw [e, hz, hy, hx]⟩
        have := DB.nxt_num hx; have := DB.nxt_none hz; have := DB.nxt_none hy
        simp only [Nm.rank, n0]; omega
      | none => rw [hz, hy, hx] at h; cases h
theorem Nm.beq_eq (p q : Nm) : Nm.beq p q = decide (p = q) := by
  have e : Nm.beq p q = Nat.beq (40 * (40 * p.x.num + p.y.num) + p.z.num) (40 * (40 * q.x.num + q.y.num) + q.z.num) := rfl
  rw [e]
  by_cases h : p = q
  · subst h; simp
  · have : p.rank ≠ q.rank := fun e => h (Nm.rank_inj e)
    have e2 : decide (p = q) = false := by simpa using h
    rw [e2]
    cases hb : Nat.beq (40 * (40 * p.x.num + p.y.num) + p.z.num) (40 * (40 * q.x.num + q.y.num) + q.z.num) with
    | false => rfl
    | true => exact (this (Nat.eq_of_beq_eq_true hb)).elim
end
end Go.Proofs.YteefpemaeecicaaGreatDoor.Ev
end
section
open Go
namespace Go.Proofs.YteefpemaeecicaaGreatDoor.Ev
set_option linter.unusedVariables false
set_option linter.unusedSimpArgs false
noncomputable section
theorem inv_bif {c : Bool} {x y : Ans} (h : Bool.rec (motive := fun _ => Ans) y x c = .yes) : (c = true ∧ x = .yes) ∨ (c = false ∧ y = .yes) := by
  cases c
  · exact .inr ⟨rfl, h⟩
  · exact .inl ⟨rfl, h⟩
theorem inv_if {c : Bool} {x : Ans} (h : Bool.rec (motive := fun _ => Ans) Ans.no x c = .yes) : c = true ∧ x = .yes := by
  cases c
  · cases h
  · exact ⟨rfl, h⟩
theorem inv_unless {c : Bool} {x : Ans} (h : Bool.rec (motive := fun _ => Ans) x Ans.no c = .yes) : c = false ∧ x = .yes := by
  cases c
  · exact ⟨rfl, h⟩
  · cases h
theorem and_eq {a b : Bool} : and_ a b = true ↔ a = true ∧ b = true := by cases a <;> cases b <;> simp [and_]
theorem or_eq {a b : Bool} : or_ a b = true ↔ a = true ∨ b = true := by cases a <;> cases b <;> simp [or_]
theorem not_eq (a : Bool) : not_ a = !a := by cases a <;> rfl
theorem eqB_eq (a b : Bool) : eqB a b = (a == b) := by cases a <;> cases b <;> rfl
theorem ble_iff {a b : Nat} : Nat.ble a b = true ↔ a ≤ b := ⟨Nat.le_of_ble_eq_true, Nat.ble_eq_true_of_le⟩
theorem beq_iff {a b : Nat} : Nat.beq a b = true ↔ a = b := ⟨Nat.eq_of_beq_eq_true, fun h => by subst h; exact Nat.beq_refl a⟩
theorem bif_eq {ρ : Type} (b : Bool) (x y : ρ) : bif_ b x y = if b = true then x else y := by cases b <;> rfl
theorem hp_eq (h : Hp) (g : Mem → Nm → Ans) : Hp.rec (motive := fun _ => Ans) g h = g h.m h.c := rfl
theorem inv_opt {α : Type} {x : Option α} {g : α → Ans} (h : Option.rec (motive := fun _ => Ans) Ans.no g x = .yes) : ∃ a, x = some a ∧ g a = .yes := by
  cases x with
  | none => cases h
  | some a => exact ⟨a, rfl, h⟩
theorem inv_nil {α : Type} {l : List α} {z : Ans} (h : List.rec (motive := fun _ => Ans) z (fun _ _ _ => Ans.no) l = .yes) : l = [] ∧ z = .yes := by
  cases l with
  | nil => exact ⟨rfl, h⟩
  | cons a t => cases h
theorem inv_cons {α : Type} {l : List α} {g : α → List α → Ans} (h : List.rec (motive := fun _ => Ans) Ans.no (fun a t _ => g a t) l = .yes) : ∃ a t, l = a :: t ∧ g a t = .yes := by
  cases l with
  | nil => cases h
  | cons a t => exact ⟨a, t, rfl, h⟩
theorem inv_nz {n : Nat} {z : Ans} {s : Nat → Ans} (h : Nat.rec (motive := fun _ => Ans) z (fun m _ => s m) n = .yes) : (n = 0 ∧ z = .yes) ∨ ∃ m, n = m + 1 ∧ s m = .yes := by
  cases n with
  | zero => exact .inl ⟨rfl, h⟩
  | succ m => exact .inr ⟨m, rfl, h⟩
theorem inv_n {v : AV} {g : Nat → Nat → Ans} (h : (AVr Ans.no (fun _ _ => Ans.no) (fun _ => Ans.no) (fun _ _ => Ans.no) Ans.no (fun _ => Ans.no) Ans.no (fun _ _ _ _ _ => Ans.no) Ans.no (fun _ _ => Ans.no) (fun _ => Ans.no) Ans.no Ans.no Ans.no (fun _ _ _ => Ans.no) (fun _ _ _ => Ans.no) (fun _ _ _ => Ans.no) (fun _ _ _ => Ans.no) (fun _ _ _ _ => Ans.no) (fun _ _ _ => Ans.no) (fun _ => Ans.no) (fun _ _ => Ans.no) (fun x0 x1 => g x0 x1) (fun _ _ => Ans.no) (v)) = .yes) : ∃ x0 x1, v = .n x0 x1 ∧ g x0 x1 = .yes := by
  cases v with
  | n x0 x1 => exact ⟨x0, x1, rfl, h⟩
  | _ => cases h
theorem inv_p {v : AV} {g : Nm → Nat → Ans} (h : (AVr Ans.no (fun _ _ => Ans.no) (fun _ => Ans.no) (fun _ _ => Ans.no) Ans.no (fun _ => Ans.no) Ans.no (fun _ _ _ _ _ => Ans.no) Ans.no (fun _ _ => Ans.no) (fun _ => Ans.no) Ans.no Ans.no Ans.no (fun _ _ _ => Ans.no) (fun _ _ _ => Ans.no) (fun _ _ _ => Ans.no) (fun _ _ _ => Ans.no) (fun _ _ _ _ => Ans.no) (fun _ _ _ => Ans.no) (fun _ => Ans.no) (fun x0 x1 => g x0 x1) (fun _ _ => Ans.no) (fun _ _ => Ans.no) (v)) = .yes) : ∃ x0 x1, v = .p x0 x1 ∧ g x0 x1 = .yes := by
  cases v with
  | p x0 x1 => exact ⟨x0, x1, rfl, h⟩
  | _ => cases h
theorem inv_b {v : AV} {g : Bool → Ans} (h : (AVr Ans.no (fun _ _ => Ans.no) (fun _ => Ans.no) (fun _ _ => Ans.no) Ans.no (fun _ => Ans.no) Ans.no (fun _ _ _ _ _ => Ans.no) Ans.no (fun _ _ => Ans.no) (fun _ => Ans.no) Ans.no Ans.no Ans.no (fun _ _ _ => Ans.no) (fun _ _ _ => Ans.no) (fun _ _ _ => Ans.no) (fun _ _ _ => Ans.no) (fun _ _ _ _ => Ans.no) (fun _ _ _ => Ans.no) (fun x0 => g x0) (fun _ _ => Ans.no) (fun _ _ => Ans.no) (fun _ _ => Ans.no) (v)) = .yes) : ∃ x0, v = .b x0 ∧ g x0 = .yes := by
  cases v with
  | b x0 => exact ⟨x0, rfl, h⟩
  | _ => cases h
theorem inv_s {v : AV} {g : List Nat → Ans} (h : (AVr Ans.no (fun _ _ => Ans.no) (fun _ => Ans.no) (fun _ _ => Ans.no) Ans.no (fun _ => Ans.no) Ans.no (fun _ _ _ _ _ => Ans.no) Ans.no (fun _ _ => Ans.no) (fun x0 => g x0) Ans.no Ans.no Ans.no (fun _ _ _ => Ans.no) (fun _ _ _ => Ans.no) (fun _ _ _ => Ans.no) (fun _ _ _ => Ans.no) (fun _ _ _ _ => Ans.no) (fun _ _ _ => Ans.no) (fun _ => Ans.no) (fun _ _ => Ans.no) (fun _ _ => Ans.no) (fun _ _ => Ans.no) (v)) = .yes) : ∃ x0, v = .s x0 ∧ g x0 = .yes := by
  cases v with
  | s x0 => exact ⟨x0, rfl, h⟩
  | _ => cases h
theorem inv_c {v : AV} {g : Int → Int → Ans} (h : (AVr Ans.no (fun _ _ => Ans.no) (fun _ => Ans.no) (fun x0 x1 => g x0 x1) Ans.no (fun _ => Ans.no) Ans.no (fun _ _ _ _ _ => Ans.no) Ans.no (fun _ _ => Ans.no) (fun _ => Ans.no) Ans.no Ans.no Ans.no (fun _ _ _ => Ans.no) (fun _ _ _ => Ans.no) (fun _ _ _ => Ans.no) (fun _ _ _ => Ans.no) (fun _ _ _ _ => Ans.no) (fun _ _ _ => Ans.no) (fun _ => Ans.no) (fun _ _ => Ans.no) (fun _ _ => Ans.no) (fun _ _ => Ans.no) (v)) = .yes) : ∃ x0 x1, v = .c x0 x1 ∧ g x0 x1 = .yes := by
  cases v with
  | c x0 x1 => exact ⟨x0, x1, rfl, h⟩
  | _ => cases h
theorem inv_f {v : AV} {g : Int → Ans} (h : (AVr Ans.no (fun _ _ => Ans.no) (fun x0 => g x0) (fun _ _ => Ans.no) Ans.no (fun _ => Ans.no) Ans.no (fun _ _ _ _ _ => Ans.no) Ans.no (fun _ _ => Ans.no) (fun _ => Ans.no) Ans.no Ans.no Ans.no (fun _ _ _ => Ans.no) (fun _ _ _ => Ans.no) (fun _ _ _ => Ans.no) (fun _ _ _ => Ans.no) (fun _ _ _ _ => Ans.no) (fun _ _ _ => Ans.no) (fun _ => Ans.no) (fun _ _ => Ans.no) (fun _ _ => Ans.no) (fun _ _ => Ans.no) (v)) = .yes) : ∃ x0, v = .f x0 ∧ g x0 = .yes := by
  cases v with
  | f x0 => exact ⟨x0, rfl, h⟩
  | _ => cases h
theorem inv_tu {v : AV} {g : List AV → Ans} (h : (AVr Ans.no (fun _ _ => Ans.no) (fun _ => Ans.no) (fun _ _ => Ans.no) Ans.no (fun _ => Ans.no) Ans.no (fun _ _ _ _ _ => Ans.no) Ans.no (fun x0 _ => g x0) (fun _ => Ans.no) Ans.no Ans.no Ans.no (fun _ _ _ => Ans.no) (fun _ _ _ => Ans.no) (fun _ _ _ => Ans.no) (fun _ _ _ => Ans.no) (fun _ _ _ _ => Ans.no) (fun _ _ _ => Ans.no) (fun _ => Ans.no) (fun _ _ => Ans.no) (fun _ _ => Ans.no) (fun _ _ => Ans.no) (v)) = .yes) : ∃ x0, v = .tu x0 ∧ g x0 = .yes := by
  cases v with
  | tu x0 => exact ⟨x0, rfl, h⟩
  | _ => cases h
theorem inv_fn {v : AV} {g : Nat → List AV → List AV → Ans} (h : (AVr Ans.no (fun _ _ => Ans.no) (fun _ => Ans.no) (fun _ _ => Ans.no) Ans.no (fun _ => Ans.no) Ans.no (fun x0 x1 x2 _ _ => g x0 x1 x2) Ans.no (fun _ _ => Ans.no) (fun _ => Ans.no) Ans.no Ans.no Ans.no (fun _ _ _ => Ans.no) (fun _ _ _ => Ans.no) (fun _ _ _ => Ans.no) (fun _ _ _ => Ans.no) (fun _ _ _ _ => Ans.no) (fun _ _ _ => Ans.no) (fun _ => Ans.no) (fun _ _ => Ans.no) (fun _ _ => Ans.no) (fun _ _ => Ans.no) (v)) = .yes) : ∃ x0 x1 x2, v = .fn x0 x1 x2 ∧ g x0 x1 x2 = .yes := by
  cases v with
  | fn x0 x1 x2 => exact ⟨x0, x1, x2, rfl, h⟩
  | _ => cases h
theorem inv_a0 {v : AV} {g : Nat → AV → Ans} (h : (AVr Ans.no (fun _ _ => Ans.no) (fun _ => Ans.no) (fun _ _ => Ans.no) Ans.no (fun _ => Ans.no) Ans.no (fun _ _ _ _ _ => Ans.no) Ans.no (fun _ _ => Ans.no) (fun _ => Ans.no) Ans.no Ans.no Ans.no (fun x0 x1 _ => g x0 x1) (fun _ _ _ => Ans.no) (fun _ _ _ => Ans.no) (fun _ _ _ => Ans.no) (fun _ _ _ _ => Ans.no) (fun _ _ _ => Ans.no) (fun _ => Ans.no) (fun _ _ => Ans.no) (fun _ _ => Ans.no) (fun _ _ => Ans.no) (v)) = .yes) : ∃ x0 x1, v = .a0 x0 x1 ∧ g x0 x1 = .yes := by
  cases v with
  | a0 x0 x1 => exact ⟨x0, x1, rfl, h⟩
  | _ => cases h
theorem inv_a1 {v : AV} {g : Nat → N8 AV → Ans} (h : (AVr Ans.no (fun _ _ => Ans.no) (fun _ => Ans.no) (fun _ _ => Ans.no) Ans.no (fun _ => Ans.no) Ans.no (fun _ _ _ _ _ => Ans.no) Ans.no (fun _ _ => Ans.no) (fun _ => Ans.no) Ans.no Ans.no Ans.no (fun _ _ _ => Ans.no) (fun _ _ _ => Ans.no) (fun _ _ _ => Ans.no) (fun _ _ _ => Ans.no) (fun _ _ _ _ => Ans.no) (fun x0 x1 _ => g x0 x1) (fun _ => Ans.no) (fun _ _ => Ans.no) (fun _ _ => Ans.no) (fun _ _ => Ans.no) (v)) = .yes) : ∃ x0 x1, v = .a1 x0 x1 ∧ g x0 x1 = .yes := by
  cases v with
  | a1 x0 x1 => exact ⟨x0, x1, rfl, h⟩
  | _ => cases h
theorem inv_a2 {v : AV} {g : Nat → N8 (N8 AV) → Ans} (h : (AVr Ans.no (fun _ _ => Ans.no) (fun _ => Ans.no) (fun _ _ => Ans.no) Ans.no (fun _ => Ans.no) Ans.no (fun _ _ _ _ _ => Ans.no) Ans.no (fun _ _ => Ans.no) (fun _ => Ans.no) Ans.no Ans.no Ans.no (fun _ _ _ => Ans.no) (fun _ _ _ => Ans.no) (fun x0 x1 _ => g x0 x1) (fun _ _ _ => Ans.no) (fun _ _ _ _ => Ans.no) (fun _ _ _ => Ans.no) (fun _ => Ans.no) (fun _ _ => Ans.no) (fun _ _ => Ans.no) (fun _ _ => Ans.no) (v)) = .yes) : ∃ x0 x1, v = .a2 x0 x1 ∧ g x0 x1 = .yes := by
  cases v with
  | a2 x0 x1 => exact ⟨x0, x1, rfl, h⟩
  | _ => cases h
theorem inv_a3 {v : AV} {g : Nat → N8 (N8 (N8 AV)) → Ans} (h : (AVr Ans.no (fun _ _ => Ans.no) (fun _ => Ans.no) (fun _ _ => Ans.no) Ans.no (fun _ => Ans.no) Ans.no (fun _ _ _ _ _ => Ans.no) Ans.no (fun _ _ => Ans.no) (fun _ => Ans.no) Ans.no Ans.no Ans.no (fun _ _ _ => Ans.no) (fun x0 x1 _ => g x0 x1) (fun _ _ _ => Ans.no) (fun _ _ _ => Ans.no) (fun _ _ _ _ => Ans.no) (fun _ _ _ => Ans.no) (fun _ => Ans.no) (fun _ _ => Ans.no) (fun _ _ => Ans.no) (fun _ _ => Ans.no) (v)) = .yes) : ∃ x0 x1, v = .a3 x0 x1 ∧ g x0 x1 = .yes := by
  cases v with
  | a3 x0 x1 => exact ⟨x0, x1, rfl, h⟩
  | _ => cases h
theorem inv_sl_ {v : AV} {g0 : Ans} {g1 : Nm → Nat → Nat → Nat → Ans} {g2 : Nm → Nat → Nat → Ans} {g3 : Ans} (h : (AVr Ans.no (fun _ _ => Ans.no) (fun _ => Ans.no) (fun _ _ => Ans.no) Ans.no (fun _ => Ans.no) Ans.no (fun _ _ _ _ _ => Ans.no) Ans.no (fun _ _ => Ans.no) (fun _ => Ans.no) Ans.no (g0) (g3) (fun _ _ _ => Ans.no) (fun _ _ _ => Ans.no) (fun _ _ _ => Ans.no) (fun x0 x1 x2 => g2 x0 x1 x2) (fun x0 x1 x2 x3 => g1 x0 x1 x2 x3) (fun _ _ _ => Ans.no) (fun _ => Ans.no) (fun _ _ => Ans.no) (fun _ _ => Ans.no) (fun _ _ => Ans.no) (v)) = .yes) : (v = .sl0 ∧ g0  = .yes) ∨ (∃ x0 x1 x2 x3, v = .sl x0 x1 x2 x3 ∧ g1 x0 x1 x2 x3 = .yes) ∨ (∃ x0 x1 x2, v = .so x0 x1 x2 ∧ g2 x0 x1 x2 = .yes) ∨ (v = .se ∧ g3  = .yes) := by
  cases v with
  | sl0  => exact .inl ⟨rfl, h⟩
  | sl x0 x1 x2 x3 => exact .inr (.inl ⟨x0, x1, x2, x3, rfl, h⟩)
  | so x0 x1 x2 => exact .inr (.inr (.inl ⟨x0, x1, x2, rfl, h⟩))
  | se  => exact .inr (.inr (.inr (⟨rfl, h⟩)))
  | _ => cases h
theorem inv_seq_ {v : AV} {g0 : Ans} {g1 : Ans} {g2 : Nm → Nat → Nat → Nat → Ans} {g3 : Nm → Nat → Nat → Ans} {g4 : List Nat → Ans} {g5 : Nat → Ex → Ans} (h : (AVr Ans.no (fun _ _ => Ans.no) (fun _ => Ans.no) (fun _ _ => Ans.no) Ans.no (fun _ => Ans.no) Ans.no (fun _ _ _ _ _ => Ans.no) Ans.no (fun _ _ => Ans.no) (fun x0 => g4 x0) Ans.no (g0) (g1) (fun _ _ _ => Ans.no) (fun _ _ _ => Ans.no) (fun _ _ _ => Ans.no) (fun x0 x1 x2 => g3 x0 x1 x2) (fun x0 x1 x2 x3 => g2 x0 x1 x2 x3) (fun _ _ _ => Ans.no) (fun _ => Ans.no) (fun _ _ => Ans.no) (fun _ _ => Ans.no) (fun x0 x1 => g5 x0 x1) (v)) = .yes) : (v = .sl0 ∧ g0  = .yes) ∨ (v = .se ∧ g1  = .yes) ∨ (∃ x0 x1 x2 x3, v = .sl x0 x1 x2 x3 ∧ g2 x0 x1 x2 x3 = .yes) ∨ (∃ x0 x1 x2, v = .so x0 x1 x2 ∧ g3 x0 x1 x2 = .yes) ∨ (∃ x0, v = .s x0 ∧ g4 x0 = .yes) ∨ (∃ x0 x1, v = .y x0 x1 ∧ g5 x0 x1 = .yes) := by
  cases v with
  | sl0  => exact .inl ⟨rfl, h⟩
  | se  => exact .inr (.inl ⟨rfl, h⟩)
  | sl x0 x1 x2 x3 => exact .inr (.inr (.inl ⟨x0, x1, x2, x3, rfl, h⟩))
  | so x0 x1 x2 => exact .inr (.inr (.inr (.inl ⟨x0, x1, x2, rfl, h⟩)))
  | s x0 => exact .inr (.inr (.inr (.inr (.inl ⟨x0, rfl, h⟩))))
  | y x0 x1 => exact .inr (.inr (.inr (.inr (.inr (⟨x0, x1, rfl, h⟩)))))
  | _ => cases h
theorem inv_sly_ {v : AV} {g0 : Ans} {g1 : Nm → Nat → Nat → Nat → Ans} {g2 : Nm → Nat → Nat → Ans} {g3 : Ans} {g4 : Nat → Ex → Ans} (h : (AVr Ans.no (fun _ _ => Ans.no) (fun _ => Ans.no) (fun _ _ => Ans.no) Ans.no (fun _ => Ans.no) Ans.no (fun _ _ _ _ _ => Ans.no) Ans.no (fun _ _ => Ans.no) (fun _ => Ans.no) Ans.no (g0) (g3) (fun _ _ _ => Ans.no) (fun _ _ _ => Ans.no) (fun _ _ _ => Ans.no) (fun x0 x1 x2 => g2 x0 x1 x2) (fun x0 x1 x2 x3 => g1 x0 x1 x2 x3) (fun _ _ _ => Ans.no) (fun _ => Ans.no) (fun _ _ => Ans.no) (fun _ _ => Ans.no) (fun x0 x1 => g4 x0 x1) (v)) = .yes) : (v = .sl0 ∧ g0  = .yes) ∨ (∃ x0 x1 x2 x3, v = .sl x0 x1 x2 x3 ∧ g1 x0 x1 x2 x3 = .yes) ∨ (∃ x0 x1 x2, v = .so x0 x1 x2 ∧ g2 x0 x1 x2 = .yes) ∨ (v = .se ∧ g3  = .yes) ∨ (∃ x0 x1, v = .y x0 x1 ∧ g4 x0 x1 = .yes) := by
  cases v with
  | sl0  => exact .inl ⟨rfl, h⟩
  | sl x0 x1 x2 x3 => exact .inr (.inl ⟨x0, x1, x2, x3, rfl, h⟩)
  | so x0 x1 x2 => exact .inr (.inr (.inl ⟨x0, x1, x2, rfl, h⟩))
  | se  => exact .inr (.inr (.inr (.inl ⟨rfl, h⟩)))
  | y x0 x1 => exact .inr (.inr (.inr (.inr (⟨x0, x1, rfl, h⟩))))
  | _ => cases h
theorem inv_py_ {v : AV} {g0 : Nm → Nat → Ans} {g1 : Nat → Ex → Ans} (h : (AVr Ans.no (fun _ _ => Ans.no) (fun _ => Ans.no) (fun _ _ => Ans.no) Ans.no (fun _ => Ans.no) Ans.no (fun _ _ _ _ _ => Ans.no) Ans.no (fun _ _ => Ans.no) (fun _ => Ans.no) Ans.no Ans.no Ans.no (fun _ _ _ => Ans.no) (fun _ _ _ => Ans.no) (fun _ _ _ => Ans.no) (fun _ _ _ => Ans.no) (fun _ _ _ _ => Ans.no) (fun _ _ _ => Ans.no) (fun _ => Ans.no) (fun x0 x1 => g0 x0 x1) (fun _ _ => Ans.no) (fun x0 x1 => g1 x0 x1) (v)) = .yes) : (∃ x0 x1, v = .p x0 x1 ∧ g0 x0 x1 = .yes) ∨ (∃ x0 x1, v = .y x0 x1 ∧ g1 x0 x1 = .yes) := by
  cases v with
  | p x0 x1 => exact .inl ⟨x0, x1, rfl, h⟩
  | y x0 x1 => exact .inr (⟨x0, x1, rfl, h⟩)
  | _ => cases h
theorem inv_m_ {v : AV} {g0 : Ans} {g1 : Nm → Ans} (h : (AVr Ans.no (fun _ _ => Ans.no) (fun _ => Ans.no) (fun _ _ => Ans.no) (g0) (fun x0 => g1 x0) Ans.no (fun _ _ _ _ _ => Ans.no) Ans.no (fun _ _ => Ans.no) (fun _ => Ans.no) Ans.no Ans.no Ans.no (fun _ _ _ => Ans.no) (fun _ _ _ => Ans.no) (fun _ _ _ => Ans.no) (fun _ _ _ => Ans.no) (fun _ _ _ _ => Ans.no) (fun _ _ _ => Ans.no) (fun _ => Ans.no) (fun _ _ => Ans.no) (fun _ _ => Ans.no) (fun _ _ => Ans.no) (v)) = .yes) : (v = .m0 ∧ g0  = .yes) ∨ (∃ x0, v = .m x0 ∧ g1 x0 = .yes) := by
  cases v with
  | m0  => exact .inl ⟨rfl, h⟩
  | m x0 => exact .inr (⟨x0, rfl, h⟩)
  | _ => cases h
theorem inv_key_ {v : AV} {g0 : Nat → Nat → Ans} {g1 : List Nat → Ans} {g2 : Bool → Ans} (h : (AVr Ans.no (fun _ _ => Ans.no) (fun _ => Ans.no) (fun _ _ => Ans.no) Ans.no (fun _ => Ans.no) Ans.no (fun _ _ _ _ _ => Ans.no) Ans.no (fun _ _ => Ans.no) (fun x0 => g1 x0) Ans.no Ans.no Ans.no (fun _ _ _ => Ans.no) (fun _ _ _ => Ans.no) (fun _ _ _ => Ans.no) (fun _ _ _ => Ans.no) (fun _ _ _ _ => Ans.no) (fun _ _ _ => Ans.no) (fun x0 => g2 x0) (fun _ _ => Ans.no) (fun x0 x1 => g0 x0 x1) (fun _ _ => Ans.no) (v)) = .yes) : (∃ x0 x1, v = .n x0 x1 ∧ g0 x0 x1 = .yes) ∨ (∃ x0, v = .s x0 ∧ g1 x0 = .yes) ∨ (∃ x0, v = .b x0 ∧ g2 x0 = .yes) := by
  cases v with
  | n x0 x1 => exact .inl ⟨x0, x1, rfl, h⟩
  | s x0 => exact .inr (.inl ⟨x0, rfl, h⟩)
  | b x0 => exact .inr (.inr (⟨x0, rfl, h⟩))
  | _ => cases h
theorem inv_gd_ {v : AV} {g0 : Bool → Ans} {g1 : List AV → Ans} (h : (AVr Ans.no (fun _ _ => Ans.no) (fun _ => Ans.no) (fun _ _ => Ans.no) Ans.no (fun _ => Ans.no) Ans.no (fun _ _ _ _ _ => Ans.no) Ans.no (fun x0 _ => g1 x0) (fun _ => Ans.no) Ans.no Ans.no Ans.no (fun _ _ _ => Ans.no) (fun _ _ _ => Ans.no) (fun _ _ _ => Ans.no) (fun _ _ _ => Ans.no) (fun _ _ _ _ => Ans.no) (fun _ _ _ => Ans.no) (fun x0 => g0 x0) (fun _ _ => Ans.no) (fun _ _ => Ans.no) (fun _ _ => Ans.no) (v)) = .yes) : (∃ x0, v = .b x0 ∧ g0 x0 = .yes) ∨ (∃ x0, v = .tu x0 ∧ g1 x0 = .yes) := by
  cases v with
  | b x0 => exact .inl ⟨x0, rfl, h⟩
  | tu x0 => exact .inr (⟨x0, rfl, h⟩)
  | _ => cases h
theorem inv_ny {v : AV} {g0 : Nat → Nat → Ans} {g1 : Nat → Ex → Ans} (h : (AVr Ans.no (fun _ _ => Ans.no) (fun _ => Ans.no) (fun _ _ => Ans.no) Ans.no (fun _ => Ans.no) Ans.no (fun _ _ _ _ _ => Ans.no) Ans.no (fun _ _ => Ans.no) (fun _ => Ans.no) Ans.no Ans.no Ans.no (fun _ _ _ => Ans.no) (fun _ _ _ => Ans.no) (fun _ _ _ => Ans.no) (fun _ _ _ => Ans.no) (fun _ _ _ _ => Ans.no) (fun _ _ _ => Ans.no) (fun _ => Ans.no) (fun _ _ => Ans.no) (fun x0 x1 => g0 x0 x1) (fun x0 x1 => g1 x0 x1) (v)) = .yes) : (∃ x0 x1, v = .n x0 x1 ∧ g0 x0 x1 = .yes) ∨ (∃ x0 x1, v = .y x0 x1 ∧ g1 x0 x1 = .yes) := by
  cases v with
  | n x0 x1 => exact .inl ⟨x0, x1, rfl, h⟩
  | y x0 x1 => exact .inr (⟨x0, x1, rfl, h⟩)
  | _ => cases h
theorem inv_sy {v : AV} {g0 : List Nat → Ans} {g1 : Nat → Ex → Ans} (h : (AVr Ans.no (fun _ _ => Ans.no) (fun _ => Ans.no) (fun _ _ => Ans.no) Ans.no (fun _ => Ans.no) Ans.no (fun _ _ _ _ _ => Ans.no) Ans.no (fun _ _ => Ans.no) (fun x0 => g0 x0) Ans.no Ans.no Ans.no (fun _ _ _ => Ans.no) (fun _ _ _ => Ans.no) (fun _ _ _ => Ans.no) (fun _ _ _ => Ans.no) (fun _ _ _ _ => Ans.no) (fun _ _ _ => Ans.no) (fun _ => Ans.no) (fun _ _ => Ans.no) (fun _ _ => Ans.no) (fun x0 x1 => g1 x0 x1) (v)) = .yes) : (∃ x0, v = .s x0 ∧ g0 x0 = .yes) ∨ (∃ x0 x1, v = .y x0 x1 ∧ g1 x0 x1 = .yes) := by
  cases v with
  | s x0 => exact .inl ⟨x0, rfl, h⟩
  | y x0 x1 => exact .inr (⟨x0, x1, rfl, h⟩)
  | _ => cases h
theorem inv_y {v : AV} {g : Nat → Ex → Ans} (h : (AVr Ans.no (fun _ _ => Ans.no) (fun _ => Ans.no) (fun _ _ => Ans.no) Ans.no (fun _ => Ans.no) Ans.no (fun _ _ _ _ _ => Ans.no) Ans.no (fun _ _ => Ans.no) (fun _ => Ans.no) Ans.no Ans.no Ans.no (fun _ _ _ => Ans.no) (fun _ _ _ => Ans.no) (fun _ _ _ => Ans.no) (fun _ _ _ => Ans.no) (fun _ _ _ _ => Ans.no) (fun _ _ _ => Ans.no) (fun _ => Ans.no) (fun _ _ => Ans.no) (fun _ _ => Ans.no) (fun x0 x1 => g x0 x1) (v)) = .yes) : ∃ x0 x1, v = .y x0 x1 ∧ g x0 x1 = .yes := by
  cases v with
  | y x0 x1 => exact ⟨x0, x1, rfl, h⟩
  | _ => cases h
theorem inv_cells {b : Blk} {g : Nat → Bool → Nat → Nat → Nat → (ke : Nat) → Tr AV ke → Ans} (h : (Blk.rec (motive := fun _ => Ans) Ans.no (fun _ => Ans.no) (fun ty op n es form ke t => g ty op n es form ke t) (b)) = .yes) : ∃ ty op n es form ke t, b = .cells ty op n es form ke t ∧ g ty op n es form ke t = .yes := by
  cases b with
  | cells ty op n es form ke t => exact ⟨ty, op, n, es, form, ke, t, rfl, h⟩
  | _ => cases h
theorem inv_mp {b : Blk} {g : List (AV × AV) → Ans} (h : (Blk.rec (motive := fun _ => Ans) Ans.no (fun l => g l) (fun _ _ _ _ _ _ _ => Ans.no) (b)) = .yes) : ∃ l, b = .mp l ∧ g l = .yes := by
  cases b with
  | mp l => exact ⟨l, rfl, h⟩
  | _ => cases h
end
end Go.Proofs.YteefpemaeecicaaGreatDoor.Ev
end
section
open Go Ieee
namespace Go.Proofs.YteefpemaeecicaaGreatDoor.Ev
set_option linter.unusedVariables false
set_option linter.unusedSimpArgs false
set_option linter.constructorNameAsVariable false

/-- The datum d stands for the whole number n. -/
def Whole (d : Datum) (n : Int) : Prop :=
  ∃ (s : Bool) (q : Nat), d = .number s (n.natAbs * 2 ^ q) (-(q : Int)) ∧ (n ≠ 0 → (s = true ↔ n < 0))

/-- The word x stands for the whole number n. -/
def Flo (x : Nat) (n : Int) : Prop := Whole (FloatKind.f64.decode x) n

theorem signed_of {s : Bool} {n : Int} (h : n ≠ 0 → (s = true ↔ n < 0)) (q k : Nat) : signed s (n.natAbs * 2 ^ q) k = n * 2 ^ (q + k) := by
  have e : ((n.natAbs * 2 ^ q) <<< k : Nat) = n.natAbs * 2 ^ (q + k) := by
    rw [Nat.shiftLeft_eq, Nat.mul_assoc, Nat.pow_add]
  have ec : (((n.natAbs * 2 ^ (q + k) : Nat)) : Int) = (n.natAbs : Int) * 2 ^ (q + k) := by
    rw [Int.natCast_mul, Int.natCast_pow]; rfl
  unfold signed
  rw [e, ec]
  by_cases h0 : n = 0
  · subst h0; simp
  · have h1 := h h0
    by_cases hn : n < 0
    · rw [if_pos (h1.2 hn)]
      have : (n.natAbs : Int) = -n := by omega
      rw [this, Int.neg_mul, Int.neg_neg]
    · rw [if_neg (fun e => hn (h1.1 e))]
      have : (n.natAbs : Int) = n := by omega
      rw [this]

theorem pow_pos' (q : Nat) : (0 : Int) < 2 ^ q := Int.pow_pos (by decide)

theorem natAbs_mul_pow (n : Int) (q : Nat) : (n * 2 ^ q).natAbs = n.natAbs * 2 ^ q := by
  rw [Int.natAbs_mul, Int.natAbs_pow]; rfl

theorem sum_whole {d e : Datum} {a b : Int} (hd : Whole d a) (he : Whole e b) : ∃ r, d.sum e = some r ∧ Whole r (a + b) := by
  obtain ⟨s, q, rfl, hs⟩ := hd
  obtain ⟨t, r, rfl, ht⟩ := he
  refine ⟨_, rfl, ?_⟩
  have hm : (min (-(q : Int)) (-(r : Int))) = -((max q r : Nat) : Int) := by omega
  have e1 : (-(q : Int) - min (-(q : Int)) (-(r : Int))).toNat = max q r - q := by omega
  have e2 : (-(r : Int) - min (-(q : Int)) (-(r : Int))).toNat = max q r - r := by omega
  have et : signed s (a.natAbs * 2 ^ q) (-(q : Int) - min (-(q : Int)) (-(r : Int))).toNat + signed t (b.natAbs * 2 ^ r) (-(r : Int) - min (-(q : Int)) (-(r : Int))).toNat = (a + b) * 2 ^ (max q r) := by
    rw [e1, e2, signed_of hs, signed_of ht, show q + (max q r - q) = max q r by omega, show r + (max q r - r) = max q r by omega, Int.add_mul]
  rw [et, hm]
  refine ⟨if (a + b) * 2 ^ (max q r) = 0 then s && t else decide ((a + b) * 2 ^ (max q r) < 0), max q r, by rw [natAbs_mul_pow], fun h0 => ?_⟩
  have hp := pow_pos' (max q r)
  have hne : (a + b) * 2 ^ (max q r) ≠ 0 := Int.mul_ne_zero h0 (by omega)
  rw [if_neg hne]
  by_cases hn : a + b < 0
  · simp [hn, Int.mul_neg_of_neg_of_pos hn hp]
  · have : 0 ≤ (a + b) * 2 ^ (max q r) := Int.mul_nonneg (by omega) (by omega)
    simp [hn, this]

theorem opposite_whole {d : Datum} {a : Int} (hd : Whole d a) : Whole d.opposite (-a) := by
  obtain ⟨s, q, rfl, hs⟩ := hd
  refine ⟨!s, q, by simp [Datum.opposite], fun h0 => ?_⟩
  have := hs (by omega)
  cases s <;> simp at this ⊢ <;> omega

theorem product_whole {d e : Datum} {a b : Int} (hd : Whole d a) (he : Whole e b) : ∃ r, d.product e = some r ∧ Whole r (a * b) := by
  obtain ⟨s, q, rfl, hs⟩ := hd
  obtain ⟨t, r, rfl, ht⟩ := he
  refine ⟨_, rfl, s ^^ t, q + r, ?_, fun h0 => ?_⟩
  · rw [Int.natAbs_mul, Nat.pow_add]
    congr 1
    · rw [Nat.mul_assoc, Nat.mul_assoc, Nat.mul_left_comm (2 ^ q)]
    · omega
  · have ha : a ≠ 0 := fun e => h0 (by rw [e]; simp)
    have hb : b ≠ 0 := fun e => h0 (by rw [e]; simp)
    have h1 := hs ha
    have h2 := ht hb
    rcases Int.lt_or_lt_of_ne ha with ha' | ha' <;> rcases Int.lt_or_lt_of_ne hb with hb' | hb'
    · have := Int.mul_pos_of_neg_of_neg ha' hb'
      rw [h1.2 ha', h2.2 hb']; simp; omega
    · have := Int.mul_neg_of_neg_of_pos ha' hb'
      have ht' : t = false := by cases t; rfl; have := h2.1 rfl; omega
      rw [h1.2 ha', ht']; simp; omega
    · have := Int.mul_neg_of_pos_of_neg ha' hb'
      have hs' : s = false := by cases s; rfl; have := h1.1 rfl; omega
      rw [hs', h2.2 hb']; simp; omega
    · have := Int.mul_pos ha' hb'
      have ht' : t = false := by cases t; rfl; have := h2.1 rfl; omega
      have hs' : s = false := by cases s; rfl; have := h1.1 rfl; omega
      rw [hs', ht']; simp; omega

theorem compare_mul {a b p : Int} (hp : 0 < p) : compare (a * p) (b * p) = compare a b := by
  rcases Int.lt_trichotomy a b with h | h | h
  · have := Int.mul_lt_mul_of_pos_right h hp
    rw [Int.compare_eq_lt.2 h, Int.compare_eq_lt.2 this]
  · rw [h]; simp
  · have := Int.mul_lt_mul_of_pos_right h hp
    rw [Int.compare_eq_gt.2 h, Int.compare_eq_gt.2 this]

theorem order_whole {d e : Datum} {a b : Int} (hd : Whole d a) (he : Whole e b) : d.order e = some (compare a b) := by
  obtain ⟨s, q, rfl, hs⟩ := hd
  obtain ⟨t, r, rfl, ht⟩ := he
  have e1 : (-(q : Int) - min (-(q : Int)) (-(r : Int))).toNat = max q r - q := by omega
  have e2 : (-(r : Int) - min (-(q : Int)) (-(r : Int))).toNat = max q r - r := by omega
  show some (compare (signed s (a.natAbs * 2 ^ q) (-(q : Int) - min (-(q : Int)) (-(r : Int))).toNat) (signed t (b.natAbs * 2 ^ r) (-(r : Int) - min (-(q : Int)) (-(r : Int))).toNat)) = _
  rw [e1, e2, signed_of hs, signed_of ht, show q + (max q r - q) = max q r by omega, show r + (max q r - r) = max q r by omega, compare_mul (pow_pos' _)]

theorem log2_mul_pow (n q : Nat) (h : n ≠ 0) : (n * 2 ^ q).log2 = n.log2 + q := by
  refine (Nat.log2_eq_iff (Nat.mul_ne_zero h (by have := Nat.two_pow_pos q; omega))).2 ⟨?_, ?_⟩
  · rw [Nat.pow_add]; exact Nat.mul_le_mul_right _ (Nat.log2_self_le h)
  · rw [show n.log2 + q + 1 = (n.log2 + 1) + q by omega, Nat.pow_add]
    exact Nat.mul_lt_mul_of_pos_right Nat.lt_log2_self (Nat.two_pow_pos q)

theorem cut_whole (way : Toward) (s : Bool) (n q : Nat) : way.cut s (n * 2 ^ q) q = n := by
  by_cases h0 : n = 0
  · subst h0
    unfold Toward.cut
    cases way <;> simp
  · have hl := log2_mul_pow n q h0
    have hg : 1 <<< min q ((n * 2 ^ q).log2 + 2) = 2 ^ q := by
      rw [hl, Nat.min_eq_left (by omega), Nat.one_shiftLeft]
    have hp := Nat.two_pow_pos q
    unfold Toward.cut
    simp only [hg, Nat.mul_div_cancel _ hp, Nat.mul_mod_left]
    have : ¬ 2 ^ q < 0 := by omega
    have h2 : ¬ 2 ^ q = 0 := by omega
    cases way <;> simp

theorem toInt_whole {d : Datum} {a : Int} (hd : Whole d a) : d.toInt .zero = some a := by
  obtain ⟨s, q, rfl, hs⟩ := hd
  unfold Datum.toInt Datum.integral
  have e1 : (-(q : Int)).toNat = 0 := by omega
  have e2 : (-(-(q : Int))).toNat = q := by omega
  simp only [e1, e2, Nat.shiftLeft_zero, cut_whole]
  have := signed_of hs 0 0
  simpa using this

theorem infRung_double : Ieee.double.infRung = 2047 * 4503599627370496 := by decide
theorem binade_double : Ieee.double.binade = 4503599627370496 := by decide
theorem signWeight_double : Ieee.double.signWeight = 9223372036854775808 := by decide
theorem leastPlace_double : Ieee.double.leastPlace = -1074 := by decide

theorem word_neg (s : Bool) {r : Nat} (h : r < 9223372036854775808) : (Ieee.double.word s r / 9223372036854775808 % 2 == 1) = s ∧ Ieee.double.word s r % 9223372036854775808 = r := by
  unfold Ieee.Format.word
  rw [signWeight_double]
  cases s
  · constructor
    · rw [beq_eq_false_iff_ne]; simp; omega
    · simp; omega
  · constructor
    · rw [beq_iff_eq]; simp; omega
    · simp; omega

theorem write_whole {d : Datum} {a : Int} (hd : Whole d a) (h : a.natAbs < 2 ^ 53) : Whole (Ieee.double.read (Ieee.double.write d)) a := by
  obtain ⟨s, q, rfl, hs⟩ := hd
  show Whole (Ieee.double.read (Ieee.double.nearest s (a.natAbs * 2 ^ q) (-(q : Int)))) a
  generalize hN : a.natAbs = N at h
  unfold Ieee.Format.nearest
  by_cases h0 : N = 0
  · subst h0
    rw [if_pos (by simp)]
    obtain ⟨w1, w2⟩ := word_neg s (r := 0) (by decide)
    unfold Ieee.Format.read
    rw [signWeight_double, w1, w2, binade_double]
    obtain ⟨q', hq'⟩ : ∃ q' : Nat, q' = 1074 := ⟨_, rfl⟩
    refine ⟨s, q', ?_, hs⟩
    rw [if_pos (by decide), leastPlace_double, hN, Nat.zero_mul, hq']
    rfl
  · have hne : N * 2 ^ q ≠ 0 := Nat.mul_ne_zero h0 (by have := Nat.two_pow_pos q; omega)
    rw [if_neg hne]
    have hl := log2_mul_pow N q h0
    have hlN : N.log2 ≤ 52 := by
      have := (Nat.log2_lt h0).2 h
      omega
    obtain ⟨D, hD⟩ : ∃ D, D = 52 - N.log2 := ⟨_, rfl⟩
    have hlast : max (-(q : Int) + ((N * 2 ^ q).log2 : Nat) - (Ieee.double.fractionBits : Nat)) Ieee.double.leastPlace = -(D : Int) := by
      rw [hl, leastPlace_double]
      show max (-(q : Int) + ((N.log2 + q : Nat) : Int) - ((52 : Nat) : Int)) (-1074) = _
      omega
    have hkept : Toward.even.cut s ((N * 2 ^ q) <<< (-(q : Int) - -(D : Int)).toNat) (-(D : Int) - -(q : Int)).toNat = N * 2 ^ D := by
      rw [Nat.shiftLeft_eq, Nat.mul_assoc, ← Nat.pow_add]
      by_cases hqd : q ≤ D
      · have e1 : (-(D : Int) - -(q : Int)).toNat = 0 := by omega
        have e2 : q + (-(q : Int) - -(D : Int)).toNat = D := by omega
        rw [e1, e2]
        have := cut_whole .even s (N * 2 ^ D) 0
        simpa using this
      · have e1 : (-(q : Int) - -(D : Int)).toNat = 0 := by omega
        have e2 : (-(D : Int) - -(q : Int)).toNat = q - D := by omega
        rw [e1, e2, Nat.add_zero, show q = D + (q - D) by omega, Nat.pow_add, ← Nat.mul_assoc, show D + (q - D) - D = q - D by omega]
        exact cut_whole .even s (N * 2 ^ D) (q - D)
    have hlo : 4503599627370496 ≤ N * 2 ^ D := by
      have h1 := Nat.log2_self_le h0
      have h2 : 2 ^ N.log2 * 2 ^ D ≤ N * 2 ^ D := Nat.mul_le_mul_right _ h1
      rw [← Nat.pow_add, show N.log2 + D = 52 by omega] at h2
      exact h2
    have hhi : N * 2 ^ D < 9007199254740992 := by
      have h1 : N < 2 ^ (N.log2 + 1) := Nat.lt_log2_self
      have h2 : N * 2 ^ D < 2 ^ (N.log2 + 1) * 2 ^ D := Nat.mul_lt_mul_of_pos_right h1 (Nat.two_pow_pos D)
      rw [← Nat.pow_add, show N.log2 + 1 + D = 53 by omega] at h2
      exact h2
    simp only [hlast, hkept]
    have hr : (-(D : Int) - Ieee.double.leastPlace).toNat = 1074 - D := by rw [leastPlace_double]; omega
    generalize hK : N * 2 ^ D = K at hlo hhi ⊢
    have hD0 : D ≤ 52 := by omega
    have hm : min ((-(D : Int) - Ieee.double.leastPlace).toNat * Ieee.double.binade + K) Ieee.double.infRung = (1074 - D) * 4503599627370496 + K := by
      rw [hr, binade_double, infRung_double]
      exact Nat.min_eq_left (by omega)
    rw [hm]
    clear hm
    have hD52 : D ≤ 52 := by omega
    obtain ⟨w1, w2⟩ := word_neg s (r := (1074 - D) * 4503599627370496 + K) (by omega)
    unfold Ieee.Format.read
    rw [signWeight_double, w1, w2, binade_double, infRung_double, leastPlace_double]
    have hm1 : ((1074 - D) * 4503599627370496 + K) % 4503599627370496 = K - 4503599627370496 := by omega
    have hd1 : ((1074 - D) * 4503599627370496 + K) / 4503599627370496 = 1074 - D + 1 := by omega
    refine ⟨s, D, ?_, hs⟩
    simp only []
    rw [if_neg (by omega), if_pos (by omega), hm1, hd1, hN, hK]
    have e1 : 4503599627370496 + (K - 4503599627370496) = K := by omega
    have e2 : (-1074 + ((1074 - D + 1 - 1 : Nat) : Int)) = -(D : Int) := by omega
    rw [e1, e2]

theorem fl_add {x y : Nat} {a b : Int} (hx : Flo x a) (hy : Flo y b) (h : (a + b).natAbs < 2 ^ 53) : ∃ r, floatBits .add .f64 x y = some r ∧ Flo r (a + b) := by
  obtain ⟨r, hr, hw⟩ := sum_whole hx hy
  refine ⟨Ieee.double.write r, ?_, write_whole hw h⟩
  show ((Ieee.double.read x).sum (Ieee.double.read y)).map Ieee.double.write = _
  have hr' : (Ieee.double.read x).sum (Ieee.double.read y) = some r := hr
  rw [hr']; rfl
theorem fl_sub {x y : Nat} {a b : Int} (hx : Flo x a) (hy : Flo y b) (h : (a - b).natAbs < 2 ^ 53) : ∃ r, floatBits .sub .f64 x y = some r ∧ Flo r (a - b) := by
  obtain ⟨r, hr, hw⟩ := sum_whole hx (opposite_whole hy)
  refine ⟨Ieee.double.write r, ?_, write_whole (by rwa [Int.sub_eq_add_neg]) h⟩
  show ((Ieee.double.read x).sum (Ieee.double.read y).opposite).map Ieee.double.write = _
  have hr' : (Ieee.double.read x).sum (Ieee.double.read y).opposite = some r := hr
  rw [hr']; rfl
theorem fl_mul {x y : Nat} {a b : Int} (hx : Flo x a) (hy : Flo y b) (h : (a * b).natAbs < 2 ^ 53) : ∃ r, floatBits .mul .f64 x y = some r ∧ Flo r (a * b) := by
  obtain ⟨r, hr, hw⟩ := product_whole hx hy
  refine ⟨Ieee.double.write r, ?_, write_whole hw h⟩
  show ((Ieee.double.read x).product (Ieee.double.read y)).map Ieee.double.write = _
  have hr' : (Ieee.double.read x).product (Ieee.double.read y) = some r := hr
  rw [hr']; rfl
theorem fl_of_int {n : Int} (h : n.natAbs < 2 ^ 53) : Flo (floatOfInt .f64 n) n := by
  refine write_whole (d := .number (decide (n < 0)) n.natAbs 0) ⟨decide (n < 0), 0, by simp, fun _ => by simp⟩ h
theorem fl_order {x y : Nat} {a b : Int} (hx : Flo x a) (hy : Flo y b) : FloatKind.f64.format.order x y = some (compare a b) := order_whole hx hy
theorem fl_eq {x y : Nat} {a b : Int} (hx : Flo x a) (hy : Flo y b) : (FloatKind.f64.format.order x y == some .eq) = decide (a = b) := by
  rw [fl_order hx hy]
  by_cases h : a = b
  · simp [h]
  · rcases Int.lt_or_lt_of_ne h with h' | h'
    · rw [Int.compare_eq_lt.2 h']; simp [h]
    · rw [Int.compare_eq_gt.2 h']; simp [h]
theorem fl_int {x : Nat} {a : Int} (hx : Flo x a) (h1 : -9223372036854775808 ≤ a) (h2 : a ≤ 9223372036854775807) : floatToIntVal .f64 x .i64 = some a := by
  unfold floatToIntVal
  rw [toInt_whole hx]
  have e1 : IntKind.i64.min = -9223372036854775808 := by decide
  have e2 : IntKind.i64.max = 9223372036854775807 := by decide
  simp only [e1, e2]
  rw [if_pos ⟨h1, h2⟩]

theorem fl_neg {x : Nat} {a : Int} (hx : Flo x a) : Flo (Op.negFloat .f64 x) (-a) := by
  have hr : Ieee.double.read (x ^^^ 2 ^ 63) = (Ieee.double.read x).opposite := by
    have e1 : (x ^^^ 2 ^ 63) % 9223372036854775808 = x % 9223372036854775808 := by
      have := Nat.xor_mod_two_pow (a := x) (b := 2 ^ 63) (n := 63)
      simpa using this
    have e2 : ((x ^^^ 2 ^ 63) / 9223372036854775808 % 2 == 1) = !(x / 9223372036854775808 % 2 == 1) := by
      have h1 := Nat.testBit_xor x (2 ^ 63) 63
      rw [Nat.testBit_two_pow_self] at h1
      have h2 : ∀ y : Nat, y.testBit 63 = (y / 9223372036854775808 % 2 == 1) := fun y => by
        rw [Nat.testBit_eq_decide_div_mod_eq]
        by_cases h : y / 2 ^ 63 % 2 = 1 <;> simp [h]
      rw [← h2, ← h2, h1]; simp
    unfold Ieee.Format.read
    rw [signWeight_double]
    simp only [e1, e2]
    split
    · rfl
    · split
      · rfl
      · split <;> rfl
  show Whole (Ieee.double.read (x ^^^ 2 ^ 63)) (-a)
  rw [hr]
  exact opposite_whole hx

theorem smallI_lt {z : Int} (h : smallI z = true) : z.natAbs < 2 ^ 53 := by
  cases z with
  | ofNat n => have := ble_iff.1 h; show n < 2 ^ 53; omega
  | negSucc n => have := ble_iff.1 h; show n + 1 < 2 ^ 53; omega
theorem fl_nearest {z : Int} (h : z.natAbs < 2 ^ 53) : Flo (FloatKind.f64.nearest z) z := fl_of_int h
theorem fl_const {x : Nat} {z : Int} (h : flOf x = some z) : Flo x z := by
  unfold flOf at h
  dsimp only at h
  generalize (if 1023 ≤ x / 4503599627370496 % 2048 ∧ x / 4503599627370496 % 2048 ≤ 1075 then (x % 4503599627370496 + 4503599627370496) / 2 ^ (1075 - x / 4503599627370496 % 2048) else 0 : Nat) = n at h
  generalize hz : (if x / 9223372036854775808 = 0 then (n : Int) else -(n : Int)) = y at h
  have key : n < 9007199254740992 → Flo (FloatKind.f64.nearest y) y := fun hn => fl_nearest (by subst hz; split <;> omega)
  by_cases hc : n < 9007199254740992 ∧ FloatKind.f64.nearest y = x
  · rw [if_pos hc] at h
    cases h
    have := key hc.1
    rwa [hc.2] at this
  · rw [if_neg hc] at h
    cases h
end Go.Proofs.YteefpemaeecicaaGreatDoor.Ev
end
section
open Go
namespace Go.Proofs.YteefpemaeecicaaGreatDoor.Ev
set_option linter.unusedVariables false
set_option linter.unusedSimpArgs false
set_option linter.constructorNameAsVariable false
noncomputable section
/-- What a name stands for: a block, of so many cells, its elements of so many cells. -/
structure Bk where
  (blk size es : Nat)
@[reducible] def Mp : Type := Nm → Option Bk
def bstr (l : List Nat) : ByteArray := ⟨(l.map fun n => UInt8.ofNat n).toArray⟩
/-- What is not known: numbers, and values of one cell. -/
class Rho where
  n : Nat → Nat
  v : Nat → Value
  vc : ∀ i, oneC (v i) = true
  inp : Nat → Option Obj
/-- What an expression is. -/
def den [Rho] : Ex → Nat
  | .var i => Rho.n i
  | .lit n => n
  | .op c w a b => exD c w (den a) (den b)
/-- Numbers that lie in a block of the input. -/
def RowI [Rho] (k : IntKind) (a : Option Addr) (us : List Nat) : Prop :=
  us = [] ∨ ∃ b off arr ty fr, a = some ⟨b, off, none⟩ ∧ Rho.inp b = some (.cells arr ty fr) ∧ ∀ (i u : Nat), us[i]? = some u → arr[off + i]? = some (.int k (k.wrap (u : Nat)))
/-- Values that belong together. -/
inductive VR [Rho] (μ : Mp) : AV → Value → Prop
  | u (v : Value) : VR μ .u v
  | x (k r : Nat) (z : Int) : (z.tmod (k : Int)).natAbs = r → VR μ (.x k r) (.int .i64 z)
  | b (x : Bool) : VR μ (.b x) (.bool x)
  | n (k : IntKind) (u : Nat) : u < km k → VR μ (.n (kc k) u) (.int k (k.wrap u))
  | y (k : IntKind) (e : Ex) : VR μ (.y (kc k) e) (.int k (k.wrap (den e % km k : Nat)))
  | yo (i : Nat) : VR μ (.y 8 (.var i)) (Rho.v i)
  | ys (l : List Ex) : VR μ (.y 9 (mkE l)) (.string (bstr (l.map fun x => den x % 256)))
  | yf (e : Ex) (x : Nat) : Flo x (den e % 18446744073709551616 : Nat) → VR μ (.y 11 e) (.float .f64 x)
  | yl (k : IntKind) (le : Ex) (l : List Ex) (a : Option Addr) (n cap : Nat) : RowI k a (l.map fun x => den x % km k) → l.length ≤ n → n ≤ cap → n < 9223372036854775808 → den le % 18446744073709551616 = n → VR μ (.y (16 + kc k) (.op 0 0 le (mkE l))) (.slice a n cap)
  | yp (k : IntKind) (e : Ex) (a : Addr) : RowI k (some a) [den e % km k] → VR μ (.y (24 + kc k) e) (.pointer (some a))
  | yc (e1 e2 : Ex) (a b : Nat) : Flo a (den e1 % 18446744073709551616 : Nat) → Flo b (den e2 % 18446744073709551616 : Nat) → VR μ (.y 10 (.op 0 0 e1 e2)) (.complex .f64 a b)
  | f (z : Int) (x : Nat) : Flo x z → VR μ (.f z) (.float .f64 x)
  | c (x y : Int) (a b : Nat) : Flo a x → Flo b y → VR μ (.c x y) (.complex .f64 a b)
  | s (l : List Nat) : (∀ n ∈ l, n < 256) → VR μ (.s l) (.string (bstr l))
  | p0 : VR μ .p0 (.pointer none)
  | p (nm : Nm) (off : Nat) (bk : Bk) : μ nm = some bk → VR μ (.p nm off) (.pointer (some ⟨bk.blk, off, none⟩))
  | sl0 : VR μ .sl0 (.slice none 0 0)
  | sl (nm : Nm) (off len cap : Nat) (bk : Bk) : μ nm = some bk → len ≤ cap → cap ≤ 1000000000 → VR μ (.sl nm off len cap) (.slice (some ⟨bk.blk, off, none⟩) len cap)
  | so (nm : Nm) (off len : Nat) (bk : Bk) (cap : Nat) : μ nm = some bk → len ≤ cap → len ≤ 1000000000 → (off = 0 → cap * bk.es ≤ bk.size) → VR μ (.so nm off len) (.slice (some ⟨bk.blk, off, none⟩) len cap)
  | se (a : Addr) (cap : Nat) : VR μ .se (.slice (some a) 0 cap)
  | m0 : VR μ .m0 (.map none)
  | m (nm : Nm) (bk : Bk) : μ nm = some bk → VR μ (.m nm) (.map (some bk.blk))
  | fn0 : VR μ .fn0 .nilFunc
  | fn (f : Nat) (a b : List AV) (x y : Array Value) : x.size = a.length → y.size = b.length →
      (∀ (i : Nat) u c, a[i]? = some u → x[i]? = some c → VR μ u c) → (∀ (i : Nat) u c, b[i]? = some u → y[i]? = some c → VR μ u c) → VR μ (.fn f a b) (.func (.func f) x y)
  | if0 : VR μ .if0 .nilIface
  | tu (l : List AV) (x : Array Value) : x.size = l.length → (∀ (i : Nat) u c, l[i]? = some u → x[i]? = some c → VR μ u c) → VR μ (.tu l) (.tuple x)
  | a0 (s : Nat) (t : AV) (x : Array Value) : x.size = s → s ≤ 1 → (∀ (i : Nat) c, x[i]? = some c → oneC c = true) → (∀ (i : Nat) c, x[i]? = some c → VR μ t c) → VR μ (.a0 s t) (.agg x)
  | a1 (s : Nat) (t : N8 AV) (x : Array Value) : x.size = s → s ≤ 8 → (∀ (i : Nat) c, x[i]? = some c → oneC c = true) → (∀ (i : Nat) c, x[i]? = some c → VR μ (Tr.get (α := AV) 1 (paK 1 i) t) c) → VR μ (.a1 s t) (.agg x)
  | a2 (s : Nat) (t : N8 (N8 AV)) (x : Array Value) : x.size = s → s ≤ 64 → (∀ (i : Nat) c, x[i]? = some c → oneC c = true) → (∀ (i : Nat) c, x[i]? = some c → VR μ (Tr.get (α := AV) 2 (paK 2 i) t) c) → VR μ (.a2 s t) (.agg x)
  | a3 (s : Nat) (t : N8 (N8 (N8 AV))) (x : Array Value) : x.size = s → s ≤ 512 → (∀ (i : Nat) c, x[i]? = some c → oneC c = true) → (∀ (i : Nat) c, x[i]? = some c → VR μ (Tr.get (α := AV) 3 (paK 3 i) t) c) → VR μ (.a3 s t) (.agg x)
def Ext (μ μ' : Mp) : Prop := ∀ nm bk, μ nm = some bk → μ' nm = some bk
theorem Ext.refl (μ : Mp) : Ext μ μ := fun _ _ h => h
theorem Ext.trans {a b c : Mp} (h : Ext a b) (k : Ext b c) : Ext a c := fun nm bk e => k nm bk (h nm bk e)
theorem VR.ext [Rho] {μ μ' : Mp} (h : Ext μ μ') {a : AV} {v : Value} (r : VR μ a v) : VR μ' a v := by
  induction r with
  | u v => exact .u v
  | x k r z hz => exact .x k r z hz
  | b x => exact .b x
  | n k u hu => exact .n k u hu
  | y k e => exact .y k e
  | yo i => exact .yo i
  | ys l => exact .ys l
  | yf e x h => exact .yf e x h
  | yl k le l a n cap h1 h2 h3 h4 h5 => exact .yl k le l a n cap h1 h2 h3 h4 h5
  | yp k e a h1 => exact .yp k e a h1
  | yc e1 e2 a b h1 h2 => exact .yc e1 e2 a b h1 h2
  | f z x hz => exact .f z x hz
  | c x y a b hx hy => exact .c x y a b hx hy
  | s l hl => exact .s l hl
  | p0 => exact .p0
  | p nm off bk e => exact .p nm off bk (h _ _ e)
  | sl0 => exact .sl0
  | sl nm off len cap bk e h1 h2 => exact .sl nm off len cap bk (h _ _ e) h1 h2
  | so nm off len bk cap e h1 h2 h3 => exact .so nm off len bk cap (h _ _ e) h1 h2 h3
  | se a cap => exact .se a cap
  | m0 => exact .m0
  | m nm bk e => exact .m nm bk (h _ _ e)
  | fn0 => exact .fn0
  | fn f a b x y h1 h2 _ _ i1 i2 => exact .fn f a b x y h1 h2 i1 i2
  | if0 => exact .if0
  | tu l x h1 _ i1 => exact .tu l x h1 i1
  | a0 s t x h1 h2 h3 _ i => exact .a0 s t x h1 h2 h3 i
  | a1 s t x h1 h2 h3 _ i => exact .a1 s t x h1 h2 h3 i
  | a2 s t x h1 h2 h3 _ i => exact .a2 s t x h1 h2 h3 i
  | a3 s t x h1 h2 h3 _ i => exact .a3 s t x h1 h2 h3 i
/-- Lists of values that belong together. -/
def VRs [Rho] (μ : Mp) (l : List AV) (x : List Value) : Prop := x.length = l.length ∧ ∀ (i : Nat) u c, l[i]? = some u → x[i]? = some c → VR μ u c
theorem VRs.nil [Rho] (μ : Mp) : VRs μ [] [] := ⟨rfl, fun i u c h => by simp at h⟩
theorem VRs.cons [Rho] {μ : Mp} {a : AV} {l : List AV} {v : Value} {x : List Value} (h : VR μ a v) (t : VRs μ l x) : VRs μ (a :: l) (v :: x) := by
  refine ⟨by simp [t.1], fun i u c hu hc => ?_⟩
  cases i with
  | zero => simp at hu hc; subst hu; subst hc; exact h
  | succ i => exact t.2 i u c (by simpa using hu) (by simpa using hc)
theorem VRs.cons_inv [Rho] {μ : Mp} {a : AV} {l : List AV} {y : List Value} (h : VRs μ (a :: l) y) : ∃ v x, y = v :: x ∧ VR μ a v ∧ VRs μ l x := by
  cases y with
  | nil => have := h.1; simp at this
  | cons v x => exact ⟨v, x, rfl, h.2 0 a v rfl rfl, by have := h.1; simpa using this, fun i u c hu hc => h.2 (i + 1) u c (by simpa using hu) (by simpa using hc)⟩
theorem VRs.nil_inv [Rho] {μ : Mp} {y : List Value} (h : VRs μ [] y) : y = [] := by
  cases y with
  | nil => rfl
  | cons v x => have := h.1; simp at this
theorem VRs.ext [Rho] {μ μ' : Mp} (h : Ext μ μ') {l : List AV} {x : List Value} (r : VRs μ l x) : VRs μ' l x := ⟨r.1, fun i u c hu hc => (r.2 i u c hu hc).ext h⟩
theorem VRs.app [Rho] {μ : Mp} : ∀ {l l' : List AV} {x x' : List Value}, VRs μ l x → VRs μ l' x' → VRs μ (l ++ l') (x ++ x')
  | [], l', x, x', h, h' => by have := h.nil_inv; subst this; simpa using h'
  | a :: l, l', x, x', h, h' => by
    obtain ⟨v, y, rfl, h1, h2⟩ := h.cons_inv
    exact VRs.cons h1 (VRs.app h2 h')
theorem VRs.drop [Rho] {μ : Mp} {l : List AV} {x : List Value} (h : VRs μ l x) (n : Nat) : VRs μ (l.drop n) (x.drop n) := by
  refine ⟨by simp [h.1], fun i u c hu hc => ?_⟩
  rw [List.getElem?_drop] at hu hc
  exact h.2 _ u c hu hc
theorem VRs.take [Rho] {μ : Mp} {l : List AV} {x : List Value} (h : VRs μ l x) (n : Nat) : VRs μ (l.take n) (x.take n) := by
  refine ⟨by simp [h.1], fun i u c hu hc => ?_⟩
  rw [List.getElem?_take] at hu hc
  split at hu
  · rename_i hi; rw [if_pos hi] at hc; exact h.2 _ u c hu hc
  · cases hu
/-! ### Elements -/
/-- The cell at a place of an element. -/
def cellOf (form : Nat) (v : AV) (j : Nat) : AV := match form, v with
  | 0, v => v
  | 1, .a0 _ x => x
  | 2, .a1 _ t => Tr.get (α := AV) 1 (paK 1 j) t
  | 3, .a2 _ t => Tr.get (α := AV) 2 (paK 2 j) t
  | 4, .a3 _ t => Tr.get (α := AV) 3 (paK 3 j) t
  | _, _ => .u
/-- A value of that form and so many cells. -/
def isE (form s : Nat) (v : AV) : Prop := match form, v with
  | 0, _ => s = 1
  | 1, .a0 s' _ => s' = s
  | 2, .a1 s' _ => s' = s
  | 3, .a2 s' _ => s' = s
  | 4, .a3 s' _ => s' = s
  | _, _ => False
theorem isE1 {s : Nat} {v : AV} (h : isE 1 s v) : ∃ x, v = .a0 s x := by cases v <;> first | exact False.elim h | (cases h; exact ⟨_, rfl⟩)
theorem isE2 {s : Nat} {v : AV} (h : isE 2 s v) : ∃ x, v = .a1 s x := by cases v <;> first | exact False.elim h | (cases h; exact ⟨_, rfl⟩)
theorem isE3 {s : Nat} {v : AV} (h : isE 3 s v) : ∃ x, v = .a2 s x := by cases v <;> first | exact False.elim h | (cases h; exact ⟨_, rfl⟩)
theorem isE4 {s : Nat} {v : AV} (h : isE 4 s v) : ∃ x, v = .a3 s x := by cases v <;> first | exact False.elim h | (cases h; exact ⟨_, rfl⟩)
theorem isE5 {form s : Nat} {v : AV} (h : isE (form + 5) s v) : False := h
/-- So many cells go into a form. -/
def top (form : Nat) : Nat := match form with | 0 => 1 | 1 => 1 | 2 => 8 | 3 => 64 | _ => 512
theorem VR.agg_inv [Rho] {μ : Mp} {form s : Nat} {v : AV} {v' : Value} (h : VR μ v v') (hf : form ≠ 0) (he : isE form s v) :
    ∃ x, v' = .agg x ∧ x.size = s ∧ s ≤ top form ∧ (∀ (i : Nat) c, x[i]? = some c → oneC c = true) ∧ ∀ (i : Nat) c, x[i]? = some c → VR μ (cellOf form v i) c := by
  rcases form with _ | _ | _ | _ | _ | form
  · exact (hf rfl).elim
  · obtain ⟨x, rfl⟩ := isE1 he
    cases h with | a0 s t x h1 h2 h3 h4 => exact ⟨x, rfl, h1, h2, h3, h4⟩
  · obtain ⟨x, rfl⟩ := isE2 he
    cases h with | a1 s t x h1 h2 h3 h4 => exact ⟨x, rfl, h1, h2, h3, h4⟩
  · obtain ⟨x, rfl⟩ := isE3 he
    cases h with | a2 s t x h1 h2 h3 h4 => exact ⟨x, rfl, h1, h2, h3, h4⟩
  · obtain ⟨x, rfl⟩ := isE4 he
    cases h with | a3 s t x h1 h2 h3 h4 => exact ⟨x, rfl, h1, h2, h3, h4⟩
  · exact (isE5 he).elim
theorem VR.agg_mk [Rho] {μ : Mp} {form s : Nat} {v : AV} {x : Array Value} (hf : form ≠ 0) (he : isE form s v) (h1 : x.size = s) (h2 : s ≤ top form)
    (h3 : ∀ (i : Nat) c, x[i]? = some c → oneC c = true) (h4 : ∀ (i : Nat) c, x[i]? = some c → VR μ (cellOf form v i) c) : VR μ v (.agg x) := by
  rcases form with _ | _ | _ | _ | _ | form
  · exact (hf rfl).elim
  · obtain ⟨t, rfl⟩ := isE1 he
    exact .a0 _ _ x h1 h2 h3 h4
  · obtain ⟨t, rfl⟩ := isE2 he
    exact .a1 _ _ x h1 h2 h3 h4
  · obtain ⟨t, rfl⟩ := isE3 he
    exact .a2 _ _ x h1 h2 h3 h4
  · obtain ⟨t, rfl⟩ := isE4 he
    exact .a3 _ _ x h1 h2 h3 h4
  · exact (isE5 he).elim
theorem isCell_one [Rho] {μ : Mp} {a : AV} {v : Value} (h : isCell a = true) (r : VR μ a v) : oneC v = true := by
  cases r <;> first | rfl | exact Rho.vc _ | cases h
/-- The cells of an element's value. -/
theorem elem_cells [Rho] {μ : Mp} {form s : Nat} {v : AV} {v' : Value} (h : VR μ v v') (he : isE form s v) (hc : form = 0 → oneC v' = true) :
    v'.cells.size = s ∧ (∀ (i : Nat) c, v'.cells[i]? = some c → oneC c = true) ∧ ∀ (i : Nat) c, v'.cells[i]? = some c → VR μ (cellOf form v i) c := by
  by_cases hf : form = 0
  · subst hf
    have he : s = 1 := he
    subst he
    have e : v'.cells = #[v'] := by have := hc rfl; cases v' <;> first | rfl | cases this
    rw [e]
    refine ⟨rfl, fun i c hc' => ?_, fun i c hc' => ?_⟩
    · cases i with
      | zero => simp at hc'; subst hc'; exact hc rfl
      | succ i => simp at hc'
    · cases i with
      | zero => simp at hc'; subst hc'; exact h
      | succ i => simp at hc'
  · obtain ⟨x, rfl, h1, h2, h3, h4⟩ := h.agg_inv hf he
    exact ⟨h1, h3, h4⟩
theorem isElem_yes {form s : Nat} {v : AV} {y : Unit → Ans} (h : isElem form s v y = .yes) (hf : form ≤ 4) (h0 : form = 0 → s = 1) : isE form s v ∧ (form = 0 → isCell v = true) ∧ y () = .yes ∧ ∀ y, isElem form s v y = y () := by
  rcases form with _ | _ | _ | _ | _ | form
  · obtain ⟨h1, h2⟩ := inv_if h
    refine ⟨h0 rfl, fun _ => h1, h2, fun y => ?_⟩
    show Bool.rec (motive := fun _ => Ans) Ans.no (y ()) (isCell v) = y ()
    rw [h1]
  · obtain ⟨x0, x1, rfl, h⟩ := inv_a0 h
    obtain ⟨h1, h2⟩ := inv_if h
    refine ⟨beq_iff.1 h1, fun e => (by cases e), h2, fun y => ?_⟩
    show Bool.rec (motive := fun _ => Ans) Ans.no (y ()) (Nat.beq x0 s) = y ()
    rw [h1]
  · obtain ⟨x0, x1, rfl, h⟩ := inv_a1 h
    obtain ⟨h1, h2⟩ := inv_if h
    refine ⟨beq_iff.1 h1, fun e => (by cases e), h2, fun y => ?_⟩
    show Bool.rec (motive := fun _ => Ans) Ans.no (y ()) (Nat.beq x0 s) = y ()
    rw [h1]
  · obtain ⟨x0, x1, rfl, h⟩ := inv_a2 h
    obtain ⟨h1, h2⟩ := inv_if h
    refine ⟨beq_iff.1 h1, fun e => (by cases e), h2, fun y => ?_⟩
    show Bool.rec (motive := fun _ => Ans) Ans.no (y ()) (Nat.beq x0 s) = y ()
    rw [h1]
  · obtain ⟨x0, x1, rfl, h⟩ := inv_a3 h
    obtain ⟨h1, h2⟩ := inv_if h
    refine ⟨beq_iff.1 h1, fun e => (by cases e), h2, fun y => ?_⟩
    show Bool.rec (motive := fun _ => Ans) Ans.no (y ()) (Nat.beq x0 s) = y ()
    rw [h1]
  · omega
theorem compK_eq {form s : Nat} {v : AV} (he : isE form s v) (j : Nat) (kk : AV → Ans) : compK form v j kk = kk (cellOf form v j) := by
  rcases form with _ | _ | _ | _ | _ | form
  · rfl
  · obtain ⟨x, rfl⟩ := isE1 he; rfl
  · obtain ⟨x, rfl⟩ := isE2 he; exact Tr.g_eq (α := AV) 1 (paK 1 j) x kk
  · obtain ⟨x, rfl⟩ := isE3 he; exact Tr.g_eq (α := AV) 2 (paK 2 j) x kk
  · obtain ⟨x, rfl⟩ := isE4 he; exact Tr.g_eq (α := AV) 3 (paK 3 j) x kk
  · exact (isE5 he).elim
/-- An element with another cell. -/
def setCell (form : Nat) (v : AV) (j : Nat) (x : AV) : AV := match form, v with
  | 0, _ => x
  | 1, .a0 s _ => .a0 s x
  | 2, .a1 s t => .a1 s (Tr.set (α := AV) 1 (paK 1 j) t x)
  | 3, .a2 s t => .a2 s (Tr.set (α := AV) 2 (paK 2 j) t x)
  | 4, .a3 s t => .a3 s (Tr.set (α := AV) 3 (paK 3 j) t x)
  | _, v => v
theorem setCompK_eq {form s : Nat} {v : AV} (he : isE form s v) (j : Nat) (x : AV) (kk : AV → Ans) : setCompK form v j x kk = kk (setCell form v j x) := by
  rcases form with _ | _ | _ | _ | _ | form
  · rfl
  · obtain ⟨y, rfl⟩ := isE1 he; rfl
  · obtain ⟨y, rfl⟩ := isE2 he; exact Tr.s_eq (α := AV) 1 (paK 1 j) y (fun _ k => k x) (fun t => kk (.a1 s t))
  · obtain ⟨y, rfl⟩ := isE3 he; exact Tr.s_eq (α := AV) 2 (paK 2 j) y (fun _ k => k x) (fun t => kk (.a2 s t))
  · obtain ⟨y, rfl⟩ := isE4 he; exact Tr.s_eq (α := AV) 3 (paK 3 j) y (fun _ k => k x) (fun t => kk (.a3 s t))
  · exact (isE5 he).elim
theorem isE_set {form s : Nat} {v : AV} (he : isE form s v) (j : Nat) (x : AV) : isE form s (setCell form v j x) := by
  rcases form with _ | _ | _ | _ | _ | form
  · exact he
  · obtain ⟨y, rfl⟩ := isE1 he; rfl
  · obtain ⟨y, rfl⟩ := isE2 he; rfl
  · obtain ⟨y, rfl⟩ := isE3 he; rfl
  · obtain ⟨y, rfl⟩ := isE4 he; rfl
  · exact (isE5 he).elim
theorem cellOf_set {form s : Nat} {v : AV} (he : isE form s v) {i j : Nat} (hi : i < top form) (hj : j < top form) (x : AV) :
    cellOf form (setCell form v j x) i = if i = j then x else cellOf form v i := by
  rcases form with _ | _ | _ | _ | _ | form
  · have hi : i < 1 := hi; have hj : j < 1 := hj; rw [if_pos (by omega)]; rfl
  · obtain ⟨y, rfl⟩ := isE1 he; have hi : i < 1 := hi; have hj : j < 1 := hj; rw [if_pos (by omega)]; rfl
  · obtain ⟨t, rfl⟩ := isE2 he; exact Tr.get_set 1 t x hi hj
  · obtain ⟨t, rfl⟩ := isE3 he; exact Tr.get_set 2 t x hi hj
  · obtain ⟨t, rfl⟩ := isE4 he; exact Tr.get_set 3 t x hi hj
  · exact (isE5 he).elim
end
end Go.Proofs.YteefpemaeecicaaGreatDoor.Ev
end
section
open Go
namespace Go.Proofs.YteefpemaeecicaaGreatDoor.Ev
set_option linter.unusedVariables false
set_option linter.unusedSimpArgs false
set_option linter.constructorNameAsVariable false
noncomputable section
/-- A row of cells, known as far as n. -/
structure CellsR [Rho] (μ : Mp) (arr : Array Value) (fr : Nat × Nat) (n es form ke : Nat) (t : Tr AV ke) (bk : Bk) : Prop where
  hsize : arr.size = bk.size
  hes : bk.es = es
  hpos : 0 < es
  hform : form ≤ 4
  htop : es ≤ top form
  hform0 : form = 0 → es = 1
  hn : n ≤ bk.size
  hnk : n ≤ es * 8 ^ ke
  hfroz : fr.1 = fr.2 ∨ bk.size ≤ fr.1
  hleaf : ∀ q, q * es < n → isE form es (Tr.get (α := AV) ke (paK ke q) t)
  hcell : ∀ i, i < n → ∃ c, arr[i]? = some c ∧ oneC c = true ∧ VR μ (cellOf form (Tr.get (α := AV) ke (paK ke (i / es)) t) (i % es)) c
theorem CellsR.froz [Rho] {μ : Mp} {arr : Array Value} {fr : Nat × Nat} {n es form ke : Nat} {t : Tr AV ke} {bk : Bk} (h : CellsR μ arr fr n es form ke t bk) (i : Nat) (a : fr.1 ≤ i) (b : i < fr.2) : bk.size ≤ i := by
  rcases h.hfroz with h | h <;> omega
/-- The stamps of a map's entries. -/
def Born (es : Array MapEntry) (clock : Nat) : Prop := (∀ x ∈ es.toList, x.born < clock) ∧ (es.toList.map (·.born)).Nodup
def BlkR [Rho] (μ : Mp) (w : World) (b : Blk) (bk : Bk) : Prop := match b with
  | .no => True
  | .mp l => ∃ es clock, w.heap[bk.blk]? = some (.map es clock) ∧ es.size = l.length ∧ (∀ (i : Nat) p e, l[i]? = some p → es[i]? = some e → VR μ p.1 e.key ∧ VR μ p.2 e.val) ∧ Born es clock
  | .cells ty op n es form ke t => ∃ arr fr, w.heap[bk.blk]? = some (.cells arr ty fr) ∧ CellsR μ arr fr n es form ke t bk
/-- What is kept: the world outside the heap, and some blocks. -/
structure Kp where
  os : Os
  tape : Nat → Question → Nat
  output : Array (Nat × ByteArray)
  F : Nat → Option Obj
  N : Nm → Prop
  lo : Nat
structure MR [Rho] (K : Kp) (μ : Mp) (h : Hp) (w : World) : Prop where
  os : w.os = K.os
  tape : w.tape = K.tape
  output : w.output = K.output
  keep : ∀ b o, K.F b = some o → w.heap[b]? = some o
  dom : ∀ nm bk, μ nm = some bk → bk.blk < w.heap.size ∧ nm.rank < h.c.rank
  live : ∀ nm, Mem.at nm h.m ≠ .no → ∃ bk, μ nm = some bk ∧ BlkR μ w (Mem.at nm h.m) bk ∧ K.F bk.blk = none
  res : ∀ nm, K.N nm → μ nm = none ∧ nm.rank < h.c.rank
  low : K.lo ≤ w.heap.size
  inp : ∀ b o, Rho.inp b = some o → b < K.lo ∧ K.F b = some o
  inj : ∀ nm nm' bk bk', Mem.at nm h.m ≠ .no → Mem.at nm' h.m ≠ .no → μ nm = some bk → μ nm' = some bk' → bk.blk = bk'.blk → nm = nm'
theorem CellsR.ext [Rho] {μ μ' : Mp} {arr : Array Value} {fr : Nat × Nat} {n es form ke : Nat} {t : Tr AV ke} {bk : Bk} (hx : Ext μ μ') (h : CellsR μ arr fr n es form ke t bk) : CellsR μ' arr fr n es form ke t bk :=
  { hsize := h.hsize, hes := h.hes, hpos := h.hpos, hform := h.hform, htop := h.htop, hform0 := h.hform0, hn := h.hn, hnk := h.hnk, hfroz := h.hfroz, hleaf := h.hleaf,
    hcell := fun i hi => let ⟨c, h1, h2, h3⟩ := h.hcell i hi; ⟨c, h1, h2, h3.ext hx⟩ }
theorem BlkR.ext [Rho] {μ μ' : Mp} {w w' : World} {b : Blk} {bk : Bk} (hx : Ext μ μ') (hw : w'.heap[bk.blk]? = w.heap[bk.blk]?) (h : BlkR μ w b bk) : BlkR μ' w' b bk := by
  cases b with
  | no => trivial
  | mp l =>
    obtain ⟨es, clock, h1, h2, h3, h6⟩ := h
    exact ⟨es, clock, hw.trans h1, h2, fun i p e hp he => let ⟨h4, h5⟩ := h3 i p e hp he; ⟨h4.ext hx, h5.ext hx⟩, h6⟩
  | cells ty op n es form ke t =>
    obtain ⟨arr, fr, h1, h2⟩ := h
    exact ⟨arr, fr, hw.trans h1, h2.ext hx⟩
section
variable {K : Kp} {μ : Mp} {h : Hp} {w : World}
theorem MR.drawn [Rho] (r : MR K μ h w) (n : Nat) : MR K μ h { w with drawn := n } :=
  { os := r.os, tape := r.tape, output := r.output, keep := r.keep, dom := r.dom, live := fun nm hn => let ⟨bk, h1, h2, h3⟩ := r.live nm hn; ⟨bk, h1, h2.ext (Ext.refl μ) rfl, h3⟩, res := r.res, low := r.low, inp := r.inp, inj := r.inj }
theorem MR.cells [Rho] (r : MR K μ h w) {nm : Nm} {ty : Nat} {op : Bool} {n es form ke : Nat} {t : Tr AV ke} (hm : Mem.at nm h.m = .cells ty op n es form ke t) {bk : Bk} (hb : μ nm = some bk) :
    ∃ arr fr, w.heap[bk.blk]? = some (.cells arr ty fr) ∧ CellsR μ arr fr n es form ke t bk := by
  obtain ⟨bk', h1, h2, _⟩ := r.live nm (by rw [hm]; exact fun e => by cases e)
  rw [hb] at h1; cases h1
  rw [hm] at h2
  exact h2
theorem MR.map [Rho] (r : MR K μ h w) {nm : Nm} {l : List (AV × AV)} (hm : Mem.at nm h.m = .mp l) {bk : Bk} (hb : μ nm = some bk) :
    ∃ es clock, w.heap[bk.blk]? = some (.map es clock) ∧ es.size = l.length ∧ (∀ (i : Nat) p e, l[i]? = some p → es[i]? = some e → VR μ p.1 e.key ∧ VR μ p.2 e.val) ∧ Born es clock := by
  obtain ⟨bk', h1, h2, _⟩ := r.live nm (by rw [hm]; exact fun e => by cases e)
  rw [hb] at h1; cases h1
  rw [hm] at h2
  exact h2
/-- A block that is known becomes another one. -/
theorem MR.upd [Rho] (r : MR K μ h w) {nm : Nm} {bk : Bk} {b : Blk} {w' : World} (hl : Mem.at nm h.m ≠ .no) (hb : μ nm = some bk) (ho : w'.os = w.os) (ht : w'.tape = w.tape) (hu : w'.output = w.output)
    (hs : w'.heap.size = w.heap.size) (hh : ∀ c, c ≠ bk.blk → w'.heap[c]? = w.heap[c]?) (hr : BlkR μ w' b bk) : MR K μ ⟨Mem.to nm h.m b, h.c⟩ w' := by
  have hlive : ∀ a, Mem.at a (Mem.to nm h.m b) ≠ .no → Mem.at a h.m ≠ .no := fun a ha => by
    rw [Mem.at_to] at ha
    by_cases e : a = nm
    · subst e; exact hl
    · rwa [if_neg e] at ha
  obtain ⟨bk0, hb0, _, hF⟩ := r.live nm hl
  rw [hb] at hb0; cases hb0
  refine { os := ho.trans r.os, tape := ht.trans r.tape, output := hu.trans r.output, keep := fun c o hc => ?_, dom := fun a bk' e => by rw [hs]; exact r.dom a bk' e, live := fun a ha => ?_, res := r.res, low := by rw [hs]; exact r.low, inp := r.inp, inj := fun a a' b1 b2 h1 h2 => r.inj a a' b1 b2 (hlive a h1) (hlive a' h2) }
  · rw [hh c (fun e => by subst e; rw [hF] at hc; cases hc)]
    exact r.keep c o hc
  · have ha' := hlive a ha
    rw [Mem.at_to]
    by_cases e : a = nm
    · subst e
      rw [if_pos rfl]
      exact ⟨bk, hb, hr, hF⟩
    · rw [if_neg e]
      obtain ⟨bk2, hb2, hr2, hF2⟩ := r.live a ha'
      exact ⟨bk2, hb2, hr2.ext (Ext.refl μ) (hh _ fun ee => e (r.inj a nm bk2 bk ha' hl hb2 hb ee)), hF2⟩
/-- A block is told no more. -/
theorem MR.kill [Rho] (r : MR K μ h w) (nm : Nm) : MR K μ ⟨Mem.to nm h.m .no, h.c⟩ w := by
  have hlive : ∀ a, Mem.at a (Mem.to nm h.m .no) ≠ .no → a ≠ nm ∧ Mem.at a h.m ≠ .no := fun a ha => by
    rw [Mem.at_to] at ha
    by_cases e : a = nm
    · rw [if_pos e] at ha; exact (ha rfl).elim
    · rw [if_neg e] at ha; exact ⟨e, ha⟩
  refine { os := r.os, tape := r.tape, output := r.output, keep := r.keep, dom := r.dom, live := fun a ha => ?_, res := r.res, low := r.low, inp := r.inp, inj := fun a a' b1 b2 h1 h2 => r.inj a a' b1 b2 (hlive a h1).2 (hlive a' h2).2 }
  obtain ⟨h1, h2⟩ := hlive a ha
  rw [Mem.at_to, if_neg h1]
  exact r.live a h2
/-- A name for a block. -/
def Mp.to (μ : Mp) (c : Nm) (bk : Bk) : Mp := fun nm => if nm = c then some bk else μ nm
theorem Mp.to_same (μ : Mp) (c : Nm) (bk : Bk) : Mp.to μ c bk c = some bk := by simp [Mp.to]
theorem Mp.to_ne (μ : Mp) {c nm : Nm} (bk : Bk) (h : nm ≠ c) : Mp.to μ c bk nm = μ nm := by simp [Mp.to, h]
theorem MR.fresh [Rho] (r : MR K μ h w) {c : Nm} (hc : h.c.rank ≤ c.rank) : μ c = none := by
  cases e : μ c with
  | none => rfl
  | some bk => have := (r.dom c bk e).2; omega
theorem Mp.to_ext {μ : Mp} {c : Nm} (bk : Bk) (h : μ c = none) : Ext μ (Mp.to μ c bk) := fun nm b e => by
  by_cases hh : nm = c
  · subst hh; rw [h] at e; cases e
  · rw [Mp.to_ne μ bk hh]; exact e
/-- A block is laid. -/
theorem MR.new [Rho] (r : MR K μ h w) {c c' : Nm} (hc : h.c.rank ≤ c.rank) (hc' : c.rank < c'.rank) (o : Obj) (b : Blk) (size es : Nat)
    (hF : ∀ x, w.heap.size ≤ x → K.F x = none)
    (hb : BlkR (Mp.to μ c ⟨w.heap.size, size, es⟩) { w with heap := w.heap.push o } b ⟨w.heap.size, size, es⟩) :
    MR K (Mp.to μ c ⟨w.heap.size, size, es⟩) ⟨Mem.to c h.m b, c'⟩ { w with heap := w.heap.push o } := by
  have hnone := r.fresh hc
  have hx := Mp.to_ext ⟨w.heap.size, size, es⟩ hnone
  have hno : Mem.at c h.m = .no := by
    by_cases e : Mem.at c h.m = .no
    · exact e
    · obtain ⟨bk, hb, _⟩ := r.live c e; rw [hnone] at hb; cases hb
  have hget : ∀ x, x < w.heap.size → (w.heap.push o)[x]? = w.heap[x]? := fun x hx => by rw [Array.getElem?_push_lt hx, Array.getElem?_eq_getElem hx]
  have hlive : ∀ a, a ≠ c → Mem.at a (Mem.to c h.m b) ≠ .no → Mem.at a h.m ≠ .no := fun a ha hh => by rwa [Mem.at_to, if_neg ha] at hh
  refine { os := r.os, tape := r.tape, output := r.output, keep := fun x o' hx => ?_, dom := fun a bk e => ?_, live := fun a ha => ?_, res := fun a ha => have h1 := r.res a ha; have h2 : a ≠ c := fun e => (by subst e; omega); ⟨(by rw [Mp.to_ne μ _ h2]; exact h1.1), (by show a.rank < c'.rank; omega)⟩, low := (by have := r.low; simp; omega), inp := r.inp, inj := fun a a' b1 b2 ha ha' e e' hbk => ?_ }
  · have hlt : x < w.heap.size := by
      rcases Nat.lt_or_ge x w.heap.size with hl | hl
      · exact hl
      · rw [hF x hl] at hx; cases hx
    show (w.heap.push o)[x]? = some o'
    rw [hget x hlt]
    exact r.keep x o' hx
  · by_cases hh : a = c
    · subst hh
      rw [Mp.to_same] at e; cases e
      exact ⟨by simp, hc'⟩
    · rw [Mp.to_ne μ _ hh] at e
      obtain ⟨h1, h2⟩ := r.dom a bk e
      exact ⟨by simp; omega, by show a.rank < c'.rank; omega⟩
  · by_cases hh : a = c
    · subst hh
      rw [Mem.at_to, if_pos rfl]
      exact ⟨_, Mp.to_same _ _ _, hb, hF _ (Nat.le_refl _)⟩
    · have ha' := hlive a hh ha
      obtain ⟨bk, h1, h2, h3⟩ := r.live a ha'
      rw [Mem.at_to, if_neg hh]
      exact ⟨bk, by rw [Mp.to_ne μ _ hh]; exact h1, h2.ext hx (hget _ (r.dom a bk h1).1), h3⟩
  · by_cases h1 : a = c
    · by_cases h2 : a' = c
      · rw [h1, h2]
      · subst h1
        rw [Mp.to_same] at e; cases e
        rw [Mp.to_ne μ _ h2] at e'
        have := (r.dom a' b2 e').1
        have hbk : w.heap.size = b2.blk := hbk
        omega
    · by_cases h2 : a' = c
      · subst h2
        rw [Mp.to_same] at e'; cases e'
        rw [Mp.to_ne μ _ h1] at e
        have := (r.dom a b1 e).1
        have hbk : b1.blk = w.heap.size := hbk
        omega
      · rw [Mp.to_ne μ _ h1] at e
        rw [Mp.to_ne μ _ h2] at e'
        exact r.inj a a' b1 b2 (hlive a h1 ha) (hlive a' h2 ha') e e' hbk
end
end
end Go.Proofs.YteefpemaeecicaaGreatDoor.Ev
end
section
open Go
namespace Go.Proofs.YteefpemaeecicaaGreatDoor.Ev
set_option linter.unusedVariables false
set_option linter.unusedSimpArgs false
set_option linter.constructorNameAsVariable false
noncomputable section
theorem oneC_eq (v : Value) : v.oneCell' = oneC v := by cases v <;> rfl
/-- Types as the reckoning sees them are the program's. -/
def ltN (j : Nat) : Nat → Nat → Bool := if j < 4 then ltS (khN j) (kmN j) else ltU
/-- A comparison of two numbers of a kind. -/
def cmpD (c j a b : Nat) : Bool := match c with | 0 => Nat.beq a b | 1 => not_ (Nat.beq a b) | 2 => ltN j a b | 3 => not_ (ltN j b a) | 4 => ltN j b a | _ => not_ (ltN j a b)
/-- What is taken holds. -/
def Holds [Rho] (l : List As) : Prop := ∀ a ∈ l, cmpD a.c a.j (den a.x % kmN a.j) (den a.y % kmN a.j) = a.b
structure TyOk [Rho] (P : Program) (T : Ty) : Prop where
  info : ∀ t i, inf T t = some i → P.info? t = some i
  holds : Holds T.tk
section
variable {P : Program} {T : Ty} {w : World}
theorem TyOk.und [Rho] (h : TyOk P T) {t : Nat} {d : TypeDesc} (e : und T t = some d) : P.underlying t = some d := by
  unfold Ev.und at e
  cases hi : inf T t with
  | none => rw [hi] at e; cases e
  | some i =>
    rw [hi] at e
    have hp := h.info t i hi
    unfold Program.underlying
    rw [hp]
    obtain ⟨desc, str, size, bytes, hasP, al, fal, zero, cmp, ms⟩ := i
    cases desc with
    | named nm u =>
      simp only at e ⊢
      cases hu : inf T u with
      | none => rw [hu] at e; cases e
      | some j => rw [hu] at e; rw [h.info u j hu]; exact e
    | _ => exact e
theorem run_und [Rho] (h : TyOk P T) {t : Nat} {d : TypeDesc} (e : und T t = some d) : (underlying t).run P w = .ok d w := run_underlying (h.und e) w
theorem run_info {t : Nat} {i : TypeInfo} (e : P.info? t = some i) : (typeInfo t).run P w = .ok i w := by simp [typeInfo, e]
theorem run_size {t : Nat} {i : TypeInfo} (e : P.info? t = some i) : (Go.sizeOf t).run P w = .ok i.size w := by simp [Go.sizeOf, run_info e]
theorem run_zero {t : Nat} {i : TypeInfo} {z : Value} (e : P.info? t = some i) (hz : i.zero = some z) : (zeroValue t).run P w = .ok z w := by simp [zeroValue, run_info e, hz]
/-- A shape that is told: so many cells; a struct or an array just if the form is none of 0. -/
theorem shp_spec [Rho] (h : TyOk P T) {t s f : Nat} (e : shp T t = some (s, f)) :
    (∃ i, P.info? t = some i ∧ i.size = s) ∧ 0 < s ∧ s ≤ top f ∧ f ≤ 4 ∧ (f = 0 → s = 1) ∧ ((Go.isAgg t).run P w = .ok (f != 0) w) ∧ ∃ d, P.underlying t = some d := by
  unfold shp at e
  cases hi : inf T t with
  | none => rw [hi] at e; cases e
  | some i =>
    cases hu : und T t with
    | none => rw [hi, hu] at e; cases e
    | some u =>
      rw [hi, hu] at e
      have hI := h.info t i hi
      have hU := h.und hu
      have hdep : ∀ n, n ≤ 512 → n ≤ top (Nat.succ (dep n)) ∧ Nat.succ (dep n) ≤ 4 := by
        intro n hn
        have e : dep n = if n ≤ 1 then 0 else if n ≤ 8 then 1 else if n ≤ 64 then 2 else if n ≤ 512 then 3 else if n ≤ 4096 then 4 else if n ≤ 32768 then 5 else 6 := by
          unfold dep
          simp only [bif_eq, ble_iff]
        rw [e]
        split
        · exact ⟨by show n ≤ 1; assumption, by omega⟩
        split
        · exact ⟨by show n ≤ 8; assumption, by omega⟩
        split
        · exact ⟨by show n ≤ 64; assumption, by omega⟩
        · exact ⟨hn, by omega⟩
      have agg : ∀ b, (match u with | .struct _ => true | .array _ _ => true | _ => false) = b → (Go.isAgg t).run P w = .ok b w := by
        intro b hb
        simp only [Go.isAgg, Sem.run_bind, run_underlying hU w, Result.andThen_ok]
        cases u <;> (subst hb; rfl)
      have big : (if 1 ≤ i.size ∧ i.size ≤ 512 then some (i.size, Nat.succ (dep i.size)) else none) = some (s, f) → (∃ i, P.info? t = some i ∧ i.size = s) ∧ 0 < s ∧ s ≤ top f ∧ f ≤ 4 ∧ (f = 0 → s = 1) ∧ (f != 0) = true := by
        intro e
        split at e
        · rename_i hs
          cases e
          exact ⟨⟨i, hI, rfl⟩, by omega, (hdep _ hs.2).1, (hdep _ hs.2).2, fun e => (by cases e), rfl⟩
        · cases e
      have small : (if i.size = 1 then some (1, 0) else none) = some (s, f) → (∃ i, P.info? t = some i ∧ i.size = s) ∧ 0 < s ∧ s ≤ top f ∧ f ≤ 4 ∧ (f = 0 → s = 1) ∧ (f != 0) = false := by
        intro e
        split at e
        · rename_i hs
          cases e
          exact ⟨⟨i, hI, hs⟩, by omega, by show 1 ≤ 1; omega, by omega, fun _ => rfl, rfl⟩
        · cases e
      cases u with
      | struct fs => obtain ⟨h1, h2, h3, h4, h5, h6⟩ := big e; exact ⟨h1, h2, h3, h4, h5, by rw [h6]; exact agg _ rfl, _, hU⟩
      | array a b => obtain ⟨h1, h2, h3, h4, h5, h6⟩ := big e; exact ⟨h1, h2, h3, h4, h5, by rw [h6]; exact agg _ rfl, _, hU⟩
      | _ => obtain ⟨h1, h2, h3, h4, h5, h6⟩ := small e; exact ⟨h1, h2, h3, h4, h5, by rw [h6]; exact agg _ rfl, _, hU⟩
/-! ### Rows of cells -/
/-- Values are written one behind the other. -/
def wrA (arr : Array Value) : Nat → List Value → Array Value
  | _, [] => arr
  | off, v :: l => wrA (arr.setIfInBounds off v) (off + 1) l
theorem wrA_size : ∀ (l : List Value) (arr : Array Value) (off : Nat), (wrA arr off l).size = arr.size
  | [], _, _ => rfl
  | v :: l, arr, off => by rw [wrA, wrA_size l]; simp
theorem wrA_get : ∀ (l : List Value) (arr : Array Value) (off i : Nat), off + l.length ≤ arr.size → (wrA arr off l)[i]? = if off ≤ i ∧ i < off + l.length then l[i - off]? else arr[i]?
  | [], arr, off, i, _ => by rw [if_neg (by intro h; simp at h; omega)]; rfl
  | v :: l, arr, off, i, h => by
    simp only [List.length_cons] at h
    rw [wrA, wrA_get l _ _ _ (by simp; omega)]
    simp only [List.length_cons]
    by_cases h1 : off + 1 ≤ i ∧ i < off + 1 + l.length
    · rw [if_pos h1, if_pos (by omega), show i - off = (i - (off + 1)) + 1 by omega, List.getElem?_cons_succ]
    · rw [if_neg h1, Array.getElem?_setIfInBounds]
      by_cases h2 : off = i
      · subst h2
        rw [if_pos rfl, if_pos (by omega), if_pos (by omega), Nat.sub_self]
        rfl
      · rw [if_neg h2, if_neg (by omega)]
/-- A row becomes another one. -/
def setR (w : World) (g : Nat) (o : Obj) : World := { w with heap := w.heap.setIfInBounds g o }
theorem heap_lt {g : Nat} {o : Obj} (h : w.heap[g]? = some o) : g < w.heap.size := by
  rcases Nat.lt_or_ge g w.heap.size with hl | hl
  · exact hl
  · rw [Array.getElem?_eq_none hl] at h; cases h
theorem setR_same {g : Nat} {o o' : Obj} (h : w.heap[g]? = some o) : (setR w g o').heap[g]? = some o' := by
  have := heap_lt h
  simp [setR, this]
theorem setR_ne {g c : Nat} {o' : Obj} (h : c ≠ g) : (setR w g o').heap[c]? = w.heap[c]? := by
  simp [setR, Array.getElem?_setIfInBounds, Ne.symm h]
theorem setR_size {g : Nat} {o' : Obj} : (setR w g o').heap.size = w.heap.size := by simp [setR]
theorem setCell_row {g off : Nat} {arr : Array Value} {ty : TypeId} {fr : Nat × Nat} (h : w.heap[g]? = some (.cells arr ty fr)) (v : Value) :
    w.setCell ⟨g, off, none⟩ v = setR w g (.cells (arr.setIfInBounds off v) ty fr) := by
  have hl := heap_lt h
  have e : w.heap.modify g (fun | .cells c elem frozen => .cells (if (none : Option Nat).isSome then c else c.setIfInBounds off v) elem frozen | o => o) = w.heap.setIfInBounds g (.cells (arr.setIfInBounds off v) ty fr) := by
    apply Array.ext_getElem?
    intro i
    rw [Array.getElem?_modify, Array.getElem?_setIfInBounds]
    by_cases hi : g = i
    · subst hi
      rw [if_pos rfl, if_pos rfl, h, if_pos hl]
      rfl
    · rw [if_neg hi, if_neg hi]
  unfold World.setCell setR
  exact congrArg (fun x => { w with heap := x }) e
theorem setR_setR {g : Nat} {o o' : Obj} : setR (setR w g o) g o' = setR w g o' := by
  unfold setR
  simp
theorem setR_id {g : Nat} {o : Obj} (h : w.heap[g]? = some o) : setR w g o = w := by
  have hl := heap_lt h
  have e : w.heap.setIfInBounds g o = w.heap := by
    apply Array.ext_getElem?
    intro i
    rw [Array.getElem?_setIfInBounds]
    by_cases hi : g = i
    · subst hi; rw [if_pos rfl, if_pos hl, h]
    · rw [if_neg hi]
  unfold setR
  rw [e]
theorem addr_add (g off n : Nat) : Addr.add ⟨g, off, none⟩ n = ⟨g, off + n, none⟩ := Addr.add_lit g off n
theorem run_storeCells {g : Nat} {ty : TypeId} {fr : Nat × Nat} (off : Nat) : ∀ (l : List Value) (w : World) (arr : Array Value) (i : Nat), w.heap[g]? = some (.cells arr ty fr) → off + i + l.length ≤ arr.size →
    (∀ v ∈ l, oneC v = true) → (∀ j, fr.1 ≤ j → j < fr.2 → arr.size ≤ j) → (storeCells ⟨g, off, none⟩ l i).run P w = .ok () (setR w g (.cells (wrA arr (off + i) l) ty fr))
  | [], w, arr, i, h, _, _, _ => by
    show Result.ok () w = _
    rw [wrA, setR_id h]
  | v :: l, w, arr, i, h, hl, h1, hf => by
    simp only [List.length_cons] at hl
    have hc : w.cell? ⟨g, off + i, none⟩ = some arr[off + i] := by
      rw [cell_of_row w g (off + i) arr ty fr h, Array.getElem?_eq_getElem]
    have hz : w.frozen? ⟨g, off + i, none⟩ = false := by
      simp only [World.frozen?, h]
      by_cases a : fr.1 ≤ off + i
      · by_cases b : off + i < fr.2
        · have := hf _ a b; omega
        · simp [b]
      · simp [a]
    have hs : (store (Addr.add ⟨g, off, none⟩ i) v).run P w = .ok () (w.setCell ⟨g, off + i, none⟩ v) := by
      rw [addr_add, run_store P w _ v _ (by rw [oneC_eq]; exact h1 v (by simp)), hc]
      simp [hz]
    have ih := run_storeCells off l (setR w g (.cells (arr.setIfInBounds (off + i) v) ty fr)) (arr.setIfInBounds (off + i) v) (i + 1) (setR_same h) (by simp; omega) (fun u hu => h1 u (by simp [hu])) (by simpa using hf)
    show (do store (Addr.add ⟨g, off, none⟩ i) v; storeCells ⟨g, off, none⟩ l (i + 1) : Sem Unit).run P w = _
    rw [Sem.run_bind, hs, Result.andThen_ok, setCell_row h, ih, setR_setR, wrA]
    rfl
end
end
end Go.Proofs.YteefpemaeecicaaGreatDoor.Ev
end
section
open Go
namespace Go.Proofs.YteefpemaeecicaaGreatDoor.Ev
set_option linter.unusedVariables false
set_option linter.unusedSimpArgs false
set_option linter.constructorNameAsVariable false
noncomputable section
theorem km_pos (k : IntKind) : 0 < km k := by cases k <;> decide
theorem kh_two (k : IntKind) : km k = 2 * kh k := by cases k <;> rfl
theorem km_pow (k : IntKind) : km k = 2 ^ k.bits := by cases k <;> rfl
theorem kh_pow (k : IntKind) : kh k = 2 ^ (k.bits - 1) := by cases k <;> rfl
theorem ksg_eq (k : IntKind) : ksg k = k.signed := by cases k <;> rfl
theorem kc_inj {j k : IntKind} (h : kc j = kc k) : j = k := by cases j <;> cases k <;> first | rfl | cases h
theorem wrap_def (k : IntKind) (z : Int) : k.wrap z = if ksg k = true ∧ (kh k : Int) ≤ z % (km k : Int) then z % (km k : Int) - (km k : Int) else z % (km k : Int) := by
  have e1 : (km k : Int) = 2 ^ k.bits := by rw [km_pow]; simp
  have e2 : (kh k : Int) = 2 ^ (k.bits - 1) := by rw [kh_pow]; simp
  unfold IntKind.wrap
  rw [e1, e2, ksg_eq]
  simp only [Bool.and_eq_true, decide_eq_true_eq, ge_iff_le]
theorem wrap_mod (k : IntKind) (z : Int) : k.wrap z % (km k : Int) = z % (km k : Int) := by
  rw [wrap_def]
  split
  · rw [Int.sub_emod, Int.emod_self, Int.sub_zero, Int.emod_emod, Int.emod_emod]
  · exact Int.emod_emod_of_dvd z ⟨1, by simp⟩
theorem wrap_congr {k : IntKind} {z z' : Int} (h : z % (km k : Int) = z' % (km k : Int)) : k.wrap z = k.wrap z' := by rw [wrap_def, wrap_def, h]
theorem wrap_nat {k : IntKind} {u : Nat} (h : u < km k) : k.wrap (u : Int) = if ksg k = true ∧ kh k ≤ u then (u : Int) - (km k : Int) else (u : Int) := by
  have e : (u : Int) % (km k : Int) = u := Int.emod_eq_of_lt (by omega) (by omega)
  rw [wrap_def, e]
  by_cases h1 : ksg k = true ∧ kh k ≤ u
  · rw [if_pos h1, if_pos ⟨h1.1, by omega⟩]
  · rw [if_neg h1, if_neg (fun h2 => h1 ⟨h2.1, by omega⟩)]
theorem wrap_low {k : IntKind} {u : Nat} (h : u < kh k) : k.wrap (u : Int) = u := by
  have := kh_two k
  rw [wrap_nat (by omega), if_neg (by omega)]
theorem wrap_inj {k : IntKind} {u v : Nat} (hu : u < km k) (hv : v < km k) (h : k.wrap (u : Int) = k.wrap (v : Int)) : u = v := by
  rw [wrap_nat hu, wrap_nat hv] at h
  split at h <;> split at h <;> omega
/-- A value by its rest. -/
theorem VR.n_mk [Rho] {μ : Mp} (k : IntKind) {u : Nat} {z : Int} (hu : u < km k) (h : (u : Int) % (km k : Int) = z % (km k : Int)) : VR μ (.n (kc k) u) (.int k (k.wrap z)) := by
  rw [← wrap_congr h]
  exact .n k u hu
theorem VR.n_inv [Rho] {μ : Mp} {j u : Nat} {v : Value} (h : VR μ (.n j u) v) : ∃ k, j = kc k ∧ u < km k ∧ v = .int k (k.wrap u) := by
  cases h with | n k u hu => exact ⟨k, rfl, hu, rfl⟩
theorem xor_zero {a b : Nat} (h : a ^^^ b = 0) : a = b := by
  apply Nat.eq_of_testBit_eq
  intro i
  have := congrArg (·.testBit i) h
  simpa using this
/-- The test that a number is of a kind, and the kinds are the ones wanted. -/
theorem kinds2 {z N j j' J : Nat} (h : Nat.ble (Nat.succ (Nat.add z (Nat.mul N (Nat.add (Nat.xor j J) (Nat.xor j' J))))) N = true) : z < N ∧ j = J ∧ j' = J := by
  have h := ble_iff.1 h
  have h : z + N * ((j ^^^ J) + (j' ^^^ J)) + 1 ≤ N := h
  have e : (j ^^^ J) + (j' ^^^ J) = 0 := by
    rcases Nat.eq_zero_or_pos ((j ^^^ J) + (j' ^^^ J)) with h0 | h0
    · exact h0
    · have := Nat.mul_le_mul_left N h0; omega
  rw [e] at h
  exact ⟨by omega, xor_zero (by omega), xor_zero (by omega)⟩
theorem kinds1 {z N j J : Nat} (h : Nat.ble (Nat.succ (Nat.add z (Nat.mul N (Nat.xor j J)))) N = true) : z < N ∧ j = J := by
  have h := ble_iff.1 h
  have h : z + N * (j ^^^ J) + 1 ≤ N := h
  have e : j ^^^ J = 0 := by
    rcases Nat.eq_zero_or_pos (j ^^^ J) with h0 | h0
    · exact h0
    · have := Nat.mul_le_mul_left N h0; omega
  rw [e] at h
  exact ⟨by omega, xor_zero e⟩
theorem kinds0 {j j' J : Nat} (h : Nat.beq (Nat.add (Nat.xor j J) (Nat.xor j' J)) 0 = true) : j = J ∧ j' = J := by
  have h : (j ^^^ J) + (j' ^^^ J) = 0 := beq_iff.1 h
  exact ⟨xor_zero (by omega), xor_zero (by omega)⟩
/-- Both values are numbers of one kind; the answer is a number of it. -/
theorem fArith_yes {F : Nat → Nat → Nat} {k : IntKind} {x y : AV} {kk : AV → Ans} (h : fArith F (kc k) (km k) x y kk = .yes) :
    ∃ a b, x = .n (kc k) a ∧ y = .n (kc k) b ∧ kk (.n (kc k) (F a b % km k)) = .yes := by
  obtain ⟨j, a, rfl, h⟩ := inv_n h
  obtain ⟨j', b, rfl, h⟩ := inv_n h
  obtain ⟨h1, h2⟩ := inv_if h
  obtain ⟨_, rfl, rfl⟩ := kinds2 h1
  exact ⟨a, b, rfl, rfl, h2⟩
theorem VR.kn_inv [Rho] {μ : Mp} {k : IntKind} {u : Nat} {v : Value} (h : VR μ (.n (kc k) u) v) : u < km k ∧ v = .int k (k.wrap u) := by
  obtain ⟨k', h1, h2, h3⟩ := h.n_inv
  cases kc_inj h1
  exact ⟨h2, h3⟩
theorem modN (a n : Nat) : ((a % n : Nat) : Int) = (a : Int) % (n : Int) := by simp
theorem add_ok (k : IntKind) (a b : Nat) : (((a + b) % km k : Nat) : Int) % (km k : Int) = (k.wrap a + k.wrap b) % (km k : Int) := by
  rw [modN, Int.emod_emod, Int.add_emod (k.wrap a), wrap_mod, wrap_mod, ← Int.add_emod]
  simp
theorem mul_ok (k : IntKind) (a b : Nat) : (((a * b) % km k : Nat) : Int) % (km k : Int) = (k.wrap a * k.wrap b) % (km k : Int) := by
  rw [modN, Int.emod_emod, Int.mul_emod (k.wrap a), wrap_mod, wrap_mod, ← Int.mul_emod]
  simp
theorem sub_ok (k : IntKind) {a b : Nat} (hb : b < km k) : (((a + (km k - b)) % km k : Nat) : Int) % (km k : Int) = (k.wrap a - k.wrap b) % (km k : Int) := by
  rw [modN, Int.emod_emod, Int.sub_emod (k.wrap a), wrap_mod, wrap_mod, ← Int.sub_emod]
  have : ((a + (km k - b) : Nat) : Int) = (a : Int) - (b : Int) + (km k : Int) := by omega
  rw [this, Int.add_emod, Int.emod_self, Int.add_zero, Int.emod_emod]
end
end Go.Proofs.YteefpemaeecicaaGreatDoor.Ev
end
section
open Go
namespace Go.Proofs.YteefpemaeecicaaGreatDoor.Ev
set_option linter.unusedVariables false
set_option linter.unusedSimpArgs false
set_option linter.constructorNameAsVariable false
noncomputable section
/-- An operation of one value; of two; of three: it gives its value in whatever world. -/
def P1 [Rho] (P : Program) (F : AV → (AV → Ans) → Ans) (f : Value → Sem Value) : Prop :=
  ∀ x kk, F x kk = .yes → ∃ v, kk v = .yes ∧ ∀ μ x', VR μ x x' → ∃ v', VR μ v v' ∧ ∀ w, (f x').run P w = .ok v' w
def P2 [Rho] (P : Program) (F : AV → AV → (AV → Ans) → Ans) (f : Value → Value → Sem Value) : Prop :=
  ∀ x y kk, F x y kk = .yes → ∃ v, kk v = .yes ∧ ∀ μ x' y', VR μ x x' → VR μ y y' → ∃ v', VR μ v v' ∧ ∀ w, (f x' y').run P w = .ok v' w
def bin2 (op : BinOp) (t : TypeId) (ox oy : Operand) (x y : Value) : Sem Value := do eqGuard op t ox oy x y; binOp op t x y
section
variable {P : Program} {t : TypeId} {ox oy : Operand}
theorem arith_ok [Rho] {op : BinOp} {k : IntKind} {F : Nat → Nat → Nat} {g : Int → Int → Int} (he : ∀ a b : Int, bin2 op t ox oy (.int k a) (.int k b) = pure (.int k (k.wrap (g a b))))
    (hF : ∀ a b : Nat, a < km k → b < km k → ((F a b % km k : Nat) : Int) % (km k : Int) = g (k.wrap a) (k.wrap b) % (km k : Int)) : P2 P (fArith F (kc k) (km k)) (bin2 op t ox oy) := by
  intro x y kk h
  obtain ⟨a, b, rfl, rfl, h2⟩ := fArith_yes h
  refine ⟨_, h2, fun μ x' y' hx hy => ?_⟩
  obtain ⟨ha, rfl⟩ := hx.kn_inv
  obtain ⟨hb, rfl⟩ := hy.kn_inv
  exact ⟨_, VR.n_mk k (Nat.mod_lt _ (km_pos k)) (hF a b ha hb), fun w => by rw [he]; rfl⟩
theorem add_p2 [Rho] (k : IntKind) : P2 P (fArith (fun a b => Nat.add a b) (kc k) (km k)) (bin2 .add t ox oy) :=
  arith_ok (g := fun a b => a + b) (fun a b => by simp [bin2, eqGuard_add, binOp, Op.intArith]) fun a b _ _ => add_ok k a b
theorem sub_p2 [Rho] (k : IntKind) : P2 P (fArith (fun a b => Nat.add a (Nat.sub (km k) b)) (kc k) (km k)) (bin2 .sub t ox oy) :=
  arith_ok (g := fun a b => a - b) (fun a b => by simp [bin2, eqGuard_sub, binOp, Op.intArith]) fun a b _ hb => sub_ok k hb
theorem mul_p2 [Rho] (k : IntKind) : P2 P (fArith (fun a b => Nat.mul a b) (kc k) (km k)) (bin2 .mul t ox oy) :=
  arith_ok (g := fun a b => a * b) (fun a b => by simp [bin2, eqGuard_mul, binOp, Op.intArith]) fun a b _ _ => mul_ok k a b
/-- A number as bits. -/
theorem bv_of (k : IntKind) {a : Nat} (ha : a < km k) : BitVec.ofInt k.bits (k.wrap a) = BitVec.ofNat k.bits a := by
  apply BitVec.eq_of_toNat_eq
  rw [BitVec.toNat_ofInt, BitVec.toNat_ofNat]
  have e : ((2 ^ k.bits : Nat) : Int) = (km k : Int) := by rw [km_pow]
  rw [e, wrap_mod, ← km_pow, Nat.mod_eq_of_lt ha]
  have : (a : Int) % (km k : Int) = a := Int.emod_eq_of_lt (by omega) (by omega)
  rw [this]; rfl
theorem bitop_ok [Rho] {op : BinOp} {k : IntKind} {F : Nat → Nat → Nat} {G : BitVec k.bits → BitVec k.bits → BitVec k.bits}
    (he : ∀ a b : Int, bin2 op t ox oy (.int k a) (.int k b) = pure (.int k (k.wrap ((G (BitVec.ofInt k.bits a) (BitVec.ofInt k.bits b)).toNat : Int))))
    (hF : ∀ a b : Nat, a < km k → b < km k → F a b % km k = (G (BitVec.ofNat k.bits a) (BitVec.ofNat k.bits b)).toNat) : P2 P (fArith F (kc k) (km k)) (bin2 op t ox oy) := by
  intro x y kk h
  obtain ⟨a, b, rfl, rfl, h2⟩ := fArith_yes h
  refine ⟨_, h2, fun μ x' y' hx hy => ?_⟩
  obtain ⟨ha, rfl⟩ := hx.kn_inv
  obtain ⟨hb, rfl⟩ := hy.kn_inv
  refine ⟨_, VR.n_mk k (Nat.mod_lt _ (km_pos k)) ?_, fun w => by rw [he, bv_of k ha, bv_of k hb]; rfl⟩
  rw [hF a b ha hb]
theorem and_p2 [Rho] (k : IntKind) : P2 P (fArith (fun a b => Nat.land a b) (kc k) (km k)) (bin2 .and t ox oy) :=
  bitop_ok (G := fun a b => a &&& b) (fun a b => by simp [bin2, eqGuard_and, binOp, Op.intBits]) fun a b ha hb => by
    rw [BitVec.toNat_and, BitVec.toNat_ofNat, BitVec.toNat_ofNat, ← km_pow, Nat.mod_eq_of_lt ha, Nat.mod_eq_of_lt hb]
    exact Nat.mod_eq_of_lt (Nat.lt_of_le_of_lt Nat.and_le_left ha)
theorem or_p2 [Rho] (k : IntKind) : P2 P (fArith (fun a b => Nat.lor a b) (kc k) (km k)) (bin2 .or t ox oy) :=
  bitop_ok (G := fun a b => a ||| b) (fun a b => by simp [bin2, eqGuard_or, binOp, Op.intBits]) fun a b ha hb => by
    rw [BitVec.toNat_or, BitVec.toNat_ofNat, BitVec.toNat_ofNat, ← km_pow, Nat.mod_eq_of_lt ha, Nat.mod_eq_of_lt hb]
    rw [km_pow] at ha hb ⊢
    exact Nat.mod_eq_of_lt (Nat.or_lt_two_pow ha hb)
theorem xor_p2 [Rho] (k : IntKind) : P2 P (fArith (fun a b => Nat.xor a b) (kc k) (km k)) (bin2 .xor t ox oy) :=
  bitop_ok (G := fun a b => a ^^^ b) (fun a b => by simp [bin2, eqGuard_xor, binOp, Op.intBits]) fun a b ha hb => by
    rw [BitVec.toNat_xor, BitVec.toNat_ofNat, BitVec.toNat_ofNat, ← km_pow, Nat.mod_eq_of_lt ha, Nat.mod_eq_of_lt hb]
    rw [km_pow] at ha hb ⊢
    exact Nat.mod_eq_of_lt (Nat.xor_lt_two_pow ha hb)
theorem com_mod (k : IntKind) {b : Nat} (hb : b < km k) : b ^^^ (km k - 1) = km k - 1 - b := by
  rw [km_pow] at hb ⊢
  have h1 : (~~~(BitVec.ofNat k.bits b)).toNat = 2 ^ k.bits - 1 - b := by rw [BitVec.toNat_not, BitVec.toNat_ofNat, Nat.mod_eq_of_lt hb]
  have h2 : (BitVec.ofNat k.bits b ^^^ BitVec.allOnes k.bits) = ~~~(BitVec.ofNat k.bits b) := by simp
  rw [← h1, ← h2, BitVec.toNat_xor, BitVec.toNat_ofNat, BitVec.toNat_allOnes, Nat.mod_eq_of_lt hb]
theorem andNot_p2 [Rho] (k : IntKind) : P2 P (fArith (fun a b => Nat.land a (Nat.xor b (Nat.sub (km k) 1))) (kc k) (km k)) (bin2 .andNot t ox oy) :=
  bitop_ok (G := fun a b => a &&& ~~~b) (fun a b => by simp [bin2, eqGuard_andNot, binOp, Op.intBits]) fun a b ha hb => by
    rw [BitVec.toNat_and, BitVec.toNat_not, BitVec.toNat_ofNat, BitVec.toNat_ofNat, ← km_pow, Nat.mod_eq_of_lt ha, Nat.mod_eq_of_lt hb]
    show (a &&& (b ^^^ (km k - 1))) % km k = _
    rw [com_mod k hb]
    exact Nat.mod_eq_of_lt (Nat.lt_of_le_of_lt Nat.and_le_left ha)
end
end
end Go.Proofs.YteefpemaeecicaaGreatDoor.Ev
end
section
open Go
namespace Go.Proofs.YteefpemaeecicaaGreatDoor.Ev
set_option linter.unusedVariables false
set_option linter.unusedSimpArgs false
set_option linter.constructorNameAsVariable false
noncomputable section
section
variable {P : Program} {t : TypeId} {ox oy : Operand}
theorem fCmp_yes {F : Nat → Nat → Bool} {k : IntKind} {x y : AV} {kk : AV → Ans} (h : fCmp F (kc k) x y kk = .yes) :
    ∃ a b, x = .n (kc k) a ∧ y = .n (kc k) b ∧ kk (.b (F a b)) = .yes := by
  obtain ⟨j, a, rfl, h⟩ := inv_n h
  obtain ⟨j', b, rfl, h⟩ := inv_n h
  obtain ⟨h1, h2⟩ := inv_if h
  obtain ⟨rfl, rfl⟩ := kinds0 h1
  exact ⟨a, b, rfl, rfl, h2⟩
theorem cmp_ok [Rho] {op : BinOp} {k : IntKind} {F : Nat → Nat → Bool} {g : Int → Int → Bool} (he : ∀ a b : Int, bin2 op t ox oy (.int k a) (.int k b) = pure (.bool (g a b)))
    (hF : ∀ a b : Nat, a < km k → b < km k → F a b = g (k.wrap a) (k.wrap b)) : P2 P (fCmp F (kc k)) (bin2 op t ox oy) := by
  intro x y kk h
  obtain ⟨a, b, rfl, rfl, h2⟩ := fCmp_yes h
  refine ⟨_, h2, fun μ x' y' hx hy => ?_⟩
  obtain ⟨ha, rfl⟩ := hx.kn_inv
  obtain ⟨hb, rfl⟩ := hy.kn_inv
  exact ⟨.bool (F a b), .b _, fun w => by rw [he, hF a b ha hb]; rfl⟩
theorem mod2 {a H : Nat} (h : a < 2 * H) : (a + H) % (2 * H) = if a < H then a + H else a - H := by
  split
  · exact Nat.mod_eq_of_lt (by omega)
  · rw [Nat.mod_eq_sub_mod (by omega), Nat.mod_eq_of_lt (by omega)]; omega
def ltOf (k : IntKind) : Nat → Nat → Bool := if ksg k then ltS (kh k) (km k) else ltU
theorem ltOf_eq (k : IntKind) {a b : Nat} (ha : a < km k) (hb : b < km k) : ltOf k a b = decide (k.wrap (a : Int) < k.wrap (b : Int)) := by
  have h2 := kh_two k
  rw [Bool.eq_iff_iff, decide_eq_true_eq, wrap_nat ha, wrap_nat hb]
  unfold ltOf
  cases hs : ksg k with
  | true =>
    simp only [if_true, true_and]
    show Nat.ble (Nat.succ ((a + kh k) % km k)) ((b + kh k) % km k) = true ↔ _
    have ma := mod2 (a := a) (H := kh k) (by omega)
    have mb := mod2 (a := b) (H := kh k) (by omega)
    rw [← h2] at ma mb
    rw [ble_iff, ma, mb]
    by_cases h3 : a < kh k <;> by_cases h4 : b < kh k
    · rw [if_pos h3, if_pos h4, if_neg (by omega), if_neg (by omega)]; omega
    · rw [if_pos h3, if_neg h4, if_neg (by omega), if_pos (by omega)]; omega
    · rw [if_neg h3, if_pos h4, if_pos (by omega), if_neg (by omega)]; omega
    · rw [if_neg h3, if_neg h4, if_pos (by omega), if_pos (by omega)]; omega
  | false =>
    simp only [Bool.false_eq_true, if_false, false_and]
    show Nat.ble (Nat.succ a) b = true ↔ _
    rw [ble_iff]; omega
theorem eq_int (k : IntKind) {a b : Nat} (ha : a < km k) (hb : b < km k) : Nat.beq a b = decide (k.wrap (a : Int) = k.wrap (b : Int)) := by
  rw [Bool.eq_iff_iff, decide_eq_true_eq, beq_iff]
  exact ⟨fun h => by rw [h], fun h => wrap_inj ha hb h⟩
theorem eql_p2 [Rho] (k : IntKind) : P2 P (fCmp (fun a b => Nat.beq a b) (kc k)) (bin2 .eql t ox oy) :=
  cmp_ok (g := fun a b => a == b) (fun a b => by simp [bin2, eqGuard_at_int, binOp_eql]) fun a b ha hb => by rw [eq_int k ha hb]; rfl
theorem neq_p2 [Rho] (k : IntKind) : P2 P (fCmp (fun a b => not_ (Nat.beq a b)) (kc k)) (bin2 .neq t ox oy) :=
  cmp_ok (g := fun a b => a != b) (fun a b => by simp [bin2, eqGuard_at_int, binOp_neq]) fun a b ha hb => by rw [not_eq, eq_int k ha hb]; rfl
theorem lss_p2 [Rho] (k : IntKind) : P2 P (fCmp (ltOf k) (kc k)) (bin2 .lss t ox oy) :=
  cmp_ok (g := fun a b => decide (a < b)) (fun a b => by simp [bin2, eqGuard_lss, binOp_lss]) fun a b ha hb => ltOf_eq k ha hb
theorem gtr_p2 [Rho] (k : IntKind) : P2 P (fCmp (fun a b => ltOf k b a) (kc k)) (bin2 .gtr t ox oy) :=
  cmp_ok (g := fun a b => decide (a > b)) (fun a b => by simp [bin2, eqGuard_gtr, binOp_gtr]) fun a b ha hb => ltOf_eq k hb ha
theorem leq_p2 [Rho] (k : IntKind) : P2 P (fCmp (fun a b => not_ (ltOf k b a)) (kc k)) (bin2 .leq t ox oy) :=
  cmp_ok (g := fun a b => decide (a ≤ b)) (fun a b => by simp [bin2, eqGuard_leq, binOp_leq]) fun a b ha hb => by
    rw [not_eq, ltOf_eq k hb ha, ← decide_not]; exact decide_eq_decide.2 (by omega)
theorem geq_p2 [Rho] (k : IntKind) : P2 P (fCmp (fun a b => not_ (ltOf k a b)) (kc k)) (bin2 .geq t ox oy) :=
  cmp_ok (g := fun a b => decide (a ≥ b)) (fun a b => by simp [bin2, eqGuard_geq, binOp_geq]) fun a b ha hb => by
    rw [not_eq, ltOf_eq k ha hb, ← decide_not]; exact decide_eq_decide.2 (by omega)
/-! ### Quotients -/
theorem fDiv_yes {F : Nat → Nat → Nat} {k : IntKind} {x y : AV} {kk : AV → Ans} (h : fDiv F (kc k) (km k) x y kk = .yes) :
    ∃ a b, x = .n (kc k) a ∧ y = .n (kc k) b ∧ b ≠ 0 ∧ kk (.n (kc k) (F a b % km k)) = .yes := by
  obtain ⟨j, a, rfl, h⟩ := inv_n h
  obtain ⟨j', b, rfl, h⟩ := inv_n h
  obtain ⟨h0, h⟩ := inv_unless h
  obtain ⟨h1, h2⟩ := inv_if h
  obtain ⟨_, rfl, rfl⟩ := kinds2 h1
  exact ⟨a, b, rfl, rfl, fun e => (by rw [beq_iff.2 e] at h0; cases h0), h2⟩
theorem absN_eq {k : IntKind} (hs : ksg k = true) {a : Nat} (ha : a < km k) : absN (kh k) (km k) a = (k.wrap (a : Int)).natAbs := by
  have h2 := kh_two k
  rw [wrap_nat ha, hs]
  show (Bool.rec (motive := fun _ => Nat) (Nat.sub (km k) a) a (Nat.ble (Nat.succ a) (kh k))) = _
  by_cases h : a < kh k
  · rw [ble_iff.2 h, if_neg (by omega)]; simp
  · have : Nat.ble (Nat.succ a) (kh k) = false := by
      cases hb : Nat.ble (Nat.succ a) (kh k) with
      | false => rfl
      | true => exact (h (ble_iff.1 hb)).elim
    rw [this, if_pos ⟨rfl, by omega⟩]
    show km k - a = _
    omega
theorem neg_iff {k : IntKind} (hs : ksg k = true) {a : Nat} (ha : a < km k) : Nat.ble (Nat.succ a) (kh k) = decide (0 ≤ k.wrap (a : Int)) := by
  have h2 := kh_two k
  rw [Bool.eq_iff_iff, ble_iff, decide_eq_true_eq, wrap_nat ha, hs]
  by_cases h : a < kh k
  · rw [if_neg (by omega)]; omega
  · rw [if_pos ⟨rfl, by omega⟩]; omega
end
end
end Go.Proofs.YteefpemaeecicaaGreatDoor.Ev
end
section
open Go
namespace Go.Proofs.YteefpemaeecicaaGreatDoor.Ev
set_option linter.unusedVariables false
set_option linter.unusedSimpArgs false
set_option linter.constructorNameAsVariable false
noncomputable section
section
variable {P : Program} {t : TypeId} {ox oy : Operand}
theorem wrap_id {k : IntKind} {z : Int} (h0 : ksg k = true → -(kh k : Int) ≤ z ∧ z < kh k) (h1 : ksg k = false → 0 ≤ z ∧ z < km k) : k.wrap z = z := by
  have h2 := kh_two k
  rw [wrap_def]
  cases hs : ksg k with
  | true =>
    obtain ⟨a, b⟩ := h0 hs
    by_cases hz : 0 ≤ z
    · rw [Int.emod_eq_of_lt hz (by omega), if_neg (by omega)]
    · have e : z % (km k : Int) = z + km k := by
        rw [← Int.add_emod_right, Int.emod_eq_of_lt (by omega) (by omega)]
      rw [e, if_pos ⟨rfl, by omega⟩]; omega
  | false =>
    obtain ⟨a, b⟩ := h1 hs
    rw [Int.emod_eq_of_lt a b, if_neg (by simp)]
theorem wrap_un {k : IntKind} (hs : ksg k = false) {a : Nat} (ha : a < km k) : k.wrap (a : Int) = a := by
  rw [wrap_nat ha, if_neg (by simp [hs])]
theorem abs_le {k : IntKind} (hs : ksg k = true) {a : Nat} (ha : a < km k) : (k.wrap (a : Int)).natAbs ≤ kh k := by
  have h2 := kh_two k
  rw [wrap_nat ha, hs]
  simp only [true_and]
  split <;> omega
theorem tdiv_abs (x y : Int) : x.tdiv y = if decide (0 ≤ x) = decide (0 ≤ y) then ((x.natAbs / y.natAbs : Nat) : Int) else -((x.natAbs / y.natAbs : Nat) : Int) := by
  rcases x with m | m <;> rcases y with n | n
  · rw [if_pos (by simp)]; rfl
  · have : decide (0 ≤ Int.negSucc n) = false := by simp
    rw [if_neg (by rw [this]; simp)]; rfl
  · have : decide (0 ≤ Int.negSucc m) = false := by simp
    rw [if_neg (by rw [this]; simp)]; rfl
  · have e1 : decide (0 ≤ Int.negSucc m) = false := by simp
    have e2 : decide (0 ≤ Int.negSucc n) = false := by simp
    rw [if_pos (by rw [e1, e2])]; rfl
theorem tmod_abs (x y : Int) : x.tmod y = if 0 ≤ x then ((x.natAbs % y.natAbs : Nat) : Int) else -((x.natAbs % y.natAbs : Nat) : Int) := by
  rcases x with m | m <;> rcases y with n | n
  · rw [if_pos (by simp)]; rfl
  · rw [if_pos (by simp)]; rfl
  · rw [if_neg (by simp)]; rfl
  · rw [if_neg (by simp)]; rfl
def quoOf (k : IntKind) : Nat → Nat → Nat := if ksg k then sQuo (kh k) (km k) else fun a b => Nat.div a b
def remOf (k : IntKind) : Nat → Nat → Nat := if ksg k then sRem (kh k) (km k) else fun a b => Nat.mod a b
theorem neg_mod {N q : Nat} (h : q ≤ N) : (((N - q : Nat) % N : Nat) : Int) % (N : Int) = -(q : Int) % (N : Int) := by
  rw [modN, Int.emod_emod]
  have : ((N - q : Nat) : Int) = -(q : Int) + N := by omega
  rw [this, Int.add_emod_right]
theorem quo_p2 [Rho] (k : IntKind) : P2 P (fDiv (quoOf k) (kc k) (km k)) (bin2 .quo t ox oy) := by
  intro x y kk h
  obtain ⟨a, b, rfl, rfl, hb0, h2⟩ := fDiv_yes h
  refine ⟨_, h2, fun μ x' y' hx hy => ?_⟩
  obtain ⟨ha, rfl⟩ := hx.kn_inv
  obtain ⟨hb, rfl⟩ := hy.kn_inv
  have hy0 : k.wrap (b : Int) ≠ 0 := fun e => hb0 (wrap_inj hb (km_pos k) (by rw [e]; exact (wrap_low (k := k) (u := 0) (by have := kh_two k; have := km_pos k; omega)).symm))
  refine ⟨_, VR.n_mk k (Nat.mod_lt _ (km_pos k)) (z := (k.wrap (a : Int)).tdiv (k.wrap (b : Int))) ?_, fun w => by simp [bin2, eqGuard_quo, binOp, Op.intDiv, hy0]⟩
  unfold quoOf
  cases hs : ksg k with
  | true =>
    rw [if_pos rfl, tdiv_abs]
    have e : sQuo (kh k) (km k) a b = if decide (0 ≤ k.wrap (a : Int)) = decide (0 ≤ k.wrap (b : Int)) then (k.wrap (a : Int)).natAbs / (k.wrap (b : Int)).natAbs else km k - (k.wrap (a : Int)).natAbs / (k.wrap (b : Int)).natAbs := by
      unfold sQuo
      rw [absN_eq hs ha, absN_eq hs hb, neg_iff hs ha, neg_iff hs hb, eqB_eq]
      by_cases hd : decide (0 ≤ k.wrap (a : Int)) = decide (0 ≤ k.wrap (b : Int))
      · rw [if_pos hd, hd]; simp; rfl
      · rw [if_neg hd]
        have : (decide (0 ≤ k.wrap (a : Int)) == decide (0 ≤ k.wrap (b : Int))) = false := by simpa using hd
        rw [this]; rfl
    rw [e]
    split
    · rw [modN, Int.emod_emod]
    · refine neg_mod ?_
      have := Nat.div_le_self (k.wrap (a : Int)).natAbs (k.wrap (b : Int)).natAbs
      have := abs_le hs ha
      have := kh_two k
      omega
  | false =>
    rw [if_neg (by simp), wrap_un hs ha, wrap_un hs hb, modN, Int.emod_emod]
    rfl
theorem rem_p2 [Rho] (k : IntKind) : P2 P (fDiv (remOf k) (kc k) (km k)) (bin2 .rem t ox oy) := by
  intro x y kk h
  obtain ⟨a, b, rfl, rfl, hb0, h2⟩ := fDiv_yes h
  refine ⟨_, h2, fun μ x' y' hx hy => ?_⟩
  obtain ⟨ha, rfl⟩ := hx.kn_inv
  obtain ⟨hb, rfl⟩ := hy.kn_inv
  have k2 := kh_two k
  have kp := km_pos k
  have hy0 : k.wrap (b : Int) ≠ 0 := fun e => hb0 (wrap_inj hb (km_pos k) (by rw [e]; exact (wrap_low (k := k) (u := 0) (by omega)).symm))
  have key : ((remOf k a b % km k : Nat) : Int) % (km k : Int) = (k.wrap (a : Int)).tmod (k.wrap (b : Int)) % (km k : Int) ∧ k.wrap ((k.wrap (a : Int)).tmod (k.wrap (b : Int))) = (k.wrap (a : Int)).tmod (k.wrap (b : Int)) := by
    unfold remOf
    have hlt : (k.wrap (a : Int)).natAbs % (k.wrap (b : Int)).natAbs < (k.wrap (b : Int)).natAbs := Nat.mod_lt _ (by omega)
    cases hs : ksg k with
    | true =>
      have hbl := abs_le hs hb
      rw [if_pos rfl, tmod_abs]
      have e : sRem (kh k) (km k) a b = if 0 ≤ k.wrap (a : Int) then (k.wrap (a : Int)).natAbs % (k.wrap (b : Int)).natAbs else km k - (k.wrap (a : Int)).natAbs % (k.wrap (b : Int)).natAbs := by
        unfold sRem
        rw [absN_eq hs ha, absN_eq hs hb, neg_iff hs ha]
        by_cases hd : 0 ≤ k.wrap (a : Int)
        · rw [if_pos hd, decide_eq_true hd]; rfl
        · rw [if_neg hd, decide_eq_false hd]; rfl
      rw [e]
      split
      · exact ⟨by rw [modN, Int.emod_emod], wrap_id (fun _ => ⟨by omega, by omega⟩) (fun e => by rw [hs] at e; cases e)⟩
      · exact ⟨neg_mod (by omega), wrap_id (fun _ => ⟨by omega, by omega⟩) (fun e => by rw [hs] at e; cases e)⟩
    | false =>
      rw [if_neg (by simp), wrap_un hs ha, wrap_un hs hb] at *
      have e : (a : Int).tmod (b : Int) = ((a % b : Nat) : Int) := rfl
      rw [e]
      exact ⟨by rw [modN, Int.emod_emod]; rfl, wrap_id (fun e => by rw [hs] at e; cases e) (fun _ => ⟨by omega, by have := Nat.mod_le a b; omega⟩)⟩
  refine ⟨_, VR.n_mk k (Nat.mod_lt _ (km_pos k)) (z := (k.wrap (a : Int)).tmod (k.wrap (b : Int))) key.1, fun w => ?_⟩
  rw [key.2]
  simp [bin2, eqGuard_rem, binOp, Op.intDiv, hy0]
/-! ### Shifts -/
theorem fShift_yes {F : Nat → Nat → Nat} {k : IntKind} {x y : AV} {kk : AV → Ans} (h : fShift F (kc k) (km k) x y kk = .yes) :
    ∃ a j b, x = .n (kc k) a ∧ y = .n j b ∧ b ≤ 100 ∧ kk (.n (kc k) (F a b % km k)) = .yes := by
  obtain ⟨j, a, rfl, h⟩ := inv_n h
  obtain ⟨j', b, rfl, h⟩ := inv_n h
  obtain ⟨h0, h⟩ := inv_if h
  obtain ⟨h1, h2⟩ := inv_if h
  obtain ⟨_, rfl⟩ := kinds1 h1
  exact ⟨a, j', b, rfl, rfl, ble_iff.1 h0, h2⟩
theorem kh_big (k : IntKind) : 100 < kh k := by cases k <;> decide
theorem shl_p2 [Rho] (k : IntKind) : P2 P (fShift (fun a b => Nat.mul a (Nat.pow 2 b)) (kc k) (km k)) (bin2 .shl t ox oy) := by
  intro x y kk h
  obtain ⟨a, j, b, rfl, rfl, hb, h2⟩ := fShift_yes h
  refine ⟨_, h2, fun μ x' y' hx hy => ?_⟩
  obtain ⟨ha, rfl⟩ := hx.kn_inv
  obtain ⟨k', rfl, hb', rfl⟩ := hy.n_inv
  have e : k'.wrap (b : Int) = b := wrap_low (by have := kh_big k'; omega)
  refine ⟨_, VR.n_mk k (Nat.mod_lt _ (km_pos k)) (z := k.wrap (a : Int) * 2 ^ min b k.bits) ?_, fun w => ?_⟩
  · show ((a * 2 ^ b % km k : Nat) : Int) % (km k : Int) = _
    rw [modN, Int.emod_emod, Int.mul_emod (k.wrap (a : Int)), wrap_mod, ← Int.mul_emod]
    rcases Nat.le_total b k.bits with hl | hl
    · rw [Nat.min_eq_left hl]; simp
    · rw [Nat.min_eq_right hl]
      have e1 : ((a * 2 ^ b : Nat) : Int) = (a : Int) * 2 ^ (b - k.bits) * (km k : Int) := by
        rw [km_pow, show b = (b - k.bits) + k.bits by omega, Nat.pow_add]
        simp [Int.mul_assoc]
      have e2 : (a : Int) * 2 ^ k.bits = (a : Int) * (km k : Int) := by rw [km_pow]; simp
      rw [e1, e2, Int.mul_emod_left, Int.mul_emod_left]
  · rw [e]
    simp [bin2, eqGuard_shl, binOp_shl, Op.shift, show ¬ ((b : Int) < 0) by omega]
end
end
end Go.Proofs.YteefpemaeecicaaGreatDoor.Ev
end
section
open Go
namespace Go.Proofs.YteefpemaeecicaaGreatDoor.Ev
set_option linter.unusedVariables false
set_option linter.unusedSimpArgs false
set_option linter.constructorNameAsVariable false
noncomputable section
section
variable {P : Program} {t : TypeId} {ox oy : Operand}
def shrOf (k : IntKind) : Nat → Nat → Nat := if ksg k then sShr (kh k) (km k) else fun a b => Nat.div a (Nat.pow 2 b)
theorem div_min {a m b : Nat} (ha : a < 2 ^ m) : a / 2 ^ min b m = a / 2 ^ b := by
  rcases Nat.le_total b m with h | h
  · rw [Nat.min_eq_left h]
  · rw [Nat.min_eq_right h, Nat.div_eq_of_lt ha, Nat.div_eq_of_lt]
    exact Nat.lt_of_lt_of_le ha (Nat.pow_le_pow_right (by decide) h)
theorem shr_p2 [Rho] (k : IntKind) : P2 P (fShift (shrOf k) (kc k) (km k)) (bin2 .shr t ox oy) := by
  intro x y kk h
  obtain ⟨a, j, b, rfl, rfl, hb, h2⟩ := fShift_yes h
  refine ⟨_, h2, fun μ x' y' hx hy => ?_⟩
  obtain ⟨ha, rfl⟩ := hx.kn_inv
  obtain ⟨k', rfl, hb', rfl⟩ := hy.n_inv
  have e : k'.wrap (b : Int) = b := wrap_low (by have := kh_big k'; omega)
  have k2 := kh_two k
  have run : ∀ w, (bin2 .shr t ox oy (.int k (k.wrap a)) (.int k' (k'.wrap b))).run P w = .ok (.int k ((k.wrap (a : Int)).fdiv (2 ^ min b k.bits))) w := fun w => by
    rw [e]
    simp [bin2, eqGuard_shr, binOp_shr, Op.shift, show ¬ ((b : Int) < 0) by omega]
  have pos : (0 : Int) < 2 ^ min b k.bits := Int.pow_pos (by decide)
  have castp : ((2 ^ min b k.bits : Nat) : Int) = 2 ^ min b k.bits := by simp
  have key : ((shrOf k a b % km k : Nat) : Int) % (km k : Int) = (k.wrap (a : Int)).fdiv (2 ^ min b k.bits) % (km k : Int) ∧ k.wrap ((k.wrap (a : Int)).fdiv (2 ^ min b k.bits)) = (k.wrap (a : Int)).fdiv (2 ^ min b k.bits) := by
    have hfd : (k.wrap (a : Int)).fdiv (2 ^ min b k.bits) = (k.wrap (a : Int)) / 2 ^ min b k.bits := Int.fdiv_eq_ediv_of_nonneg _ (Int.le_of_lt pos)
    rw [hfd]
    have low : (a : Int) / 2 ^ min b k.bits = ((a / 2 ^ b : Nat) : Int) := by
      rw [← div_min (m := k.bits) (by rw [← km_pow]; exact ha), ← castp]; rfl
    have hle : a / 2 ^ b ≤ a := Nat.div_le_self _ _
    cases hs : ksg k with
    | true =>
      have es : shrOf k = sShr (kh k) (km k) := by unfold shrOf; rw [if_pos hs]
      rw [es]
      by_cases hd : a < kh k
      · have e1 : sShr (kh k) (km k) a b = a / 2 ^ b := by
          unfold sShr; rw [ble_iff.2 hd]; rfl
        rw [e1, wrap_low hd, low]
        exact ⟨by rw [modN, Int.emod_emod], wrap_id (fun _ => ⟨by omega, by omega⟩) (fun e => by rw [hs] at e; cases e)⟩
      · have e0 : Nat.ble (Nat.succ a) (kh k) = false := by
          cases hb : Nat.ble (Nat.succ a) (kh k) with
          | false => rfl
          | true => exact (hd (ble_iff.1 hb)).elim
        have e1 : sShr (kh k) (km k) a b = km k - 1 - (km k - 1 - a) / 2 ^ b := by
          unfold sShr; rw [e0]; rfl
        have ew : k.wrap (a : Int) = Int.negSucc (km k - 1 - a) := by
          rw [wrap_nat ha, if_pos ⟨hs, by omega⟩, Int.negSucc_eq]; omega
        have hq : (km k - 1 - a) / 2 ^ b ≤ km k - 1 - a := Nat.div_le_self _ _
        have ed : (Int.negSucc (km k - 1 - a)) / (2 ^ min b k.bits : Int) = Int.negSucc ((km k - 1 - a) / 2 ^ b) := by
          rw [← div_min (m := k.bits) (a := km k - 1 - a) (by rw [← km_pow]; omega), ← castp]
          have : 0 < 2 ^ min b k.bits := Nat.pow_pos (by decide)
          obtain ⟨d, hd⟩ : ∃ d, 2 ^ min b k.bits = d + 1 := ⟨2 ^ min b k.bits - 1, by omega⟩
          rw [hd]; rfl
        rw [e1, ew, ed]
        generalize (km k - 1 - a) / 2 ^ b = q at hq ⊢
        refine ⟨?_, wrap_id (fun _ => ⟨by rw [Int.negSucc_eq]; omega, by rw [Int.negSucc_eq]; omega⟩) (fun e => by rw [hs] at e; cases e)⟩
        rw [modN, Int.emod_emod]
        have : ((km k - 1 - q : Nat) : Int) = Int.negSucc q + km k := by rw [Int.negSucc_eq]; omega
        rw [this, Int.add_emod_right]
    | false =>
      have es : shrOf k a b = a / 2 ^ b := by unfold shrOf; rw [if_neg (by simp [hs])]; rfl
      rw [es, wrap_un hs ha, low]
      exact ⟨by rw [modN, Int.emod_emod], wrap_id (fun e => by rw [hs] at e; cases e) (fun _ => ⟨by omega, by omega⟩)⟩
  refine ⟨_, VR.n_mk k (Nat.mod_lt _ (km_pos k)) (z := (k.wrap (a : Int)).fdiv (2 ^ min b k.bits)) key.1, fun w => ?_⟩
  rw [key.2]
  exact run w
/-! ### One number from another -/
theorem fNum_yes {F : Nat → Nat} {k k' : IntKind} {x : AV} {kk : AV → Ans} (h : fNum F (kc k) (kc k') (km k') x kk = .yes) :
    ∃ a, x = .n (kc k) a ∧ kk (.n (kc k') (F a % km k')) = .yes := by
  obtain ⟨j, a, rfl, h⟩ := inv_n h
  obtain ⟨h1, h2⟩ := inv_if h
  obtain ⟨_, rfl⟩ := kinds1 h1
  exact ⟨a, rfl, h2⟩
theorem neg_p1 [Rho] (k : IntKind) : P1 P (fNum (fun a => Nat.sub (km k) a) (kc k) (kc k) (km k)) (fun x => Op.unary .neg x) := by
  intro x kk h
  obtain ⟨a, rfl, h2⟩ := fNum_yes h
  refine ⟨_, h2, fun μ x' hx => ?_⟩
  obtain ⟨ha, rfl⟩ := hx.kn_inv
  refine ⟨_, VR.n_mk k (Nat.mod_lt _ (km_pos k)) (z := 0 - k.wrap (a : Int)) ?_, fun w => rfl⟩
  have := sub_ok k (a := 0) ha
  rw [Nat.zero_add] at this
  rw [show ((km k).sub a) = km k - a from rfl, this]
  rw [show k.wrap ((0 : Nat) : Int) = 0 from wrap_low (k := k) (u := 0) (by have := kh_big k; omega)]
theorem com_p1 [Rho] (k : IntKind) : P1 P (fNum (fun a => Nat.xor a (Nat.sub (km k) 1)) (kc k) (kc k) (km k)) (fun x => Op.unary .xor x) := by
  intro x kk h
  obtain ⟨a, rfl, h2⟩ := fNum_yes h
  refine ⟨_, h2, fun μ x' hx => ?_⟩
  obtain ⟨ha, rfl⟩ := hx.kn_inv
  have hones : BitVec.ofInt k.bits (if k.signed then -1 else k.max) = BitVec.allOnes k.bits := by cases k <;> decide
  refine ⟨_, VR.n_mk k (Nat.mod_lt _ (km_pos k)) (z := (((BitVec.ofInt k.bits (if k.signed then -1 else k.max)) ^^^ (BitVec.ofInt k.bits (k.wrap (a : Int)))).toNat : Int)) ?_, fun w => rfl⟩
  rw [hones, bv_of k ha, BitVec.toNat_xor, BitVec.toNat_allOnes, BitVec.toNat_ofNat, ← km_pow, Nat.mod_eq_of_lt ha]
  show (((a ^^^ (km k - 1)) % km k : Nat) : Int) % _ = _
  rw [modN, Int.emod_emod, Nat.xor_comm]
theorem conv_p1 [Rho] {src dst : TypeId} (i j : IntKind) (hs : P.underlying src = some (.int i)) (hd : P.underlying dst = some (.int j)) :
    P1 P (fNum (if ksg i && km i < km j then sExt (kh i) (km i) (km j) else fun a => a) (kc i) (kc j) (km j)) (fun x => convert src dst x) := by
  intro x kk h
  obtain ⟨a, rfl, h2⟩ := fNum_yes h
  refine ⟨_, h2, fun μ x' hx => ?_⟩
  obtain ⟨ha, rfl⟩ := hx.kn_inv
  refine ⟨_, VR.n_mk j (Nat.mod_lt _ (km_pos j)) (z := i.wrap (a : Int)) ?_, fun w => ?_⟩
  · rw [modN, Int.emod_emod]
    have dv : km j ≤ km i → (km j : Int) ∣ (km i : Int) := by cases i <;> cases j <;> (intro h; first | (exfalso; revert h; decide) | decide)
    have i2 := kh_two i
    by_cases hc : (ksg i && decide (km i < km j)) = true
    · rw [if_pos hc]
      simp only [Bool.and_eq_true, decide_eq_true_eq] at hc
      by_cases hd : a < kh i
      · have e1 : sExt (kh i) (km i) (km j) a = a := by unfold sExt; rw [ble_iff.2 hd]
        rw [e1, wrap_low hd]
      · have e0 : Nat.ble (Nat.succ a) (kh i) = false := by
          cases hb : Nat.ble (Nat.succ a) (kh i) with
          | false => rfl
          | true => exact (hd (ble_iff.1 hb)).elim
        have e1 : sExt (kh i) (km i) (km j) a = a + (km j - km i) := by unfold sExt; rw [e0]; rfl
        rw [e1, wrap_nat ha, if_pos ⟨hc.1, by omega⟩]
        have : ((a + (km j - km i) : Nat) : Int) = (a : Int) - km i + km j := by omega
        rw [this, Int.add_emod_right]
    · rw [if_neg hc]
      by_cases hu : ksg i = true ∧ kh i ≤ a
      · have hle : km j ≤ km i := by
          rcases Nat.lt_or_ge (km i) (km j) with hl | hl
          · exact (hc (by simp [hu.1, hl])).elim
          · exact hl
        rw [wrap_nat ha, if_pos hu, Int.sub_emod, Int.emod_eq_zero_of_dvd (dv hle), Int.sub_zero, Int.emod_emod]
      · rw [wrap_nat ha, if_neg hu]
  · simp [convert, run_underlying hs, run_underlying hd, Conv.intToInt]
theorem minMax_yes {F : Nat → Nat → Bool} {k : IntKind} {x y : AV} {kk : AV → Ans} (h : fMinMax F (kc k) x y kk = .yes) :
    ∃ a b, x = .n (kc k) a ∧ y = .n (kc k) b ∧ kk (.n (kc k) (if F b a = true then b else a)) = .yes := by
  obtain ⟨j, a, rfl, h⟩ := inv_n h
  obtain ⟨j', b, rfl, h⟩ := inv_n h
  obtain ⟨h1, h2⟩ := inv_if h
  obtain ⟨rfl, rfl⟩ := kinds0 h1
  refine ⟨a, b, rfl, rfl, ?_⟩
  rcases inv_bif h2 with ⟨e, h⟩ | ⟨e, h⟩
  · rw [e, if_pos rfl]; exact h
  · rw [e, if_neg (by simp)]; exact h
end
end
end Go.Proofs.YteefpemaeecicaaGreatDoor.Ev
end
section
open Go
namespace Go.Proofs.YteefpemaeecicaaGreatDoor.Ev
set_option linter.unusedVariables false
set_option linter.unusedSimpArgs false
set_option linter.constructorNameAsVariable false
noncomputable section
section
variable {P : Program} {t : TypeId} {ox oy : Operand}
theorem VR.b_inv [Rho] {μ : Mp} {x : Bool} {v : Value} (h : VR μ (.b x) v) : v = .bool x := by cases h; rfl
theorem VR.s_inv [Rho] {μ : Mp} {l : List Nat} {v : Value} (h : VR μ (.s l) v) : v = .string (bstr l) ∧ ∀ n ∈ l, n < 256 := by cases h with | s l h => exact ⟨rfl, h⟩
theorem VR.p_inv [Rho] {μ : Mp} {nm : Nm} {off : Nat} {v : Value} (h : VR μ (.p nm off) v) : ∃ bk, μ nm = some bk ∧ v = .pointer (some ⟨bk.blk, off, none⟩) := by cases h with | p nm off bk h => exact ⟨bk, h, rfl⟩
theorem VR.c_inv [Rho] {μ : Mp} {x y : Int} {v : Value} (h : VR μ (.c x y) v) : ∃ a b, Flo a x ∧ Flo b y ∧ v = .complex .f64 a b := by cases h with | c x y a b h1 h2 => exact ⟨a, b, h1, h2, rfl⟩
theorem VR.f_inv [Rho] {μ : Mp} {z : Int} {v : Value} (h : VR μ (.f z) v) : ∃ x, Flo x z ∧ v = .float .f64 x := by cases h with | f z x h1 => exact ⟨x, h1, rfl⟩
theorem VR.tu_inv [Rho] {μ : Mp} {l : List AV} {v : Value} (h : VR μ (.tu l) v) : ∃ x, v = .tuple x ∧ VRs μ l x.toList := by
  cases h with
  | tu l x h1 h2 => exact ⟨x, rfl, by simpa using h1, fun i u c hu hc => h2 i u c hu (by simpa using hc)⟩
theorem not_p1 [Rho] : P1 P fNot (fun x => Op.unary .not x) := by
  intro x kk h
  obtain ⟨a, rfl, h⟩ := inv_b h
  rcases inv_bif h with ⟨rfl, h⟩ | ⟨rfl, h⟩
  · exact ⟨_, h, fun μ x' hx => ⟨.bool false, .b _, fun w => by rw [hx.b_inv]; rfl⟩⟩
  · exact ⟨_, h, fun μ x' hx => ⟨.bool true, .b _, fun w => by rw [hx.b_inv]; rfl⟩⟩
theorem bool_p2 [Rho] {op : BinOp} {F : Bool → Bool → Bool} (he : ∀ a b w, (bin2 op t ox oy (.bool a) (.bool b)).run P w = .ok (.bool (F a b)) w) : P2 P (fBool F) (bin2 op t ox oy) := by
  intro x y kk h
  obtain ⟨a, rfl, h⟩ := inv_b h
  obtain ⟨b, rfl, h⟩ := inv_b h
  rcases inv_bif h with ⟨e, h⟩ | ⟨e, h⟩
  · exact ⟨_, h, fun μ x' y' hx hy => ⟨.bool true, .b _, fun w => by rw [hx.b_inv, hy.b_inv, he, e]⟩⟩
  · exact ⟨_, h, fun μ x' y' hx hy => ⟨.bool false, .b _, fun w => by rw [hx.b_inv, hy.b_inv, he, e]⟩⟩
theorem eqlB_p2 [Rho] (ht : P.underlying t = some .bool) : P2 P (fBool eqB) (bin2 .eql t ox oy) :=
  bool_p2 fun a b w => by rw [bin2, eqGuard_at_bool, eqB_eq]; exact run_eql_bool w t a b ht
theorem neqB_p2 [Rho] (ht : P.underlying t = some .bool) : P2 P (fBool fun a b => not_ (eqB a b)) (bin2 .neq t ox oy) :=
  bool_p2 fun a b w => by rw [bin2, eqGuard_at_bool, eqB_eq, not_eq]; exact run_neq_bool w t a b ht
/-! ### Strings -/
theorem eqL_eq : ∀ (l m : List Nat), eqL l m = decide (l = m)
  | [], [] => rfl
  | [], b :: m => rfl
  | a :: l, [] => rfl
  | a :: l, b :: m => by
    show Bool.rec (motive := fun _ => Bool) false (eqL l m) (Nat.beq a b) = _
    rw [eqL_eq l m]
    cases h : Nat.beq a b with
    | true => have e := beq_iff.1 h; subst e; simp
    | false =>
      have e : a ≠ b := fun e => by rw [beq_iff.2 e] at h; cases h
      simp [e]
theorem bstr_list (l : List Nat) : (bstr l).toList = l.map UInt8.ofNat := by
  unfold bstr
  rw [ByteArray.toList_eq]
theorem u8_inj {a b : Nat} (ha : a < 256) (hb : b < 256) (h : UInt8.ofNat a = UInt8.ofNat b) : a = b := by
  have := congrArg UInt8.toNat h
  simpa [UInt8.toNat_ofNat, Nat.mod_eq_of_lt ha, Nat.mod_eq_of_lt hb] using this
theorem map_inj : ∀ {l m : List Nat}, (∀ n ∈ l, n < 256) → (∀ n ∈ m, n < 256) → l.map UInt8.ofNat = m.map UInt8.ofNat → l = m
  | [], [], _, _, _ => rfl
  | [], b :: m, _, _, h => by cases h
  | a :: l, [], _, _, h => by cases h
  | a :: l, b :: m, hl, hm, h => by
    simp only [List.map_cons, List.cons.injEq] at h
    rw [u8_inj (hl a (by simp)) (hm b (by simp)) h.1, map_inj (fun n hn => hl n (by simp [hn])) (fun n hn => hm n (by simp [hn])) h.2]
theorem eqS (l m : List Nat) (hl : ∀ n ∈ l, n < 256) (hm : ∀ n ∈ m, n < 256) : ((bstr l).toList == (bstr m).toList) = eqL l m := by
  rw [eqL_eq, bstr_list, bstr_list, Bool.eq_iff_iff, beq_iff_eq, decide_eq_true_eq]
  exact ⟨map_inj hl hm, fun h => by rw [h]⟩
theorem ltS_eq : ∀ (l m : List Nat), (∀ n ∈ l, n < 256) → (∀ n ∈ m, n < 256) → Op.bytesLess (l.map UInt8.ofNat) (m.map UInt8.ofNat) = ltL l m
  | [], [], _, _ => rfl
  | [], b :: m, _, _ => rfl
  | a :: l, [], _, _ => rfl
  | a :: l, b :: m, hl, hm => by
    have ha := hl a (by simp)
    have hb := hm b (by simp)
    have ih := ltS_eq l m (fun n hn => hl n (by simp [hn])) (fun n hn => hm n (by simp [hn]))
    have e1 : (UInt8.ofNat a < UInt8.ofNat b) ↔ a < b := by
      rw [UInt8.lt_iff_toNat_lt, UInt8.toNat_ofNat', UInt8.toNat_ofNat', Nat.mod_eq_of_lt ha, Nat.mod_eq_of_lt hb]
    have e2 : (UInt8.ofNat a = UInt8.ofNat b) ↔ a = b := ⟨u8_inj ha hb, fun h => by rw [h]⟩
    show Op.bytesLess (UInt8.ofNat a :: l.map UInt8.ofNat) (UInt8.ofNat b :: m.map UInt8.ofNat) = Bool.rec (motive := fun _ => Bool) (Bool.rec (motive := fun _ => Bool) false (ltL l m) (Nat.beq a b)) true (Nat.ble (Nat.succ a) b)
    rw [Op.bytesLess, ih]
    by_cases h1 : a < b
    · rw [ble_iff.2 h1]; simp [e1.2 h1]
    · have : Nat.ble (Nat.succ a) b = false := by
        cases hh : Nat.ble (Nat.succ a) b with
        | false => rfl
        | true => exact (h1 (ble_iff.1 hh)).elim
      rw [this]
      have n1 : ¬ UInt8.ofNat a < UInt8.ofNat b := fun h => h1 (e1.1 h)
      by_cases h2 : a = b
      · subst h2; rw [Nat.beq_refl]; simp
      · have : Nat.beq a b = false := by
          cases hh : Nat.beq a b with
          | false => rfl
          | true => exact (h2 (beq_iff.1 hh)).elim
        rw [this]
        have n2 : ¬ UInt8.ofNat a = UInt8.ofNat b := fun h => h2 (e2.1 h)
        simp [n1, n2]
theorem str_p2 [Rho] {op : BinOp} {F : List Nat → List Nat → Bool} (he : ∀ a b : List Nat, (∀ n ∈ a, n < 256) → (∀ n ∈ b, n < 256) → ∀ w, (bin2 op t ox oy (.string (bstr a)) (.string (bstr b))).run P w = .ok (.bool (F a b)) w) : P2 P (fStr F) (bin2 op t ox oy) := by
  intro x y kk h
  obtain ⟨a, rfl, h⟩ := inv_s h
  obtain ⟨b, rfl, h⟩ := inv_s h
  rcases inv_bif h with ⟨e, h⟩ | ⟨e, h⟩
  · refine ⟨_, h, fun μ x' y' hx hy => ?_⟩
    obtain ⟨rfl, ha⟩ := hx.s_inv
    obtain ⟨rfl, hb⟩ := hy.s_inv
    exact ⟨.bool true, .b _, fun w => by rw [he a b ha hb, e]⟩
  · refine ⟨_, h, fun μ x' y' hx hy => ?_⟩
    obtain ⟨rfl, ha⟩ := hx.s_inv
    obtain ⟨rfl, hb⟩ := hy.s_inv
    exact ⟨.bool false, .b _, fun w => by rw [he a b ha hb, e]⟩
theorem lessS (l m : List Nat) (hl : ∀ n ∈ l, n < 256) (hm : ∀ n ∈ m, n < 256) : Op.bytesLess (bstr l).toList (bstr m).toList = ltL l m := by
  rw [bstr_list, bstr_list, ltS_eq l m hl hm]
theorem or_or (a b : Bool) : or_ a b = (a || b) := by cases a <;> cases b <;> rfl
theorem eqlS_p2 [Rho] : P2 P (fStr eqL) (bin2 .eql t ox oy) :=
  str_p2 fun a b ha hb w => by simp [bin2, eqGuard_at_string, binOp, Op.stringOp, eqS a b ha hb]
theorem neqS_p2 [Rho] : P2 P (fStr fun a b => not_ (eqL a b)) (bin2 .neq t ox oy) :=
  str_p2 fun a b ha hb w => by simp [bin2, eqGuard_at_string, binOp, Op.stringOp, eqS a b ha hb, not_eq]
theorem lssS_p2 [Rho] : P2 P (fStr ltL) (bin2 .lss t ox oy) :=
  str_p2 fun a b ha hb w => by simp [bin2, eqGuard_at_string, binOp, Op.stringOp, lessS a b ha hb]
theorem leqS_p2 [Rho] : P2 P (fStr fun a b => or_ (ltL a b) (eqL a b)) (bin2 .leq t ox oy) :=
  str_p2 fun a b ha hb w => by simp [bin2, eqGuard_at_string, binOp, Op.stringOp, lessS a b ha hb, eqS a b ha hb, or_or]
theorem gtrS_p2 [Rho] : P2 P (fStr fun a b => not_ (or_ (ltL a b) (eqL a b))) (bin2 .gtr t ox oy) :=
  str_p2 fun a b ha hb w => by simp [bin2, eqGuard_at_string, binOp, Op.stringOp, lessS a b ha hb, eqS a b ha hb, or_or, not_eq]
theorem geqS_p2 [Rho] : P2 P (fStr fun a b => not_ (ltL a b)) (bin2 .geq t ox oy) :=
  str_p2 fun a b ha hb w => by simp [bin2, eqGuard_at_string, binOp, Op.stringOp, lessS a b ha hb, not_eq]
theorem bstr_app (a b : List Nat) : bstr a ++ bstr b = bstr (a ++ b) := by
  have : (bstr a ++ bstr b).data = (bstr (a ++ b)).data := by simp [bstr]
  exact ByteArray.ext this
theorem bstr_size (a : List Nat) : (bstr a).size = a.length := by simp [bstr, ByteArray.size]
theorem cat_p2 [Rho] : P2 P fCat (bin2 .add t ox oy) := by
  intro x y kk h
  obtain ⟨a, rfl, h'⟩ := inv_s h
  obtain ⟨b, rfl, h'⟩ := inv_s h'
  clear h
  rename_i h3 
  have h3 : (lenK a fun i => lenK b fun j => Bool.rec (motive := fun _ => Ans) Ans.no (kk (AV.s (lapp a b))) ((i.add j).ble 1000000)) = Ans.yes := by first | exact h' | exact h3
  rw [lenK_eq, lenK_eq] at h3
  obtain ⟨h1, h2⟩ := inv_if h3
  have h1 : a.length + b.length ≤ 1000000 := ble_iff.1 h1
  rw [lapp_eq] at h2
  refine ⟨_, h2, fun μ x' y' hx hy => ?_⟩
  obtain ⟨rfl, ha⟩ := hx.s_inv
  obtain ⟨rfl, hb⟩ := hy.s_inv
  refine ⟨.string (bstr (a ++ b)), .s _ (fun n hn => ?_), fun w => ?_⟩
  · rcases List.mem_append.1 hn with hn | hn
    · exact ha n hn
    · exact hb n hn
  · rw [← bstr_app]
    have : ¬ ((((bstr a).size + (bstr b).size : Nat) : Int) > IntKind.i64.max) := by
      rw [bstr_size, bstr_size, IntKind.max_i64]; omega
    simp only [bin2, eqGuard_at_string, binOp, Op.stringOp, if_neg this]
    rfl
end
end
end Go.Proofs.YteefpemaeecicaaGreatDoor.Ev
end
