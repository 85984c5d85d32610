/- Words for rows of one-cell values in memory: 'RdV w B a vs': the slice that begins at address a reads as the list vs, all of it below block B; 'OwnV w base E v vs': the slice value v is the call's own row of the values vs; how appends and cuts carry them. No program here. -/
import Derived.WalkKit
import Derived.Test.YtgkmcbpcbannfaaWords
import Derived.Lib.Hide
import Derived.Laws.OwnMore
import Derived.Maps.AppendAt
import Derived.OpenShut
import Derived.Deep.QuietTactic
namespace Go.Proofs.Ytgkmcbpcbannfaa
open Go.RowKit

def One1 (vs : List Value) : Prop := ∀ u ∈ vs, u.oneCell' = true
theorem one1_nil : One1 [] := fun u hu => by cases hu
theorem one1_append {l m : List Value} (h : One1 l) (k : One1 m) : One1 (l ++ m) := fun b hb => (List.mem_append.1 hb).elim (h b) (k b)
theorem one1_take {l : List Value} (h : One1 l) (n : Nat) : One1 (l.take n) := fun b hb => h b (List.mem_of_mem_take hb)
theorem one1_drop {l : List Value} (h : One1 l) (n : Nat) : One1 (l.drop n) := fun b hb => h b (List.mem_of_mem_drop hb)

def RdV (w : World) (B : Nat) (a : Option Addr) (l : List Value) : Prop :=
  One1 l ∧ (l = [] ∨ ∃ b off, a = some ⟨b, off, none⟩ ∧ b < B ∧ ∀ i, i < l.length → w.cell? ⟨b, off + i, none⟩ = l[i]?)

section
variable {w w' : World} {B B' : Nat} {a : Option Addr} {l m : List Value}
theorem RdV.nil (w : World) (B : Nat) (a : Option Addr) : RdV w B a [] := ⟨one1_nil, .inl rfl⟩
theorem RdV.keep (h : RdV w B a l) (hk : ∀ p : Addr, p.block < B → w'.cell? p = w.cell? p) : RdV w' B a l :=
  ⟨h.1, h.2.imp id fun ⟨b, off, e, hb, hc⟩ => ⟨b, off, e, hb, fun i hi => (hk ⟨b, off + i, none⟩ hb).trans (hc i hi)⟩⟩
theorem RdV.more (h : RdV w B a l) (hB : B ≤ B') : RdV w B' a l :=
  ⟨h.1, h.2.imp id fun ⟨b, off, e, hb, hc⟩ => ⟨b, off, e, by omega, hc⟩⟩
theorem RdV.below (h : RdV w B a l) (hb : Below B w w') : RdV w' B a l := h.keep fun _ hp => hb.cell hp
theorem RdV.alloc (h : RdV w B a l) (hB : B ≤ w.heap.size) (o : Obj) : RdV (w.alloc o) B a l := h.keep fun p hp => World.cell?_alloc_lt w o p (by omega)
theorem RdV.drewN (h : RdV w B a l) (n : Nat) : RdV (w.drewN n) B a l := h
theorem RdV.take (h : RdV w B a l) (n : Nat) : RdV w B a (l.take n) := by
  refine ⟨one1_take h.1 n, ?_⟩
  rcases h.2 with h0 | ⟨b, off, e, hb, hc⟩
  · exact .inl (by rw [h0]; simp)
  · refine .inr ⟨b, off, e, hb, fun i hi => ?_⟩
    have h1 : i < l.length := by simp at hi; omega
    have h2 : i < n := by simp at hi; omega
    rw [hc i h1]
    simp [h2]
theorem RdV.drop {b off : Nat} (h : RdV w B (some ⟨b, off, none⟩) l) (n : Nat) : RdV w B (some ⟨b, off + n, none⟩) (l.drop n) := by
  refine ⟨one1_drop h.1 n, ?_⟩
  rcases h.2 with h0 | ⟨b', off', e, hb, hc⟩
  · exact .inl (by rw [h0]; simp)
  · injection e with e
    injection e with e1 e2
    subst e1 e2
    refine .inr ⟨_, _, rfl, hb, fun i hi => ?_⟩
    have h1 : n + i < l.length := by simp at hi; omega
    have := hc (n + i) h1
    rw [← Nat.add_assoc] at this
    rw [this]
    simp
theorem RdV.lit (w : World) (l : List Value) (h : One1 l) (C : Array Value) (hC : C = l.toArray) (T : TypeId) (fr : Nat × Nat) : RdV (w.alloc (.cells C T fr)) (w.heap.size + 1) (some ⟨w.heap.size, 0, none⟩) l := by
  refine ⟨h, .inr ⟨_, _, rfl, by omega, fun i hi => ?_⟩⟩
  rw [Nat.zero_add, World.cell?_alloc_mark, hC, List.getElem?_toArray]
/-- The cell at a place of a row that is not empty. -/
theorem RdV.at (h : RdV w B a l) {i : Nat} (hi : i < l.length) : ∃ b off, a = some ⟨b, off, none⟩ ∧ b < B ∧ w.cell? ⟨b, off + i, none⟩ = l[i]? := by
  rcases h.2 with h0 | ⟨b, off, e, hb, hc⟩
  · subst h0; simp at hi
  · exact ⟨b, off, e, hb, hc i hi⟩
theorem RdV.form (h : RdV w B a l) (h0 : 0 < l.length) : ∃ b off, a = some ⟨b, off, none⟩ ∧ b < B := by
  obtain ⟨b, off, e, hb, _⟩ := h.at h0
  exact ⟨b, off, e, hb⟩
theorem RdV.get {b off : Nat} (h : RdV w B (some ⟨b, off, none⟩) l) {i : Nat} (hi : i < l.length) : w.cell? ⟨b, off + i, none⟩ = l[i]? := by
  obtain ⟨b', off', e, _, hc⟩ := h.at hi
  injection e with e
  injection e with e1 e2
  subst e1 e2
  exact hc
end

/-- The call's own row of one-cell values. -/
def OwnV (w : World) (base E : Nat) (v : Value) (l : List Value) : Prop := w.ownsRow base E 1 v l.length l ∧ One1 l

section
variable {w w' : World} {base E : Nat} {v : Value} {l m : List Value}
theorem OwnV.nil (w : World) (base E : Nat) : OwnV w base E (.slice none 0 0) [] := ⟨World.ownsRow_nil w base E 1, one1_nil⟩
theorem OwnV.form (h : OwnV w base E v l) : ∃ a c, v = .slice a l.length c ∧ l.length ≤ c ∧ c ≤ maxLen ∧ RdV w w.heap.size a l ∧ (∀ b off s, a = some ⟨b, off, s⟩ → base ≤ b ∧ b < w.heap.size ∧ off = 0 ∧ s = none) := by
  have hx := h.1
  rcases hx.2 with ⟨rfl, h0⟩ | ⟨g, cap, cur, rfl, hbg, hh, hnc, hcm, hcs, ht⟩
  · have : l = [] := by simpa using h0
    subst this
    exact ⟨none, 0, rfl, Nat.zero_le _, by simp [maxLen], RdV.nil _ _ _, fun b off s e => by cases e⟩
  · have hlt := (hx.lt (k := g) (by rfl)).2
    refine ⟨_, cap, rfl, hnc, hcm, ⟨h.2, ?_⟩, fun b off s e => ?_⟩
    · by_cases h0 : l = []
      · exact .inl h0
      · refine .inr ⟨g, 0, rfl, hlt, fun i hi => ?_⟩
        have := hx.cellAt i (by omega)
        rw [Nat.zero_add, this]
    · injection e with e
      injection e with e1 e2 e3
      subst e1 e2 e3
      exact ⟨hbg, hlt, rfl, rfl⟩
theorem OwnV.keep (h : OwnV w base E v l) {row : Option Nat} (hg : w.grownBy w' row) (hne : v.ownBlock = none ∨ v.ownBlock ≠ row) : OwnV w' base E v l := ⟨h.1.kept hg hne, h.2⟩
theorem OwnV.below {B : Nat} (h : OwnV w base E v l) (hb : Below B w w') (hB : ∀ k, v.ownBlock = some k → k < B) : OwnV w' base E v l := by
  refine ⟨?_, h.2⟩
  have hx := h.1
  refine ⟨hx.1, ?_⟩
  rcases hx.2 with ⟨rfl, h0⟩ | ⟨g, cap, cur, rfl, hbg, hh, rest⟩
  · exact .inl ⟨rfl, h0⟩
  · exact .inr ⟨g, cap, cur, rfl, hbg, (hb.block g (hB g rfl)).trans hh, rest⟩
theorem OwnV.below' (h : OwnV w base E v l) (hb : Below w.heap.size w w') : OwnV w' base E v l := h.below hb fun k hk => (h.1.lt k hk).2
theorem OwnV.alloc (h : OwnV w base E v l) (o : Obj) : OwnV (w.alloc o) base E v l := ⟨h.1.alloc o, h.2⟩
theorem OwnV.drewN (h : OwnV w base E v l) (k : Nat) : OwnV (w.drewN k) base E v l := h
theorem OwnV.lit (w : World) (l : List Value) (h : One1 l) (hl : l.length ≤ maxLen) : OwnV (w.alloc (.cells l.toArray E)) w.heap.size E (.slice (some ⟨w.heap.size, 0, none⟩) l.length l.length) l := by
  have h1 := World.ownsRow_lit (base := w.heap.size) (e := E) (size := 1) w l.toArray l.length (Nat.le_refl _) hl (by simp)
  exact ⟨by simpa using h1, h⟩
end
theorem hidr {α : Type} (x : α) : Hid (x = x) := rfl

section
variable {P : Program} (w : World)

/-- append onto an own row of one-cell values, of whatever source. -/
theorem run_appV (base : Nat) (t ty E : TypeId) (i : TypeInfo) (z : Value) (by_ : Nat) (ht : P.underlying t = some (.slice E)) (hi : P.info? E = some i) (hz : i.zero = some z) (hzs : z.cells.size = 1) (hs : i.size = 1) (hby : i.bytes = by_)
    (v : Value) (l : List Value) (hown : OwnV w base E v l) (B : Nat) (A : Option Addr) (m : List Value) (c : Nat) (hr : RdV w B A m)
    (hlen : l.length + m.length ≤ maxLen) (hbytes : (l.length + m.length) * by_ ≤ 140737488355328) (hbase : base ≤ w.heap.size) :
    ∃ v' w', (Builtin.append_ #[t, t] ty #[v, .slice A m.length c]).run P w = .ok v' w' ∧ OwnV w' base E v' (l ++ m) ∧ w.grownBy w' v.ownBlock ∧ (v'.ownBlock = v.ownBlock ∨ v'.ownBlock = some w.heap.size) := by
  have hb := one1_append hown.2 hr.1
  rcases A with _ | ad
  · have hm : m = [] := by
      rcases hr.2 with h0 | ⟨_, _, e, _⟩
      · exact h0
      · cases e
    subst hm
    refine ⟨v, w, ?_, by simpa using hown, World.grownBy.refl w _, .inl rfl⟩
    rcases hown.1.2 with ⟨rfl, _⟩ | ⟨g, cap, cur, rfl, _, _, hnc, _⟩
    · simp [Builtin.append_, run_underlying ht, sizeOf, typeInfo, hi, Builtin.lenOf, Builtin.firstCells]
    · simp [Builtin.append_, run_underlying ht, sizeOf, typeInfo, hi, Builtin.lenOf, Builtin.firstCells, hnc, storeCells]
  · have hcells : ∀ j u, m[j]? = some u → w.cell? (ad.add j) = some u := by
      intro j u hu
      have hj : j < m.length := by
        rcases Nat.lt_or_ge j m.length with h1 | h1
        · exact h1
        · rw [List.getElem?_eq_none h1] at hu; cases hu
      rcases hr.2 with h0 | ⟨b, off, e, _, hc⟩
      · subst h0; simp at hj
      · injection e with e
        subst e
        have h1 := hc j hj
        rw [← hu, ← h1]
        by_cases h0 : j = 0 <;> simp [Addr.add, h0]
    obtain ⟨v', w', hrun, h2, h3, _, h5⟩ := run_append_own_at (P := P) w base t ty E i _ 1 by_ ht hi hz hs hby hzs (by omega) v l.length l hown.1 ad m.length c m (by simp) hcells hr.1 hlen hbytes hbase
    exact ⟨v', w', hrun, ⟨by rw [List.length_append]; exact h2, hb⟩, h3, h5⟩

theorem wpList_appV {ops : Array Oper} {rest : List Oper} {o : Oper} {a : Act} {Q : Exit → Act → World → Prop} (hgd : o.guard = none) (s x : Operand) (t : TypeId)
    (ho : o.op = .call { callee := .builtin .append, args := #[s, x], argTypes := #[t, t] })
    (base : Nat) (E : TypeId) (i : TypeInfo) (z : Value) (by_ : Nat) (ht : P.underlying t = some (.slice E)) (hi : P.info? E = some i) (hz : i.zero = some z) (hzs : z.cells.size = 1) (hs : i.size = 1) (hby : i.bytes = by_)
    (v : Value) (l : List Value) (hsv : a.eval s = v) (hown : OwnV w base E v l) (B : Nat) (A : Option Addr) (m : List Value) (n c : Nat) (hn : n = m.length) (hx : a.eval x = .slice A n c) (hr : RdV w B A m)
    (r : List Value) (hlm : l ++ m = r) (hlen : r.length ≤ maxLen) (hbytes : r.length * by_ ≤ 140737488355328) (hbase : base ≤ w.heap.size)
    (h : ∀ v' w', OwnV w' base E v' r → Below base w w' → w.grownBy w' v.ownBlock → (v'.ownBlock = v.ownBlock ∨ v'.ownBlock = some w.heap.size) → wpList P ops Q rest (a.put o.dst v') w') : wpList P ops Q (o :: rest) a w :=
  wpList_plain hgd fun K hK => by
    subst hn
    subst hlm
    rw [List.length_append] at hbytes hlen
    obtain ⟨v', w', hrun, h2, h3, h4⟩ := run_appV (P := P) w base t o.type E i z by_ ht hi hz hzs hs hby v l hown B A m c hr hlen hbytes hbase
    unfold Oper.wp execOp
    simp only [ho, resolve, invoke, builtin, Sem.run_bind, Sem.run_pure, Result.andThen_ok, List.map_toArray, List.map_cons, List.map_nil, hsv, hx, hrun]
    exact hK _ _ (h v' w' h2 ((Below.refl _ _).grown h3 hbase fun k hk => (hown.1.lt k hk).1) h3 h4)
end

/-- .. its elements as a list. -/
theorem isrow_list {k : IntKind} {w : World} {a : Option Addr} {len cap : Nat} {zs : List Int} (h : IsRow k w a len cap zs) :
    ∃ l : List Int, len = l.length ∧ l.length ≤ cap ∧ cap ≤ 9223372036854775807 ∧ (∀ n ∈ l, (Lit.int k n).wf = true) ∧ RdV w w.heap.size a (l.map (Value.int k)) := by
  rcases h with ⟨rfl, rfl, rfl, rfl⟩ | ⟨x, rfl, hl, hm, hz, hc, hw⟩
  · exact ⟨[], rfl, by simp, by omega, (fun n hn => by cases hn), RdV.nil _ _ _⟩
  · refine ⟨zs.take len, by simp; omega, by simp; omega, by simpa [maxLen] using hm, fun n hn => hw n (List.mem_of_mem_take hn), ?_, ?_⟩
    · intro b hb'
      simp only [List.mem_map] at hb'
      obtain ⟨n, hn, rfl⟩ := hb'
      rfl
    · by_cases h0 : len = 0
      · exact .inl (by simp [h0])
      · have h00 := hc 0 (by omega)
        obtain ⟨b, off, spot⟩ := x
        have hspot : spot = none := by simpa [Addr.add] using World.cell?_spot h00
        subst hspot
        refine .inr ⟨b, off, rfl, by simpa [Addr.add] using lt_of_cell h00, fun i hi => ?_⟩
        have hi' : i < len := by simp at hi; omega
        have hiz : i < zs.length := by omega
        have h1 := hc i hiz
        have e : ((zs.take len).map (Value.int k))[i]? = some (.int k (zs.getD i 0)) := by
          simp [hi', List.getElem?_eq_getElem hiz]
        rw [e, ← h1]
        by_cases hi0 : i = 0 <;> simp [Addr.add, hi0]

end Go.Proofs.Ytgkmcbpcbannfaa
