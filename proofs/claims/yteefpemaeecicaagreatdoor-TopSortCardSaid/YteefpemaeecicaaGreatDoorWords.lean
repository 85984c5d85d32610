/- Words for bytes in memory: 'Rd w B a l': the slice that begins at address a reads as the list l of bytes (numbers below 256), all of it below block B; 'Own w base E v l': the slice value v is the call's own row of the bytes l; how appends and cuts carry them. -/
import Derived.WalkKit
import Derived.Lib.Hide
import Derived.Lib.SlBytesConst
import Derived.Laws.OwnMore
import Derived.Laws.BytesArg
import Derived.Maps.AppendAt
import Derived.OpenShut
import Derived.Deep.QuietTactic
import Derived.Test.YteefpemaeecicaaGreatDoorCrcMath
namespace Go.Proofs.YteefpemaeecicaaGreatDoor
open Go.RowKit Crc

theorem bytes_take {l : List Nat} (h : Bytes l) (n : Nat) : Bytes (l.take n) := fun b hb => h b (List.mem_of_mem_take hb)
theorem bytes_drop {l : List Nat} (h : Bytes l) (n : Nat) : Bytes (l.drop n) := fun b hb => h b (List.mem_of_mem_drop hb)
theorem bytes_append {l m : List Nat} (h : Bytes l) (k : Bytes m) : Bytes (l ++ m) := fun b hb => (List.mem_append.1 hb).elim (h b) (k b)
theorem bytes_nil : Bytes [] := fun b hb => by cases hb
theorem bytes_getD {l : List Nat} (h : Bytes l) (i : Nat) : l.getD i 0 < 256 := by
  rw [List.getD_eq_getElem?_getD]
  by_cases hi : i < l.length
  · rw [List.getElem?_eq_getElem hi]; exact h _ (List.getElem_mem hi)
  · rw [List.getElem?_eq_none (by omega)]; decide
theorem bytes_set {l : List Nat} (h : Bytes l) (i x : Nat) (hx : x < 256) : Bytes (l.set i x) := by
  intro b hb
  rcases List.mem_or_eq_of_mem_set hb with h1 | h1
  · exact h b h1
  · rw [h1]; exact hx

theorem bytes_zip {a b : List Nat} (ha : Bytes a) (hb : Bytes b) : Bytes (List.zipWith (· ^^^ ·) a b) := by
  intro x hx
  obtain ⟨i, hi, rfl⟩ := List.getElem_of_mem hx
  rw [List.getElem_zipWith]
  exact Nat.xor_lt_two_pow (n := 8) (ha _ (List.getElem_mem _)) (hb _ (List.getElem_mem _))

/-- The cells of bytes. -/
def vals (l : List Nat) : List Value := l.map fun (n : Nat) => Value.int .u8 (n : Int)
theorem vals_length (l : List Nat) : (vals l).length = l.length := by simp [vals]
theorem vals_append (l m : List Nat) : vals (l ++ m) = vals l ++ vals m := by simp [vals]
theorem vals_get (l : List Nat) (i : Nat) (h : i < l.length) : (vals l)[i]? = some (.int .u8 (l.getD i 0 : Nat)) := by
  simp [vals, List.getElem?_eq_getElem h]
theorem vals_set (l : List Nat) (i x : Nat) : vals (l.set i x) = (vals l).set i (.int .u8 (x : Nat)) := by simp [vals]
theorem vals_one (l : List Nat) : ∀ u ∈ vals l, u.oneCell' = true := by
  intro u hu
  simp only [vals, List.mem_map] at hu
  obtain ⟨n, _, rfl⟩ := hu
  rfl

def Rd (w : World) (B : Nat) (a : Option Addr) (l : List Nat) : Prop :=
  Bytes l ∧ (l = [] ∨ ∃ b off, a = some ⟨b, off, none⟩ ∧ b < B ∧ ∀ i, i < l.length → w.cell? ⟨b, off + i, none⟩ = some (.int .u8 (l.getD i 0 : Nat)))

section
variable {w w' : World} {B B' : Nat} {a : Option Addr} {l m : List Nat}
theorem Rd.nil (w : World) (B : Nat) (a : Option Addr) : Rd w B a [] := ⟨bytes_nil, .inl rfl⟩
theorem Rd.keep (h : Rd w B a l) (hk : ∀ p : Addr, p.block < B → w'.cell? p = w.cell? p) : Rd w' B a l :=
  ⟨h.1, h.2.imp id fun ⟨b, off, e, hb, hc⟩ => ⟨b, off, e, hb, fun i hi => (hk ⟨b, off + i, none⟩ hb).trans (hc i hi)⟩⟩
theorem Rd.more (h : Rd w B a l) (hB : B ≤ B') : Rd w B' a l :=
  ⟨h.1, h.2.imp id fun ⟨b, off, e, hb, hc⟩ => ⟨b, off, e, by omega, hc⟩⟩
theorem Rd.below (h : Rd w B a l) (hb : Below B w w') : Rd w' B a l := h.keep fun _ hp => hb.cell hp
theorem Rd.alloc (h : Rd w B a l) (hB : B ≤ w.heap.size) (o : Obj) : Rd (w.alloc o) B a l := h.keep fun p hp => World.cell?_alloc_lt w o p (by omega)
theorem Rd.take (h : Rd w B a l) (n : Nat) : Rd w B a (l.take n) := by
  refine ⟨bytes_take h.1 n, ?_⟩
  rcases h.2 with h0 | ⟨b, off, e, hb, hc⟩
  · exact .inl (by rw [h0]; simp)
  · refine .inr ⟨b, off, e, hb, fun i hi => ?_⟩
    have h1 : i < l.length := by simp at hi; omega
    have h2 : i < n := by simp at hi; omega
    rw [hc i h1]
    simp [h2]
theorem Rd.drop {b off : Nat} (h : Rd w B (some ⟨b, off, none⟩) l) (n : Nat) : Rd w B (some ⟨b, off + n, none⟩) (l.drop n) := by
  refine ⟨bytes_drop h.1 n, ?_⟩
  rcases h.2 with h0 | ⟨b', off', e, hb, hc⟩
  · exact .inl (by rw [h0]; simp)
  · injection e with e
    injection e with e1 e2
    subst e1 e2
    refine .inr ⟨_, _, rfl, hb, fun i hi => ?_⟩
    have h1 : n + i < l.length := by simp at hi; omega
    have := hc (n + i) h1
    rw [← Nat.add_assoc] at this
    rw [this]
    simp
theorem Rd.cut (h : Rd w B a l) {p m : Nat} (hp : p + m ≤ l.length) : Rd w B (a.map fun x => x.add p) ((l.drop p).take m) := by
  refine ⟨bytes_take (bytes_drop h.1 p) m, ?_⟩
  rcases h.2 with h0 | ⟨b, off, rfl, hb, hc⟩
  · exact .inl (by rw [h0]; simp)
  · refine .inr ⟨b, off + p, ?_, hb, fun i hi => ?_⟩
    · by_cases h0 : p = 0 <;> simp [Addr.add, h0]
    · have hi' : i < m := by simp at hi; omega
      have := hc (p + i) (by omega)
      rw [← Nat.add_assoc] at this
      rw [this]
      simp [hi']
theorem Rd.cut0 {p m cap : Nat} (hp : p + m ≤ l.length) (hl : l.length ≤ cap) (hc : cap = p) : Rd w B a ((l.drop p).take m) := by
  have : m = 0 := by omega
  subst this
  rw [List.take_zero]
  exact Rd.nil _ _ _
theorem Rd.lit (w : World) (l : List Nat) (h : Bytes l) (C : Array Value) (hC : C = (vals l).toArray) (T : TypeId) (fr : Nat × Nat) : Rd (w.alloc (.cells C T fr)) (w.heap.size + 1) (some ⟨w.heap.size, 0, none⟩) l := by
  refine ⟨h, .inr ⟨_, _, rfl, by omega, fun i hi => ?_⟩⟩
  rw [Nat.zero_add, World.cell?_alloc_mark, hC, List.getElem?_toArray, vals_get l i hi]
end

/-- The call's own row of bytes. -/
def Own (w : World) (base E : Nat) (v : Value) (l : List Nat) : Prop := w.ownsRow base E 1 v l.length (vals l) ∧ Bytes l

section
variable {w w' : World} {base E : Nat} {v : Value} {l m : List Nat}
theorem Own.nil (w : World) (base E : Nat) : Own w base E (.slice none 0 0) [] := ⟨World.ownsRow_nil w base E 1, bytes_nil⟩
/-- What an own row looks like. -/
theorem Own.form (h : Own w base E v l) : ∃ a c, v = .slice a l.length c ∧ l.length ≤ c ∧ c ≤ maxLen ∧ Rd w w.heap.size a l ∧ (∀ b off s, a = some ⟨b, off, s⟩ → base ≤ b ∧ b < w.heap.size ∧ off = 0 ∧ s = none) := by
  have hx := h.1
  rcases hx.2 with ⟨rfl, h0⟩ | ⟨g, cap, cur, rfl, hbg, hh, hnc, hcm, hcs, ht⟩
  · have : l = [] := by simpa [vals] using h0
    subst this
    exact ⟨none, 0, rfl, Nat.zero_le _, by simp [maxLen], Rd.nil _ _ _, fun b off s e => by cases e⟩
  · have hlt := (hx.lt (k := g) (by rfl)).2
    refine ⟨_, cap, rfl, hnc, hcm, ⟨h.2, ?_⟩, fun b off s e => ?_⟩
    · by_cases h0 : l = []
      · exact .inl h0
      · refine .inr ⟨g, 0, rfl, hlt, fun i hi => ?_⟩
        have := hx.cellAt i (by omega)
        rw [Nat.zero_add, this, vals_get l i hi]
    · injection e with e
      injection e with e1 e2 e3
      subst e1 e2 e3
      exact ⟨hbg, hlt, rfl, rfl⟩
theorem Own.form1 (h : Own w base E v l) (h0 : 0 < l.length) : ∃ g c, v = .slice (some ⟨g, 0, none⟩) l.length c ∧ l.length ≤ c ∧ c ≤ maxLen ∧ base ≤ g ∧ g < w.heap.size := by
  rcases h.1.2 with ⟨_, h1⟩ | ⟨g, cap, cur, rfl, hbg, hh, hnc, hcm, hcs, ht⟩
  · have : l = [] := by simpa [vals] using h1
    subst this; simp at h0
  · exact ⟨g, cap, rfl, hnc, hcm, hbg, (h.1.lt (k := g) (by rfl)).2⟩
theorem Own.keep (h : Own w base E v l) {row : Option Nat} (hg : w.grownBy w' row) (hne : v.ownBlock = none ∨ v.ownBlock ≠ row) : Own w' base E v l := ⟨h.1.kept hg hne, h.2⟩
theorem Own.below {B : Nat} (h : Own w base E v l) (hb : Below B w w') (hB : ∀ k, v.ownBlock = some k → k < B) : Own w' base E v l := by
  refine ⟨?_, h.2⟩
  have hx := h.1
  refine ⟨hx.1, ?_⟩
  rcases hx.2 with ⟨rfl, h0⟩ | ⟨g, cap, cur, rfl, hbg, hh, rest⟩
  · exact .inl ⟨rfl, h0⟩
  · exact .inr ⟨g, cap, cur, rfl, hbg, (hb.block g (hB g rfl)).trans hh, rest⟩
theorem Own.below' (h : Own w base E v l) (hb : Below w.heap.size w w') : Own w' base E v l := h.below hb fun k hk => (h.1.lt k hk).2
theorem Own.far (h : Own w base E v l) {p : Addr} (hp : ∀ k, v.ownBlock = some k → k ≠ p.block) (u : Value) : Own (w.setCell p u) base E v l := by
  refine ⟨⟨h.1.1, ?_⟩, h.2⟩
  rcases h.1.2 with ⟨rfl, h0⟩ | ⟨g, cap, cur, rfl, hbg, hh, rest⟩
  · exact .inl ⟨rfl, h0⟩
  · exact .inr ⟨g, cap, cur, rfl, hbg, (Below.heap_setCell w p u g (hp g rfl)).trans hh, rest⟩
theorem Own.alloc (h : Own w base E v l) (o : Obj) : Own (w.alloc o) base E v l := ⟨h.1.alloc o, h.2⟩
end

section
variable {w w' : World} {base E g n c : Nat} {l : List Nat}
theorem own_of_made {v : Value} (h : w.ownsRow base E 1 v n (madeCells (Value.int .u8 0).cells (n * 1)).toList) : Own w base E v (List.replicate n 0) := by
  have e : (madeCells (Value.int .u8 0).cells (n * 1)).toList = vals (List.replicate n 0) := by
    rw [Nat.mul_one]
    exact (toList_madeCells_one (.int .u8 0) n).trans (by simp [vals])
  rw [e] at h
  exact ⟨by simpa using h, fun b hb => by rw [(List.mem_replicate.1 hb).2]; decide⟩
theorem Own.cell (h : Own w base E (.slice (some ⟨g, 0, none⟩) n c) l) (hn : n = l.length) {j : Nat} (hj : j < l.length) : w.cell? ⟨g, j, none⟩ = some (.int .u8 (l.getD j 0 : Nat)) := by
  subst hn
  rw [h.1.cellAt j (by omega), vals_get l j hj]
theorem Own.free (h : Own w base E (.slice (some ⟨g, 0, none⟩) n c) l) (hn : n = l.length) (j : Nat) : w.frozen? ⟨g, j, none⟩ = false := by
  subst hn
  exact h.1.frozenAt j
theorem Own.set_ (h : Own w base E (.slice (some ⟨g, 0, none⟩) n c) l) (hn : n = l.length) (j x : Nat) (hx : x < 256) :
    Own (w.setCell ⟨g, j, none⟩ (.int .u8 (x : Nat))) base E (.slice (some ⟨g, 0, none⟩) n c) (l.set j x) := by
  subst hn
  refine ⟨?_, bytes_set h.2 j x hx⟩
  rw [vals_set, List.length_set]
  exact (h.1.stored j _).1
theorem Own.drew {v : Value} (h : Own w base E v l) : Own w.drew base E v l := h
theorem Own.drewN {v : Value} (h : Own w base E v l) (k : Nat) : Own (w.drewN k) base E v l := h
end
theorem below_drewN {B : Nat} {a w : World} (h : Below B a w) (n : Nat) : Below B a (w.drewN n) := ⟨h.os, h.tape, h.output, h.size, h.block⟩
theorem fill_set (X : List Nat) (n k : Nat) (hn : X.length = n) (hk : k < n) (x : Nat) (hx : x = X.getD k 0) : (X.take k ++ List.replicate (n - k) 0).set k x = X.take (k + 1) ++ List.replicate (n - (k + 1)) 0 := by
  subst hx
  have hkl : (X.take k).length = k := by simp; omega
  rw [List.set_append_right _ _ (by omega), hkl, Nat.sub_self, show n - k = (n - (k + 1)) + 1 from by omega, List.replicate_succ, List.set_cons_zero]
  rw [List.take_succ_eq_append_getElem (by omega), List.append_assoc]
  simp [List.getElem?_eq_getElem (show k < X.length from by omega)]

section
variable {P : Program} (w : World)

/-- append onto an own row of bytes, of whatever source. -/
theorem run_app (base : Nat) (t ty E : TypeId) (i : TypeInfo) (ht : P.underlying t = some (.slice E)) (hi : P.info? E = some i) (hz : i.zero = some (.int .u8 0)) (hs : i.size = 1) (hby : i.bytes = 1)
    (v : Value) (l : List Nat) (hown : Own w base E v l) (B : Nat) (A : Option Addr) (m : List Nat) (c : Nat) (hr : Rd w B A m)
    (hbytes : l.length + m.length ≤ 140737488355328) (hbase : base ≤ w.heap.size) :
    ∃ v' w', (Builtin.append_ #[t, t] ty #[v, .slice A m.length c]).run P w = .ok v' w' ∧ Own w' base E v' (l ++ m) ∧ w.grownBy w' v.ownBlock ∧ (v'.ownBlock = v.ownBlock ∨ v'.ownBlock = some w.heap.size) := by
  have h63 : l.length + m.length ≤ maxLen := by simp only [maxLen]; omega
  have hb := bytes_append hown.2 hr.1
  rcases A with _ | ad
  · have hm : m = [] := by
      rcases hr.2 with h0 | ⟨_, _, e, _⟩
      · exact h0
      · cases e
    subst hm
    refine ⟨v, w, ?_, by simpa using hown, World.grownBy.refl w _, .inl rfl⟩
    rcases hown.1.2 with ⟨rfl, _⟩ | ⟨g, cap, cur, rfl, _, _, hnc, _⟩
    · simp [Builtin.append_, run_underlying ht, sizeOf, typeInfo, hi, Builtin.lenOf, Builtin.firstCells]
    · simp [Builtin.append_, run_underlying ht, sizeOf, typeInfo, hi, Builtin.lenOf, Builtin.firstCells, hnc, storeCells]
  · have hcells : ∀ j u, (vals m)[j]? = some u → w.cell? (ad.add j) = some u := by
      intro j u hu
      have hj : j < m.length := by
        rcases Nat.lt_or_ge j m.length with h1 | h1
        · exact h1
        · rw [List.getElem?_eq_none (by rw [vals_length]; exact h1)] at hu; cases hu
      rcases hr.2 with h0 | ⟨b, off, e, _, hc⟩
      · subst h0; simp at hj
      · injection e with e
        subst e
        have h1 := hc j hj
        rw [vals_get m j hj] at hu
        rw [← hu, ← h1]
        by_cases h0 : j = 0 <;> simp [Addr.add, h0]
    obtain ⟨v', w', hrun, h2, h3, _, h5⟩ := run_append_own_at (P := P) w base t ty E i _ 1 1 ht hi hz hs hby rfl (by omega) v l.length (vals l) hown.1 ad m.length c (vals m) (by simp [vals_length]) hcells (vals_one m) h63 (by omega) hbase
    exact ⟨v', w', hrun, ⟨by rw [vals_append, List.length_append]; exact h2, hb⟩, h3, h5⟩

theorem wpList_app {ops : Array Oper} {rest : List Oper} {o : Oper} {a : Act} {Q : Exit → Act → World → Prop} (hgd : o.guard = none) (s x : Operand) (t : TypeId)
    (ho : o.op = .call { callee := .builtin .append, args := #[s, x], argTypes := #[t, t] })
    (base : Nat) (E : TypeId) (i : TypeInfo) (ht : P.underlying t = some (.slice E)) (hi : P.info? E = some i) (hz : i.zero = some (.int .u8 0)) (hs : i.size = 1) (hby : i.bytes = 1)
    (v : Value) (l : List Nat) (hsv : a.eval s = v) (hown : Own w base E v l) (B : Nat) (A : Option Addr) (m : List Nat) (n c : Nat) (hn : n = m.length) (hx : a.eval x = .slice A n c) (hr : Rd w B A m)
    (r : List Nat) (hlm : l ++ m = r) (hbytes : r.length ≤ 140737488355328) (hbase : base ≤ w.heap.size)
    (h : ∀ v' w', Own w' base E v' r → Below base w w' → w.grownBy w' v.ownBlock → (v'.ownBlock = v.ownBlock ∨ v'.ownBlock = some w.heap.size) → wpList P ops Q rest (a.put o.dst v') w') : wpList P ops Q (o :: rest) a w :=
  wpList_plain hgd fun K hK => by
    subst hn
    subst hlm
    obtain ⟨v', w', hrun, h2, h3, h4⟩ := run_app (P := P) w base t o.type E i ht hi hz hs hby v l hown B A m c hr (by rw [List.length_append] at hbytes; exact hbytes) hbase
    unfold Oper.wp execOp
    simp only [ho, resolve, invoke, builtin, Sem.run_bind, Sem.run_pure, Result.andThen_ok, List.map_toArray, List.map_cons, List.map_nil, hsv, hx, hrun]
    exact hK _ _ (h v' w' h2 ((Below.refl _ _).grown h3 hbase fun k hk => (hown.1.lt k hk).1) h3 h4)
end

theorem quiet_left {P : Program} {f : FuncId} {args : Array Value} {w : World} {n : Nat} {v : Value}
    (h : Calls P f args (w.drewN n) fun e w' => e = .returned v ∧ w.drewN n = w') : Calls P f args (w.drewN n) fun e w'' => e = .returned v ∧ ∃ m, w'' = w.drewN m :=
  h.mono fun _ _ ⟨he, hm⟩ => ⟨he, n, hm.symm⟩
theorem Rd.drewN {w : World} {B : Nat} {a : Option Addr} {l : List Nat} (h : Rd w B a l) (n : Nat) : Rd (w.drewN n) B a l := h

/-- Bytes as a string. -/
def str (l : List Nat) : ByteArray := strOfNums (l.map fun (n : Nat) => (n : Int))
theorem str_inj {l m : List Nat} (hl : Bytes l) (hm : Bytes m) (h : (str l).data.toList = (str m).data.toList) : l = m := by
  simp only [str, strOfNums_data, List.map_map] at h
  have hf : ∀ n, ((fun (n : Int) => UInt8.ofNat n.toNat) ∘ fun (n : Nat) => (n : Int)) n = UInt8.ofNat n := fun n => by simp
  induction l generalizing m with
  | nil => cases m with
    | nil => rfl
    | cons y m => simp at h
  | cons x l ih => cases m with
    | nil => simp at h
    | cons y m =>
      simp only [List.map_cons, List.cons.injEq] at h
      have hx := hl x (by simp)
      have hy := hm y (by simp)
      have h1 := congrArg UInt8.toNat h.1
      simp at h1
      rw [Nat.mod_eq_of_lt hx, Nat.mod_eq_of_lt hy] at h1
      rw [h1, ih (fun z hz => hl z (by simp [hz])) (fun z hz => hm z (by simp [hz])) h.2]
theorem str_beq {l m : List Nat} (hl : Bytes l) (hm : Bytes m) : (((str l).data.toList == (str m).data.toList) = decide (l = m)) := by
  by_cases h : l = m
  · subst h; simp
  · rw [decide_eq_false h, beq_eq_false_iff_ne]
    exact fun e => h (str_inj hl hm e)
theorem run_str {P : Program} {w : World} {B : Nat} {a : Option Addr} {l : List Nat} (hr : Rd w B a l) (n c : Nat) (hn : n = l.length) (src e dst : TypeId)
    (hs : P.underlying src = some (.slice e)) (he : P.underlying e = some (.int .u8)) (hd : P.underlying dst = some .string) : (convert src dst (.slice a n c)).run P w = .ok (.string (str l)) w := by
  subst hn
  rcases a with _ | ad
  · have hl : l = [] := by
      rcases hr.2 with h0 | ⟨_, _, e, _⟩
      · exact h0
      · cases e
    subst hl
    exact run_convert_bytes_nil w src e hs he _ c dst hd
  · rcases hr.2 with h0 | ⟨b, off, e', _, hc⟩
    · subst h0
      rw [run_convert_bytes_string w src dst e _ _ c hs he hd, run_bytesToString w ad _ c [] (by simp [loadCells, loadCellsFrom])]
      rfl
    · injection e' with e'
      subst e'
      refine run_convert_bytes_arg w src e hs he b off _ c _ (by simp) (fun i hi => ?_) dst hd
      rw [hc i hi]
      simp [List.getElem?_eq_getElem hi]

/-- What the row's frame tells of a slice of bytes that came in. -/
def IsRow (k : IntKind) (w : World) (a : Option Addr) (len cap : Nat) (zs : List Int) : Prop :=
  (a = none ∧ len = 0 ∧ cap = 0 ∧ zs = []) ∨
  ∃ x, a = some x ∧ len ≤ cap ∧ cap ≤ maxLen ∧ zs.length = cap ∧ (∀ i, i < zs.length → w.cell? (x.add i) = some (.int k (zs.getD i 0))) ∧ ∀ n ∈ zs, (Lit.int k n).wf = true

theorem lt_of_cell {w : World} {p : Addr} {v : Value} (h : w.cell? p = some v) : p.block < w.heap.size := by
  rcases Nat.lt_or_ge p.block w.heap.size with h1 | h1
  · exact h1
  · simp [World.cell?, Array.getElem?_eq_none h1] at h

theorem isrow_rd {w : World} {a : Option Addr} {len cap : Nat} {zs : List Int} (h : IsRow .u8 w a len cap zs) :
    ∃ l : List Nat, len = l.length ∧ l.length ≤ cap ∧ cap ≤ 9223372036854775807 ∧ Rd w w.heap.size a l := by
  rcases h with ⟨rfl, rfl, rfl, rfl⟩ | ⟨x, rfl, hl, hm, hz, hc, hw⟩
  · exact ⟨[], rfl, by simp, by omega, Rd.nil _ _ _⟩
  · have hb : ∀ n ∈ zs, 0 ≤ n ∧ n < 256 := by
      intro n hn
      have := bounds_u8 (hw n hn)
      omega
    refine ⟨(zs.take len).map Int.toNat, by simp; omega, by simp; omega, by simpa [maxLen] using hm, ?_, ?_⟩
    · intro b hb'
      simp only [List.mem_map] at hb'
      obtain ⟨n, hn, rfl⟩ := hb'
      have := hb n (List.mem_of_mem_take hn)
      omega
    · by_cases h0 : len = 0
      · exact .inl (by simp [h0])
      · have h00 := hc 0 (by omega)
        obtain ⟨b, off, spot⟩ := x
        have hspot : spot = none := by simpa [Addr.add] using World.cell?_spot h00
        subst hspot
        refine .inr ⟨b, off, rfl, by simpa [Addr.add] using lt_of_cell h00, fun i hi => ?_⟩
        have hi' : i < len := by simp at hi; omega
        have hiz : i < zs.length := by omega
        have h1 := hc i hiz
        have e : (((zs.take len).map Int.toNat).getD i 0 : Nat) = (zs.getD i 0).toNat := by
          simp [hi', List.getElem?_eq_getElem hiz]
        have hnn := hb (zs.getD i 0) (by rw [List.getD_eq_getElem?_getD, List.getElem?_eq_getElem hiz]; exact List.getElem_mem hiz)
        rw [e, Int.toNat_of_nonneg hnn.1, ← h1]
        by_cases hi0 : i = 0 <;> simp [Addr.add, hi0]

/-- What the row's frame tells of a slice of ints that came in. -/
theorem isrow_ints {w : World} {a : Option Addr} {len cap : Nat} {zs : List Int} (h : IsRow .i64 w a len cap zs) :
    len ≤ cap ∧ cap ≤ 9223372036854775807 ∧ (len = 0 ∨ ∃ b off, a = some ⟨b, off, none⟩ ∧ b < w.heap.size ∧ ∀ i, i < len → w.cell? ⟨b, off + i, none⟩ = some (.int .i64 (zs.getD i 0)) ∧ -9223372036854775808 ≤ zs.getD i 0 ∧ zs.getD i 0 ≤ 9223372036854775807) := by
  rcases h with ⟨rfl, rfl, rfl, rfl⟩ | ⟨x, rfl, hl, hm, hz, hc, hw⟩
  · exact ⟨by omega, by omega, .inl rfl⟩
  · refine ⟨hl, by simpa [maxLen] using hm, ?_⟩
    by_cases h0 : len = 0
    · exact .inl h0
    · have h00 := hc 0 (by omega)
      obtain ⟨b, off, spot⟩ := x
      have hspot : spot = none := by simpa [Addr.add] using World.cell?_spot h00
      subst hspot
      refine .inr ⟨b, off, rfl, by simpa [Addr.add] using lt_of_cell h00, fun i hi => ?_⟩
      have hiz : i < zs.length := by omega
      have hb := bounds_i64 (hw (zs.getD i 0) (by rw [List.getD_eq_getElem?_getD, List.getElem?_eq_getElem hiz]; exact List.getElem_mem hiz))
      refine ⟨?_, by omega, by omega⟩
      rw [← hc i hiz]
      by_cases hi0 : i = 0 <;> simp [Addr.add, hi0]

end Go.Proofs.YteefpemaeecicaaGreatDoor
