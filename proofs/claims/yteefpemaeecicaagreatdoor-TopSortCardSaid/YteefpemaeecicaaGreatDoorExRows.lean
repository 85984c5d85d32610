/- Blocks that are laid; structs, arrays and rows that are built. No condition. -/
import Derived.Test.YteefpemaeecicaaGreatDoorExCells
import Derived.Laws.MakeOwn
import Derived.Laws.Append
import Derived.Laws.BytesString
section
open Go
namespace Go.Proofs.YteefpemaeecicaaGreatDoor.Ev
set_option linter.unusedVariables false
set_option linter.unusedSimpArgs false
set_option linter.constructorNameAsVariable false
noncomputable section
/-- An operation that lays a block. -/
def AL [Rho] (P : Program) (F : List AV → Nm → (AV → Blk → Ans) → Ans) (f : List Value → Sem Value) : Prop :=
  ∀ l nm kk, F l nm kk = .yes → ∃ v b, kk v b = .yes ∧ b ≠ .no ∧ ∀ μ xs w, VRs μ l xs → ∃ v' o size es, (f xs).run P w = .ok v' { w with heap := w.heap.push o } ∧
    ∀ μ', Ext μ μ' → μ' nm = some ⟨w.heap.size, size, es⟩ → VR μ' v v' ∧ ∀ w', w'.heap[w.heap.size]? = some o → BlkR μ' w' b ⟨w.heap.size, size, es⟩
section
variable {P : Program} {T : Ty}
/-- One element as a row. -/
theorem CellsR.one [Rho] {μ : Mp} {s f : Nat} {v : AV} {v' : Value} (h : VR μ v v') (he : isE f s v) (hc : f = 0 → oneC v' = true) (hf : f ≤ 4) (hs : s ≤ top f) (h0 : 0 < s) (hf0 : f = 0 → s = 1) (b : Nat) :
    CellsR μ v'.cells (0, 0) s s f 0 v ⟨b, s, s⟩ := by
  obtain ⟨k1, k2, k3⟩ := elem_cells h he hc
  refine { hsize := k1, hes := rfl, hpos := h0, hform := hf, htop := hs, hform0 := hf0, hn := Nat.le_refl _, hnk := by simp, hfroz := .inl rfl, hleaf := fun q _ => he, hcell := fun i hi => ?_ }
  have hd : v'.cells[i]? = some v'.cells[i] := Array.getElem?_eq_getElem (by omega)
  refine ⟨_, hd, k2 i _ hd, ?_⟩
  rw [Nat.mod_eq_of_lt hi]
  exact k3 i _ hd
theorem alloc_al [Rho] {t s f : Nat} {z : AV} (hT : TyOk P T) (hs : shp T t = some (s, f)) (hz : zeroA T t = some z) : AL P (fun _ => fAlloc t s f z) (fun _ => Instr.alloc t true (.tuple #[])) := by
  intro l nm kk h
  obtain ⟨i, v, hi, hv, hsz, hE, hr, h1⟩ := zero_spec hT hz hs
  obtain ⟨_, s0, s1, sf4, sff, _⟩ := shp_spec (w := default) hT hs
  refine ⟨_, _, h, fun e => (by cases e), fun μ xs w _ => ?_⟩
  refine ⟨.pointer (some ⟨w.heap.size, 0, none⟩), .cells v.cells t (0, 0), s, s, ?_, fun μ' hx hnm => ⟨.p nm 0 _ hnm, fun w' hw' => ⟨_, _, hw', CellsR.one (hr μ') hE h1 sf4 s1 s0 sff _⟩⟩⟩
  simp [Instr.alloc, run_zero hi hv, newVar, newRow]
theorem box_al [Rho] {t s f : Nat} (hT : TyOk P T) (hs : shp T t = some (s, f)) : AL P (fun l nm kk => List.rec (motive := fun _ => Ans) Ans.no (fun x _t _ => fBox t s f x nm kk) l) (fun xs => Instr.box t (xs.headD undef)) := by
  intro l nm kk h
  obtain ⟨_, s0, s1, sf4, sff, _⟩ := shp_spec (w := default) hT hs
  obtain ⟨x, rest, rfl, h2⟩ := inv_cons h
  obtain ⟨hE, hcell, h3, _⟩ := isElem_yes h2 sf4 sff
  refine ⟨_, _, h3, fun e => (by cases e), fun μ xs w hxs => ?_⟩
  obtain ⟨v, ys, rfl, hv, _⟩ := hxs.cons_inv
  refine ⟨.pointer (some ⟨w.heap.size, 0, none⟩), .cells v.cells t (0, 0), s, s, ?_, fun μ' hx hnm => ⟨.p nm 0 _ hnm, fun w' hw' => ⟨_, _, hw', CellsR.one (hv.ext hx) hE (fun e => isCell_one (hcell e) hv) sf4 s1 s0 sff _⟩⟩⟩
  simp [Instr.box, newVar, newRow]
/-! ### Parts that are filled in -/
theorem foldl_wrA (cells : Array Value) (off : Nat) (vs : Array Value) : (vs.zipIdx.foldl (fun cs (p : Value × Nat) => cs.setIfInBounds (off + p.2) p.1) cells) = wrA cells off vs.toList := by
  have gen : ∀ (l : List Value) (k : Nat) (cells : Array Value), ((l.zipIdx k).foldl (fun (cs : Array Value) (p : Value × Nat) => cs.setIfInBounds (off + p.2) p.1) cells) = wrA cells (off + k) l := by
    intro l
    induction l with
    | nil => intro k cells; rfl
    | cons a l ih =>
      intro k cells
      rw [List.zipIdx_cons, List.foldl_cons, ih]
      rfl
  rw [← Array.foldl_toList, Array.toList_zipIdx]
  exact gen vs.toList 0 cells
theorem fill_cons {place : Nat → Option (Nat × Nat)} {cells : Array Value} {i off size : Nat} {v : Value} {rest : List (Nat × Value)} (hp : place i = some (off, size)) (hv : v.cells.size = size) (hl : off + size ≤ cells.size) :
    Instr.fill place cells ((i, v) :: rest) = Instr.fill place (wrA cells off v.cells.toList) rest := by
  have h2 : ¬ (v.cells.size ≠ size ∨ off + v.cells.size > cells.size) := by omega
  rw [Instr.fill, hp]
  simp only
  rw [if_neg (by simpa using h2)]
  have := foldl_wrA cells off v.cells
  exact congrArg (fun c => Instr.fill place c rest) this
/-- Cells of an element's value. -/
def CellE [Rho] (μ : Mp) (form s : Nat) (v : AV) (cells : Array Value) : Prop := isE form s v ∧ cells.size = s ∧ ∀ i, i < s → ∃ c, cells[i]? = some c ∧ oneC c = true ∧ VR μ (cellOf form v i) c
theorem CellE.put [Rho] {μ : Mp} {form s f n off : Nat} {v v2 x : AV} {cells : Array Value} {x' : Value} (h : CellE μ form s v cells) (hE : isE form s v2) (hx : VR μ x x') (hxE : isE f n x) (hx1 : f = 0 → oneC x' = true) (hl : off + n ≤ s)
    (hc : ∀ i, i < s → cellOf form v2 i = if off ≤ i ∧ i < off + n then cellOf f x (i - off) else cellOf form v i) : CellE μ form s v2 (wrA cells off x'.cells.toList) := by
  obtain ⟨k1, k2, k3⟩ := elem_cells hx hxE hx1
  refine ⟨hE, by rw [wrA_size]; exact h.2.1, fun i hi => ?_⟩
  have hlen : x'.cells.toList.length = n := by simp [k1]
  rw [wrA_get _ _ _ _ (by rw [hlen, h.2.1]; exact hl), hlen, hc i hi]
  by_cases hh : off ≤ i ∧ i < off + n
  · rw [if_pos hh, if_pos hh]
    have hd : x'.cells[i - off]? = some x'.cells[i - off] := Array.getElem?_eq_getElem (by omega)
    exact ⟨_, by simp, k2 _ _ hd, k3 _ _ hd⟩
  · rw [if_neg hh, if_neg hh]
    exact h.2.2 i hi
theorem parts_yes [Rho] {fx sx : Nat} (hfx : sx ≤ top fx) {kk : AV → Ans} : ∀ (qs : List (Nat × Nat × Nat)) (l : List AV) (v : AV), partsK fx qs l v kk = .yes → (∀ q ∈ qs, q.2.1 ≤ top q.2.2 ∧ q.2.2 ≤ 4 ∧ (q.2.2 = 0 → q.2.1 = 1) ∧ q.1 + q.2.1 ≤ sx) →
    ∃ v', kk v' = .yes ∧ ∀ μ (cells : Array Value) (place : Nat → Option (Nat × Nat)) (idx : List Nat) (xs : List Value), CellE μ fx sx v cells → VRs μ l xs → idx.length = qs.length → (∀ (j : Nat) q i, qs[j]? = some q → idx[j]? = some i → place i = some (q.1, q.2.1)) →
      ∃ cells', Instr.fill place cells (idx.zip xs) = some cells' ∧ CellE μ fx sx v' cells'
  | [], l, v, h, _ => by
    obtain ⟨rfl, h2⟩ := inv_nil h
    refine ⟨v, h2, fun μ cells place idx xs hc hx hl _ => ?_⟩
    have := hx.nil_inv
    subst this
    exact ⟨cells, by simp [Instr.fill], hc⟩
  | q :: qs, l, v, h, hq => by
    obtain ⟨o, s, f⟩ := q
    obtain ⟨x, rest, rfl, h2⟩ := inv_cons h
    obtain ⟨q1, q2, q3, q4⟩ := hq (o, s, f) (by simp)
    obtain ⟨hE, hcell, h3, _⟩ := isElem_yes h2 q2 q3
    obtain ⟨v2, h4, hv2⟩ : ∃ v2, partsK fx qs rest v2 kk = .yes ∧ (isE fx sx v → isE fx sx v2 ∧ ∀ i, i < sx → cellOf fx v2 i = if o ≤ i ∧ i < o + s then cellOf f x (i - o) else cellOf fx v i) := by
      rcases inv_nz h3 with ⟨rfl, h4⟩ | ⟨f', rfl, h4⟩
      · refine ⟨_, (setCompK_yes h4).1, fun he => ⟨isE_set he _ _, fun i hi => ?_⟩⟩
        have hs1 : s = 1 := q3 rfl
        subst hs1
        have q4 : o + 1 ≤ sx := q4
        rw [cellOf_set he (by omega) (by omega)]
        by_cases e : i = o
        · subst e; rw [if_pos rfl, if_pos (by omega)]; rfl
        · rw [if_neg e, if_neg (by omega)]
      · exact ⟨_, setSubK_yes h4, fun he => setSubV_spec he hE hfx q4 q1⟩
    obtain ⟨v', h5, h6⟩ := parts_yes hfx qs rest v2 h4 (fun q hq' => hq q (by simp [hq']))
    refine ⟨v', h5, fun μ cells place idx xs hc hx hl hp => ?_⟩
    obtain ⟨w, ys, rfl, hw, hys⟩ := hx.cons_inv
    cases idx with
    | nil => simp at hl
    | cons i idx =>
      have hpi : place i = some (o, s) := hp 0 (o, s, f) i rfl rfl
      have one : f = 0 → oneC w = true := fun e => isCell_one (hcell e) hw
      obtain ⟨k1, _, _⟩ := elem_cells hw hE one
      obtain ⟨g1, g2⟩ := hv2 hc.1
      have hc2 := hc.put g1 hw hE one q4 g2
      obtain ⟨cells', r1, r2⟩ := h6 μ _ place idx ys hc2 hys (by simpa using hl) (fun j q i hj hi => hp (j + 1) q i (by simpa using hj) (by simpa using hi))
      refine ⟨cells', ?_, r2⟩
      rw [List.zip_cons_cons, fill_cons hpi k1 (by rw [hc.2.1]; exact q4)]
      exact r1
/-! ### Rows of elements -/
theorem row_zero [Rho] {z : AV} {v : Value} {μ : Mp} {s f : Nat} (hr : VR μ z v) (hE : isE f s z) (h1 : f = 0 → oneC v = true) (hs0 : 0 < s) (hs1 : s ≤ top f) (hf : f ≤ 4) (hf0 : f = 0 → s = 1) (len b : Nat) (hl : len ≤ 262144) :
    CellsR μ ((Array.range (len * s)).map (v.cells[· % v.cells.size]!)) (0, 0) (len * s) s f (dep len) (fillT z (dep len)) ⟨b, len * s, s⟩ := by
  obtain ⟨k1, k2, k3⟩ := elem_cells hr hE h1
  have hdep : len ≤ 8 ^ dep len := by
    rw [dep_eq]
    split
    · omega
    split
    · omega
    split
    · omega
    split
    · omega
    split
    · omega
    split
    · omega
    · omega
  refine { hsize := by simp, hes := rfl, hpos := hs0, hform := hf, htop := hs1, hform0 := hf0, hn := Nat.le_refl _, hnk := by rw [Nat.mul_comm s]; exact Nat.mul_le_mul_right s hdep, hfroz := .inl rfl, hleaf := fun q _ => by rw [fillT_get]; exact hE, hcell := fun i hi => ?_ }
  have hm : i % s < s := Nat.mod_lt _ hs0
  have hd : v.cells[i % s]? = some v.cells[i % s] := Array.getElem?_eq_getElem (by omega)
  refine ⟨v.cells[i % s], ?_, k2 _ _ hd, ?_⟩
  · have hlt : i % v.cells.size < v.cells.size := by rw [k1]; exact hm
    have e : v.cells[i % v.cells.size]! = v.cells[i % s] := by
      rw [getElem!_pos v.cells _ hlt]
      congr 1
      rw [k1]
    simp [hi, e]
  · rw [fillT_get]
    exact k3 _ _ hd
end
end
end Go.Proofs.YteefpemaeecicaaGreatDoor.Ev
end
section
open Go
namespace Go.Proofs.YteefpemaeecicaaGreatDoor.Ev
set_option linter.unusedVariables false
set_option linter.unusedSimpArgs false
set_option linter.constructorNameAsVariable false
noncomputable section
section
variable {P : Program} {T : Ty}
theorem run_mapM {α β : Type} {g : α → Sem β} {h : α → β} : ∀ (l : List α), (∀ a ∈ l, ∀ w, (g a).run P w = .ok (h a) w) → ∀ w, (l.mapM g).run P w = .ok (l.map h) w
  | [], _, w => rfl
  | a :: l, hg, w => by
    rw [List.mapM_cons, Sem.run_bind, hg a (by simp), Result.andThen_ok, Sem.run_bind, run_mapM l (fun b hb => hg b (by simp [hb])), Result.andThen_ok]
    rfl
theorem run_amapM {α β : Type} {g : α → Sem β} {h : α → β} (l : Array α) (hg : ∀ a ∈ l.toList, ∀ w, (g a).run P w = .ok (h a) w) (w : World) : (l.mapM g).run P w = .ok (l.map h) w := by
  rw [Array.mapM_eq_mapM_toList, Sem.run_map, run_mapM l.toList hg w, Result.andThen_ok]
  congr 1
  apply Array.toList_inj.1
  simp
/-- What the parts are, as they were found. -/
theorem partsF_spec [Rho] (hT : TyOk P T) {sx : Nat} {fs : Nat → Option (Nat × Nat)} : ∀ {ps : List (Nat × Operand)} {qs : List (Nat × Nat × Nat)}, partsF T sx fs ps = some qs →
    qs.length = ps.length ∧ (∀ q ∈ qs, q.2.1 ≤ top q.2.2 ∧ q.2.2 ≤ 4 ∧ (q.2.2 = 0 → q.2.1 = 1) ∧ q.1 + q.2.1 ≤ sx) ∧
    ∀ (j : Nat) q p, qs[j]? = some q → ps[j]? = some p → ∃ ty i, fs p.1 = some (q.1, ty) ∧ P.info? ty = some i ∧ i.size = q.2.1
  | [], qs, h => by
    have : qs = [] := by
      have h' : (some [] : Option (List (Nat × Nat × Nat))) = some qs := h
      cases h'; rfl
    subst this
    exact ⟨rfl, fun q hq => by simp at hq, fun j q p hq => by simp at hq⟩
  | p :: ps, qs, h => by
    unfold partsF at h
    rw [List.mapM_cons] at h
    cases h1 : fs p.1 with
    | none => rw [h1] at h; cases h
    | some o =>
      rw [h1] at h
      cases h2 : shp T o.2 with
      | none => simp [h2] at h
      | some r =>
        by_cases h3 : o.1 + r.1 ≤ sx
        · cases h4 : partsF T sx fs ps with
          | none =>
            unfold partsF at h4
            simp [h2, h3, h4] at h
          | some rest =>
            have h5 := h4
            unfold partsF at h5
            simp [h2, h3, h5] at h
            subst h
            obtain ⟨ih1, ih2, ih3⟩ := partsF_spec hT h4
            obtain ⟨s, f⟩ := r
            obtain ⟨⟨i, hi, hsz⟩, s0, s1, sf4, sff, _⟩ := shp_spec (w := default) hT h2
            refine ⟨by simp [ih1], fun q hq => ?_, fun j q p' hq hp => ?_⟩
            · rcases List.mem_cons.1 hq with rfl | hq
              · exact ⟨s1, sf4, sff, h3⟩
              · exact ih2 q hq
            · cases j with
              | zero => simp at hq hp; subst hq; subst hp; exact ⟨o.2, i, h1, hi, hsz⟩
              | succ j => exact ih3 j q p' (by simpa using hq) (by simpa using hp)
        · simp [h2, h3] at h
theorem agg_of_struct [Rho] {t : Nat} {fs : Array Field} {s f : Nat} (hT : TyOk P T) (hu : P.underlying t = some (.struct fs)) (hs : shp T t = some (s, f)) : f ≠ 0 := by
  intro e
  subst e
  obtain ⟨_, _, _, _, _, hagg, _⟩ := shp_spec (w := default) hT hs
  have hagg' : (Go.isAgg t).run P default = .ok false default := hagg
  simp [Go.isAgg, run_underlying hu] at hagg'
theorem agg_of_array [Rho] {t n e : Nat} {s f : Nat} (hT : TyOk P T) (hu : P.underlying t = some (.array n e)) (hs : shp T t = some (s, f)) : f ≠ 0 := by
  intro e
  subst e
  obtain ⟨_, _, _, _, _, hagg, _⟩ := shp_spec (w := default) hT hs
  have hagg' : (Go.isAgg t).run P default = .ok false default := hagg
  simp [Go.isAgg, run_underlying hu] at hagg'
theorem CellE.of [Rho] {μ : Mp} {f s : Nat} {z : AV} {v : Value} (hr : VR μ z v) (hE : isE f s z) (h1 : f = 0 → oneC v = true) : CellE μ f s z v.cells := by
  obtain ⟨k1, k2, k3⟩ := elem_cells hr hE h1
  refine ⟨hE, k1, fun i hi => ?_⟩
  have hd : v.cells[i]? = some v.cells[i] := Array.getElem?_eq_getElem (by omega)
  exact ⟨_, hd, k2 _ _ hd, k3 _ _ hd⟩
theorem CellE.agg [Rho] {μ : Mp} {f s : Nat} {v : AV} {cells : Array Value} (h : CellE μ f s v cells) (hf : f ≠ 0) (hs : s ≤ top f) : VR μ v (.agg cells) := by
  have get : ∀ (i : Nat) c, cells[i]? = some c → i < s := fun i c hc => by
    rcases Nat.lt_or_ge i cells.size with hl | hl
    · rw [← h.2.1]; exact hl
    · rw [Array.getElem?_eq_none hl] at hc; cases hc
  refine VR.agg_mk hf h.1 h.2.1 hs (fun i c hc => ?_) (fun i c hc => ?_)
  · obtain ⟨d, h1, h2, h3⟩ := h.2.2 i (get i c hc); rw [hc] at h1; cases h1; exact h2
  · obtain ⟨d, h1, h2, h3⟩ := h.2.2 i (get i c hc); rw [hc] at h1; cases h1; exact h3
theorem buildS_pl [Rho] {t : Nat} {fs : Array Field} {sx fx : Nat} {z : AV} {ps : List (Nat × Operand)} {qs : List (Nat × Nat × Nat)} (hT : TyOk P T) (hz : zeroA T t = some z) (hs : shp T t = some (sx, fx)) (hu : P.underlying t = some (.struct fs))
    (hall : ∀ f ∈ fs.toList, ∃ i, P.info? f.type = some i) (hp : partsF T sx (fun i => (fs[i]?).map fun f => (f.offset, f.type)) ps = some qs) :
    PL P (fBuild fx z qs) (fun xs => Instr.build t ((ps.map (·.1)).zip xs).toArray) := by
  intro l kk h
  obtain ⟨i, v, hi, hv, hsz, hE, hr, h1⟩ := zero_spec hT hz hs
  obtain ⟨_, s0, s1, sf4, sff, _⟩ := shp_spec (w := default) hT hs
  obtain ⟨p1, p2, p3⟩ := partsF_spec hT hp
  have hf := agg_of_struct hT hu hs
  obtain ⟨v', h2, h3⟩ := parts_yes s1 qs l z h p2
  refine ⟨v', h2, fun μ xs hx => ?_⟩
  let H : Field → Nat × Nat := fun f => (f.offset, ((P.info? f.type).map (·.size)).getD 0)
  have hpl : ∀ w, (fs.mapM fun f => (Functor.map (Prod.mk f.offset) (Go.sizeOf f.type) : Sem (Nat × Nat))).run P w = .ok (fs.map H) w := fun w => run_amapM fs (fun f hf w => by
    obtain ⟨j, hj⟩ := hall f hf
    simp [run_size hj, H, hj]) w
  obtain ⟨cells', r1, r2⟩ := h3 μ v.cells (fun i => (fs.map H)[i]?) (ps.map (·.1)) xs (CellE.of (hr μ) hE h1) hx (by simp [p1]) (fun j q i hq hi => by
    rw [List.getElem?_map] at hi
    cases hpj : ps[j]? with
    | none => rw [hpj] at hi; cases hi
    | some p =>
      rw [hpj] at hi
      cases hi
      obtain ⟨ty, i2, e1, e2, e3⟩ := p3 j q p hq hpj
      cases hf2 : fs[p.1]? with
      | none => rw [hf2] at e1; cases e1
      | some f =>
        rw [hf2] at e1
        have e4 : f.offset = q.1 ∧ f.type = ty := by simpa using e1
        rw [← e4.2] at e2
        simp [hf2, H, e2, e3, e4.1])
  refine ⟨.agg cells', r2.agg hf s1, fun w => ?_⟩
  simp only [Array.getElem?_map] at r1
  simp [Instr.build, run_zero hi hv, run_underlying hu, hpl, r1]
theorem buildA_pl [Rho] {t n e : Nat} {j : TypeInfo} {sx fx : Nat} {z : AV} {ps : List (Nat × Operand)} {qs : List (Nat × Nat × Nat)} (hT : TyOk P T) (hz : zeroA T t = some z) (hs : shp T t = some (sx, fx)) (hu : P.underlying t = some (.array n e))
    (hj : P.info? e = some j) (hp : partsF T sx (fun i => some (i * j.size, e)) ps = some qs) :
    PL P (fBuild fx z qs) (fun xs => Instr.build t ((ps.map (·.1)).zip xs).toArray) := by
  intro l kk h
  obtain ⟨i, v, hi, hv, hsz, hE, hr, h1⟩ := zero_spec hT hz hs
  obtain ⟨_, s0, s1, sf4, sff, _⟩ := shp_spec (w := default) hT hs
  obtain ⟨p1, p2, p3⟩ := partsF_spec hT hp
  have hf := agg_of_array hT hu hs
  obtain ⟨v', h2, h3⟩ := parts_yes s1 qs l z h p2
  refine ⟨v', h2, fun μ xs hx => ?_⟩
  obtain ⟨cells', r1, r2⟩ := h3 μ v.cells (fun i => some (i * j.size, j.size)) (ps.map (·.1)) xs (CellE.of (hr μ) hE h1) hx (by simp [p1]) (fun q' q i hq hi => by
    rw [List.getElem?_map] at hi
    cases hpj : ps[q']? with
    | none => rw [hpj] at hi; cases hi
    | some p =>
      rw [hpj] at hi
      cases hi
      obtain ⟨ty, i2, e1, e2, e3⟩ := p3 q' q p hq hpj
      have e4 : p.1 * j.size = q.1 ∧ e = ty := by simpa using e1
      rw [← e4.2, hj] at e2
      cases e2
      rw [e4.1, e3])
  refine ⟨.agg cells', r2.agg hf s1, fun w => ?_⟩
  simp [Instr.build, run_zero hi hv, run_underlying hu, run_size hj, r1]
theorem row_yes [Rho] {ke s f : Nat} (hf4 : f ≤ 4) (hf0 : f = 0 → s = 1) (hs0 : 0 < s) (hs1 : s ≤ top f) {len : Nat} {kk : Tr AV ke → Ans} : ∀ (ps : List Nat) (l : List AV) (t : Tr AV ke), rowK ke s f ps l t kk = .yes → (∀ i ∈ ps, i < len) →
    ∃ t', kk t' = .yes ∧ ∀ μ (cells : Array Value) bk xs, CellsR μ cells (0, 0) (len * s) s f ke t bk → VRs μ l xs → ∃ cells', Instr.fill (fun i => some (i * s, s)) cells (ps.zip xs) = some cells' ∧ CellsR μ cells' (0, 0) (len * s) s f ke t' bk
  | [], l, t, h, _ => by
    obtain ⟨rfl, h2⟩ := inv_nil h
    exact ⟨t, h2, fun μ cells bk xs hc hx => ⟨cells, by simp [Instr.fill], hc⟩⟩
  | i :: ps, l, t, h, hp => by
    obtain ⟨x, rest, rfl, h2⟩ := inv_cons h
    obtain ⟨hE, hcell, h3, _⟩ := isElem_yes h2 hf4 hf0
    rw [Tr.s_eq] at h3
    obtain ⟨t', h4, h5⟩ := row_yes hf4 hf0 hs0 hs1 (len := len) ps rest _ h3 (fun j hj => hp j (by simp [hj]))
    refine ⟨t', h4, fun μ cells bk xs hc hx => ?_⟩
    obtain ⟨v, ys, rfl, hv, hys⟩ := hx.cons_inv
    have one : f = 0 → oneC v = true := fun e => isCell_one (hcell e) hv
    obtain ⟨k1, k2, k3⟩ := elem_cells hv hE one
    have hi : i < len := hp i (by simp)
    have hfit : i * s + s ≤ len * s := by rw [← Nat.succ_mul]; exact Nat.mul_le_mul_right s hi
    have hlen : v.cells.toList.length = s := by simp [k1]
    have hdiv : ∀ j, j < s → (i * s + j) / s = i ∧ (i * s + j) % s = j := fun j hj => by
      have := divmod (off := i * s) (i := j) (es := s) (by rw [Nat.mul_mod_left]; omega)
      rw [Nat.mul_mod_left, Nat.mul_div_cancel _ hs0, Nat.zero_add] at this
      exact this
    have hq : i < 8 ^ ke := by have := hc.q_lt (i := i * s) (by omega); rwa [Nat.mul_div_cancel _ hs0] at this
    have hc2 : CellsR μ (wrA cells (i * s) v.cells.toList) (0, 0) (len * s) s f ke (Tr.set (α := AV) ke (paK ke i) t x) bk := by
      refine hc.write (by rw [hlen]; exact hfit) (fun q hq' => ?_) (fun j hj hne => ?_) (fun j hj => ?_)
      · have hq2 : q < 8 ^ ke := by have := hc.q_lt hq'; rwa [Nat.mul_div_cancel _ hs0] at this
        rw [Tr.get_set ke t x hq2 hq]
        split
        · exact hE
        · exact hc.hleaf q hq'
      · rw [hlen] at hne
        rw [Tr.get_set ke t x (hc.q_lt hj) hq]
        split
        · rename_i e
          exfalso
          apply hne
          have := Nat.div_add_mod j s
          have h2 : j % s < s := Nat.mod_lt _ hs0
          rw [e, Nat.mul_comm] at this
          omega
        · rfl
      · rw [hlen] at hj
        obtain ⟨q1, q2⟩ := hdiv j hj
        have hd : v.cells[j]? = some v.cells[j] := Array.getElem?_eq_getElem (by omega)
        refine ⟨v.cells[j], by simp, k2 j _ hd, ?_⟩
        rw [q1, q2, Tr.get_set ke t x hq hq, if_pos rfl]
        exact k3 j _ hd
    obtain ⟨cells', r1, r2⟩ := h5 μ _ bk ys hc2 hys
    refine ⟨cells', ?_, r2⟩
    rw [List.zip_cons_cons, fill_cons (off := i * s) (size := s) rfl k1 (by rw [hc.hsize]; have := hc.hn; omega)]
    exact r1
theorem buildSlice_al [Rho] {t e len : Nat} {s f : Nat} {z : AV} {ps : List (Nat × Operand)} (hT : TyOk P T) (hu : P.underlying t = some (.slice e)) (hz : zeroA T e = some z) (hs : shp T e = some (s, f)) (h1 : len * s ≤ 16777216) (h2 : len ≤ 262144) (h3 : ∀ p ∈ ps, p.1 < len) :
    AL P (fBuildSlice e s f len z (ps.map (·.1))) (fun xs => Instr.buildSlice t len ((ps.map (·.1)).zip xs).toArray) := by
  intro l nm kk h
  obtain ⟨i, v, hi, hv, hsz, hE, hr, hone⟩ := zero_spec hT hz hs
  obtain ⟨_, s0, s1, sf4, sff, _⟩ := shp_spec (w := default) hT hs
  have h' : rowK (dep len) s f (ps.map (·.1)) l (fillT z (dep len)) (fun t => kk (.sl nm 0 len len) (.cells e false (Nat.mul len s) s f (dep len) t)) = .yes := h
  obtain ⟨t', h4, h5⟩ := row_yes (ke := dep len) sf4 sff s0 s1 (len := len) (kk := fun t => kk (.sl nm 0 len len) (.cells e false (Nat.mul len s) s f (dep len) t)) (ps.map (·.1)) l (fillT z (dep len)) h' (fun i hi => by
    obtain ⟨p, hp, rfl⟩ := List.mem_map.1 hi
    exact h3 p hp)
  refine ⟨_, _, h4, fun e => (by cases e), fun μ xs w hx => ?_⟩
  have hc0 := row_zero (hr μ) hE hone s0 s1 sf4 sff len w.heap.size h2
  obtain ⟨cells', r1, r2⟩ := h5 μ _ _ xs hc0 hx
  refine ⟨.slice (some ⟨w.heap.size, 0, none⟩) len len, .cells cells' e (0, 0), len * s, s, ?_, fun μ' hx' hnm => ⟨.sl nm 0 len len _ hnm (Nat.le_refl _) (by omega), fun w' hw' => ⟨cells', (0, 0), hw', r2.ext hx'⟩⟩⟩
  have hns : ¬ (2 ^ 24 < len * s) := by omega
  by_cases hz0 : len * s = 0
  · have hl0 : len = 0 := by
      rcases Nat.mul_eq_zero.1 hz0 with h | h
      · exact h
      · omega
    subst hl0
    rw [Nat.zero_mul] at r1
    rw [Array.range_zero', Array.map_empty] at r1
    have r1' : Instr.fill (fun i => some (i * s, s)) #[] ((ps.map (·.1)).zip xs) = some cells' := r1
    simp [Instr.buildSlice, run_underlying hu, run_size hi, hsz, Array.range_zero', r1', newRow]
  · simp [Instr.buildSlice, run_underlying hu, run_size hi, hsz, hns, hz0, run_zero hi hv, r1, newRow]
/-! ### Rows and maps that are made -/
theorem new_yes {h : Hp} {b : Blk} {g : Nm → Hp → Ans} (hy : h.new b g = .yes) : ∃ c', h.c.rank < c'.rank ∧ g h.c ⟨Mem.to h.c h.m b, c'⟩ = .yes := by
  have hy : h.c.nxt (fun c' => g h.c ⟨Mem.to h.c h.m b, c'⟩) = .yes := hy
  obtain ⟨c', h1, h2⟩ := Nm.nxt_yes hy
  exact ⟨c', by omega, by rw [← h2 (fun c' => g h.c ⟨Mem.to h.c h.m b, c'⟩)]; exact hy⟩
theorem Kp.above [Rho] {K : Kp} {μ : Mp} {h : Hp} {w : World} (hr : MR K μ h w) (x : Nat) (hx : w.heap.size ≤ x) : K.F x = none := by
  cases hF : K.F x with
  | none => rfl
  | some o => have := heap_lt (hr.keep x o hF); omega
theorem makeSlice_w2 [Rho] {t e s f : Nat} {z : AV} {i : TypeInfo} (hT : TyOk P T) (hu : P.underlying t = some (.slice e)) (hz : zeroA T e = some z) (hs : shp T e = some (s, f)) (hi : P.info? e = some i) (hb : i.bytes ≤ 1000000) :
    W2 P (fMakeSlice e s f z) (fun x y => Instr.makeSlice t x y) := by
  intro x y h kk hy
  obtain ⟨l, h1, hl⟩ := pos_yes hy
  obtain ⟨c, h2, hc⟩ := pos_yes h1
  obtain ⟨h3, h4⟩ := inv_if h2
  obtain ⟨q1, q2⟩ := and_eq.1 h3
  have q1 := ble_iff.1 q1
  have q2 := ble_iff.1 q2
  rw [natK_eq, natK_eq] at h4
  obtain ⟨c1, hc1, h5⟩ := new_yes h4
  refine ⟨_, _, h5, fun K μ w x' y' hr hx hy' => ?_⟩
  obtain ⟨k1, rfl⟩ := hl μ x' hx
  obtain ⟨k2, rfl⟩ := hc μ y' hy'
  obtain ⟨i', v, hi', hv, hsz, hE, hzr, hone⟩ := zero_spec hT hz hs
  rw [hi] at hi'; cases hi'
  obtain ⟨_, s0, s1, sf4, sff, _⟩ := shp_spec (w := default) hT hs
  have hbb : (i.bytes : Int) * (c : Int) ≤ 281474976710656 := by
    have : i.bytes * c ≤ 1000000 * 262144 := Nat.mul_le_mul hb q2
    have h2 : ((i.bytes * c : Nat) : Int) ≤ 281474976710656 := by omega
    rwa [Int.natCast_mul] at h2
  have hrun := run_make (P := P) w t e i v hu hi hv k1 k2 (l : Int) (c : Int) (by omega) (by omega) hbb (by omega)
  simp only [Int.toNat_natCast] at hrun
  rw [hsz] at hrun
  have hcr := row_zero (hzr μ) hE hone s0 s1 sf4 sff c w.heap.size q2
  refine ⟨Mp.to μ h.c ⟨w.heap.size, c * s, s⟩, _, _, hrun, Mp.to_ext _ (hr.fresh (Nat.le_refl _)), .sl h.c 0 l c _ (Mp.to_same _ _ _) q1 (by omega), ?_⟩
  exact hr.new (Nat.le_refl _) hc1 (.cells (madeCells v.cells (c * s)) e (0, 0)) _ (c * s) s (Kp.above hr) ⟨madeCells v.cells (c * s), (0, 0), by simp, (hcr.ext (Mp.to_ext _ (hr.fresh (Nat.le_refl _))))⟩
theorem makeMap_w1 [Rho] {f : Value → Sem Value} (hf : ∀ x w, (f x).run P w = .ok (.map (some w.heap.size)) { w with heap := w.heap.push (.map #[] 0) }) : W1 P (fun _ => fMakeMap) f := by
  intro x h kk hy
  obtain ⟨c1, hc1, h5⟩ := new_yes hy
  refine ⟨_, _, h5, fun K μ w x' hr hx => ?_⟩
  refine ⟨Mp.to μ h.c ⟨w.heap.size, 0, 0⟩, _, _, hf x' w, Mp.to_ext _ (hr.fresh (Nat.le_refl _)), .m h.c _ (Mp.to_same _ _ _), ?_⟩
  exact hr.new (Nat.le_refl _) hc1 (.map #[] 0) _ 0 0 (Kp.above hr) ⟨#[], 0, by simp, rfl, (fun i p e hp => by simp at hp), (by simp [Born])⟩
theorem makeMapN_w1 [Rho] {t k e : Nat} (hu : P.underlying t = some (.map k e)) : W1 P fMakeMapN (fun x => Instr.makeMap t (some x)) := by
  intro x h kk hy
  obtain ⟨j, a, rfl, hy1⟩ := inv_n hy
  obtain ⟨v, h', h1, h2⟩ := makeMap_w1 (P := P) (f := fun _ => Instr.makeMap t none) (fun x w => by simp [Instr.makeMap]) (.n j a) h kk hy1
  refine ⟨v, h', h1, fun K μ w x' hr hx => ?_⟩
  obtain ⟨μ', v', w', q1, q2⟩ := h2 K μ w x' hr hx
  obtain ⟨i, rfl, _, rfl⟩ := hx.n_inv
  refine ⟨μ', v', w', ?_, q2⟩
  have q1' : (Instr.makeMap t none).run P w = .ok v' w' := q1
  simp [Instr.makeMap] at q1' ⊢
  simp [run_underlying hu, asInt, asIntOf, q1']
end
end
end Go.Proofs.YteefpemaeecicaaGreatDoor.Ev
end
section
open Go
namespace Go.Proofs.YteefpemaeecicaaGreatDoor.Ev
set_option linter.unusedVariables false
set_option linter.unusedSimpArgs false
set_option linter.constructorNameAsVariable false
noncomputable section
/-- Entries that belong together. -/
def ERs [Rho] (μ : Mp) (l : List (AV × AV)) (es : List MapEntry) : Prop := es.length = l.length ∧ ∀ (i : Nat) p e, l[i]? = some p → es[i]? = some e → VR μ p.1 e.key ∧ VR μ p.2 e.val
theorem ERs.cons_inv [Rho] {μ : Mp} {p : AV × AV} {l : List (AV × AV)} {es : List MapEntry} (h : ERs μ (p :: l) es) : ∃ e r, es = e :: r ∧ VR μ p.1 e.key ∧ VR μ p.2 e.val ∧ ERs μ l r := by
  cases es with
  | nil => have := h.1; simp at this
  | cons e r =>
    have h0 := h.2 0 p e rfl rfl
    exact ⟨e, r, rfl, h0.1, h0.2, by have := h.1; simpa using this, fun i p' e' hp he => h.2 (i + 1) p' e' (by simpa using hp) (by simpa using he)⟩
theorem ERs.cons [Rho] {μ : Mp} {p : AV × AV} {l : List (AV × AV)} {e : MapEntry} {es : List MapEntry} (h1 : VR μ p.1 e.key) (h2 : VR μ p.2 e.val) (h : ERs μ l es) : ERs μ (p :: l) (e :: es) := by
  refine ⟨by simp [h.1], fun i p' e' hp he => ?_⟩
  cases i with
  | zero => simp at hp he; subst hp; subst he; exact ⟨h1, h2⟩
  | succ i => exact h.2 i p' e' (by simpa using hp) (by simpa using he)
theorem ERs.nil_inv [Rho] {μ : Mp} {es : List MapEntry} (h : ERs μ [] es) : es = [] := by
  cases es with
  | nil => rfl
  | cons e r => have := h.1; simp at this
/-- A comparison of keys is the model's. -/
def KeyOk [Rho] (d : TypeDesc) (E : AV → AV → (Bool → Ans) → Ans) : Prop := ∀ x y g, E x y g = .yes → ∃ b, g b = .yes ∧ ∀ μ x' y', VR μ x x' → VR μ y y' → Instr.sameNow d x' y' = some b ∧ (b = true → x' = y' ∧ ∀ n, Instr.sameBits n x' x' = true)
theorem keyN_ok [Rho] (k : IntKind) : KeyOk (.int k) keyN := by
  intro x y g h
  obtain ⟨j, a, rfl, h1⟩ := inv_n h
  obtain ⟨j', b, rfl, h2⟩ := inv_n h1
  obtain ⟨e, h3⟩ := inv_if h2
  have e := beq_iff.1 e
  subst e
  refine ⟨_, h3, fun μ x' y' hx hy => ?_⟩
  obtain ⟨q, e1, ha, rfl⟩ := hx.n_inv
  subst e1
  obtain ⟨hb, rfl⟩ := hy.kn_inv
  refine ⟨?_, fun hh => ⟨by rw [beq_iff.1 hh], fun n => by cases n <;> simp [Instr.sameBits]⟩⟩
  show (if q = q then some (q.wrap (a : Int) == q.wrap (b : Int)) else none) = _
  rw [if_pos rfl]
  congr 1
  rw [Bool.eq_iff_iff, beq_iff_eq, beq_iff]
  exact ⟨fun e => wrap_inj ha hb e, fun e => by rw [e]⟩
theorem bstr_inj {a b : List Nat} (ha : ∀ n ∈ a, n < 256) (hb : ∀ n ∈ b, n < 256) (h : bstr a = bstr b) : a = b := by
  have := congrArg ByteArray.toList h
  rw [bstr_list, bstr_list] at this
  exact map_inj ha hb this
theorem keyS_ok [Rho] : KeyOk .string keyS := by
  intro x y g h
  obtain ⟨a, rfl, h1⟩ := inv_s h
  obtain ⟨b, rfl, h2⟩ := inv_s h1
  refine ⟨_, h2, fun μ x' y' hx hy => ?_⟩
  obtain ⟨rfl, ha⟩ := hx.s_inv
  obtain ⟨rfl, hb⟩ := hy.s_inv
  have e : (bstr a == bstr b) = eqL a b := by rw [beq_toListBytes, eqS a b ha hb]
  refine ⟨by show some (bstr a == bstr b) = _; rw [e], fun hh => ?_⟩
  have : a = b := by rw [eqL_eq] at hh; exact of_decide_eq_true hh
  subst this
  have hs : (bstr a == bstr a) = true := by rw [beq_toListBytes]; simp
  exact ⟨rfl, fun n => by cases n <;> exact hs⟩
section
variable {d : TypeDesc} {E : AV → AV → (Bool → Ans) → Ans}
theorem find_yes [Rho] (hE : KeyOk d E) {key : AV} {g : Option AV → Ans} : ∀ (l : List (AV × AV)), findK E l key g = .yes →
    ∃ o, g o = .yes ∧ ∀ μ k' es i, VR μ key k' → ERs μ l es → ∃ r, Instr.findNow d k' es i = some r ∧ (match o, r with | none, none => True | some v, some (_, c) => VR μ v c | _, _ => False)
  | [], h => ⟨none, h, fun μ k' es i hk he => by have := he.nil_inv; subst this; exact ⟨none, rfl, trivial⟩⟩
  | (x, v) :: l, h => by
    obtain ⟨b, h1, h2⟩ := hE key x (fun e => Bool.rec (motive := fun _ => Ans) (findK E l key g) (g (some v)) e) h
    cases b with
    | true =>
      refine ⟨some v, h1, fun μ k' es i hk he => ?_⟩
      obtain ⟨e, r, rfl, e1, e2, e3⟩ := he.cons_inv
      refine ⟨some (i, e.val), ?_, e2⟩
      rw [Instr.findNow, (h2 μ k' e.key hk e1).1]
    | false =>
      obtain ⟨o, h3, h4⟩ := find_yes hE l h1
      refine ⟨o, h3, fun μ k' es i hk he => ?_⟩
      obtain ⟨e, r, rfl, e1, e2, e3⟩ := he.cons_inv
      obtain ⟨r', r1, r2⟩ := h4 μ k' r (i + 1) hk e3
      refine ⟨r', ?_, r2⟩
      rw [Instr.findNow, (h2 μ k' e.key hk e1).1]
      exact r1
theorem upd_yes [Rho] (hE : KeyOk d E) {key v : AV} : ∀ (l : List (AV × AV)) {g : List (AV × AV) → Ans}, updK E l key v g = .yes →
    ∃ l', g l' = .yes ∧ ∀ μ k' v' es i, VR μ key k' → VR μ v v' → ERs μ l es →
      (Instr.findNow d k' es i = some none ∧ ∀ n, ERs μ l' (es ++ [⟨k', v', n⟩])) ∨
      (∃ j c e, Instr.findNow d k' es i = some (some (i + j, c)) ∧ es[j]? = some e ∧ e.key = k' ∧ (∀ n, Instr.sameBits n k' k' = true) ∧ ERs μ l' (es.set j { e with key := k', val := v' }))
  | [], g, h => ⟨[(key, v)], h, fun μ k' v' es i hk hv he => by
      have := he.nil_inv; subst this
      exact .inl ⟨rfl, fun n => ERs.cons hk hv he⟩⟩
  | (x, y) :: l, g, h => by
    obtain ⟨b, h1, h2⟩ := hE key x (fun e => Bool.rec (motive := fun _ => Ans) (updK E l key v fun l => g ((x, y) :: l)) (g ((key, v) :: l)) e) h
    cases b with
    | true =>
      refine ⟨(key, v) :: l, h1, fun μ k' v' es i hk hv he => ?_⟩
      obtain ⟨e, r, rfl, e1, e2, e3⟩ := he.cons_inv
      obtain ⟨k1, k2⟩ := h2 μ k' e.key hk e1
      obtain ⟨k2, k3⟩ := k2 rfl
      refine .inr ⟨0, e.val, e, ?_, rfl, k2.symm, k3, ERs.cons hk hv e3⟩
      rw [Instr.findNow, k1]
      rfl
    | false =>
      obtain ⟨l', h3, h4⟩ := upd_yes hE l (g := fun l => g ((x, y) :: l)) h1
      refine ⟨(x, y) :: l', h3, fun μ k' v' es i hk hv he => ?_⟩
      obtain ⟨e, r, rfl, e1, e2, e3⟩ := he.cons_inv
      obtain ⟨k1, k2⟩ := h2 μ k' e.key hk e1
      rcases h4 μ k' v' r (i + 1) hk hv e3 with ⟨q1, q2⟩ | ⟨j, c, e', q1, q2, q3, q4, q5⟩
      · refine .inl ⟨?_, fun n => ERs.cons e1 e2 (q2 n)⟩
        rw [Instr.findNow, k1]; exact q1
      · refine .inr ⟨j + 1, c, e', ?_, q2, q3, q4, ERs.cons e1 e2 q5⟩
        rw [Instr.findNow, k1, show i + (j + 1) = i + 1 + j by omega]; exact q1
end
section
variable {P : Program} {T : Ty}
/-- A key of a plain kind is one that may be looked for. -/
theorem run_checkKey {d : TypeDesc} {kt : TypeId} (hd : P.underlying kt = some d) (hp : (∃ k, d = .int k) ∨ d = .string) (e : Bool) (n : Nat) (v : Value) (w : World) : (Instr.checkKey e (n + 1) kt v).run P w = .ok () w := by
  rcases hp with ⟨k, rfl⟩ | rfl <;> simp [Instr.checkKey, run_underlying hd]
theorem run_findKey {d : TypeDesc} {kt : TypeId} {k : Value} {es : List MapEntry} {r : Option (Nat × Value)} (hd : P.underlying kt = some d) (h : Instr.findNow d k es 0 = some r) (w : World) : (Instr.findKey kt k es).run P w = .ok r w := by
  simp [Instr.findKey, run_underlying hd, h]
theorem ERs.of [Rho] {μ : Mp} {l : List (AV × AV)} {es : Array MapEntry} (h1 : es.size = l.length) (h2 : ∀ (i : Nat) p e, l[i]? = some p → es[i]? = some e → VR μ p.1 e.key ∧ VR μ p.2 e.val) : ERs μ l es.toList :=
  ⟨by simpa using h1, fun i p e hp he => h2 i p e hp (by simpa using he)⟩
theorem run_getObj {r c : Nat} {es : Array MapEntry} {w : World} (h : w.heap[r]? = some (.map es c)) : (getObj r).run P w = .ok (.map es c) w := by
  simp only [getObj, Sem.run, h]
theorem run_setObj {r c : Nat} {es : Array MapEntry} {o' : Obj} {w : World} (h : w.heap[r]? = some (.map es c)) : (setObj r o').run P w = .ok () (setR w r o') := by
  simp only [setObj, Sem.run, h, setR]
theorem lookup_l2 [Rho] {t kt e s f : Nat} {d : TypeDesc} {ok : Bool} {z : AV} {E : AV → AV → (Bool → Ans) → Ans} (hT : TyOk P T) (hu : P.underlying t = some (.map kt e)) (hd : P.underlying kt = some d) (hp : (∃ k, d = .int k) ∨ d = .string) (hE : KeyOk d E)
    (hz : zeroA T e = some z) (hs : shp T e = some (s, f)) : L2 P (fLookup E ok z) (fun x i => Instr.lookup t x i ok) := by
  intro x y h kk hy
  obtain ⟨i, v, hi, hv, hsz, hzE, hr0, hone⟩ := zero_spec hT hz hs
  have tup : ∀ μ a c b, VR μ a c → VR μ (bif_ ok (.tu [a, .b b]) a) (if ok = true then .tuple #[c, .bool b] else c) := by
    intro μ a c b h
    cases ok with
    | false => exact h
    | true => exact .tu _ _ rfl (fun j u q hu hq => by
        rcases j with _ | _ | j
        · simp at hu hq; subst hu; subst hq; exact h
        · simp at hu hq; subst hu; subst hq; exact .b b
        · simp at hu)
  rcases inv_m_ hy with ⟨rfl, h1⟩ | ⟨nm, rfl, h1⟩
  · refine ⟨_, h1, fun K μ w x' y' hr hx hy' => ⟨_, tup μ z v false (hr0 μ), ?_⟩⟩
    rw [m_none rfl hx]
    have e0 := run_findKey (P := P) (k := y') (es := []) (r := none) hd rfl w
    simp [Instr.lookup, run_underlying hu, run_checkKey hd hp true 9999, e0, run_zero hi hv]
  · obtain ⟨l, hm, h2⟩ := inv_mp h1
    obtain ⟨o, h3, h4⟩ := find_yes hE l h2
    cases o with
    | none =>
      refine ⟨_, h3, fun K μ w x' y' hr hx hy' => ?_⟩
      cases hx with | m _ bk hb =>
      obtain ⟨es, clock, k1, k2, k3, k4⟩ := hr.map hm hb
      obtain ⟨r, r1, r2⟩ := h4 μ y' es.toList 0 hy' (ERs.of k2 k3)
      cases r with
      | some q => exact r2.elim
      | none =>
        refine ⟨_, tup μ z v false (hr0 μ), ?_⟩
        simp [Instr.lookup, run_underlying hu, run_getObj k1, run_checkKey hd hp _ 9999, run_findKey hd r1, run_zero hi hv]
    | some a =>
      refine ⟨_, h3, fun K μ w x' y' hr hx hy' => ?_⟩
      cases hx with | m _ bk hb =>
      obtain ⟨es, clock, k1, k2, k3, k4⟩ := hr.map hm hb
      obtain ⟨r, r1, r2⟩ := h4 μ y' es.toList 0 hy' (ERs.of k2 k3)
      cases r with
      | none => exact r2.elim
      | some q =>
        obtain ⟨j, c⟩ := q
        refine ⟨_, tup μ a c true r2, ?_⟩
        simp [Instr.lookup, run_underlying hu, run_getObj k1, run_checkKey hd hp _ 9999, run_findKey hd r1]
theorem Born.push {es : Array MapEntry} {clock : Nat} (h : Born es clock) (k v : Value) : Born (es.push ⟨k, v, clock⟩) (clock + 1) := by
  obtain ⟨h1, h2⟩ := h
  refine ⟨fun x hx => ?_, ?_⟩
  · simp only [Array.toList_push, List.mem_append, List.mem_singleton] at hx
    rcases hx with hx | rfl
    · exact Nat.lt_succ_of_lt (h1 x hx)
    · exact Nat.lt_succ_self _
  · simp only [Array.toList_push, List.map_append, List.map_cons, List.map_nil]
    refine List.nodup_append.2 ⟨h2, by simp, fun a ha b hb => ?_⟩
    simp only [List.mem_singleton] at hb
    subst hb
    obtain ⟨x, hx, rfl⟩ := List.mem_map.1 ha
    exact Nat.ne_of_lt (h1 x hx)
theorem Born.modify {es : Array MapEntry} {clock : Nat} (h : Born es clock) (j : Nat) (f : MapEntry → MapEntry) (hf : ∀ e, (f e).born = e.born) : Born (es.modify j f) clock := by
  have hb : (es.modify j f).toList.map (·.born) = es.toList.map (·.born) := by
    apply List.ext_getElem?
    intro i
    simp only [List.getElem?_map, Array.getElem?_toList, Array.getElem?_modify]
    split
    · cases es[i]? with
      | none => rfl
      | some e => simp [hf]
    · rfl
  refine ⟨fun x hx => ?_, by rw [hb]; exact h.2⟩
  have hx' : x.born ∈ (es.modify j f).toList.map (·.born) := List.mem_map.2 ⟨x, hx, rfl⟩
  rw [hb] at hx'
  obtain ⟨y, hy, e⟩ := List.mem_map.1 hx'
  rw [← e]; exact h.1 y hy
theorem upd_w3 [Rho] {t kt e : Nat} {d : TypeDesc} {E : AV → AV → (Bool → Ans) → Ans} (hu : P.underlying t = some (.map kt e)) (hd : P.underlying kt = some d) (hp : (∃ k, d = .int k) ∨ d = .string) (hE : KeyOk d E) :
    W3 P (fMapUpdate E) (fun m k x => do Instr.mapUpdate t m k x; pure undef) := by
  intro x y z h kk hy
  rcases inv_m_ hy with ⟨rfl, h1⟩ | ⟨nm, rfl, h1⟩
  · cases h1
  · obtain ⟨l, hm, h2⟩ := inv_mp h1
    obtain ⟨l', h3, h4⟩ := upd_yes hE l h2
    have h5 : kk (.tu []) ⟨Mem.to nm h.m (.mp l'), h.c⟩ = .yes := h3
    refine ⟨_, _, h5, fun K μ w x' y' z' hr hx hy' hz => ?_⟩
    cases hx with | m _ bk hb =>
    obtain ⟨es, clock, k1, k2, k3, k4⟩ := hr.map hm hb
    have fin : ∀ es' clock', (Instr.mapUpdate t (.map (some bk.blk)) y' z').run P w = .ok () (setR w bk.blk (.map es' clock')) → ERs μ l' es'.toList → Born es' clock' →
        ∃ μ' v' w', (do Instr.mapUpdate t (.map (some bk.blk)) y' z'; pure undef : Sem Value).run P w = .ok v' w' ∧ Ext μ μ' ∧ VR μ' (.tu []) v' ∧ MR K μ' ⟨Mem.to nm h.m (.mp l'), h.c⟩ w' := by
      intro es' clock' hrun her hbo
      refine ⟨μ, undef, _, by rw [Sem.run_bind, hrun]; rfl, Ext.refl μ, VR.undef μ, ?_⟩
      exact hr.upd (by rw [hm]; intro e; cases e) hb rfl rfl rfl setR_size (fun a ha => setR_ne ha) ⟨es', clock', setR_same k1, by simpa using her.1, fun i p e hp he => her.2 i p e hp (by simpa using he), hbo⟩
    rcases h4 μ y' z' es.toList 0 hy' hz (ERs.of k2 k3) with ⟨q1, q2⟩ | ⟨j, c, e0, q1, q2, q3, q4, q5⟩
    · refine fin (es.push ⟨y', z', clock⟩) (clock + 1) ?_ (by simpa using q2 clock) (k4.push y' z')
      simp [Instr.mapUpdate, run_underlying hu, run_getObj k1, run_checkKey hd hp _ 9999, run_findKey hd q1, run_setObj k1]
    · rw [Nat.zero_add] at q1
      have q2' : es[j]? = some e0 := by simpa using q2
      have hj : j < es.size := by
        rcases Nat.lt_or_ge j es.size with hl | hl
        · exact hl
        · rw [Array.getElem?_eq_none hl] at q2'; cases q2'
      have hstay : (Instr.keyThatStays (((es[j]?).map (·.key)).getD y') y').run P w = .ok y' w := by
        rw [q2']
        simp only [Option.map_some, Option.getD_some, q3, Instr.keyThatStays]
        rw [q4 10000]
        rfl
      refine fin (es.modify j fun e => { e with key := y', val := z' }) clock ?_ ?_ (k4.modify j _ fun _ => rfl)
      · simp [Instr.mapUpdate, run_underlying hu, run_getObj k1, run_checkKey hd hp _ 9999, run_findKey hd q1]
        simp only [q2', Option.map_some, Option.getD_some] at hstay ⊢
        simp [hstay, run_setObj k1]
      · have e1 : (es.modify j fun e => { e with key := y', val := z' }).toList = es.toList.set j { e0 with key := y', val := z' } := by
          apply List.ext_getElem?
          intro i
          rw [Array.getElem?_toList, Array.getElem?_modify, List.getElem?_set]
          by_cases hij : j = i
          · subst hij; rw [if_pos rfl, if_pos rfl, q2']; simp [hj]
          · rw [if_neg hij, if_neg hij]; simp
        rw [e1]; exact q5
theorem lenM_l1 [Rho] {t k e : Nat} {ts : Array TypeId} {ty : TypeId} (h0 : ts[0]? = some t) (hu : P.underlying t = some (.map k e)) : L1 P fLenM (fun x => Builtin.len_ ts ty #[x]) := by
  intro x h kk hy
  rcases inv_m_ hy with ⟨rfl, h1⟩ | ⟨nm, rfl, h1⟩
  · refine ⟨_, h1, fun K μ w x' hr hx => ⟨_, .len (n := 0) (by omega), ?_⟩⟩
    rw [m_none rfl hx]
    simp [Builtin.len_, h0, run_underlying hu]
  · obtain ⟨l, hm, h2⟩ := inv_mp h1
    have h2 : lenK l (fun n => Bool.rec (motive := fun _ => Ans) Ans.no (kk (.n 3 n)) (Nat.ble n 1000000000)) = .yes := h2
    rw [lenK_eq] at h2
    obtain ⟨h3, h4⟩ := inv_if h2
    refine ⟨_, h4, fun K μ w x' hr hx => ?_⟩
    cases hx with | m _ bk hb =>
    obtain ⟨es, clock, k1, k2, k3, k4⟩ := hr.map hm hb
    refine ⟨_, .len (ble_iff.1 h3), ?_⟩
    simp [Builtin.len_, h0, run_underlying hu, run_getObj k1, k2]
end
end
end Go.Proofs.YteefpemaeecicaaGreatDoor.Ev
end
section
open Go
namespace Go.Proofs.YteefpemaeecicaaGreatDoor.Ev
set_option linter.unusedVariables false
set_option linter.unusedSimpArgs false
set_option linter.constructorNameAsVariable false
noncomputable section
/-- What is asked of a shape. -/
structure Shp (s f : Nat) : Prop where
  pos : 0 < s
  top : s ≤ top f
  four : f ≤ 4
  one : f = 0 → s = 1
/-- Elements and their cells. -/
structure Elts [Rho] (μ : Mp) (s f : Nat) (l : List AV) (cs : List Value) : Prop where
  len : cs.length = l.length * s
  form : ∀ (i : Nat) a, l[i]? = some a → isE f s a
  cell : ∀ j, j < l.length * s → ∃ c, cs[j]? = some c ∧ oneC c = true ∧ VR μ (cellOf f (l.getD (j / s) .u) (j % s)) c
theorem Elts.take [Rho] {μ : Mp} {s f : Nat} {l : List AV} {cs : List Value} (h : Elts μ s f l cs) (hs : 0 < s) (q : Nat) : Elts μ s f (l.take q) (cs.take ((l.take q).length * s)) := by
  have hl : (l.take q).length ≤ l.length := by simp; omega
  have hle : (l.take q).length * s ≤ l.length * s := Nat.mul_le_mul_right s hl
  refine ⟨by rw [List.length_take, h.len]; omega, fun i a ha => ?_, fun j hj => ?_⟩
  · rw [List.getElem?_take] at ha
    split at ha
    · exact h.form i a ha
    · cases ha
  · obtain ⟨c, h1, h2, h3⟩ := h.cell j (by omega)
    refine ⟨c, by rw [List.getElem?_take, if_pos hj]; exact h1, h2, ?_⟩
    have hq : j / s < (l.take q).length := by rw [Nat.div_lt_iff_lt_mul hs]; exact hj
    have e : (l.take q).getD (j / s) .u = l.getD (j / s) .u := by
      rw [List.getD_eq_getElem?_getD, List.getD_eq_getElem?_getD, List.getElem?_take, if_pos (by simp at hq; omega)]
    rw [e]; exact h3
theorem Elts.app [Rho] {μ : Mp} {s f : Nat} {l l' : List AV} {cs cs' : List Value} (h : Elts μ s f l cs) (h' : Elts μ s f l' cs') (hs : 0 < s) : Elts μ s f (l ++ l') (cs ++ cs') := by
  refine ⟨by simp [h.len, h'.len, Nat.add_mul], fun i a ha => ?_, fun j hj => ?_⟩
  · rw [List.getElem?_append] at ha
    split at ha
    · exact h.form i a ha
    · exact h'.form _ a ha
  · rw [List.length_append, Nat.add_mul] at hj
    by_cases hc : j < l.length * s
    · obtain ⟨c, h1, h2, h3⟩ := h.cell j hc
      have hq : j / s < l.length := by rw [Nat.div_lt_iff_lt_mul hs]; exact hc
      refine ⟨c, by rw [List.getElem?_append, if_pos (by rw [h.len]; exact hc)]; exact h1, h2, ?_⟩
      rw [List.getD_eq_getElem?_getD, List.getElem?_append, if_pos hq, ← List.getD_eq_getElem?_getD]; exact h3
    · obtain ⟨c, h1, h2, h3⟩ := h'.cell (j - l.length * s) (by omega)
      have e1 : j = (j - l.length * s) + s * l.length := by rw [Nat.mul_comm s]; omega
      have e2 : j / s = (j - l.length * s) / s + l.length := by
        conv => lhs; rw [e1]
        rw [Nat.add_mul_div_left _ _ hs]
      have e3 : j % s = (j - l.length * s) % s := by
        conv => lhs; rw [e1]
        rw [Nat.add_mul_mod_self_left]
      refine ⟨c, by rw [List.getElem?_append, if_neg (by rw [h.len]; exact hc), h.len]; exact h1, h2, ?_⟩
      rw [e3, e2, List.getD_eq_getElem?_getD, List.getElem?_append, if_neg (Nat.not_lt.2 (Nat.le_add_left _ _)), Nat.add_sub_cancel, ← List.getD_eq_getElem?_getD]
      exact h3
theorem Elts.bytes [Rho] {μ : Mp} {l : List Nat} (h : ∀ n ∈ l, n < 256) : Elts μ 1 0 (bytesA l) ((bstr l).data.toList.map fun b => Value.int .u8 b.toNat) := by
  have e : ∀ l : List Nat, bytesA l = l.map fun b => AV.n 4 b := by
    intro l
    induction l with
    | nil => rfl
    | cons a l ih => show AV.n 4 a :: bytesA l = _; rw [ih]; rfl
  rw [e]
  refine ⟨by simp [bstr], fun i a ha => rfl, fun j hj => ?_⟩
  simp only [List.length_map, Nat.mul_one] at hj
  have hl : l[j]? = some l[j] := List.getElem?_eq_getElem hj
  have hb := h l[j] (List.getElem_mem hj)
  refine ⟨.int .u8 ((UInt8.ofNat l[j]).toNat : Int), ?_, rfl, ?_⟩
  · simp [bstr, hl]
  · rw [Nat.div_one, List.getD_eq_getElem?_getD, List.getElem?_map, hl]
    have : (UInt8.ofNat l[j]).toNat = l[j] := by simp [UInt8.toNat_ofNat', Nat.mod_eq_of_lt hb]
    rw [this]
    have := VR.n (μ := μ) .u8 l[j] hb
    rw [wrap_un (k := .u8) rfl hb] at this
    exact this
theorem leavesK_eq {ke : Nat} {t : Tr AV ke} {q cnt : Nat} {kk : List AV → Ans} : leavesK ke t q cnt kk = kk ((List.range cnt).map fun i => Tr.get (α := AV) ke (paK ke (q + i)) t) := by
  unfold leavesK
  rw [nrec_acc (fun i => Tr.get (α := AV) ke (paK ke (q + i)) t) _ (fun i ih acc => Tr.g_eq ke (paK ke (Nat.add q i)) t _) kk cnt [], List.append_nil]
section
variable {P : Program} {T : Ty} {s f : Nat}
/-- What is read from a row. -/
theorem rdE_yes [Rho] (hS : Shp s f) {nm : Nm} {off cnt : Nat} {h : Hp} {kk : List AV → Ans} (hy : rdE s f nm off cnt h kk = .yes) :
    ∃ l, kk l = .yes ∧ l.length = cnt ∧ ∀ K μ w bk, MR K μ h w → μ nm = some bk → ∃ cs, Elts μ s f l cs ∧ ∀ (j : Nat) v, cs[j]? = some v → w.cell? ⟨bk.blk, off + j, none⟩ = some v := by
  obtain ⟨ty, op, n, es, form, ke, t, hm, h1⟩ := inv_cells hy
  obtain ⟨hn, h2⟩ := inv_if h1
  have hn : off + cnt * s ≤ n := ble_iff.1 hn
  rcases inv_bif h2 with ⟨e, h3⟩ | ⟨e, h3⟩
  · obtain ⟨e1, e2⟩ := and_eq.1 e
    have e1 := beq_iff.1 e1
    have e2 := beq_iff.1 e2
    obtain ⟨e3, h4⟩ := inv_if h3
    have e3 : off % es = 0 := beq_iff.1 e3
    rw [leavesK_eq] at h4
    refine ⟨_, h4, by simp, fun K μ w bk hr hb => ?_⟩
    obtain ⟨arr, fr, ha, hc⟩ := hr.cells hm hb
    obtain ⟨cs, k1, k2⟩ := hc.slice off (cnt * s) hn
    subst e1; subst e2
    have hp := hS.pos
    have dv : ∀ j, (off + j) / es = off / es + j / es ∧ (off + j) % es = j % es := fun j => by
      have h0 := Nat.div_add_mod off es
      rw [e3, Nat.add_zero] at h0
      constructor
      · conv => lhs; rw [← h0]
        rw [Nat.mul_add_div hp]
      · conv => lhs; rw [← h0]
        rw [Nat.mul_add_mod]
    refine ⟨cs, ⟨by simp [k1], fun i a ha' => ?_, fun j hj => ?_⟩, fun j v hv => by rw [cell_of_row w _ _ arr ty fr ha]; exact (k2 j v hv).1⟩
    · rw [List.getElem?_map] at ha'
      have hi : i < cnt := by
        rcases Nat.lt_or_ge i cnt with hl | hl
        · exact hl
        · rw [List.getElem?_eq_none (by simpa using hl)] at ha'; cases ha'
      rw [List.getElem?_range hi] at ha'
      cases ha'
      refine hc.hleaf (off / es + i) ?_
      have h0 := Nat.div_add_mod off es
      have h1 : (i + 1) * es ≤ cnt * es := Nat.mul_le_mul_right es hi
      rw [Nat.add_mul, Nat.mul_comm (off / es)]
      rw [Nat.succ_mul] at h1
      omega
    · simp only [List.length_map, List.length_range] at hj
      have hd : cs[j]? = some cs[j] := List.getElem?_eq_getElem (by omega)
      obtain ⟨g1, g2, g3⟩ := k2 j _ hd
      have hq : j / es < cnt := by rw [Nat.div_lt_iff_lt_mul hp]; exact hj
      refine ⟨cs[j], hd, g2, ?_⟩
      rw [List.getD_eq_getElem?_getD, List.getElem?_map, List.getElem?_range hq]
      rw [(dv j).1, (dv j).2] at g3
      exact g3
  · obtain ⟨e, h4⟩ := inv_if h3
    obtain ⟨e1, e3⟩ := and_eq.1 e
    obtain ⟨e1, e2⟩ := and_eq.1 e1
    have e1 := beq_iff.1 e1
    have e2 := beq_iff.1 e2
    have e3 : off % es + cnt ≤ es := ble_iff.1 e3
    subst e1; subst e2
    rw [Tr.g_eq] at h4
    have h5 := cellsK_yes h4
    refine ⟨_, h5, cellsOf_length, fun K μ w bk hr hb => ?_⟩
    obtain ⟨arr, fr, ha, hc⟩ := hr.cells hm hb
    obtain ⟨cs, k1, k2⟩ := hc.slice off (cnt * 1) hn
    refine ⟨cs, ⟨by rw [k1, cellsOf_length], fun i a ha' => rfl, fun j hj => ?_⟩, fun j v hv => by rw [cell_of_row w _ _ arr ty fr ha]; exact (k2 j v hv).1⟩
    rw [cellsOf_length, Nat.mul_one] at hj
    have hd : cs[j]? = some cs[j] := List.getElem?_eq_getElem (by omega)
    obtain ⟨g1, g2, g3⟩ := k2 j _ hd
    refine ⟨cs[j], hd, g2, ?_⟩
    obtain ⟨q1, q2⟩ := divmod (off := off) (i := j) (es := es) (by omega)
    rw [q1, q2] at g3
    have e5 : (cellsOf form (Tr.get (α := AV) ke (paK ke (off.div es)) t) (off.mod es) cnt).getD (j / 1) .u = cellOf form (Tr.get (α := AV) ke (paK ke (off / es)) t) (off % es + j) := by
      rw [Nat.div_one, List.getD_eq_getElem?_getD, cellsOf_get hj]; rfl
    rw [e5]
    exact g3
theorem wrL_eq {k : Nat} : ∀ (l : List AV) (i : Nat) (t : Tr AV k) (kk : Tr AV k → Ans), wrL k l i t kk = kk (aggV.wrD k l i t)
  | [], _, _, _ => rfl
  | a :: l, i, t, kk => by
    show Tr.s (α := AV) k (paK k i) t (fun _ c => c a) (fun t => wrL k l (Nat.succ i) t kk) = _
    rw [Tr.s_eq]
    show wrL k l (Nat.succ i) (Tr.set (α := AV) k (paK k i) t a) kk = _
    rw [wrL_eq l]
    show kk (aggV.wrD k l (i + 1) (Tr.set k (paK k i) t a)) = kk (aggV.wrD k l (i + 1) (tset k (paK k i) t a))
    rw [tset_eq]
/-- What is written into a row. -/
theorem wrE_yes [Rho] (hS : Shp s f) {nm : Nm} {off : Nat} {l : List AV} {h : Hp} {kk : Hp → Ans} (hl0 : 0 < l.length) (hy : wrE s f nm off l h kk = .yes) :
    ∃ h', kk h' = .yes ∧ ∀ K μ w bk cs, MR K μ h w → μ nm = some bk → Elts μ s f l cs → ∃ w', (storeCells ⟨bk.blk, off, none⟩ cs).run P w = .ok () w' ∧ MR K μ h' w' := by
  obtain ⟨m, c0⟩ := h
  obtain ⟨ty, op, n, es, form, ke, t, hm, h1⟩ := inv_cells hy
  rw [lenK_eq] at h1
  obtain ⟨hn, h2⟩ := inv_if h1
  have hn : off + l.length * s ≤ n := ble_iff.1 hn
  have fin : ∀ K μ w bk cs, MR K μ ⟨m, c0⟩ w → μ nm = some bk → Elts μ s f l cs → ∀ t' : Tr AV ke,
      (∀ arr fr, w.heap[bk.blk]? = some (.cells arr ty fr) → CellsR μ arr fr n es form ke t bk → CellsR μ (wrA arr off cs) fr n es form ke t' bk) →
      ∃ w', (storeCells ⟨bk.blk, off, none⟩ cs).run P w = .ok () w' ∧ MR K μ ⟨Mem.to nm m (.cells ty op n es form ke t'), c0⟩ w' := by
    intro K μ w bk cs hr hb he t' hw
    obtain ⟨arr, fr, ha, hc⟩ := hr.cells hm hb
    have hrun := run_storeCells (P := P) off cs w arr 0 ha (by have := hc.hn; have := hc.hsize; have := he.len; omega) (fun v hv => by
      obtain ⟨j, hj⟩ := List.mem_iff_getElem?.1 hv
      have hlt : j < cs.length := by
        rcases Nat.lt_or_ge j cs.length with hl | hl
        · exact hl
        · rw [List.getElem?_eq_none hl] at hj; cases hj
      obtain ⟨d, d1, d2, _⟩ := he.cell j (by have := he.len; omega)
      rw [hj] at d1; cases d1; exact d2) (fun j a b => by rw [hc.hsize]; exact hc.froz j a b)
    rw [Nat.add_zero] at hrun
    exact ⟨_, hrun, hr.write hb hm ha (hw arr fr ha hc)⟩
  rcases inv_bif h2 with ⟨e, h3⟩ | ⟨e, h3⟩
  · obtain ⟨e1, e2⟩ := and_eq.1 e
    have e1 := beq_iff.1 e1
    have e2 := beq_iff.1 e2
    obtain ⟨e3, h4⟩ := inv_if h3
    have e3 : off % es = 0 := beq_iff.1 e3
    rw [wrL_eq] at h4
    refine ⟨_, h4, fun K μ w bk cs hr hb he => fin K μ w bk cs hr hb he _ fun arr fr ha hc => ?_⟩
    subst e1; subst e2
    have hp := hS.pos
    have h0 := Nat.div_add_mod off es
    rw [e3, Nat.add_zero, Nat.mul_comm] at h0
    have hle : off / es + l.length ≤ 8 ^ ke := by
      have : (off / es + l.length) * es ≤ es * 8 ^ ke := by rw [Nat.add_mul]; have := hc.hnk; omega
      rw [Nat.mul_comm es] at this
      exact Nat.le_of_mul_le_mul_right this hp
    have get : ∀ q, q < 8 ^ ke → Tr.get (α := AV) ke (paK ke q) (aggV.wrD ke l (off.div es) t) = if off / es ≤ q ∧ q < off / es + l.length then l.getD (q - off / es) .u else Tr.get (α := AV) ke (paK ke q) t := fun q hq => wrD_get ke l (off / es) t q hq hle
    refine hc.write (by rw [he.len]; exact hn) (fun q hq => ?_) (fun i hi hne => ?_) (fun i hi => ?_)
    · have hq2 : q < 8 ^ ke := by have := hc.q_lt hq; rwa [Nat.mul_div_cancel _ hp] at this
      rw [get q hq2]
      split
      · rename_i hh
        have hd : l[q - off / es]? = some l[q - off / es] := List.getElem?_eq_getElem (by omega)
        rw [List.getD_eq_getElem?_getD, hd]
        exact he.form _ _ hd
      · exact hc.hleaf q hq
    · rw [he.len] at hne
      rw [get _ (hc.q_lt hi), if_neg]
      intro hh
      apply hne
      have h1 := Nat.div_add_mod i es
      have h2 : i % es < es := Nat.mod_lt _ hp
      have h3 : off / es * es ≤ i / es * es := Nat.mul_le_mul_right es hh.1
      have h4 : (i / es + 1) * es ≤ (off / es + l.length) * es := Nat.mul_le_mul_right es hh.2
      rw [Nat.mul_comm es] at h1
      rw [Nat.add_mul, Nat.add_mul] at h4
      omega
    · rw [he.len] at hi
      obtain ⟨d, d1, d2, d3⟩ := he.cell i hi
      refine ⟨d, d1, d2, ?_⟩
      have hq : i / es < l.length := by rw [Nat.div_lt_iff_lt_mul hp]; exact hi
      have q1 : (off + i) / es = off / es + i / es := by
        conv => lhs; rw [← h0, Nat.mul_comm]
        rw [Nat.mul_add_div hp]
      have q2 : (off + i) % es = i % es := by
        conv => lhs; rw [← h0, Nat.mul_comm]
        rw [Nat.mul_add_mod]
      rw [q1, q2, get (off / es + i / es) (Nat.lt_of_lt_of_le (Nat.add_lt_add_left hq _) hle), if_pos ⟨Nat.le_add_right _ _, Nat.add_lt_add_left hq _⟩, Nat.add_sub_cancel_left]
      exact d3
  · obtain ⟨e, h4⟩ := inv_if h3
    obtain ⟨e1, e3⟩ := and_eq.1 e
    obtain ⟨e1, e2⟩ := and_eq.1 e1
    have e1 := beq_iff.1 e1
    have e2 := beq_iff.1 e2
    have e3 : off % es + l.length ≤ es := ble_iff.1 e3
    subst e1; subst e2
    rw [Tr.s_eq] at h4
    have h5 := setCellsK_yes _ _ _ h4
    refine ⟨_, h5, fun K μ w bk cs hr hb he => fin K μ w bk cs hr hb he _ fun arr fr ha hc => ?_⟩
    have hle := hc.hleaf (off / es) (hc.q_mul (by omega))
    have hq := hc.q_lt (i := off) (by omega)
    have ht := hc.htop
    have hcell : ∀ i, i < es → cellOf form (setCells form l (off % es) (Tr.get (α := AV) ke (paK ke (off / es)) t)) i = if off % es ≤ i ∧ i < off % es + l.length then l.getD (i - off % es) .u else cellOf form (Tr.get (α := AV) ke (paK ke (off / es)) t) i := fun i hi => cellOf_setCells l (off % es) i _ hle (by omega) (by omega)
    refine hc.write (by rw [he.len]; exact hn) (fun q hq' => ?_) (fun i hi hne => ?_) (fun i hi => ?_)
    · have hq2 : q < 8 ^ ke := by have := hc.q_lt hq'; rwa [Nat.mul_div_cancel _ hc.hpos] at this
      show isE form es (Tr.get (α := AV) ke (paK ke q) (Tr.set (α := AV) ke (paK ke (off / es)) t (setCells form l (off % es) (Tr.get (α := AV) ke (paK ke (off / es)) t))))
      rw [Tr.get_set ke t _ hq2 hq]
      split
      · exact isE_setCells _ _ _ hle
      · exact hc.hleaf q hq'
    · rw [he.len, Nat.mul_one] at hne
      show cellOf form (Tr.get (α := AV) ke (paK ke (i / es)) (Tr.set (α := AV) ke (paK ke (off / es)) t (setCells form l (off % es) (Tr.get (α := AV) ke (paK ke (off / es)) t)))) (i % es) = _
      rw [Tr.get_set ke t _ (hc.q_lt hi) hq]
      split
      · rename_i e
        rw [hcell _ (Nat.mod_lt _ hc.hpos), if_neg, e]
        intro hh
        apply hne
        have a := Nat.div_add_mod i es
        have b := Nat.div_add_mod off es
        rw [e] at a
        omega
      · rfl
    · rw [he.len, Nat.mul_one] at hi
      obtain ⟨d, d1, d2, d3⟩ := he.cell i (by rw [Nat.mul_one]; exact hi)
      refine ⟨d, d1, d2, ?_⟩
      obtain ⟨q1, q2⟩ := divmod (off := off) (i := i) (es := es) (by omega)
      show VR μ (cellOf form (Tr.get (α := AV) ke (paK ke ((off + i) / es)) (Tr.set (α := AV) ke (paK ke (off / es)) t (setCells form l (off % es) (Tr.get (α := AV) ke (paK ke (off / es)) t)))) ((off + i) % es)) d
      rw [q1, q2, Tr.get_set ke t _ hq hq, if_pos rfl, hcell _ (by omega), if_pos (by omega), Nat.add_sub_cancel_left]
      rw [Nat.div_one] at d3
      exact d3
end
end
end Go.Proofs.YteefpemaeecicaaGreatDoor.Ev
end
section
open Go
namespace Go.Proofs.YteefpemaeecicaaGreatDoor.Ev
set_option linter.unusedVariables false
set_option linter.unusedSimpArgs false
set_option linter.constructorNameAsVariable false
noncomputable section
def cntOf (y : AV) : Nat := match y with | .sl _ _ len _ => len | .so _ _ len => len | .s l => l.length | .y _ (.op _ _ (.lit n) _) => n | _ => 0
theorem cnt_yes {y : AV} {g : Nat → Ans} (h : cntK y g = .yes) : g (cntOf y) = .yes ∧ (y = .sl0 ∨ y = .se ∨ (∃ nm off len cap, y = .sl nm off len cap) ∨ (∃ nm off len, y = .so nm off len) ∨ (∃ l, y = .s l) ∨ ∃ j c w n r, y = .y j (.op c w (.lit n) r) ∧ 16 ≤ j ∧ j ≤ 23 ∧ n ≤ 1000000000) := by
  rcases inv_seq_ h with ⟨rfl, h⟩ | ⟨rfl, h⟩ | ⟨a, b, c, d, rfl, h⟩ | ⟨a, b, c, rfl, h⟩ | ⟨l, rfl, h⟩ | ⟨j, e, rfl, h5⟩
  · exact ⟨h, .inl rfl⟩
  · exact ⟨h, .inr (.inl rfl)⟩
  · exact ⟨h, .inr (.inr (.inl ⟨a, b, c, d, rfl⟩))⟩
  · exact ⟨h, .inr (.inr (.inr (.inl ⟨a, b, c, rfl⟩)))⟩
  · have h : lenK l g = .yes := h
    rw [lenK_eq] at h
    exact ⟨h, .inr (.inr (.inr (.inr (.inl ⟨l, rfl⟩))))⟩
  · obtain ⟨j1, j2, c, w, le, r, rfl, h6⟩ := exRow_yes h5
    obtain ⟨n, rfl, hn, h7⟩ := exLit_yes h6
    exact ⟨h7, .inr (.inr (.inr (.inr (.inr ⟨j, c, w, n, r, rfl, j1, j2, hn⟩))))⟩
section
variable {P : Program} {T : Ty} {s f : Nat}
theorem loadCells_zero (a : Addr) (w : World) : (loadCells a 0).run P w = .ok #[] w := rfl
theorem len_of [Rho] {y : AV} {g : Nat → Ans} (h : cntK y g = .yes) {μ : Mp} {y' : Value} (hy : VR μ y y') (s : Nat) (w : World) : (Builtin.lenOf y').run P w = .ok (cntOf y) w ∧ (Builtin.firstCells s 0 y').run P w = .ok #[] w := by
  rcases (cnt_yes h).2 with rfl | rfl | ⟨nm, off, len, cap, rfl⟩ | ⟨nm, off, len, rfl⟩ | ⟨l, rfl⟩ | ⟨j, c, w0, n, r, rfl, j1, j2, hn⟩
  · rw [hy.sl0_inv]; exact ⟨rfl, rfl⟩
  · obtain ⟨a, c, rfl⟩ := hy.se_inv
    refine ⟨rfl, ?_⟩
    simp [Builtin.firstCells, loadCells_zero]
  · obtain ⟨bk, _, _, _, rfl⟩ := hy.sl_inv
    refine ⟨rfl, ?_⟩
    simp [Builtin.firstCells, loadCells_zero]
  · obtain ⟨bk, cap, _, _, _, _, rfl⟩ := hy.so_inv
    refine ⟨rfl, ?_⟩
    simp [Builtin.firstCells, loadCells_zero]
  · obtain ⟨rfl, hl⟩ := hy.s_inv
    refine ⟨by simp [Builtin.lenOf, bstr_size, cntOf], ?_⟩
    have : (bstr l).extract 0 0 = ByteArray.empty := by rw [bstr_extract]; simp [bstr]; rfl
    have e0 : ByteArray.empty.data = #[] := rfl
    simp only [Builtin.firstCells, this, Sem.run_pure, e0, Array.map_empty]
  · obtain ⟨k, a, n', cap, _, rfl, _, _, _, _, q5⟩ := hy.yl_inv j1 j2
    have q5 : n % 18446744073709551616 = n' := q5
    rw [Nat.mod_eq_of_lt (by omega)] at q5
    subst q5
    refine ⟨rfl, ?_⟩
    cases a <;> simp [Builtin.firstCells, loadCells_zero]
/-- The first of a row's cells. -/
theorem firstCells_row {nm : Nm} {off len cap q s : Nat} {bk : Bk} {cs : List Value} {w w' : World} (hc : ∀ (j : Nat) v, cs[j]? = some v → w.cell? ⟨bk.blk, off + j, none⟩ = some v) (hw : w'.heap = w.heap) (hq : q * s ≤ cs.length) :
    (Builtin.firstCells s q (.slice (some ⟨bk.blk, off, none⟩) len cap)).run P w' = .ok (cs.take (q * s)).toArray w' := by
  have h := loadCells_list (P := P) (w := w') (g := bk.blk) (off := off) (cs.take (q * s)) (fun j v hv => by
    rw [List.getElem?_take] at hv
    split at hv
    · have := hc j v hv
      simpa [World.cell?, hw] using this
    · cases hv)
  rw [List.length_take, Nat.min_eq_left hq] at h
  simp only [Builtin.firstCells, h]
theorem elems_yes [Rho] (hS : Shp s f) {y : AV} {h : Hp} {kk : List AV → Ans} (hy : elemsK s f y h kk = .yes) :
    ∃ l, kk l = .yes ∧ l.length = cntOf y ∧ ∀ K μ w y', MR K μ h w → VR μ y y' → ∃ cs, Elts μ s f l cs ∧ ∀ w', w'.heap = w.heap → ∀ q, q ≤ cntOf y → (Builtin.firstCells s q y').run P w' = .ok (cs.take (q * s)).toArray w' := by
  have nil : ∀ μ, Elts μ s f [] [] := fun μ => ⟨by simp, fun i a ha => by simp at ha, fun j hj => by simp at hj⟩
  rcases inv_seq_ hy with ⟨rfl, h1⟩ | ⟨rfl, h1⟩ | ⟨a, b, c, d, rfl, h1⟩ | ⟨a, b, c, rfl, h1⟩ | ⟨l, rfl, h1⟩ | ⟨j, e0, rfl, h5⟩
  · refine ⟨[], h1, rfl, fun K μ w y' hr hv => ⟨[], nil μ, fun w' hw q hq => ?_⟩⟩
    rw [hv.sl0_inv]
    simp [Builtin.firstCells]
  · refine ⟨[], h1, rfl, fun K μ w y' hr hv => ⟨[], nil μ, fun w' hw q hq => ?_⟩⟩
    obtain ⟨a, c, rfl⟩ := hv.se_inv
    have : q = 0 := by have hq : q ≤ 0 := hq; omega
    subst this
    simp [Builtin.firstCells, loadCells_zero]
  · obtain ⟨l, h2, h3, h4⟩ := rdE_yes hS h1
    refine ⟨l, h2, h3, fun K μ w y' hr hv => ?_⟩
    obtain ⟨bk, hb, _, _, rfl⟩ := hv.sl_inv
    obtain ⟨cs, k1, k2⟩ := h4 K μ w bk hr hb
    refine ⟨cs, k1, fun w' hw q hq => firstCells_row (nm := a) k2 hw ?_⟩
    rw [k1.len, h3]
    exact Nat.mul_le_mul_right s hq
  · obtain ⟨l, h2, h3, h4⟩ := rdE_yes hS h1
    refine ⟨l, h2, h3, fun K μ w y' hr hv => ?_⟩
    obtain ⟨bk, cap, hb, _, _, _, rfl⟩ := hv.so_inv
    obtain ⟨cs, k1, k2⟩ := h4 K μ w bk hr hb
    refine ⟨cs, k1, fun w' hw q hq => firstCells_row (nm := a) k2 hw ?_⟩
    rw [k1.len, h3]
    exact Nat.mul_le_mul_right s hq
  · obtain ⟨e, h2⟩ := inv_if h1
    obtain ⟨e1, e2⟩ := and_eq.1 e
    have e1 := beq_iff.1 e1
    have e2 := beq_iff.1 e2
    subst e1; subst e2
    have hbl : ∀ l : List Nat, (bytesA l).length = l.length := fun l => by
      induction l with
      | nil => rfl
      | cons a l ih => show (AV.n 4 a :: bytesA l).length = _; simp [ih]
    refine ⟨_, h2, hbl l, fun K μ w y' hr hv => ?_⟩
    obtain ⟨rfl, hl⟩ := hv.s_inv
    refine ⟨_, Elts.bytes hl, fun w' hw q hq => ?_⟩
    simp only [Builtin.firstCells, Sem.run_pure, bstr_extract]
    congr 1
    apply Array.toList_inj.1
    simp [bstr, List.map_take]
  · obtain ⟨j1, j2, c, w0, le, r, rfl, h6⟩ := exRow_yes h5
    obtain ⟨n, rfl, hn, h7⟩ := exLit_yes h6
    rw [lenK_eq] at h7
    obtain ⟨e, h8⟩ := inv_if h7
    obtain ⟨e1, e2⟩ := and_eq.1 e
    obtain ⟨e2, e3⟩ := and_eq.1 e2
    have e1 := beq_iff.1 e1
    have e2 := beq_iff.1 e2
    have e3 := beq_iff.1 e3
    subst e1; subst e2; subst e3
    rw [rowA_eq] at h8
    refine ⟨_, h8, by rw [List.length_map]; rfl, fun K μ w y' hr hv => ?_⟩
    obtain ⟨k, ad, n', cap, rfl, rfl, p1, p2, p3, p4, p5⟩ := hv.yl_inv j1 j2
    have hlen : n' = (exList r).length := by
      have p5 : (exList r).length % 18446744073709551616 = n' := p5
      rw [Nat.mod_eq_of_lt (by omega)] at p5
      exact p5.symm
    let cs : List Value := (exList r).map fun x => Value.int k (k.wrap (den x % km k : Nat))
    have hcs : ∀ (i : Nat) (x : Ex), (exList r)[i]? = some x → cs[i]? = some (Value.int k (k.wrap (den x % km k : Nat))) := fun i x hx => by
      show ((exList r).map _)[i]? = _
      rw [List.getElem?_map, hx]; rfl
    refine ⟨cs, ⟨by simp [cs], fun i a ha => rfl, fun j hj => ?_⟩, fun w' hw q hq => ?_⟩
    · have hj' : j < (exList r).length := by simpa using hj
      obtain ⟨x, hx⟩ : ∃ x, (exList r)[j]? = some x := ⟨_, List.getElem?_eq_getElem hj'⟩
      refine ⟨_, hcs j x hx, rfl, ?_⟩
      have : ((exList r).map fun a => AV.y (Nat.sub (16 + kc k) 16) a).getD (j / 1) .u = .y (kc k) x := by
        rw [Nat.div_one, List.getD_eq_getElem?_getD, List.getElem?_map, hx, show Nat.sub (16 + kc k) 16 = kc k from Nat.add_sub_cancel_left ..]; rfl
      rw [this]
      exact .y k x
    · rw [Nat.mul_one]
      have hq : q ≤ (exList r).length := hq
      rcases p1 with p1 | ⟨b, off, arr, ty, fr, rfl, q2, q3⟩
      · have h0 : exList r = [] := by simpa using p1
        have : q = 0 := by rw [h0] at hq; simpa using hq
        subst this
        cases ad <;> simp [Builtin.firstCells, loadCells_zero]
      · have hh := hr.keep _ _ (hr.inp _ _ q2).2
        have hc : ∀ (i : Nat) v, cs[i]? = some v → w.cell? ⟨b, off + i, none⟩ = some v := fun i v hv => by
          rw [cell_of_row w _ _ arr ty fr hh]
          have hi : i < (exList r).length := by
            have := (List.getElem?_eq_some_iff.1 hv).1
            simpa [cs] using this
          obtain ⟨x, hx⟩ : ∃ x, (exList r)[i]? = some x := ⟨_, List.getElem?_eq_getElem hi⟩
          rw [hcs i x hx] at hv
          rw [← hv]
          exact q3 i _ (by rw [List.getElem?_map, hx]; rfl)
        have := firstCells_row (P := P) (nm := ⟨.d0, .d0, .d0⟩) (len := n') (cap := cap) (q := q) (s := 1) (bk := ⟨b, 0, 1⟩) (off := off) (cs := cs) hc hw (by simpa [cs] using hq)
        rw [Nat.mul_one] at this
        exact this
/-- A row that is laid anew. -/
theorem newE_yes [Rho] (hS : Shp s f) {ty : Nat} {l : List AV} {h : Hp} {g : Nm → Hp → Ans} (hl : l.length ≤ 262144) (hy : newE ty s f l h g = .yes) :
    ∃ c' t, h.c.rank < c'.rank ∧ g h.c ⟨Mem.to h.c h.m (.cells ty true (l.length * s) s f (dep l.length) t), c'⟩ = .yes ∧
      ∀ μ cs rest b, Elts μ s f l cs → CellsR μ (cs ++ rest).toArray (0, 0) (l.length * s) s f (dep l.length) t ⟨b, (cs ++ rest).length, s⟩ := by
  unfold newE at hy
  rw [lenK_eq, natK_eq, natK_eq, wrL_eq] at hy
  obtain ⟨c', h1, h2⟩ := new_yes hy
  refine ⟨c', _, h1, h2, fun μ cs rest b he => ?_⟩
  have hdep : l.length ≤ 8 ^ dep l.length := by
    rw [dep_eq]
    split
    · omega
    split
    · omega
    split
    · omega
    split
    · omega
    split
    · omega
    split
    · omega
    · omega
  have hp := hS.pos
  have get : ∀ q, q < l.length → Tr.get (α := AV) (dep l.length) (paK (dep l.length) q) (aggV.wrD (dep l.length) l 0 (fillT .u (dep l.length))) = l.getD q .u := fun q hq => by
    rw [wrD_get (dep l.length) l 0 _ q (by omega) (by omega), if_pos (by omega), Nat.sub_zero]
  refine { hsize := by simp, hes := rfl, hpos := hp, hform := hS.four, htop := hS.top, hform0 := hS.one, hn := by show l.length * s ≤ (cs ++ rest).length; rw [List.length_append, he.len]; omega, hnk := by rw [Nat.mul_comm s]; exact Nat.mul_le_mul_right s hdep, hfroz := .inl rfl, hleaf := fun q hq => ?_, hcell := fun i hi => ?_ }
  · have hq2 : q < l.length := Nat.lt_of_mul_lt_mul_right hq
    rw [get q hq2, List.getD_eq_getElem?_getD, List.getElem?_eq_getElem hq2]
    exact he.form q _ (List.getElem?_eq_getElem hq2)
  · obtain ⟨d, d1, d2, d3⟩ := he.cell i hi
    have hq : i / s < l.length := by rw [Nat.div_lt_iff_lt_mul hp]; exact hi
    refine ⟨d, ?_, d2, by rw [get _ hq]; exact d3⟩
    have : i < cs.length := by rw [he.len]; exact hi
    rw [List.getElem?_toArray, List.getElem?_append, if_pos this, d1]
/-! ### What the model does -/
theorem run_app_fit {ts : Array TypeId} {ty t u e : TypeId} {i : TypeInfo} {d : TypeDesc} (h0 : ts[0]? = some t) (h1 : ts[1]? = some u) (ht : P.underlying t = some (.slice e)) (hu : P.underlying u = some d) (hd : ∀ k, d ≠ .int k) (hi : P.info? e = some i)
    {base : Option Addr} {sLen sCap n : Nat} {y' : Value} {w w' : World} {cs : Array Value} (hl : (Builtin.lenOf y').run P w = .ok n w) (hf : (Builtin.firstCells i.size n y').run P w = .ok cs w) (hfit : sLen + n ≤ sCap)
    (hst : ∀ a, base = some a → (storeCells (a.add (sLen * i.size)) cs.toList).run P w = .ok () w') (hno : base = none → w' = w) :
    (Builtin.append_ ts ty #[.slice base sLen sCap, y']).run P w = .ok (.slice base (sLen + n) sCap) w' := by
  cases base with
  | none =>
    have := hno rfl
    subst this
    unfold Builtin.append_
    simp only [h0, h1, run_underlying ht, run_underlying hu, Sem.run_bind, Result.andThen_ok, run_size hi, List.getElem?_toArray, List.getElem?_cons_zero, List.getElem?_cons_succ, Sem.run_pure]
    cases d <;> first
      | exact (hd _ rfl).elim
      | simp [hl, hf, hfit]
  | some a =>
    have hs := hst a rfl
    unfold Builtin.append_
    simp only [h0, h1, run_underlying ht, run_underlying hu, Sem.run_bind, Result.andThen_ok, run_size hi, List.getElem?_toArray, List.getElem?_cons_zero, List.getElem?_cons_succ, Sem.run_pure]
    cases d <;> first
      | exact (hd _ rfl).elim
      | simp [hl, hf, hfit, hs]
theorem run_app_grow {ts : Array TypeId} {ty t u e : TypeId} {i : TypeInfo} {d : TypeDesc} {z : Value} (h0 : ts[0]? = some t) (h1 : ts[1]? = some u) (ht : P.underlying t = some (.slice e)) (hu : P.underlying u = some d) (hd : ∀ k, d ≠ .int k) (hi : P.info? e = some i) (hz : i.zero = some z) (hb : i.bytes ≤ 1000000)
    {base : Option Addr} {sLen sCap n : Nat} {y' : Value} {w : World} {old cs : Array Value} (hl : (Builtin.lenOf y').run P w = .ok n w) (ho : (Builtin.firstCells i.size sLen (.slice base sLen sCap)).run P w.drew = .ok old w.drew) (hf : (Builtin.firstCells i.size n y').run P w.drew = .ok cs w.drew)
    (hg : sCap < sLen + n) (hn : sLen + n ≤ 262144) :
    (Builtin.append_ ts ty #[.slice base sLen sCap, y']).run P w = .ok (.slice (some ⟨w.heap.size, 0, none⟩) (sLen + n) (grownCap w (sLen + n) sCap e))
      (w.drew.alloc (.cells (old ++ cs ++ Builtin.zeroCells z.cells (grownCap w (sLen + n) sCap e - (sLen + n))) e)) := by
  have hn1 : ¬ (sLen + n ≤ sCap) := by omega
  have h63' : ¬ (9223372036854775807 < ((sLen : Int) + (n : Int))) := by omega
  have hfit : Builtin.nextslicecap (sLen + n) sCap * i.bytes ≤ 281474976710656 := growslice_fits hg (by have : (sLen + n) * i.bytes ≤ 262144 * 1000000 := Nat.mul_le_mul hn hb; omega)
  have h48' : ¬ (281474976710656 < Builtin.nextslicecap (sLen + n) sCap * i.bytes) := by omega
  unfold Builtin.append_
  simp only [h0, h1, run_underlying ht, run_underlying hu, Sem.run_bind, Result.andThen_ok, run_size hi, List.getElem?_toArray, List.getElem?_cons_zero, List.getElem?_cons_succ, Sem.run_pure]
  cases d <;> first
    | exact (hd _ rfl).elim
    | (simp [hl, hf, ho, hn1, h63', h48', Question.forced, run_info hi, run_zero hi hz, newRow, grownCap, typeInfo, zeroValue, hi, hz]; done)
    | (simp [hl, hf, ho, hn1, h63', h48', Question.forced, run_info hi, run_zero hi hz, newRow, grownCap, typeInfo, zeroValue, hi, hz]; rfl)
end
end
end Go.Proofs.YteefpemaeecicaaGreatDoor.Ev
end
section
open Go
namespace Go.Proofs.YteefpemaeecicaaGreatDoor.Ev
set_option linter.unusedVariables false
set_option linter.unusedSimpArgs false
set_option linter.constructorNameAsVariable false
noncomputable section
/-- A block that no name has any more gets a new one. -/
theorem MR.adopt [Rho] {K : Kp} {μ : Mp} {h : Hp} {w w' : World} (r : MR K μ h w) {c' : Nm} (hc' : h.c.rank < c'.rank) (g size es : Nat) (b : Blk) (hg : g < w.heap.size) (hF : K.F g = none)
    (hno : ∀ a bk, Mem.at a h.m ≠ .no → μ a = some bk → bk.blk ≠ g) (ho : w'.os = w.os) (ht : w'.tape = w.tape) (hu : w'.output = w.output) (hs : w'.heap.size = w.heap.size) (hh : ∀ x, x ≠ g → w'.heap[x]? = w.heap[x]?)
    (hb : BlkR (Mp.to μ h.c ⟨g, size, es⟩) w' b ⟨g, size, es⟩) : MR K (Mp.to μ h.c ⟨g, size, es⟩) ⟨Mem.to h.c h.m b, c'⟩ w' := by
  have hnone := r.fresh (c := h.c) (Nat.le_refl _)
  have hx := Mp.to_ext ⟨g, size, es⟩ hnone
  have hlive : ∀ a, a ≠ h.c → Mem.at a (Mem.to h.c h.m b) ≠ .no → Mem.at a h.m ≠ .no := fun a ha hh => by rwa [Mem.at_to, if_neg ha] at hh
  refine { os := ho.trans r.os, tape := ht.trans r.tape, output := hu.trans r.output, keep := fun x o hx' => ?_, dom := fun a bk e => ?_, live := fun a ha => ?_, res := fun a ha => have h1 := r.res a ha; have h2 : a ≠ h.c := fun e => (by subst e; omega); ⟨(by rw [Mp.to_ne μ _ h2]; exact h1.1), (by show a.rank < c'.rank; omega)⟩, low := (by rw [hs]; exact r.low), inp := r.inp, inj := fun a a' b1 b2 ha ha' e e' hbk => ?_ }
  · rw [hh x (fun e => by subst e; rw [hF] at hx'; cases hx')]
    exact r.keep x o hx'
  · by_cases q : a = h.c
    · subst q
      rw [Mp.to_same] at e; cases e
      exact ⟨by rw [hs]; exact hg, hc'⟩
    · rw [Mp.to_ne μ _ q] at e
      obtain ⟨h1, h2⟩ := r.dom a bk e
      exact ⟨by rw [hs]; exact h1, by show a.rank < c'.rank; omega⟩
  · by_cases q : a = h.c
    · subst q
      rw [Mem.at_to, if_pos rfl]
      exact ⟨_, Mp.to_same _ _ _, hb, hF⟩
    · have ha' := hlive a q ha
      obtain ⟨bk, h1, h2, h3⟩ := r.live a ha'
      rw [Mem.at_to, if_neg q]
      exact ⟨bk, by rw [Mp.to_ne μ _ q]; exact h1, h2.ext hx (hh _ (hno a bk ha' h1)), h3⟩
  · by_cases h1 : a = h.c
    · by_cases h2 : a' = h.c
      · rw [h1, h2]
      · rw [h1, Mp.to_same] at e; cases e
        rw [Mp.to_ne μ _ h2] at e'
        exact (hno a' b2 (hlive a' h2 ha') e' hbk.symm).elim
    · by_cases h2 : a' = h.c
      · rw [h2, Mp.to_same] at e'; cases e'
        rw [Mp.to_ne μ _ h1] at e
        exact (hno a b1 (hlive a h1 ha) e hbk).elim
      · rw [Mp.to_ne μ _ h1] at e
        rw [Mp.to_ne μ _ h2] at e'
        exact r.inj a a' b1 b2 (hlive a h1 ha) (hlive a' h2 ha') e e' hbk
theorem upT_yes {n : Nat} {g : (k : Nat) → Tr AV k → Ans} : ∀ (fuel k : Nat) (t : Tr AV k), (nrec fuel (fun k t => Bool.rec (motive := fun _ => Ans) Ans.no (g k t) (Nat.ble n (Nat.pow 8 k))) (fun _ ih k t => Bool.rec (motive := fun _ => Ans) (upK k t ih) (g k t) (Nat.ble n (Nat.pow 8 k))) : (k : Nat) → Tr AV k → Ans) k t = .yes →
    ∃ k' t', g k' t' = .yes ∧ n ≤ 8 ^ k' ∧ ∀ i, i < 8 ^ k → i < 8 ^ k' ∧ Tr.get (α := AV) k' (paK k' i) t' = Tr.get (α := AV) k (paK k i) t := by
  intro fuel
  induction fuel with
  | zero =>
    intro k t h
    obtain ⟨h1, h2⟩ := inv_if h
    exact ⟨k, t, h2, ble_iff.1 h1, fun i hi => ⟨hi, rfl⟩⟩
  | succ fuel ih =>
    intro k t h
    rcases inv_bif h with ⟨h1, h2⟩ | ⟨h1, h2⟩
    · exact ⟨k, t, h2, ble_iff.1 h1, fun i hi => ⟨hi, rfl⟩⟩
    · obtain ⟨k', t', q1, q2, q3⟩ := ih (k + 1) _ h2
      refine ⟨k', t', q1, q2, fun i hi => ?_⟩
      have hi' : i < 8 ^ (k + 1) := by rw [Nat.pow_succ]; omega
      obtain ⟨q4, q5⟩ := q3 i hi'
      refine ⟨q4, q5.trans ?_⟩
      have e : i / 8 ^ k % 8 = 0 := by rw [Nat.div_eq_of_lt hi]
      rw [paK_succ, e]
      rfl
section
variable {P : Program} {T : Ty} {s f : Nat}
theorem CellsR.ofElts [Rho] {μ : Mp} {L : List AV} {cs : List Value} {ke : Nat} {t : Tr AV ke} {arr : Array Value} {fr : Nat × Nat} {bk : Bk} (hS : Shp s f) (he : Elts μ s f L cs) (hk : L.length ≤ 8 ^ ke) (hget : ∀ q, q < L.length → Tr.get (α := AV) ke (paK ke q) t = L.getD q .u)
    (harr : ∀ i, i < L.length * s → arr[i]? = cs[i]?) (hsize : arr.size = bk.size) (hes : bk.es = s) (hn : L.length * s ≤ bk.size) (hfroz : fr.1 = fr.2 ∨ bk.size ≤ fr.1) : CellsR μ arr fr (L.length * s) s f ke t bk := by
  refine { hsize := hsize, hes := hes, hpos := hS.pos, hform := hS.four, htop := hS.top, hform0 := hS.one, hn := hn, hnk := by rw [Nat.mul_comm s]; exact Nat.mul_le_mul_right s hk, hfroz := hfroz, hleaf := fun q hq => ?_, hcell := fun i hi => ?_ }
  · have hq2 : q < L.length := Nat.lt_of_mul_lt_mul_right hq
    rw [hget q hq2, List.getD_eq_getElem?_getD, List.getElem?_eq_getElem hq2]
    exact he.form q _ (List.getElem?_eq_getElem hq2)
  · obtain ⟨d, d1, d2, d3⟩ := he.cell i hi
    have hq : i / s < L.length := by rw [Nat.div_lt_iff_lt_mul hS.pos]; exact hi
    exact ⟨d, by rw [harr i hi]; exact d1, d2, by rw [hget _ hq]; exact d3⟩
/-- The first elements of a row. -/
theorem CellsR.elts [Rho] {μ : Mp} {arr : Array Value} {fr : Nat × Nat} {n ke len : Nat} {t : Tr AV ke} {bk : Bk} (hc : CellsR μ arr fr n s f ke t bk) (hl : len * s ≤ n) :
    ∃ cs, Elts μ s f ((List.range len).map fun q => Tr.get (α := AV) ke (paK ke q) t) cs ∧ ∀ (j : Nat) v, cs[j]? = some v → arr[j]? = some v := by
  obtain ⟨cs, k1, k2⟩ := hc.slice 0 (len * s) (by omega)
  have hp := hc.hpos
  refine ⟨cs, ⟨by simp [k1], fun i a ha => ?_, fun j hj => ?_⟩, fun j v hv => by have := (k2 j v hv).1; rwa [Nat.zero_add] at this⟩
  · rw [List.getElem?_map] at ha
    have hi : i < len := by
      rcases Nat.lt_or_ge i len with hl | hl
      · exact hl
      · rw [List.getElem?_eq_none (by simpa using hl)] at ha; cases ha
    rw [List.getElem?_range hi] at ha
    cases ha
    refine hc.hleaf i ?_
    have h1 : (i + 1) * s ≤ len * s := Nat.mul_le_mul_right s hi
    rw [Nat.succ_mul] at h1
    omega
  · simp only [List.length_map, List.length_range] at hj
    have hd : cs[j]? = some cs[j] := List.getElem?_eq_getElem (by omega)
    obtain ⟨g1, g2, g3⟩ := k2 j _ hd
    have hq : j / s < len := by rw [Nat.div_lt_iff_lt_mul hp]; exact hj
    refine ⟨cs[j], hd, g2, ?_⟩
    rw [List.getD_eq_getElem?_getD, List.getElem?_map, List.getElem?_range hq]
    rw [Nat.zero_add] at g3
    exact g3
theorem cap_le (w : World) (need old : Nat) (e : TypeId) : need ≤ grownCap w need old e := by unfold grownCap; simp only [Question.cut]; omega
theorem zeroCells_size (z : Array Value) (n : Nat) : (Builtin.zeroCells z n).size = n * z.size := by simp [Builtin.zeroCells]
/-- The world in which a row was laid anew by append. -/
theorem grown [Rho] {K : Kp} {μ : Mp} {h : Hp} {w : World} {c' : Nm} (hr : MR K μ h w) (hc' : h.c.rank < c'.rank) (cs : Array Value) (e : TypeId) (b : Blk) (hb : ∀ μ', Ext μ μ' → ∀ w', w'.heap[w.heap.size]? = some (.cells cs e (0, 0)) → BlkR μ' w' b ⟨w.heap.size, cs.size, s⟩) :
    Ext μ (Mp.to μ h.c ⟨w.heap.size, cs.size, s⟩) ∧ MR K (Mp.to μ h.c ⟨w.heap.size, cs.size, s⟩) ⟨Mem.to h.c h.m b, c'⟩ (w.drew.alloc (.cells cs e)) := by
  have hx := Mp.to_ext (μ := μ) (c := h.c) ⟨w.heap.size, cs.size, s⟩ (hr.fresh (Nat.le_refl _))
  refine ⟨hx, ?_⟩
  have hr2 := hr.drawn (w.drawn + 1)
  exact hr2.new (Nat.le_refl _) hc' (.cells cs e) b cs.size s (Kp.above hr2) (hb _ hx _ (by show (w.heap.push _)[w.heap.size]? = _; simp))
theorem append_w2 [Rho] {ts : Array TypeId} {ty t u e : TypeId} {i : TypeInfo} {d : TypeDesc} {z : AV} (hT : TyOk P T) (h0 : ts[0]? = some t) (h1 : ts[1]? = some u) (ht : P.underlying t = some (.slice e)) (hu : P.underlying u = some d) (hd : ∀ k, d ≠ .int k)
    (hi : P.info? e = some i) (hs : shp T e = some (s, f)) (hz : zeroA T e = some z) (hb : i.bytes ≤ 1000000) : W2 P (fAppend e s f) (fun x y => Builtin.append_ ts ty #[x, y]) := by
  intro x y h kk hy
  obtain ⟨i', zv, hi', hzv, hsz, hzE, hzr, hone⟩ := zero_spec hT hz hs
  rw [hi] at hi'; cases hi'
  obtain ⟨_, s0, s1, sf4, sff, _⟩ := shp_spec (w := default) hT hs
  have hS : Shp s f := ⟨s0, s1, sf4, sff⟩
  have hzs : zv.cells.size = s := (elem_cells (hzr (fun _ => none)) hzE hone).1
  obtain ⟨hy1, _⟩ := cnt_yes hy
  obtain ⟨hcnt, hy2⟩ := inv_if hy1
  have hcnt : cntOf y ≤ 262144 := ble_iff.1 hcnt
  rcases inv_bif hy2 with ⟨e0, hy3⟩ | ⟨e0, hy3⟩
  · -- nothing is appended
    have e0 := beq_iff.1 e0
    have same : ∀ (base : Option Addr) (sLen sCap : Nat) (K : Kp) (μ : Mp) (w : World) (y' : Value), VR μ y y' → sLen ≤ sCap → (Builtin.append_ ts ty #[.slice base sLen sCap, y']).run P w = .ok (.slice base sLen sCap) w := by
      intro base sLen sCap K μ w y' hv hle
      obtain ⟨q1, q2⟩ := len_of (P := P) hy hv i.size w
      rw [e0] at q1
      exact run_app_fit h0 h1 ht hu hd hi q1 q2 (by omega) (fun a _ => rfl) (fun _ => rfl)
    rcases inv_sl_ hy3 with ⟨rfl, h5⟩ | ⟨nm, off, len, cap, rfl, h5⟩ | ⟨nm, off, len, rfl, h5⟩ | ⟨rfl, h5⟩
    · refine ⟨_, _, h5, fun K μ w x' y' hr hx hv => ?_⟩
      rw [hx.sl0_inv]
      exact ⟨μ, _, w, same none 0 0 K μ w y' hv (Nat.le_refl _), Ext.refl μ, .sl0, hr⟩
    · refine ⟨_, _, h5, fun K μ w x' y' hr hx hv => ?_⟩
      obtain ⟨bk, hb0, hle, hcap, rfl⟩ := hx.sl_inv
      exact ⟨μ, _, w, same _ len cap K μ w y' hv hle, Ext.refl μ, hx, hr⟩
    · refine ⟨_, _, h5, fun K μ w x' y' hr hx hv => ?_⟩
      obtain ⟨bk, cap, hb0, hle, hcap, _, rfl⟩ := hx.so_inv
      exact ⟨μ, _, w, same _ len cap K μ w y' hv hle, Ext.refl μ, hx, hr⟩
    · refine ⟨_, _, h5, fun K μ w x' y' hr hx hv => ?_⟩
      obtain ⟨a, cap, rfl⟩ := hx.se_inv
      exact ⟨μ, _, w, same _ 0 cap K μ w y' hv (by omega), Ext.refl μ, hx, hr⟩
  · have e0 : 0 < cntOf y := by
      rcases Nat.eq_zero_or_pos (cntOf y) with hh | hh
      · rw [hh] at e0; cases e0
      · exact hh
    obtain ⟨l, hy4, hll, hel⟩ := elems_yes (P := P) hS hy3
    have hfc : ∀ (w w' : World) (cs : List Value) (y' : Value) (μ : Mp), Elts μ s f l cs → (∀ w', w'.heap = w.heap → ∀ q, q ≤ cntOf y → (Builtin.firstCells s q y').run P w' = .ok (cs.take (q * s)).toArray w') → w'.heap = w.heap → (Builtin.firstCells i.size (cntOf y) y').run P w' = .ok cs.toArray w' := by
      intro w w' cs y' μ he hf hw
      have := hf w' hw (cntOf y) (Nat.le_refl _)
      rw [← hll, ← he.len, List.take_length, hll] at this
      rw [hsz]; exact this
    -- a row that is laid anew
    have anew : ∀ (L : List AV) (need : Nat), L.length = need → need ≤ 262144 → newE e s f L h (fun nm h => kk (.so nm 0 need) h) = .yes → ∃ v h', kk v h' = .yes ∧ ∀ K μ w y', MR K μ h w → VR μ y y' → ∀ (base : Option Addr) (sLen sCap : Nat) (old cs : List Value), sCap < sLen + cntOf y → sLen + cntOf y = need →
        Elts μ s f L (old ++ cs) → (Builtin.firstCells s sLen (.slice base sLen sCap)).run P w.drew = .ok old.toArray w.drew → (Builtin.firstCells i.size (cntOf y) y').run P w.drew = .ok cs.toArray w.drew →
        ∃ μ' v' w', (Builtin.append_ ts ty #[.slice base sLen sCap, y']).run P w = .ok v' w' ∧ Ext μ μ' ∧ VR μ' v v' ∧ MR K μ' h' w' := by
      intro L need hL hneed hnew
      obtain ⟨c', tr, q1, q2, q3⟩ := newE_yes hS (by omega) hnew
      refine ⟨_, _, q2, fun K μ w y' hr hv base sLen sCap old cs hgrow hnd hE hold hcs => ?_⟩
      obtain ⟨p1, _⟩ := len_of (P := P) hy hv i.size w
      have hrun := run_app_grow (ty := ty) h0 h1 ht hu hd hi hzv hb p1 (by rw [hsz]; exact hold) hcs hgrow (by omega)
      have hgc := cap_le w (sLen + cntOf y) sCap e
      have hcells : old.toArray ++ cs.toArray ++ Builtin.zeroCells zv.cells (grownCap w (sLen + cntOf y) sCap e - (sLen + cntOf y)) = ((old ++ cs) ++ (Builtin.zeroCells zv.cells (grownCap w (sLen + cntOf y) sCap e - (sLen + cntOf y))).toList).toArray := by
        apply Array.toList_inj.1
        simp
      rw [hcells] at hrun
      obtain ⟨g1, g2⟩ := grown (s := s) hr q1 ((old ++ cs) ++ (Builtin.zeroCells zv.cells (grownCap w (sLen + cntOf y) sCap e - (sLen + cntOf y))).toList).toArray e (.cells e true (L.length * s) s f (dep L.length) tr) (fun μ' hx w' hw' => ⟨_, _, hw', by
        have hE' : Elts μ' s f L (old ++ cs) := ⟨hE.len, hE.form, fun j hj => let ⟨c, a1, a2, a3⟩ := hE.cell j hj; ⟨c, a1, a2, a3.ext hx⟩⟩
        have := q3 μ' (old ++ cs) (Builtin.zeroCells zv.cells (grownCap w (sLen + cntOf y) sCap e - (sLen + cntOf y))).toList w.heap.size hE'
        exact this⟩)
      refine ⟨_, _, _, hrun, g1, ?_, g2⟩
      rw [← hnd]
      refine .so h.c 0 _ _ _ (Mp.to_same _ _ _) hgc (by omega) (fun _ => ?_)
      show _ * s ≤ (((old ++ cs) ++ _).toArray).size
      have hlen := hE.len
      simp only [List.size_toArray, List.length_append, Array.length_toList, zeroCells_size, hzs] at hlen ⊢
      have : grownCap w (sLen + cntOf y) sCap e * s = (sLen + cntOf y) * s + (grownCap w (sLen + cntOf y) sCap e - (sLen + cntOf y)) * s := by rw [← Nat.add_mul]; congr 1; omega
      rw [this, hlen, hL, hnd]
      exact Nat.le_refl _
    rcases inv_sl_ hy4 with ⟨rfl, h5⟩ | ⟨nm, off, len, cap, rfl, h5⟩ | ⟨nm, off, len, rfl, h5⟩ | ⟨rfl, h5⟩
    · obtain ⟨v, h', q1, q2⟩ := anew l (cntOf y) hll hcnt h5
      refine ⟨v, h', q1, fun K μ w x' y' hr hx hv => ?_⟩
      rw [hx.sl0_inv]
      obtain ⟨cs, k1, k2⟩ := hel K μ w y' hr hv
      exact q2 K μ w y' hr hv none 0 0 [] cs (by omega) (by omega) (by simpa using k1) rfl (hfc w w.drew cs y' μ k1 k2 rfl)
    · rw [natK_eq] at h5
      rcases inv_bif h5 with ⟨e1, h6⟩ | ⟨e1, h6⟩
      · have e1 : len + cntOf y ≤ cap := ble_iff.1 e1
        obtain ⟨h', h7, h8⟩ := wrE_yes (P := P) hS (by omega) h6
        refine ⟨_, _, h7, fun K μ w x' y' hr hx hv => ?_⟩
        obtain ⟨bk, hb0, hle, hcap, rfl⟩ := hx.sl_inv
        obtain ⟨cs, k1, k2⟩ := hel K μ w y' hr hv
        obtain ⟨w', m1, m2⟩ := h8 K μ w bk cs hr hb0 k1
        obtain ⟨p1, _⟩ := len_of (P := P) hy hv i.size w
        refine ⟨μ, _, w', run_app_fit h0 h1 ht hu hd hi p1 (hfc w w cs y' μ k1 k2 rfl) e1 (fun a ha => ?_) (fun hh => by cases hh), Ext.refl μ, .sl nm off _ cap bk hb0 e1 hcap, m2⟩
        cases ha
        rw [addr_add, hsz]
        exact m1
      · obtain ⟨e2, h7⟩ := inv_if h6
        have e2 : len + cntOf y ≤ 262144 := ble_iff.1 e2
        have e1 : cap < len + cntOf y := by
          rcases Nat.lt_or_ge cap (len + cntOf y) with hh | hh
          · exact hh
          · have e3 : Nat.ble (Nat.add len (cntOf y)) cap = true := ble_iff.2 hh
            rw [e3] at e1; cases e1
        obtain ⟨o, h8, h9, h10⟩ := rdE_yes hS h7
        rw [lapp_eq] at h8
        obtain ⟨v, h', q1, q2⟩ := anew (o ++ l) (len + cntOf y) (by rw [List.length_append, h9, hll]) e2 h8
        refine ⟨v, h', q1, fun K μ w x' y' hr hx hv => ?_⟩
        obtain ⟨bk, hb0, hle, hcap, rfl⟩ := hx.sl_inv
        obtain ⟨cs, k1, k2⟩ := hel K μ w y' hr hv
        obtain ⟨old, k3, k4⟩ := h10 K μ w bk hr hb0
        have hol := k3.len
        rw [h9] at hol
        have hfo := firstCells_row (P := P) (nm := nm) (len := len) (cap := cap) (q := len) (s := s) k4 (w' := w.drew) rfl (by omega)
        rw [← hol, List.take_length] at hfo
        exact q2 K μ w y' hr hv _ len cap old cs e1 rfl (k3.app k1 s0) hfo (hfc w w.drew cs y' μ k1 k2 rfl)
    · obtain ⟨e1, h6⟩ := inv_if h5
      have e1 : off = 0 := beq_iff.1 e1
      subst e1
      rw [natK_eq] at h6
      obtain ⟨e2, h7⟩ := inv_if h6
      have e2 : len + cntOf y ≤ 262144 := ble_iff.1 e2
      obtain ⟨ty', op, n, es, form, ke, tr, hm, h8⟩ := inv_cells h7
      obtain ⟨e3, h9⟩ := inv_if h8
      obtain ⟨e4, e5⟩ := and_eq.1 e3
      obtain ⟨e6, e7⟩ := and_eq.1 e4
      obtain ⟨e8, e9⟩ := and_eq.1 e5
      obtain ⟨e10, e11⟩ := and_eq.1 e8
      have e7 := beq_iff.1 e7
      have e10 := beq_iff.1 e10
      have e11 := beq_iff.1 e11
      have e9 : len * s ≤ n := ble_iff.1 e9
      subst e6; subst e7; subst e10; subst e11
      obtain ⟨ke', tr', h10, h11, h12⟩ := upT_yes 7 ke tr h9
      rw [wrL_eq, natK_eq] at h10
      have h11 : len + cntOf y ≤ 8 ^ ke' := h11
      have h10' : (⟨Mem.to nm h.m .no, h.c⟩ : Hp).new (.cells ty' true (Nat.mul (Nat.add len (cntOf y)) es) es form ke' (aggV.wrD ke' l len tr')) (fun nm h => kk (.so nm 0 (Nat.add len (cntOf y))) h) = .yes := h10
      obtain ⟨c', h13, h14⟩ := new_yes h10'
      refine ⟨_, _, h14, fun K μ w x' y' hr hx hv => ?_⟩
      obtain ⟨bk, cap, hb0, hle, hlen, hz0, rfl⟩ := hx.so_inv
      obtain ⟨arr, fr, ha, hc⟩ := hr.cells hm hb0
      obtain ⟨cs, k1, k2⟩ := hel K μ w y' hr hv
      obtain ⟨old, k3, k4⟩ := hc.elts e9
      have hol := k3.len
      simp only [List.length_map, List.length_range] at hol
      have hL := k3.app k1 s0
      have hLlen : (((List.range len).map fun q => Tr.get (α := AV) ke (paK ke q) tr) ++ l).length = len + cntOf y := by simp [hll]
      have hkn : len ≤ 8 ^ ke := by
        have h1 := hc.hnk
        have : len * es ≤ 8 ^ ke * es := by rw [Nat.mul_comm (8 ^ ke)]; omega
        exact Nat.le_of_mul_le_mul_right this s0
      have hget : ∀ q, q < len + cntOf y → Tr.get (α := AV) ke' (paK ke' q) (aggV.wrD ke' l len tr') = (((List.range len).map fun q => Tr.get (α := AV) ke (paK ke q) tr) ++ l).getD q .u := by
        intro q hq
        have e : (((List.range len).map fun q => Tr.get (α := AV) ke (paK ke q) tr) ++ l).getD q .u = ((((List.range len).map fun q => Tr.get (α := AV) ke (paK ke q) tr) ++ l)[q]?).getD .u := List.getD_eq_getElem?_getD
        rw [wrD_get ke' l len tr' q (by omega) (by omega), e, List.getElem?_append]
        simp only [List.length_map, List.length_range]
        by_cases hh : q < len
        · rw [if_neg (by omega), if_pos hh, List.getElem?_map, List.getElem?_range hh]
          exact (h12 q (by omega)).2
        · rw [if_pos (by omega), if_neg hh, List.getD_eq_getElem?_getD]
      have hkill := hr.kill nm
      obtain ⟨bk1, hb1, _, hF⟩ := hr.live nm (by rw [hm]; intro e; cases e)
      rw [hb0] at hb1; cases hb1
      obtain ⟨p1, _⟩ := len_of (P := P) hy hv i.size w
      by_cases hfit : len + cntOf y ≤ cap
      · -- in place
        have hcap := hz0 rfl
        rw [hc.hes] at hcap
        have hsize : (len + cntOf y) * es ≤ bk.size := Nat.le_trans (Nat.mul_le_mul_right es hfit) hcap
        have hcl : cs.length = cntOf y * es := by rw [k1.len, hll]
        have hrun := run_storeCells (P := P) (len * es) cs w arr 0 ha (by have := hc.hsize; rw [Nat.add_mul] at hsize; omega) (fun v hv => by
          obtain ⟨j, hj⟩ := List.mem_iff_getElem?.1 hv
          have hlt : j < cs.length := by
            rcases Nat.lt_or_ge j cs.length with hl | hl
            · exact hl
            · rw [List.getElem?_eq_none hl] at hj; cases hj
          obtain ⟨d, d1, d2, _⟩ := k1.cell j (by have := k1.len; omega)
          rw [hj] at d1; cases d1; exact d2) (fun j a b => by rw [hc.hsize]; exact hc.froz j a b)
        rw [Nat.add_zero] at hrun
        have hx2 := Mp.to_ext (μ := μ) (c := h.c) ⟨bk.blk, bk.size, es⟩ (hr.fresh (Nat.le_refl _))
        refine ⟨Mp.to μ h.c ⟨bk.blk, bk.size, es⟩, .slice (some ⟨bk.blk, 0, none⟩) (len + cntOf y) cap, setR w bk.blk (.cells (wrA arr (len * es) cs) ty' fr), run_app_fit h0 h1 ht hu hd hi p1 (hfc w w cs y' μ k1 k2 rfl) hfit (fun a hh => ?_) (fun hh => by cases hh), hx2, .so h.c 0 _ ⟨bk.blk, bk.size, es⟩ cap (Mp.to_same _ _ _) hfit (show len + cntOf y ≤ 1000000000 by omega) (fun _ => hcap), ?_⟩
        · cases hh
          rw [addr_add, hsz, Nat.zero_add]
          exact hrun
        · refine hkill.adopt h13 bk.blk bk.size es _ (hr.dom nm bk hb0).1 hF (fun a bk' hl hb' hh => ?_) rfl rfl rfl setR_size (fun x hx => setR_ne hx) ?_
          · have hl' : Mem.at a (Mem.to nm h.m .no) ≠ .no := hl
            rw [Mem.at_to] at hl'
            by_cases q : a = nm
            · rw [if_pos q] at hl'; exact hl' rfl
            · rw [if_neg q] at hl'
              exact q (hr.inj a nm bk' bk hl' (by rw [hm]; intro e; cases e) hb' hb0 hh)
          · refine ⟨wrA arr (len * es) cs, fr, setR_same ha, ?_⟩
            have hL' : Elts (Mp.to μ h.c ⟨bk.blk, bk.size, es⟩) es form (((List.range len).map fun q => Tr.get (α := AV) ke (paK ke q) tr) ++ l) (old ++ cs) := ⟨hL.len, hL.form, fun j hj => let ⟨c, a1, a2, a3⟩ := hL.cell j hj; ⟨c, a1, a2, a3.ext hx2⟩⟩
            have := CellsR.ofElts (arr := wrA arr (len * es) cs) (fr := fr) (bk := ⟨bk.blk, bk.size, es⟩) (ke := ke') (t := aggV.wrD ke' l len tr') hS hL' (by rw [hLlen]; exact h11) (fun q hq => hget q (by rw [hLlen] at hq; exact hq)) (fun j hj => ?_) (by rw [wrA_size]; exact hc.hsize) rfl (by rw [hLlen]; exact hsize) hc.hfroz
            · rw [hLlen] at this
              exact this
            · rw [hLlen, Nat.add_mul] at hj
              rw [wrA_get _ _ _ _ (by have := hc.hsize; rw [Nat.add_mul] at hsize; omega), List.getElem?_append, hol]
              by_cases hh : j < len * es
              · rw [if_neg (by omega), if_pos hh]
                have hd : old[j]? = some old[j] := List.getElem?_eq_getElem (by omega)
                rw [hd]; exact k4 j _ hd
              · rw [if_pos (by omega), if_neg hh]
      · -- a new block
        have hfo := firstCells_row (P := P) (nm := nm) (bk := bk) (off := 0) (len := len) (cap := cap) (q := len) (s := es) (cs := old) (w := w) (fun j v hv => by rw [cell_of_row w _ _ arr ty' fr ha, Nat.zero_add]; exact k4 j v hv) (w' := w.drew) rfl (by omega)
        rw [← hol, List.take_length] at hfo
        have hrun := run_app_grow (ty := ty) h0 h1 ht hu hd hi hzv hb p1 (by rw [hsz]; exact hfo) (hfc w w.drew cs y' μ k1 k2 rfl) (by omega) e2
        have hgc := cap_le w (len + cntOf y) cap ty'
        have hcells : old.toArray ++ cs.toArray ++ Builtin.zeroCells zv.cells (grownCap w (len + cntOf y) cap ty' - (len + cntOf y)) = ((old ++ cs) ++ (Builtin.zeroCells zv.cells (grownCap w (len + cntOf y) cap ty' - (len + cntOf y))).toList).toArray := by
          apply Array.toList_inj.1
          simp
        rw [hcells] at hrun
        have hsz2 : grownCap w (len + cntOf y) cap ty' * es = (((old ++ cs) ++ (Builtin.zeroCells zv.cells (grownCap w (len + cntOf y) cap ty' - (len + cntOf y))).toList).toArray).size := by
          have hlen := hL.len
          rw [hLlen] at hlen
          simp only [List.size_toArray, List.length_append, Array.length_toList, zeroCells_size, hzs] at hlen ⊢
          have : grownCap w (len + cntOf y) cap ty' * es = (len + cntOf y) * es + (grownCap w (len + cntOf y) cap ty' - (len + cntOf y)) * es := by rw [← Nat.add_mul]; congr 1; omega
          rw [this, hlen]
        obtain ⟨g1, g2⟩ := grown (s := es) hkill h13 (((old ++ cs) ++ (Builtin.zeroCells zv.cells (grownCap w (len + cntOf y) cap ty' - (len + cntOf y))).toList).toArray) ty' (.cells ty' true (Nat.mul (Nat.add len (cntOf y)) es) es form ke' (aggV.wrD ke' l len tr')) (fun μ' hx w' hw' => ⟨_, _, hw', by
          have hL' : Elts μ' es form (((List.range len).map fun q => Tr.get (α := AV) ke (paK ke q) tr) ++ l) (old ++ cs) := ⟨hL.len, hL.form, fun j hj => let ⟨c, a1, a2, a3⟩ := hL.cell j hj; ⟨c, a1, a2, a3.ext hx⟩⟩
          have hlen := hL.len
          have := CellsR.ofElts (arr := ((old ++ cs) ++ (Builtin.zeroCells zv.cells (grownCap w (len + cntOf y) cap ty' - (len + cntOf y))).toList).toArray) (fr := (0, 0)) (bk := ⟨w.heap.size, (((old ++ cs) ++ (Builtin.zeroCells zv.cells (grownCap w (len + cntOf y) cap ty' - (len + cntOf y))).toList).toArray).size, es⟩) (ke := ke') (t := aggV.wrD ke' l len tr') hS hL' (by rw [hLlen]; exact h11) (fun q hq => hget q (by rw [hLlen] at hq; exact hq)) (fun j hj => by
              rw [List.getElem?_toArray, List.getElem?_append, if_pos (by rw [hlen]; exact hj)]) rfl rfl (by rw [← hlen]; show _ ≤ (((old ++ cs) ++ (Builtin.zeroCells zv.cells (grownCap w (len + cntOf y) cap ty' - (len + cntOf y))).toList).toArray).size; rw [List.size_toArray, List.length_append (as := old ++ cs)]; exact Nat.le_add_right _ _) (.inl rfl)
          rw [hLlen] at this
          exact this⟩)
        exact ⟨_, _, _, hrun, g1, .so h.c 0 _ _ _ (Mp.to_same _ _ _) hgc (show len + cntOf y ≤ 1000000000 by omega) (fun _ => Nat.le_of_eq hsz2), g2⟩
    · cases h5
end
end
end Go.Proofs.YteefpemaeecicaaGreatDoor.Ev
end
section
open Go
namespace Go.Proofs.YteefpemaeecicaaGreatDoor.Ev
set_option linter.unusedVariables false
set_option linter.unusedSimpArgs false
set_option linter.constructorNameAsVariable false
noncomputable section
section
variable {P : Program} {T : Ty} {s f : Nat}
theorem minN_eq (a b : Nat) : minN a b = min a b := by
  unfold minN
  cases h : Nat.ble a b with
  | true => have := ble_iff.1 h; show a = _; omega
  | false =>
    have : ¬ a ≤ b := fun hh => by rw [ble_iff.2 hh] at h; cases h
    show b = _; omega
theorem run_copy {ts : Array TypeId} {ty t e : TypeId} {i : TypeInfo} (h0 : ts[0]? = some t) (ht : P.underlying t = some (.slice e)) (hi : P.info? e = some i) {base : Option Addr} {dLen cap n : Nat} {y' : Value} {w w' : World} {cs : Array Value}
    (hl : (Builtin.lenOf y').run P w = .ok n w) (hf : (Builtin.firstCells i.size (min n dLen) y').run P w = .ok cs w) (hst : ∀ a, base = some a → (storeCells a cs.toList).run P w = .ok () w') (hno : base = none → w' = w) :
    (Builtin.copy_ ts ty #[.slice base dLen cap, y']).run P w = .ok (goInt ((min n dLen : Nat) : Int)) w' := by
  have hf' : (Builtin.firstCells i.size (n.min dLen) y').run P w = .ok cs w := hf
  cases base with
  | none =>
    have := hno rfl
    subst this
    unfold Builtin.copy_
    simp only [h0, run_underlying ht, Sem.run_bind, Result.andThen_ok, run_size hi, List.getElem?_toArray, List.getElem?_cons_zero, List.getElem?_cons_succ, Sem.run_pure, hl, hf']
  | some a =>
    have hs := hst a rfl
    unfold Builtin.copy_
    simp only [h0, run_underlying ht, Sem.run_bind, Result.andThen_ok, run_size hi, List.getElem?_toArray, List.getElem?_cons_zero, List.getElem?_cons_succ, Sem.run_pure, hl, hf', hs]
theorem copy_w2 [Rho] {ts : Array TypeId} {ty t e : TypeId} (hT : TyOk P T) (h0 : ts[0]? = some t) (ht : P.underlying t = some (.slice e)) (hs : shp T e = some (s, f)) : W2 P (fCopy s f) (fun x y => Builtin.copy_ ts ty #[x, y]) := by
  intro x y h kk hy
  obtain ⟨⟨i, hi, hsz⟩, s0, s1, sf4, sff, _⟩ := shp_spec (w := default) hT hs
  have hS : Shp s f := ⟨s0, s1, sf4, sff⟩
  obtain ⟨hy1, _⟩ := cnt_yes hy
  have zero : ∀ (base : Option Addr) (dLen cap : Nat) (μ : Mp) (w : World) (y' : Value), VR μ y y' → min (cntOf y) dLen = 0 → (Builtin.copy_ ts ty #[.slice base dLen cap, y']).run P w = .ok (goInt 0) w := by
    intro base dLen cap μ w y' hv hm
    obtain ⟨q1, q2⟩ := len_of (P := P) hy hv i.size w
    have := run_copy (ty := ty) h0 ht hi (base := base) (dLen := dLen) (cap := cap) (w' := w) q1 (by rw [hm]; exact q2) (fun a _ => rfl) (fun _ => rfl)
    rw [hm] at this
    exact this
  have go : ∀ (nm : Nm) (off len : Nat), (natK (minN (cntOf y) len) fun q => Bool.rec (motive := fun _ => Ans) (elemsK s f y h fun l => wrE s f nm off (ltake l q) h fun h => kk (.n 3 q) h) (kk (.n 3 0) h) (Nat.beq q 0)) = .yes → len ≤ 1000000000 ∨ True →
      ∃ v h', kk v h' = .yes ∧ ∀ K μ w y' bk cap, MR K μ h w → VR μ y y' → μ nm = some bk → len ≤ 1000000000 → ∃ μ' v' w', (Builtin.copy_ ts ty #[.slice (some ⟨bk.blk, off, none⟩) len cap, y']).run P w = .ok v' w' ∧ Ext μ μ' ∧ VR μ' v v' ∧ MR K μ' h' w' := by
    intro nm off len hg _
    rw [natK_eq, minN_eq] at hg
    rcases inv_bif hg with ⟨e, h1⟩ | ⟨e, h1⟩
    · have e := beq_iff.1 e
      exact ⟨_, _, h1, fun K μ w y' bk cap hr hv hb hl => ⟨μ, _, w, zero _ _ _ μ w y' hv e, Ext.refl μ, .len (n := 0) (by omega), hr⟩⟩
    · have e : 0 < min (cntOf y) len := by
        rcases Nat.eq_zero_or_pos (min (cntOf y) len) with hh | hh
        · rw [hh] at e; cases e
        · exact hh
      obtain ⟨l, h2, h3, h4⟩ := elems_yes (P := P) hS h1
      rw [ltake_eq] at h2
      have hlen : (l.take (min (cntOf y) len)).length = min (cntOf y) len := by rw [List.length_take, h3]; omega
      obtain ⟨h', h5, h6⟩ := wrE_yes (P := P) hS (by rw [hlen]; exact e) h2
      refine ⟨_, _, h5, fun K μ w y' bk cap hr hv hb hl => ?_⟩
      obtain ⟨cs, k1, k2⟩ := h4 K μ w y' hr hv
      have k3 := k1.take s0 (min (cntOf y) len)
      rw [hlen] at k3
      obtain ⟨w', m1, m2⟩ := h6 K μ w bk _ hr hb k3
      obtain ⟨q1, _⟩ := len_of (P := P) hy hv i.size w
      refine ⟨μ, _, w', run_copy (ty := ty) h0 ht hi q1 (by rw [hsz]; exact k2 w rfl _ (Nat.min_le_left _ _)) (fun a ha => ?_) (fun hh => by cases hh), Ext.refl μ, .len (by omega), m2⟩
      cases ha
      exact m1
  rcases inv_sl_ hy1 with ⟨rfl, h5⟩ | ⟨nm, off, len, cap, rfl, h5⟩ | ⟨nm, off, len, rfl, h5⟩ | ⟨rfl, h5⟩
  · refine ⟨_, _, h5, fun K μ w x' y' hr hx hv => ?_⟩
    rw [hx.sl0_inv]
    exact ⟨μ, _, w, zero none 0 0 μ w y' hv (by omega), Ext.refl μ, .len (n := 0) (by omega), hr⟩
  · obtain ⟨v, h', q1, q2⟩ := go nm off len h5 (.inr trivial)
    refine ⟨v, h', q1, fun K μ w x' y' hr hx hv => ?_⟩
    obtain ⟨bk, hb0, hle, hcap, rfl⟩ := hx.sl_inv
    exact q2 K μ w y' bk cap hr hv hb0 (by omega)
  · obtain ⟨v, h', q1, q2⟩ := go nm off len h5 (.inr trivial)
    refine ⟨v, h', q1, fun K μ w x' y' hr hx hv => ?_⟩
    obtain ⟨bk, cap, hb0, hle, hcap, _, rfl⟩ := hx.so_inv
    exact q2 K μ w y' bk cap hr hv hb0 hcap
  · refine ⟨_, _, h5, fun K μ w x' y' hr hx hv => ?_⟩
    obtain ⟨a, cap, rfl⟩ := hx.se_inv
    exact ⟨μ, _, w, zero (some a) 0 cap μ w y' hv (by omega), Ext.refl μ, .len (n := 0) (by omega), hr⟩
/-! ### Bytes and strings -/
theorem bytesOf_yes : ∀ {l : List AV} {g : List Nat → Ans}, bytesOf l g = .yes → ∃ s, g s = .yes ∧ l = s.map fun n => AV.n 4 n
  | [], g, h => ⟨[], h, rfl⟩
  | a :: l, g, h => by
    obtain ⟨j, z, rfl, h1⟩ := inv_n h
    obtain ⟨e, h2⟩ := inv_if h1
    have e := beq_iff.1 e
    subst e
    obtain ⟨s, h3, h4⟩ := bytesOf_yes (l := l) (g := fun l => g (z :: l)) h2
    exact ⟨z :: s, h3, by rw [h4]; rfl⟩
/-- A byte as an expression. -/
def ByteE (a : AV) (e : Ex) : Prop := (∃ z, a = .n 4 z ∧ e = .lit z) ∨ a = .y 4 e
theorem exK_yes {J : Nat} {x : AV} {g : Ex → Ans} (h : exK J x g = .yes) : ∃ e, g e = .yes ∧ ((∃ z, x = .n J z ∧ e = .lit z) ∨ x = .y J e) := by
  rcases inv_ny h with ⟨j, a, rfl, h⟩ | ⟨j, e, rfl, h⟩
  · obtain ⟨h1, h2⟩ := inv_if h
    have h1 := beq_iff.1 h1
    subst h1
    exact ⟨_, h2, .inl ⟨a, rfl, rfl⟩⟩
  · obtain ⟨h1, h2⟩ := inv_if h
    have h1 := beq_iff.1 h1
    subst h1
    exact ⟨_, h2, .inr rfl⟩
inductive BytesE : List AV → List Ex → Prop
  | nil : BytesE [] []
  | cons {a : AV} {e : Ex} {l : List AV} {r : List Ex} : ByteE a e → BytesE l r → BytesE (a :: l) (e :: r)
theorem exL_yes : ∀ {l : List AV} {g : List Ex → Ans}, exL l g = .yes → ∃ r, g r = .yes ∧ BytesE l r
  | [], g, h => ⟨[], h, .nil⟩
  | a :: l, g, h => by
    have h : exK 4 a (fun e => exL l fun r => g (e :: r)) = .yes := h
    obtain ⟨e, h1, h2⟩ := exK_yes h
    obtain ⟨r, h3, h4⟩ := exL_yes h1
    exact ⟨e :: r, h3, .cons h2 h4⟩
theorem bytesY_yes : ∀ {l : List AV} {g : List Nat → Ans} {g2 : List Ex → Ans}, bytesY l g g2 = .yes → ∃ r, BytesE l r ∧ ((∃ s, r = s.map Ex.lit ∧ l = s.map (AV.n 4) ∧ g s = .yes) ∨ g2 r = .yes)
  | [], g, g2, h => ⟨[], .nil, .inl ⟨[], rfl, rfl, h⟩⟩
  | a :: l, g, g2, h => by
    rcases inv_ny h with ⟨j, z, rfl, h⟩ | ⟨j, e, rfl, h⟩
    · obtain ⟨h1, h2⟩ := inv_if h
      have h1 := beq_iff.1 h1
      subst h1
      obtain ⟨r, h3, h4⟩ := bytesY_yes (l := l) (g := fun l => g (z :: l)) (g2 := fun l => g2 (.lit z :: l)) h2
      refine ⟨.lit z :: r, .cons (.inl ⟨z, rfl, rfl⟩) h3, ?_⟩
      rcases h4 with ⟨s, h5, h7, h6⟩ | h5
      · exact .inl ⟨z :: s, by rw [h5]; rfl, by rw [h7]; rfl, h6⟩
      · exact .inr h5
    · obtain ⟨h1, h2⟩ := inv_if h
      have h1 := beq_iff.1 h1
      subst h1
      obtain ⟨r, h3, h4⟩ := exL_yes h2
      exact ⟨e :: r, .cons (.inr rfl) h4, .inr h3⟩
theorem BytesE.len : ∀ {l : List AV} {r : List Ex}, BytesE l r → r.length = l.length
  | _, _, .nil => rfl
  | _, _, .cons _ h => by simp [h.len]
theorem BytesE.get : ∀ {l : List AV} {r : List Ex}, BytesE l r → ∀ (j : Nat) (hj : j < r.length), ByteE (l.getD j .u) r[j]
  | _, _, .cons h t, 0, _ => h
  | _, _, .cons h t, j + 1, hj => t.get j (by simpa using hj)
theorem VR.byteE [Rho] {μ : Mp} {a : AV} {e : Ex} {c : Value} (h : VR μ a c) (hb : ByteE a e) : c = .int .u8 ((den e % 256 : Nat) : Int) ∧ ∀ z, e = .lit z → a = .n 4 z → z < 256 := by
  rcases hb with ⟨z, rfl, rfl⟩ | rfl
  · have h : VR μ (.n (kc .u8) z) c := h
    obtain ⟨q1, q2⟩ := h.kn_inv
    rw [wrap_un (k := .u8) rfl q1] at q2
    have q1 : z < 256 := q1
    refine ⟨?_, fun z' e1 _ => by cases e1; exact q1⟩
    rw [q2]
    show _ = Value.int .u8 ((z % 256 : Nat) : Int)
    rw [Nat.mod_eq_of_lt q1]
  · rcases h.y_inv with ⟨k, h1, h2⟩ | ⟨h1, _⟩ | ⟨h1, _⟩ | ⟨h1, _⟩ | ⟨h1, _⟩ | h1
    · have hk : k = .u8 := by cases k <;> first | rfl | cases h1
      subst hk
      refine ⟨?_, fun z _ h => by cases h⟩
      rw [h2, wrap_un (k := .u8) rfl (Nat.mod_lt _ (by decide))]
      rfl
    · omega
    · omega
    · omega
    · omega
    · omega
theorem push_all : ∀ (s : List Nat) (acc : ByteArray), ((s.map fun n => ((n : Nat) : Int)).foldl (fun r n => r.push (UInt8.ofNat n.toNat)) acc) = acc ++ bstr s
  | [], acc => by apply ByteArray.ext; simp [bstr]
  | a :: s, acc => by
    rw [List.map_cons, List.foldl_cons, push_all s]
    apply ByteArray.ext
    simp [bstr, ByteArray.push]
theorem bytStr_l1 [Rho] {src dst e : TypeId} (hs : P.underlying src = some (.slice e)) (he : P.underlying e = some (.int .u8)) (hd : P.underlying dst = some .string) : L1 P fBytStr (fun x => convert src dst x) := by
  intro x h kk hy
  have emp : ∀ μ, VR μ (.s []) (.string ByteArray.empty) := fun μ => by
    have := VR.s (μ := μ) [] (fun n hn => by simp at hn)
    exact this
  have hS : Shp 1 0 := ⟨by omega, Nat.le_refl _, by omega, fun _ => rfl⟩
  have go : ∀ (nm : Nm) (off len : Nat), (rdE 1 0 nm off len h fun l => bytesY l (fun s => kk (.s s)) fun l => kk (.y 9 (mkE l))) = .yes → ∃ v, kk v = .yes ∧ ∀ K μ w bk cap, MR K μ h w → μ nm = some bk → ∃ v', VR μ v v' ∧ (convert src dst (.slice (some ⟨bk.blk, off, none⟩) len cap)).run P w = .ok v' w := by
    intro nm off len hg
    obtain ⟨l, h1, h2, h3⟩ := rdE_yes hS hg
    obtain ⟨r, hbe, h4⟩ := bytesY_yes h1
    have hrl := hbe.len
    -- what the cells are
    have core : ∀ K μ w bk cap, MR K μ h w → μ nm = some bk → (convert src dst (.slice (some ⟨bk.blk, off, none⟩) len cap)).run P w = .ok (.string (bstr (dl r))) w ∧ ∀ (j : Nat) (hj : j < r.length) z, r[j] = .lit z → l.getD j .u = .n 4 z → z < 256 := by
      intro K μ w bk cap hr hb
      obtain ⟨cs, k1, k2⟩ := h3 K μ w bk hr hb
      have hlen : cs.length = len := by rw [k1.len, h2, Nat.mul_one]
      have hsm : ∀ (j : Nat) (hj : j < r.length), cs[j]? = some (.int .u8 ((den r[j] % 256 : Nat) : Int)) ∧ ∀ z, r[j] = .lit z → l.getD j .u = .n 4 z → z < 256 := fun j hj => by
        obtain ⟨d, d1, d2, d3⟩ := k1.cell j (by rw [Nat.mul_one, ← hrl]; exact hj)
        rw [Nat.div_one] at d3
        have d3 : VR μ (l.getD j .u) d := d3
        obtain ⟨q1, q2⟩ := d3.byteE (hbe.get j hj)
        exact ⟨by rw [d1, q1], q2⟩
      have hcs : cs = ((dl r).map fun n => ((n : Nat) : Int)).map (Value.int .u8) := by
        apply List.ext_getElem?
        intro j
        by_cases hj : j < r.length
        · rw [(hsm j hj).1]
          simp [dl, hj]
        · rw [List.getElem?_eq_none (by omega), List.getElem?_eq_none (by simp [dl]; omega)]
      have hload := loadCells_list (P := P) (w := w) (g := bk.blk) (off := off) cs k2
      rw [hlen] at hload
      conv at hload => rhs; rw [hcs]
      refine ⟨?_, fun j hj => (hsm j hj).2⟩
      rw [run_convert_bytes_string w src dst e _ _ _ hs he hd, run_bytesToString w _ len cap _ hload, push_all]
      have : ByteArray.empty ++ bstr (dl r) = bstr (dl r) := by apply ByteArray.ext; simp [bstr]
      rw [this]
    rcases h4 with ⟨s, rfl, hl, h5⟩ | h5
    · refine ⟨_, h5, fun K μ w bk cap hr hb => ?_⟩
      obtain ⟨q1, q2⟩ := core K μ w bk cap hr hb
      have hlt : ∀ n ∈ s, n < 256 := fun n hn => by
        obtain ⟨j, hj, rfl⟩ := List.getElem_of_mem hn
        exact q2 j (by simpa using hj) s[j] (by simp) (by rw [hl, List.getD_eq_getElem?_getD]; simp [hj])
      have hd' : dl (s.map Ex.lit) = s := by
        simp only [dl, List.map_map]
        conv => rhs; rw [← List.map_id s]
        apply List.map_congr_left
        intro n hn
        show n % 256 = n
        exact Nat.mod_eq_of_lt (hlt n hn)
      rw [hd'] at q1
      exact ⟨_, .s s hlt, q1⟩
    · refine ⟨_, h5, fun K μ w bk cap hr hb => ?_⟩
      obtain ⟨q1, _⟩ := core K μ w bk cap hr hb
      refine ⟨_, ?_, q1⟩
      exact VR.ys (μ := μ) r
  rcases inv_sl_ hy with ⟨rfl, h5⟩ | ⟨nm, off, len, cap, rfl, h5⟩ | ⟨nm, off, len, rfl, h5⟩ | ⟨rfl, h5⟩
  · refine ⟨_, h5, fun K μ w x' hr hx => ⟨_, emp μ, ?_⟩⟩
    rw [hx.sl0_inv, run_convert_bytes_string w src dst e _ _ _ hs he hd]
    rfl
  · obtain ⟨v, h1, h2⟩ := go nm off len h5
    refine ⟨v, h1, fun K μ w x' hr hx => ?_⟩
    obtain ⟨bk, hb0, hle, hcap, rfl⟩ := hx.sl_inv
    exact h2 K μ w bk cap hr hb0
  · obtain ⟨v, h1, h2⟩ := go nm off len h5
    refine ⟨v, h1, fun K μ w x' hr hx => ?_⟩
    obtain ⟨bk, cap, hb0, hle, hcap, _, rfl⟩ := hx.so_inv
    exact h2 K μ w bk cap hr hb0
  · refine ⟨_, h5, fun K μ w x' hr hx => ⟨_, emp μ, ?_⟩⟩
    obtain ⟨a, cap, rfl⟩ := hx.se_inv
    have hl : (loadCells a 0).run P w = .ok (([] : List Int).map (Value.int .u8)).toArray w := rfl
    rw [run_convert_bytes_string w src dst e _ _ _ hs he hd, run_bytesToString w a 0 cap [] hl]
    rfl
theorem freeze_row {w : World} {g : Nat} {arr : Array Value} {ty : TypeId} {fr : Nat × Nat} (h : w.heap[g]? = some (.cells arr ty fr)) (off : Nat) :
    w.freeze ⟨g, off, none⟩ 1 = setR w g (.cells arr ty (if fr.1 == fr.2 then (off, off + 1) else (min fr.1 off, max fr.2 (off + 1)))) := by
  have hl := heap_lt h
  unfold World.freeze setR
  rw [if_neg (by omega)]
  congr 1
  apply Array.ext_getElem?
  intro i
  rw [Array.getElem?_modify, Array.getElem?_setIfInBounds]
  by_cases hi : g = i
  · subst hi; rw [if_pos rfl, if_pos rfl, h, if_pos hl]; rfl
  · rw [if_neg hi, if_neg hi]
theorem run_markStringish {w : World} {g off : Nat} {arr : Array Value} {ty : TypeId} {fr : Nat × Nat} (h : w.heap[g]? = some (.cells arr ty fr)) :
    (markStringish ⟨g, off, none⟩).run P w = .ok () (setR w g (.cells arr ty (if fr.1 == fr.2 then (arr.size, arr.size + 1) else (min fr.1 arr.size, max fr.2 (arr.size + 1))))) := by
  have hsh : w.shape? g = some (ty, arr.size) := by simp [World.shape?, h]
  simp [markStringish, hsh, freeze_row h]
theorem bytByt_w1 [Rho] {src e : TypeId} (hs : P.underlying src = some (.slice e)) (he : P.underlying e = some (.int .u8)) : W1 P fBytByt (fun x => convert src src x) := by
  intro x h kk hy
  have run : ∀ (w : World) (g off len cap : Nat) (arr : Array Value) (ty : TypeId) (fr : Nat × Nat), w.heap[g]? = some (.cells arr ty fr) → (convert src src (.slice (some ⟨g, off, none⟩) len cap)).run P w = .ok (.slice (some ⟨g, off, none⟩) len cap) (setR w g (.cells arr ty (if fr.1 == fr.2 then (arr.size, arr.size + 1) else (min fr.1 arr.size, max fr.2 (arr.size + 1))))) := by
    intro w g off len cap arr ty fr h
    simp [convert, run_underlying hs, run_underlying he, run_markStringish h]
  have go : ∀ (nm : Nm) {ty : Nat} {op : Bool} {n es form ke : Nat} {t : Tr AV ke}, Mem.at nm h.m = .cells ty op n es form ke t → ∀ K μ w (bk : Bk) off len cap, MR K μ h w → μ nm = some bk →
      ∃ w', (convert src src (.slice (some ⟨bk.blk, off, none⟩) len cap)).run P w = .ok (.slice (some ⟨bk.blk, off, none⟩) len cap) w' ∧ MR K μ h w' := by
    intro nm ty op n es form ke t hm K μ w bk off len cap hr hb
    obtain ⟨arr, fr, ha, hc⟩ := hr.cells hm hb
    refine ⟨_, run w _ off len cap arr ty fr ha, ?_⟩
    have hc' : CellsR μ arr (if fr.1 == fr.2 then (arr.size, arr.size + 1) else (min fr.1 arr.size, max fr.2 (arr.size + 1))) n es form ke t bk :=
      { hsize := hc.hsize, hes := hc.hes, hpos := hc.hpos, hform := hc.hform, htop := hc.htop, hform0 := hc.hform0, hn := hc.hn, hnk := hc.hnk, hleaf := hc.hleaf, hcell := hc.hcell,
        hfroz := .inr (by
          have h1 := hc.hsize
          rcases hc.hfroz with h2 | h2
          · simp [h2]; omega
          · split
            · show bk.size ≤ arr.size; omega
            · show bk.size ≤ min fr.1 arr.size; omega) }
    have hr2 := hr.write hb hm ha hc'
    have e : Mem.to nm h.m (.cells ty op n es form ke t) = h.m := by rw [← hm]; exact Mem.to_at nm h.m
    rw [e] at hr2
    exact hr2
  rcases inv_sl_ hy with ⟨rfl, h5⟩ | ⟨nm, off, len, cap, rfl, h5⟩ | ⟨nm, off, len, rfl, h5⟩ | ⟨rfl, h5⟩
  · cases h5
  · obtain ⟨ty, op, n, es, form, ke, tr, hm, h6⟩ := inv_cells h5
    refine ⟨_, _, h6, fun K μ w x' hr hx => ?_⟩
    obtain ⟨bk, hb0, hle, hcap, rfl⟩ := hx.sl_inv
    obtain ⟨w', q1, q2⟩ := go nm hm K μ w bk off len cap hr hb0
    exact ⟨μ, _, w', q1, Ext.refl μ, hx, q2⟩
  · obtain ⟨ty, op, n, es, form, ke, tr, hm, h6⟩ := inv_cells h5
    refine ⟨_, _, h6, fun K μ w x' hr hx => ?_⟩
    obtain ⟨bk, cap, hb0, hle, hcap, _, rfl⟩ := hx.so_inv
    obtain ⟨w', q1, q2⟩ := go nm hm K μ w bk off len cap hr hb0
    exact ⟨μ, _, w', q1, Ext.refl μ, hx, q2⟩
  · cases h5
theorem strByt_w1 [Rho] {src dst e : TypeId} (hs : P.underlying src = some .string) (hd : P.underlying dst = some (.slice e)) (he : P.underlying e = some (.int .u8)) : W1 P (fStrByt e) (fun x => convert src dst x) := by
  intro x h kk hy
  have hS : Shp 1 0 := ⟨by omega, Nat.le_refl _, by omega, fun _ => rfl⟩
  obtain ⟨l, rfl, h1⟩ := inv_s hy
  have h1 : lenK l (fun len => Bool.rec (motive := fun _ => Ans) Ans.no (newE e 1 0 (bytesA l) h fun nm h => kk (.so nm 0 len) h) (Nat.ble len 262144)) = .yes := h1
  rw [lenK_eq] at h1
  obtain ⟨e1, h2⟩ := inv_if h1
  have e1 := ble_iff.1 e1
  have hbl : ∀ l : List Nat, (bytesA l).length = l.length := fun l => by
    induction l with
    | nil => rfl
    | cons a l ih => show (AV.n 4 a :: bytesA l).length = _; simp [ih]
  obtain ⟨c', t, q1, q2, q3⟩ := newE_yes hS (by rw [hbl]; exact e1) h2
  refine ⟨_, _, q2, fun K μ w x' hr hx => ?_⟩
  obtain ⟨rfl, hl⟩ := hx.s_inv
  have hgc := cap_le w l.length 0 e
  obtain ⟨arr, hdef⟩ : ∃ arr : Array Value, arr = (((bstr l).data.toList.map fun b : UInt8 => Value.int .u8 (b.toNat : Int)) ++ List.replicate (grownCap w l.length 0 e - l.length) (Value.int .u8 0)).toArray := ⟨_, rfl⟩
  have harr : arr.size = grownCap w l.length 0 e := by
    rw [hdef, List.size_toArray, List.length_append, List.length_replicate, List.length_map]
    have : (bstr l).data.toList.length = l.length := by simp [bstr]
    omega
  have hrun : (convert src dst (.string (bstr l))).run P w = .ok (.slice (some ⟨w.heap.size, 0, none⟩) l.length (grownCap w l.length 0 e)) (setR (w.drew.alloc (.cells arr e (0, 0))) w.heap.size (.cells arr e (arr.size, arr.size + 1))) := by
    have hm := run_markStringish (P := P) (w := w.drew.alloc (.cells arr e (0, 0))) (g := w.heap.size) (off := 0) (arr := arr) (ty := e) (fr := (0, 0)) (by show (w.heap.push _)[w.heap.size]? = _; simp)
    have ha : ((bstr l).data.map fun b : UInt8 => Value.int .u8 (b.toNat : Int)) ++ Array.replicate (grownCap w l.length 0 e - l.length) (Value.int .u8 0) = arr := by
      apply Array.toList_inj.1
      simp [hdef]
    have ha' : ((bstr l).data.map fun b : UInt8 => Value.int .u8 (b.toNat : Int)) ++ Array.replicate ((Question.appendCap l.length 0 e).cut (w.tape w.drawn (.appendCap l.length 0 e)) - l.length) (Value.int .u8 0) = arr := ha
    simp only [convert, Sem.run_bind, run_underlying hs, run_underlying hd, run_underlying he, Result.andThen_ok, Conv.stringToBytes, bstr_size, run_choose, Question.forced, Bool.false_eq_true, if_false, newRow, Sem.run_pure, run_newObj, ha']
    exact (congrArg (fun r => Result.andThen r _) hm).trans rfl
  have hx2 := Mp.to_ext (μ := μ) (c := h.c) ⟨w.heap.size, arr.size, 1⟩ (hr.fresh (Nat.le_refl _))
  refine ⟨Mp.to μ h.c ⟨w.heap.size, arr.size, 1⟩, _, _, hrun, hx2, .so h.c 0 _ _ _ (Mp.to_same _ _ _) hgc (by omega) (fun _ => by show grownCap w l.length 0 e * 1 ≤ arr.size; omega), ?_⟩
  have hset : setR (w.drew.alloc (.cells arr e (0, 0))) w.heap.size (.cells arr e (arr.size, arr.size + 1)) = w.drew.alloc (.cells arr e (arr.size, arr.size + 1)) := by
    unfold setR World.alloc
    congr 1
    show (w.heap.push _).setIfInBounds w.heap.size _ = w.heap.push _
    apply Array.ext_getElem?
    intro i
    rw [Array.getElem?_setIfInBounds]
    by_cases hi : w.heap.size = i
    · subst hi; simp
    · rw [if_neg hi, Array.getElem?_push, Array.getElem?_push, if_neg (by omega), if_neg (by omega)]
  rw [hset]
  have hr2 := hr.drawn (w.drawn + 1)
  refine hr2.new (Nat.le_refl _) q1 (.cells arr e (arr.size, arr.size + 1)) _ arr.size 1 (Kp.above hr2) ⟨arr, (arr.size, arr.size + 1), by show (w.heap.push _)[w.heap.size]? = _; simp, ?_⟩
  have := q3 μ _ (List.replicate (grownCap w l.length 0 e - l.length) (.int .u8 0)) w.heap.size (Elts.bytes hl)
  have hc : CellsR μ arr (0, 0) ((bytesA l).length * 1) 1 0 (dep (bytesA l).length) t ⟨w.heap.size, arr.size, 1⟩ := by subst hdef; exact this
  have hc' : CellsR μ arr (arr.size, arr.size + 1) ((bytesA l).length * 1) 1 0 (dep (bytesA l).length) t ⟨w.heap.size, arr.size, 1⟩ :=
    { hsize := hc.hsize, hes := hc.hes, hpos := hc.hpos, hform := hc.hform, htop := hc.htop, hform0 := hc.hform0, hn := hc.hn, hnk := hc.hnk, hleaf := hc.hleaf, hcell := hc.hcell, hfroz := .inr (Nat.le_refl _) }
  exact hc'.ext hx2
end
end
end Go.Proofs.YteefpemaeecicaaGreatDoor.Ev
end
