/- Region 13 of Crash: it draws its order: a sector is laid: what it leaves. Printed by gen_devcrash.py. -/
import Derived.Test.YtgkmcbpcbannfaaDevBuild
import Derived.Deep.RegionHeld3
namespace Go.Proofs.Ytgkmcbpcbannfaa
open Go.RowKit Crc
set_option linter.unusedVariables false

set_option maxRecDepth 100000 in
set_option maxHeartbeats 2000000 in
theorem crash_region (p q g k n : Nat) (cs : List Value) (xs : List Nat) (w : World) (hlt : k < n) (hn : n ≤ 2048) (hne : p ≠ q) (hgq : g ≠ q)
    (hc : w.cell? ⟨p, 0, none⟩ = some (.slice (some ⟨q, 0, none⟩) n n)) (hq : Hid (w.heap[q]? = some (.cells cs.toArray 59 (0, 0)))) (hg : Hid (w.heap[g]? = some (.cells (vals xs).toArray 57 (0, 0)))) (hlen : Hid (xs.length = 64)) (hby : Bytes xs) (hcs : Hid (cs.length = 129 * n))
    (u0 u1 u2 u3 u4 u6 u8 u10 u11 u12 u13 u14 u15 u16 u17 u18 u19 u20 u21 u22 u23 u24 u25 u26 u27 u28 u29 u30 u31 u32 u33 u34 u35 u36 u37 u38 u39 u40 u41 u42 u43 u44 u45 u46 u47 u48 u49 u50 u51 u52 u53 u54 u55 u56 : Value) (Q : Exit → Act → World → Prop) (hp : Hid (∀ c a w, ¬ Q (.panic c) a w))
    (hnn : Hid (∀ (v46 v47 v48 v49 v50 v51 v52 v53 v54 : Value), Q .normal ⟨#[u0, u1, u2, u3, u4, .pointer (some ⟨p, 0, none⟩), u6, .int .i64 (k : Int), u8, .pointer (some ⟨g, 0, none⟩), u10, u11, u12, u13, u14, u15, u16, u17, u18, u19, u20, u21, u22, u23, u24, u25, u26, u27, u28, u29, u30, u31, u32, u33, u34, u35, u36, u37, u38, u39, u40, u41, u42, u43, u44, u45, v46, v47, v48, v49, v50, v51, v52, v53, v54, u55, u56], []⟩ (w.drew.setRow q (splice cs (k * 129) (⟨xs, xs, false⟩ : Sec).cells).toArray))) :
    (Code.region 13 #[{ dst := some 46, op := Op.move (Operand.tmp 5), type := 25, pos := "dev.go:140", after := #[], guard := none }, { dst := some 47, op := Op.nilCheck (Operand.tmp 46), type := 0, pos := "dev.go:140", after := #[{ on := 0, ground := Ground.data }], guard := none }, { dst := some 48, op := Op.fieldAddr 55 (Operand.tmp 47) 0, type := 0, pos := "dev.go:140", after := #[{ on := 1, ground := Ground.data }], guard := none }, { dst := some 49, op := Op.load 53 (Operand.tmp 48), type := 53, pos := "dev.go:140", after := #[{ on := 2, ground := Ground.data }], guard := none }, { dst := some 50, op := Op.move (Operand.tmp 7), type := 3, pos := "dev.go:140", after := #[], guard := none }, { dst := some 51, op := Op.load 57 (Operand.tmp 9), type := 57, pos := "dev.go:140", after := #[], guard := none }, { dst := some 52, op := Op.load 57 (Operand.tmp 9), type := 57, pos := "dev.go:140", after := #[], guard := none }, { dst := some 53, op := Op.build 59 #[(0, Operand.tmp 51), (1, Operand.tmp 52)], type := 59, pos := "dev.go:140", after := #[{ on := 5, ground := Ground.data }, { on := 6, ground := Ground.data }], guard := none }, { dst := some 54, op := Op.indexAddr 53 (Operand.tmp 49) (Operand.tmp 50), type := 0, pos := "dev.go:140", after := #[{ on := 3, ground := Ground.data }, { on := 4, ground := Ground.data }, { on := 0, ground := Ground.phase }, { on := 1, ground := Ground.phase }, { on := 2, ground := Ground.phase }, { on := 3, ground := Ground.phase }, { on := 4, ground := Ground.phase }, { on := 5, ground := Ground.phase }, { on := 6, ground := Ground.phase }, { on := 7, ground := Ground.phase }], guard := none }, { dst := none, op := Op.store 59 (Operand.tmp 54) (Operand.tmp 53), type := 0, pos := "dev.go:140", after := #[{ on := 8, ground := Ground.data }, { on := 7, ground := Ground.data }, { on := 0, ground := Ground.phase }, { on := 1, ground := Ground.phase }, { on := 2, ground := Ground.phase }, { on := 3, ground := Ground.phase }, { on := 4, ground := Ground.phase }, { on := 5, ground := Ground.phase }, { on := 6, ground := Ground.phase }, { on := 7, ground := Ground.phase }], guard := none }] true).wp Try.prog Q ⟨#[u0, u1, u2, u3, u4, .pointer (some ⟨p, 0, none⟩), u6, .int .i64 (k : Int), u8, .pointer (some ⟨g, 0, none⟩), u10, u11, u12, u13, u14, u15, u16, u17, u18, u19, u20, u21, u22, u23, u24, u25, u26, u27, u28, u29, u30, u31, u32, u33, u34, u35, u36, u37, u38, u39, u40, u41, u42, u43, u44, u45, u46, u47, u48, u49, u50, u51, u52, u53, u54, u55, u56], []⟩ w := by
  have hsz : Hid ((Try.prog.info? 57).map (·.size) = some 64) := by show (Try.prog.info? 57).map (·.size) = some 64; kernel_rfl
  have hsz2 : Hid ((Try.prog.info? 59).map (·.size) = some 129) := by show (Try.prog.info? 59).map (·.size) = some 129; kernel_rfl
  have hqd : Hid (w.drew.heap[q]? = some (.cells cs.toArray 59 (0, 0))) := hq.out
  have hsok : (⟨xs, xs, false⟩ : Sec).Ok := ⟨hlen.out, hlen.out, hby, hby⟩
  have hsl := Lib.hid (Sec.cells_length hsok)
  have hbuilt := Lib.hid (built_sec xs hlen.out hby)
  have hv : Hid ((vals xs).length = 64) := by show (vals xs).length = 64; rw [vals_length, hlen.out]
  have hone : Hid (∀ v ∈ (⟨xs, xs, false⟩ : Sec).cells, v.oneCell' = true) := Sec.cells_one _
  have hself : Hid (∀ j v, (vals xs)[j]? = some v → (vals xs)[0 + j]? = some v) := fun j v h => by rw [Nat.zero_add]; exact h
  have HS : Hid (w.drew.cell? ⟨p, 0, none⟩ = some (.slice (some ⟨q, 0, none⟩) n n) ∧ w.drew.heap[g]? = some (.cells (vals xs).toArray 57 (0, 0))) := ⟨hc, hg.out⟩
  have HS2 : Hid ((w.drew.setRow q (splice cs (k * 129) (⟨xs, xs, false⟩ : Sec).cells).toArray).cell? ⟨p, 0, none⟩ = some (.slice (some ⟨q, 0, none⟩) n n) ∧ (w.drew.setRow q (splice cs (k * 129) (⟨xs, xs, false⟩ : Sec).cells).toArray).heap[g]? = some (.cells (vals xs).toArray 57 (0, 0))) :=
    ⟨(cell_setRow_other _ _ _ _ (show p ≠ q from hne)).trans hc, (setRow_other _ _ _ _ hgq).trans hg.out⟩
  clear hc
  refine wp_region_held_drew (S := (fun w' => w'.cell? ⟨p, 0, none⟩ = some (.slice (some ⟨q, 0, none⟩) n n) ∧ w'.heap[g]? = some (.cells (vals xs).toArray 57 (0, 0)))) (by kernel_rfl) HS.out (fun hHeld => ?_)
  refine wpAnyH_take (i := 0) (oi := { dst := some 46, op := Op.move (Operand.tmp 5), type := 25, pos := "dev.go:140", after := #[], guard := none }) (v := ?_) rfl (by kernel_rfl) (by kernel_rfl) (by kernel_rfl) (fun c _ w h => absurd h (hp.out c _ w)) (Or.inl ⟨by rfl, ?_⟩) (by exact HS.out) ?_
  rotate_left
  · intro w hSw
    obtain ⟨hS1, _⟩ := hSw
    go_simp
    with_reducible rfl
  try simp only [Act.put, List.setIfInBounds_toArray, List.set_cons_zero, List.set_cons_succ]
  refine wpAnyH_take (i := 1) (oi := { dst := some 47, op := Op.nilCheck (Operand.tmp 46), type := 0, pos := "dev.go:140", after := #[{ on := 0, ground := Ground.data }], guard := none }) (v := ?_) rfl (by kernel_rfl) (by kernel_rfl) (by kernel_rfl) (fun c _ w h => absurd h (hp.out c _ w)) (Or.inl ⟨by rfl, ?_⟩) (by exact HS.out) ?_
  rotate_left
  · intro w hSw
    obtain ⟨hS1, _⟩ := hSw
    go_simp
    with_reducible rfl
  try simp only [Act.put, List.setIfInBounds_toArray, List.set_cons_zero, List.set_cons_succ]
  refine wpAnyH_take (i := 2) (oi := { dst := some 48, op := Op.fieldAddr 55 (Operand.tmp 47) 0, type := 0, pos := "dev.go:140", after := #[{ on := 1, ground := Ground.data }], guard := none }) (v := ?_) rfl (by kernel_rfl) (by kernel_rfl) (by kernel_rfl) (fun c _ w h => absurd h (hp.out c _ w)) (Or.inl ⟨by rfl, ?_⟩) (by exact HS.out) ?_
  rotate_left
  · intro w hSw
    obtain ⟨hS1, _⟩ := hSw
    go_simp
    with_reducible rfl
  try simp only [Act.put, List.setIfInBounds_toArray, List.set_cons_zero, List.set_cons_succ]
  refine wpAnyH_take (i := 3) (oi := { dst := some 49, op := Op.load 53 (Operand.tmp 48), type := 53, pos := "dev.go:140", after := #[{ on := 2, ground := Ground.data }], guard := none }) (v := ?_) rfl (by kernel_rfl) (by kernel_rfl) (by kernel_rfl) (fun c _ w h => absurd h (hp.out c _ w)) (Or.inl ⟨by rfl, ?_⟩) (by exact HS.out) ?_
  rotate_left
  · intro w hSw
    obtain ⟨hS1, _⟩ := hSw
    go_simp
    with_reducible rfl
  try simp only [Act.put, List.setIfInBounds_toArray, List.set_cons_zero, List.set_cons_succ]
  refine wpAnyH_take (i := 4) (oi := { dst := some 50, op := Op.move (Operand.tmp 7), type := 3, pos := "dev.go:140", after := #[], guard := none }) (v := ?_) rfl (by kernel_rfl) (by kernel_rfl) (by kernel_rfl) (fun c _ w h => absurd h (hp.out c _ w)) (Or.inl ⟨by rfl, ?_⟩) (by exact HS.out) ?_
  rotate_left
  · intro w hSw
    obtain ⟨hS1, _⟩ := hSw
    go_simp
    with_reducible rfl
  try simp only [Act.put, List.setIfInBounds_toArray, List.set_cons_zero, List.set_cons_succ]
  refine wpAnyH_take (i := 5) (oi := { dst := some 51, op := Op.load 57 (Operand.tmp 9), type := 57, pos := "dev.go:140", after := #[], guard := none }) (v := .agg (vals xs).toArray) rfl (by kernel_rfl) (by kernel_rfl) (by kernel_rfl) (fun c _ w h => absurd h (hp.out c _ w)) (Or.inl ⟨by rfl, ?_⟩) (by exact HS.out) ?_
  · intro w hSw
    exact exec_load w 57 (.tmp 9) (by rfl) g 0 (by rfl) (vals xs) 57 (0, 0) _ (vals xs) hSw.2 Try.underlying57 rfl (by rw [hsz.out, hv.out]) hself.out
  try simp only [Act.put, List.setIfInBounds_toArray, List.set_cons_zero, List.set_cons_succ]
  refine wpAnyH_take (i := 6) (oi := { dst := some 52, op := Op.load 57 (Operand.tmp 9), type := 57, pos := "dev.go:140", after := #[], guard := none }) (v := .agg (vals xs).toArray) rfl (by kernel_rfl) (by kernel_rfl) (by kernel_rfl) (fun c _ w h => absurd h (hp.out c _ w)) (Or.inl ⟨by rfl, ?_⟩) (by exact HS.out) ?_
  · intro w hSw
    exact exec_load w 57 (.tmp 9) (by rfl) g 0 (by rfl) (vals xs) 57 (0, 0) _ (vals xs) hSw.2 Try.underlying57 rfl (by rw [hsz.out, hv.out]) hself.out
  try simp only [Act.put, List.setIfInBounds_toArray, List.set_cons_zero, List.set_cons_succ]
  refine wpAnyH_take (i := 7) (oi := { dst := some 53, op := Op.build 59 #[(0, Operand.tmp 51), (1, Operand.tmp 52)], type := 59, pos := "dev.go:140", after := #[{ on := 5, ground := Ground.data }, { on := 6, ground := Ground.data }], guard := none }) (v := .agg (⟨xs, xs, false⟩ : Sec).cells.toArray) rfl (by kernel_rfl) (by kernel_rfl) (by kernel_rfl) (fun c _ w h => absurd h (hp.out c _ w)) (Or.inl ⟨by rfl, ?_⟩) (by exact HS.out) ?_
  · intro w hSw
    exact exec_build w 59 #[(0, .tmp 51), (1, .tmp 52)] (by rfl) _ (by simp only [List.map_toArray, List.map_cons, List.map_nil]; exact hbuilt.out)
  try simp only [Act.put, List.setIfInBounds_toArray, List.set_cons_zero, List.set_cons_succ]
  refine wpAnyH_take (i := 8) (oi := { dst := some 54, op := Op.indexAddr 53 (Operand.tmp 49) (Operand.tmp 50), type := 0, pos := "dev.go:140", after := #[{ on := 3, ground := Ground.data }, { on := 4, ground := Ground.data }, { on := 0, ground := Ground.phase }, { on := 1, ground := Ground.phase }, { on := 2, ground := Ground.phase }, { on := 3, ground := Ground.phase }, { on := 4, ground := Ground.phase }, { on := 5, ground := Ground.phase }, { on := 6, ground := Ground.phase }, { on := 7, ground := Ground.phase }], guard := none }) (v := ?_) rfl (by kernel_rfl) (by kernel_rfl) (by kernel_rfl) (fun c _ w h => absurd h (hp.out c _ w)) (Or.inl ⟨by rfl, ?_⟩) (by exact HS.out) ?_
  rotate_left
  · intro w hSw
    obtain ⟨hS1, _⟩ := hSw
    go_simp
    with_reducible rfl
  try simp only [Act.put, List.setIfInBounds_toArray, List.set_cons_zero, List.set_cons_succ]
  refine wpAnyH_ready (rs := [9]) (by kernel_rfl) (by simp) ?_
  refine AllReadyH.cons (o := { dst := none, op := Op.store 59 (Operand.tmp 54) (Operand.tmp 53), type := 0, pos := "dev.go:140", after := #[{ on := 8, ground := Ground.data }, { on := 7, ground := Ground.data }, { on := 0, ground := Ground.phase }, { on := 1, ground := Ground.phase }, { on := 2, ground := Ground.phase }, { on := 3, ground := Ground.phase }, { on := 4, ground := Ground.phase }, { on := 5, ground := Ground.phase }, { on := 6, ground := Ground.phase }, { on := 7, ground := Ground.phase }], guard := none }) rfl (fun K hK => ?_) AllReadyH.nil
  refine step_store_part rfl 59 (.tmp 54) (.tmp 53) rfl q (k * 129) rfl cs 59 (⟨xs, xs, false⟩ : Sec).cells hqd.out (by rw [hsz2.out, hsl.out]) hone.out (by rw [hsl.out, hcs.out]; omega) rfl ?_
  refine hK.out _ _ HS2.out (fun _ => ?_)
  clear hK K
  refine wpAnyH_done (by kernel_rfl) ?_ _
  exact hnn.out _ _ _ _ _ _ _ _ _

end Go.Proofs.Ytgkmcbpcbannfaa
