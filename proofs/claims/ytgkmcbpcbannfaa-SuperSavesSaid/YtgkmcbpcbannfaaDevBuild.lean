/- What 'sector{now: x, lasts: x}' builds; loads and builds as steps that yield. -/
import Derived.Test.YtgkmcbpcbannfaaDevLoose
namespace Go.Proofs.Ytgkmcbpcbannfaa
open Go.RowKit Crc
set_option linter.unusedVariables false
set_option maxHeartbeats 1000000

theorem splice_set (L : List Value) (n : Nat) (x : Value) (xs : List Value) (h : n < L.length) : splice (L.set n x) (n + 1) xs = splice L n (x :: xs) := by
  unfold splice
  have h1 : (L.set n x).take (n + 1) = L.take n ++ [x] := by
    rw [List.set_eq_take_append_cons_drop, if_pos h, List.take_append, List.length_take, Nat.min_eq_left (by omega), List.take_of_length_le (l := L.take n) (by simp; omega)]
    simp
  have h2 : (L.set n x).drop (n + 1 + xs.length) = L.drop (n + (x :: xs).length) := by
    rw [List.drop_set_of_lt (by omega)]
    congr 1
    simp
    omega
  rw [h1, h2]
  simp
theorem fold_set (off : Nat) : ∀ (xs : List Value) (k : Nat) (C : List Value), off + k + xs.length ≤ C.length →
    (xs.zipIdx k).foldl (fun (cs : Array Value) (x : Value × Nat) => cs.setIfInBounds (off + x.2) x.1) C.toArray = (splice C (off + k) xs).toArray
  | [], k, C, _ => by simp [splice]
  | x :: xs, k, C, h => by
    simp only [List.length_cons] at h
    rw [List.zipIdx_cons, List.foldl_cons, List.setIfInBounds_toArray, fold_set off xs (k + 1) (C.set (off + k) x) (by simp; omega), ← Nat.add_assoc, splice_set _ _ _ _ (by omega)]
theorem fold_set' (off : Nat) (xs : List Value) (C : List Value) (h : off + xs.length ≤ C.length) :
    xs.toArray.zipIdx.foldl (fun (cs : Array Value) (x : Value × Nat) => cs.setIfInBounds (off + x.2) x.1) C.toArray = (splice C off xs).toArray := by
  have := fold_set off xs 0 C (by omega)
  simpa using this
theorem fill_one (place : Nat → Option (Nat × Nat)) (C xs : List Value) (i off size : Nat) (rest : List (Nat × Value)) (hp : place i = some (off, size)) (hs : xs.length = size) (hfit : off + xs.length ≤ C.length) :
    Instr.fill place C.toArray ((i, .agg xs.toArray) :: rest) = Instr.fill place (splice C off xs).toArray rest := by
  have e : (Value.agg xs.toArray).cells = xs.toArray := rfl
  rw [Instr.fill, hp]
  simp only [e, List.size_toArray, hs, ne_eq, not_true_eq_false, decide_false, Bool.false_or]
  rw [if_neg (by simpa using (by omega : ¬ C.length < off + size))]
  rw [fold_set' off xs C hfit]
theorem sec_places : (Try.prog.underlying 59).map (fun d => match d with | .struct fields => fields.toList.mapM (fun f => (Try.prog.info? f.type).map fun i => (f.offset, i.size)) | _ => none) = some (some [(0, 64), (64, 64), (128, 1)]) := by kernel_rfl
theorem built_sec (xs : List Nat) (h : xs.length = 64) (hb : Bytes xs) : Try.prog.built 59 [(0, .agg (vals xs).toArray), (1, .agg (vals xs).toArray)] = some (⟨xs, xs, false⟩ : Sec).cells.toArray := by
  obtain ⟨i0, hi, hz0, hz1, hz2⟩ := info_parts Try.infoSec
  have hp := sec_places
  unfold Program.built
  rw [hi]
  rw [Try.underlying59] at hp ⊢
  simp only [Option.map_some, Option.some.injEq] at hp
  simp only [hz0, hp]
  have e : (Value.agg zsec.cells.toArray).cells = zsec.cells.toArray := rfl
  have hv : (vals xs).length = 64 := by rw [vals_length, h]
  have hz := Sec.cells_length zsec_ok
  rw [e, fill_one _ _ _ 0 0 64 _ rfl hv (by rw [hv, hz]; decide), fill_one _ _ _ 1 64 64 _ rfl hv (by rw [length_splice _ _ _ (by rw [hv, hz]; decide), hv, hz]; decide), Instr.fill]
  rw [sec_now zsec_ok xs (by omega), List.drop_of_length_le (l := zsec.now) (by rw [zsec_ok.n]; omega), List.append_nil, sec_lasts (s := ⟨xs, zsec.lasts, zsec.loose⟩) _ xs h]
  · rfl
  · exact ⟨h, zsec_ok.l, hb, zsec_ok.bl⟩
theorem Sec.cells_one (s : Sec) : ∀ v ∈ s.cells, v.oneCell' = true := by
  intro v hv
  simp only [Sec.cells, List.mem_append, List.mem_singleton] at hv
  rcases hv with h | h | h
  · exact vals_one _ v h
  · exact vals_one _ v h
  · subst h; rfl
theorem exec_load {P : Program} {o : Oper} {a : Act} (w : World) (ty : TypeId) (x : Operand) (ho : o.op = .load ty x) (g off : Nat) (hx : a.eval x = .pointer (some ⟨g, off, none⟩)) (cs : List Value) (t : TypeId) (fr : Nat × Nat) (e : TypeDesc) (part : List Value) (hg : w.heap[g]? = some (.cells cs.toArray t fr))
    (hu : P.underlying ty = some e) (hd : (match e with | .struct _ | .array _ _ => true | _ => false) = true) (hi : (P.info? ty).map (·.size) = some part.length) (hp : ∀ j v, part[j]? = some v → cs[off + j]? = some v) :
    (execOp a.eval o).run P w = .ok (.value (.agg part.toArray)) w := by
  unfold execOp
  simp only [ho, hx, Sem.run_bind, Sem.run_pure, Result.andThen_ok, run_load_part w g off ty cs t fr e part hg hu hd hi hp]
theorem exec_build {P : Program} {o : Oper} {a : Act} (w : World) (t : TypeId) (parts : Array (Nat × Operand)) (ho : o.op = .build t parts) (cells : Array Value) (hc : P.built t (parts.map fun (i, x) => (i, a.eval x)).toList = some cells) :
    (execOp a.eval o).run P w = .ok (.value (.agg cells)) w := by
  unfold execOp
  simp only [ho, Sem.run_bind, Sem.run_pure, Result.andThen_ok, run_build w t _ cells hc]
end Go.Proofs.Ytgkmcbpcbannfaa
