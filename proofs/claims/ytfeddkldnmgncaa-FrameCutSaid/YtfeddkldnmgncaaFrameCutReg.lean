/- A region of FrameCut: 'e == ErrCorrupt || string(ref.Seal(x)) == string(t)' where e is OK: whatever order it draws, it gives true where sealing x gives t. -/
import Derived.Test.YtfeddkldnmgncaaFrameBegun
import Derived.Deep.RegionHeld3
namespace Go.Proofs.Ytfeddkldnmgncaa
open Go.RowKit Crc
set_option linter.unusedVariables false
theorem rd_below2 {W w' : World} {B : Nat} {a : Option Addr} {l : List Nat} (hb : Below W.heap.size W w') (h : Rd W B a l) (hB : B ≤ W.heap.size) : Rd w' B a l := h.below (hb.mono hB)
set_option maxHeartbeats 1000000 in
theorem cut_region (b6 b8 : Option Addr) (T I : List Nat) (c6 c8 B6 : Nat) (w8 : World) (hr8 : Rd w8 w8.heap.size b8 I) (hil : I.length ≤ 60000) (hrT8 : Rd w8 B6 b6 T) (hw6 : B6 ≤ w8.heap.size) (Hbk : Hid (seal1 I = T))
    (u0 u1 u2 u3 u4 u5 u6 u7 u8 u10 u14 u15 u16 u17 u18 u19 u20 u21 u22 u23 u24 u25 u26 u27 u28 u29 u30 u31 u32 u33 u34 u35 u36 u37 u38 u39 u40 u41 u42 u43 u44 u45 u46 u47 u48 u49 u50 u51 u52 u53 u54 u55 u56 u57 u58 u59 u60 u61 u62 u63 u64 u65 u66 : Value) :
    (Code.region 13 #[{ dst := some 57, op := Op.move (Operand.tmp 11), type := 36, pos := "law.go:81", after := #[], guard := none }, { dst := some 58, op := Op.binOp BinOp.eql 36 (Operand.tmp 57) (Operand.const (Value.int IntKind.i64 11)) 36, type := 4, pos := "law.go:81", after := #[{ on := 0, ground := Ground.data }], guard := none }, { dst := some 59, op := Op.move (Operand.tmp 58), type := 4, pos := "law.go:81", after := #[{ on := 1, ground := Ground.data }], guard := none }, { dst := some 60, op := Op.move (Operand.tmp 12), type := 24, pos := "law.go:81", after := #[{ on := 2, ground := Ground.guard }], guard := some (2, false) }, { dst := some 61, op := Op.call { callee := Callee.value (Operand.func 23), args := #[Operand.tmp 60], argTypes := #[24] }, type := 24, pos := "law.go:81", after := #[{ on := 3, ground := Ground.data }, { on := 2, ground := Ground.chain }, { on := 2, ground := Ground.guard }], guard := some (2, false) }, { dst := some 62, op := Op.convert 24 9 (Operand.tmp 61), type := 9, pos := "law.go:81", after := #[{ on := 4, ground := Ground.data }, { on := 2, ground := Ground.guard }], guard := some (2, false) }, { dst := some 63, op := Op.move (Operand.tmp 9), type := 24, pos := "law.go:81", after := #[{ on := 2, ground := Ground.guard }], guard := some (2, false) }, { dst := some 64, op := Op.convert 24 9 (Operand.tmp 63), type := 9, pos := "law.go:81", after := #[{ on := 6, ground := Ground.data }, { on := 2, ground := Ground.guard }], guard := some (2, false) }, { dst := some 65, op := Op.binOp BinOp.eql 9 (Operand.tmp 62) (Operand.tmp 64) 9, type := 4, pos := "law.go:81", after := #[{ on := 5, ground := Ground.data }, { on := 7, ground := Ground.data }, { on := 2, ground := Ground.guard }], guard := some (2, false) }, { dst := some 66, op := Op.pick (Operand.tmp 59) (Operand.const (Value.bool true)) (Operand.tmp 65), type := 4, pos := "law.go:81", after := #[{ on := 2, ground := Ground.data }, { on := 8, ground := Ground.data }], guard := none }, { dst := some 6, op := Op.assign (Operand.tmp 66), type := 4, pos := "law.go:81", after := #[{ on := 9, ground := Ground.data }, { on := 4, ground := Ground.chain }, { on := 0, ground := Ground.phase }, { on := 1, ground := Ground.phase }, { on := 2, ground := Ground.phase }, { on := 3, ground := Ground.phase }, { on := 4, ground := Ground.phase }, { on := 5, ground := Ground.phase }, { on := 6, ground := Ground.phase }, { on := 7, ground := Ground.phase }, { on := 8, ground := Ground.phase }, { on := 9, ground := Ground.phase }], guard := none }] true).wp Try.prog (fun e a w => match e with | .normal => Below w8.heap.size w8 w ∧ ∃ v57 v58 v59 v60 v61 v62 v63 v64 v65 v66 : Value, a = ⟨#[u0, u1, u2, u3, u4, u5, .bool true, u7, u8, .slice b6 T.length c6, u10, .int .i64 0, .slice b8 I.length c8, .int .i64 0, u14, u15, u16, u17, u18, u19, u20, u21, u22, u23, u24, u25, u26, u27, u28, u29, u30, u31, u32, u33, u34, u35, u36, u37, u38, u39, u40, u41, u42, u43, u44, u45, u46, u47, u48, u49, u50, u51, u52, u53, u54, u55, u56, v57, v58, v59, v60, v61, v62, v63, v64, v65, v66], []⟩ | _ => False) ⟨#[u0, u1, u2, u3, u4, u5, u6, u7, u8, .slice b6 T.length c6, u10, .int .i64 0, .slice b8 I.length c8, .int .i64 0, u14, u15, u16, u17, u18, u19, u20, u21, u22, u23, u24, u25, u26, u27, u28, u29, u30, u31, u32, u33, u34, u35, u36, u37, u38, u39, u40, u41, u42, u43, u44, u45, u46, u47, u48, u49, u50, u51, u52, u53, u54, u55, u56, u57, u58, u59, u60, u61, u62, u63, u64, u65, u66], []⟩ w8 := by
  have sT8 := run_str (P := Try.prog) (w := w8.drew) hrT8 _ c6 rfl 24 5 9 Try.underlying24 Try.underlying5 Try.underlying9
  refine wp_region_held_drew (S := fun w' => (convert 24 9 (.slice b6 T.length c6)).run Try.prog w' = .ok (.string (str T)) w') (by kernel_rfl) ?_ (fun hHeld => ?_)
  · exact sT8
  refine wpAnyH_take (i := 0) (oi := { dst := some 57, op := Op.move (Operand.tmp 11), type := 36, pos := "law.go:81", after := #[], guard := none }) (v := ?_) rfl (by kernel_rfl) (by kernel_rfl) (by kernel_rfl) (fun _ _ _ h => h) (Or.inl ⟨by rfl, ?_⟩) (by exact hHeld) ?_
  rotate_left
  · intro w hSw
    (try dsimp only at hSw)
    go_simp
    with_reducible rfl
  try simp only [Act.put, List.setIfInBounds_toArray, List.set_cons_zero, List.set_cons_succ]
  refine wpAnyH_take (i := 1) (oi := { dst := some 58, op := Op.binOp BinOp.eql 36 (Operand.tmp 57) (Operand.const (Value.int IntKind.i64 11)) 36, type := 4, pos := "law.go:81", after := #[{ on := 0, ground := Ground.data }], guard := none }) (v := ?_) rfl (by kernel_rfl) (by kernel_rfl) (by kernel_rfl) (fun _ _ _ h => h) (Or.inl ⟨by rfl, ?_⟩) (by exact hHeld) ?_
  rotate_left
  · intro w hSw
    (try dsimp only at hSw)
    go_simp
    with_reducible rfl
  try simp only [Act.put, List.setIfInBounds_toArray, List.set_cons_zero, List.set_cons_succ]
  refine wpAnyH_take (i := 2) (oi := { dst := some 59, op := Op.move (Operand.tmp 58), type := 4, pos := "law.go:81", after := #[{ on := 1, ground := Ground.data }], guard := none }) (v := ?_) rfl (by kernel_rfl) (by kernel_rfl) (by kernel_rfl) (fun _ _ _ h => h) (Or.inl ⟨by rfl, ?_⟩) (by exact hHeld) ?_
  rotate_left
  · intro w hSw
    (try dsimp only at hSw)
    go_simp
    with_reducible rfl
  try simp only [Act.put, List.setIfInBounds_toArray, List.set_cons_zero, List.set_cons_succ]
  refine wpAnyH_take (i := 3) (oi := { dst := some 60, op := Op.move (Operand.tmp 12), type := 24, pos := "law.go:81", after := #[{ on := 2, ground := Ground.guard }], guard := some (2, false) }) (v := ?_) rfl (by kernel_rfl) (by kernel_rfl) (by kernel_rfl) (fun _ _ _ h => h) (Or.inl ⟨by rfl, ?_⟩) (by exact hHeld) ?_
  rotate_left
  · intro w hSw
    (try dsimp only at hSw)
    go_simp
    with_reducible rfl
  try simp only [Act.put, List.setIfInBounds_toArray, List.set_cons_zero, List.set_cons_succ]
  refine wpAnyH_take (i := 6) (oi := { dst := some 63, op := Op.move (Operand.tmp 9), type := 24, pos := "law.go:81", after := #[{ on := 2, ground := Ground.guard }], guard := some (2, false) }) (v := ?_) rfl (by kernel_rfl) (by kernel_rfl) (by kernel_rfl) (fun _ _ _ h => h) (Or.inl ⟨by rfl, ?_⟩) (by exact hHeld) ?_
  rotate_left
  · intro w hSw
    (try dsimp only at hSw)
    go_simp
    with_reducible rfl
  try simp only [Act.put, List.setIfInBounds_toArray, List.set_cons_zero, List.set_cons_succ]
  refine wpAnyH_take (i := 7) (oi := { dst := some 64, op := Op.convert 24 9 (Operand.tmp 63), type := 9, pos := "law.go:81", after := #[{ on := 6, ground := Ground.data }, { on := 2, ground := Ground.guard }], guard := some (2, false) }) (v := ?_) rfl (by kernel_rfl) (by kernel_rfl) (by kernel_rfl) (fun _ _ _ h => h) (Or.inl ⟨by rfl, ?_⟩) (by exact hHeld) ?_
  rotate_left
  · intro w hSw
    (try dsimp only at hSw)
    go_simp
    with_reducible rfl
  try simp only [Act.put, List.setIfInBounds_toArray, List.set_cons_zero, List.set_cons_succ]
  refine wpAnyH_ready (rs := [4]) (by kernel_rfl) (by simp) ?_
  refine AllReadyH.cons (o := { dst := some 61, op := Op.call { callee := Callee.value (Operand.func 23), args := #[Operand.tmp 60], argTypes := #[24] }, type := 24, pos := "law.go:81", after := #[{ on := 3, ground := Ground.data }, { on := 2, ground := Ground.chain }, { on := 2, ground := Ground.guard }], guard := some (2, false) }) rfl (fun K hK => ?_) AllReadyH.nil
  go_simp
  refine (refseal_yes b8 I _ c8 _ w8.heap.size (hidr _) ?_ hil ?_).mono ?_
  · exact hr8
  · exact Nat.le_refl _
  rintro e w9 ⟨v9, rfl, hown9, hb9⟩
  rw [Hbk.out] at hown9
  obtain ⟨b9, c9, rfl, _, _, hr9, _⟩ := hown9.form
  have hrT9 := rd_below2 hb9 hrT8 hw6
  have s9 := run_str (P := Try.prog) hr9 _ c9 rfl 24 5 9 Try.underlying24 Try.underlying5 Try.underlying9
  have s10 := run_str (P := Try.prog) hrT9 _ c6 rfl 24 5 9 Try.underlying24 Try.underlying5 Try.underlying9
  go_wp2_with fail
  refine hK.out _ _ s10 (fun hHeld2 => ?_)
  clear hK K
  try simp only [Act.put, List.setIfInBounds_toArray, List.set_cons_zero, List.set_cons_succ]
  refine wpAnyH_ready (rs := [5]) (by kernel_rfl) (by simp) ?_
  refine AllReadyH.cons (o := { dst := some 62, op := Op.convert 24 9 (Operand.tmp 61), type := 9, pos := "law.go:81", after := #[{ on := 4, ground := Ground.data }, { on := 2, ground := Ground.guard }], guard := some (2, false) }) rfl (fun K hK => ?_) AllReadyH.nil
  go_simp
  refine hK.out _ _ s10 (fun hHeld3 => ?_)
  clear hK K
  try simp only [Act.put, List.setIfInBounds_toArray, List.set_cons_zero, List.set_cons_succ]
  refine wpAnyH_take (i := 8) (oi := { dst := some 65, op := Op.binOp BinOp.eql 9 (Operand.tmp 62) (Operand.tmp 64) 9, type := 4, pos := "law.go:81", after := #[{ on := 5, ground := Ground.data }, { on := 7, ground := Ground.data }, { on := 2, ground := Ground.guard }], guard := some (2, false) }) (v := ?_) rfl (by kernel_rfl) (by kernel_rfl) (by kernel_rfl) (fun _ _ _ h => h) (Or.inl ⟨by rfl, ?_⟩) (by exact s10) ?_
  rotate_left
  · intro w hSw
    (try dsimp only at hSw)
    go_simp
    with_reducible rfl
  try simp only [Act.put, List.setIfInBounds_toArray, List.set_cons_zero, List.set_cons_succ]
  refine wpAnyH_take (i := 9) (oi := { dst := some 66, op := Op.pick (Operand.tmp 59) (Operand.const (Value.bool true)) (Operand.tmp 65), type := 4, pos := "law.go:81", after := #[{ on := 2, ground := Ground.data }, { on := 8, ground := Ground.data }], guard := none }) (v := ?_) rfl (by kernel_rfl) (by kernel_rfl) (by kernel_rfl) (fun _ _ _ h => h) (Or.inl ⟨by rfl, ?_⟩) (by exact s10) ?_
  rotate_left
  · intro w hSw
    (try dsimp only at hSw)
    go_simp
    with_reducible rfl
  try simp only [Act.put, List.setIfInBounds_toArray, List.set_cons_zero, List.set_cons_succ]
  refine wpAnyH_take (i := 10) (oi := { dst := some 6, op := Op.assign (Operand.tmp 66), type := 4, pos := "law.go:81", after := #[{ on := 9, ground := Ground.data }, { on := 4, ground := Ground.chain }, { on := 0, ground := Ground.phase }, { on := 1, ground := Ground.phase }, { on := 2, ground := Ground.phase }, { on := 3, ground := Ground.phase }, { on := 4, ground := Ground.phase }, { on := 5, ground := Ground.phase }, { on := 6, ground := Ground.phase }, { on := 7, ground := Ground.phase }, { on := 8, ground := Ground.phase }, { on := 9, ground := Ground.phase }], guard := none }) (v := ?_) rfl (by kernel_rfl) (by kernel_rfl) (by kernel_rfl) (fun _ _ _ h => h) (Or.inl ⟨by rfl, ?_⟩) (by exact s10) ?_
  rotate_left
  · intro w hSw
    (try dsimp only at hSw)
    go_simp
    with_reducible rfl
  try simp only [Act.put, List.setIfInBounds_toArray, List.set_cons_zero, List.set_cons_succ]
  refine wpAnyH_done (by kernel_rfl) ?_ _
  have hbb : Below w8.heap.size w8 w9 := ⟨hb9.os, hb9.tape, hb9.output, hb9.size, hb9.block⟩
  refine ⟨hbb, ?_⟩
  exact ⟨_, _, _, _, _, _, _, _, _, _, rfl⟩

end Go.Proofs.Ytfeddkldnmgncaa
