/- Two regions of FrameAll that draw their order and hold a call of the reference's Seal: what each leaves. -/
import Derived.Test.YtfeddkldnmgncaaFrameBegun
import Derived.Deep.RegionHeld3
namespace Go.Proofs.Ytfeddkldnmgncaa
open Go.RowKit Crc
set_option linter.unusedVariables false
theorem rd_below3 {W w' : World} {B : Nat} {a : Option Addr} {l : List Nat} (hb : Below W.heap.size W w') (h : Rd W B a l) (hB : B ≤ W.heap.size) : Rd w' B a l := h.below (hb.mono hB)

set_option maxHeartbeats 2000000 in
theorem all_region8 (b6 b8 : Option Addr) (T I : List Nat) (c6 c8 B6 : Nat) (w8 : World) (hr8 : Rd w8 w8.heap.size b8 I) (hil : I.length ≤ 60000) (hrT8 : Rd w8 B6 b6 T) (hw6 : B6 ≤ w8.heap.size) (Hbk : Hid (seal1 I = T))
    (u0 u2 u3 u4 u5 u6 u7 u8 u11 u12 u13 u14 u15 u16 u17 u18 u19 u20 u21 u22 u23 u24 u25 u26 u27 u28 u29 u30 u31 u32 u33 u34 u35 u36 u37 u38 u39 u40 u41 u42 u43 u44 u45 u46 u47 u48 u49 u50 u51 u52 u53 u54 u55 u56 u57 u58 u59 u60 u61 u62 u63 u64 u65 u66 u67 u68 u69 u70 u71 u72 u73 u74 u75 u76 u77 u78 u79 u80 u81 u82 u83 u84 u85 u86 u87 u88 u89 : Value) (Q : Exit → Act → World → Prop) (hp : Hid (∀ c a w, ¬ Q (.panic c) a w))
    (hn : Hid (∀ (w9 : World) (v33 v34 v35 v36 v37 v38 v39 v40 v41 v42 v43 v44 v45 v46 v47 v48 v49 v50 v51 v52 v53 v54 : Value), Below w8.heap.size w8 w9 → Q .normal ⟨#[u0, .slice b6 T.length c6, u2, u3, u4, u5, u6, u7, u8, .slice b8 I.length c8, .int .i64 0, u11, u12, u13, u14, u15, u16, u17, u18, u19, u20, u21, u22, u23, u24, u25, u26, u27, u28, u29, u30, u31, u32, v33, v34, v35, v36, v37, v38, v39, v40, v41, v42, v43, v44, v45, v46, v47, v48, v49, v50, v51, v52, v53, v54, .bool false, u56, u57, u58, u59, u60, u61, u62, u63, u64, u65, u66, u67, u68, u69, u70, u71, u72, u73, u74, u75, u76, u77, u78, u79, u80, u81, u82, u83, u84, u85, u86, u87, u88, u89], []⟩ w9)) :
    (Code.region 8 #[{ dst := some 33, op := Op.move (Operand.tmp 10), type := 36, pos := "law.go:32", after := #[], guard := none }, { dst := some 34, op := Op.binOp BinOp.eql 36 (Operand.tmp 33) (Operand.const (Value.int IntKind.i64 0)) 36, type := 4, pos := "law.go:32", after := #[{ on := 0, ground := Ground.data }], guard := none }, { dst := some 35, op := Op.move (Operand.tmp 34), type := 4, pos := "law.go:32", after := #[{ on := 1, ground := Ground.data }], guard := none }, { dst := some 36, op := Op.move (Operand.tmp 9), type := 24, pos := "law.go:32", after := #[{ on := 2, ground := Ground.guard }], guard := some (2, true) }, { dst := some 37, op := Op.call { callee := Callee.value (Operand.func 23), args := #[Operand.tmp 36], argTypes := #[24] }, type := 24, pos := "law.go:32", after := #[{ on := 3, ground := Ground.data }, { on := 2, ground := Ground.chain }, { on := 2, ground := Ground.guard }], guard := some (2, true) }, { dst := some 38, op := Op.convert 24 9 (Operand.tmp 37), type := 9, pos := "law.go:32", after := #[{ on := 4, ground := Ground.data }, { on := 2, ground := Ground.guard }], guard := some (2, true) }, { dst := some 39, op := Op.move (Operand.tmp 1), type := 24, pos := "law.go:32", after := #[{ on := 2, ground := Ground.guard }], guard := some (2, true) }, { dst := some 40, op := Op.convert 24 9 (Operand.tmp 39), type := 9, pos := "law.go:32", after := #[{ on := 6, ground := Ground.data }, { on := 2, ground := Ground.guard }], guard := some (2, true) }, { dst := some 41, op := Op.binOp BinOp.neq 9 (Operand.tmp 38) (Operand.tmp 40) 9, type := 4, pos := "law.go:32", after := #[{ on := 5, ground := Ground.data }, { on := 7, ground := Ground.data }, { on := 2, ground := Ground.guard }], guard := some (2, true) }, { dst := some 42, op := Op.pick (Operand.tmp 35) (Operand.tmp 41) (Operand.const (Value.bool false)), type := 4, pos := "law.go:32", after := #[{ on := 2, ground := Ground.data }, { on := 8, ground := Ground.data }], guard := none }, { dst := some 43, op := Op.move (Operand.tmp 42), type := 4, pos := "law.go:32", after := #[{ on := 9, ground := Ground.data }, { on := 4, ground := Ground.chain }], guard := none }, { dst := some 44, op := Op.move (Operand.tmp 10), type := 36, pos := "law.go:32", after := #[{ on := 10, ground := Ground.guard }], guard := some (10, false) }, { dst := some 45, op := Op.binOp BinOp.neq 36 (Operand.tmp 44) (Operand.const (Value.int IntKind.i64 0)) 36, type := 4, pos := "law.go:32", after := #[{ on := 11, ground := Ground.data }, { on := 10, ground := Ground.guard }], guard := some (10, false) }, { dst := some 46, op := Op.move (Operand.tmp 45), type := 4, pos := "law.go:32", after := #[{ on := 12, ground := Ground.data }, { on := 10, ground := Ground.chain }, { on := 10, ground := Ground.guard }], guard := some (10, false) }, { dst := some 47, op := Op.move (Operand.tmp 10), type := 36, pos := "law.go:32", after := #[{ on := 13, ground := Ground.guard }], guard := some (13, true) }, { dst := some 48, op := Op.binOp BinOp.neq 36 (Operand.tmp 47) (Operand.const (Value.int IntKind.i64 11)) 36, type := 4, pos := "law.go:32", after := #[{ on := 14, ground := Ground.data }, { on := 13, ground := Ground.guard }], guard := some (13, true) }, { dst := some 49, op := Op.move (Operand.tmp 48), type := 4, pos := "law.go:32", after := #[{ on := 15, ground := Ground.data }, { on := 13, ground := Ground.chain }, { on := 13, ground := Ground.guard }], guard := some (13, true) }, { dst := some 50, op := Op.move (Operand.tmp 9), type := 24, pos := "law.go:32", after := #[{ on := 16, ground := Ground.guard }], guard := some (16, false) }, { dst := some 51, op := Op.call { callee := Callee.builtin Builtin.len, args := #[Operand.tmp 50], argTypes := #[24] }, type := 3, pos := "law.go:32", after := #[{ on := 17, ground := Ground.data }, { on := 16, ground := Ground.guard }], guard := some (16, false) }, { dst := some 52, op := Op.binOp BinOp.neq 3 (Operand.tmp 51) (Operand.const (Value.int IntKind.i64 0)) 3, type := 4, pos := "law.go:32", after := #[{ on := 18, ground := Ground.data }, { on := 16, ground := Ground.guard }], guard := some (16, false) }, { dst := some 53, op := Op.pick (Operand.tmp 49) (Operand.const (Value.bool true)) (Operand.tmp 52), type := 4, pos := "law.go:32", after := #[{ on := 16, ground := Ground.data }, { on := 19, ground := Ground.data }, { on := 13, ground := Ground.guard }], guard := some (13, true) }, { dst := some 54, op := Op.pick (Operand.tmp 46) (Operand.tmp 53) (Operand.const (Value.bool false)), type := 4, pos := "law.go:32", after := #[{ on := 13, ground := Ground.data }, { on := 20, ground := Ground.data }, { on := 10, ground := Ground.guard }], guard := some (10, false) }, { dst := some 55, op := Op.pick (Operand.tmp 43) (Operand.const (Value.bool true)) (Operand.tmp 54), type := 4, pos := "law.go:32", after := #[{ on := 10, ground := Ground.data }, { on := 21, ground := Ground.data }], guard := none }] true).wp Try.prog Q ⟨#[u0, .slice b6 T.length c6, u2, u3, u4, u5, u6, u7, u8, .slice b8 I.length c8, .int .i64 0, u11, u12, u13, u14, u15, u16, u17, u18, u19, u20, u21, u22, u23, u24, u25, u26, u27, u28, u29, u30, u31, u32, u33, u34, u35, u36, u37, u38, u39, u40, u41, u42, u43, u44, u45, u46, u47, u48, u49, u50, u51, u52, u53, u54, u55, u56, u57, u58, u59, u60, u61, u62, u63, u64, u65, u66, u67, u68, u69, u70, u71, u72, u73, u74, u75, u76, u77, u78, u79, u80, u81, u82, u83, u84, u85, u86, u87, u88, u89], []⟩ w8 := by
  have sT8 := run_str (P := Try.prog) (w := w8.drew) hrT8 _ c6 rfl 24 5 9 Try.underlying24 Try.underlying5 Try.underlying9
  refine wp_region_held_drew (S := fun w' => (convert 24 9 (.slice b6 T.length c6)).run Try.prog w' = .ok (.string (str T)) w') (by kernel_rfl) ?_ (fun hHeld => ?_)
  · exact sT8
  refine wpAnyH_take (i := 0) (oi := { dst := some 33, op := Op.move (Operand.tmp 10), type := 36, pos := "law.go:32", after := #[], guard := none }) (v := ?_) rfl (by kernel_rfl) (by kernel_rfl) (by kernel_rfl) (fun c _ w h => absurd h (hp.out c _ w)) (Or.inl ⟨by rfl, ?_⟩) (by exact hHeld) ?_
  rotate_left
  · intro w hSw
    (try dsimp only at hSw)
    go_simp
    with_reducible rfl
  try simp only [Act.put, List.setIfInBounds_toArray, List.set_cons_zero, List.set_cons_succ]
  refine wpAnyH_take (i := 1) (oi := { dst := some 34, op := Op.binOp BinOp.eql 36 (Operand.tmp 33) (Operand.const (Value.int IntKind.i64 0)) 36, type := 4, pos := "law.go:32", after := #[{ on := 0, ground := Ground.data }], guard := none }) (v := ?_) rfl (by kernel_rfl) (by kernel_rfl) (by kernel_rfl) (fun c _ w h => absurd h (hp.out c _ w)) (Or.inl ⟨by rfl, ?_⟩) (by exact hHeld) ?_
  rotate_left
  · intro w hSw
    (try dsimp only at hSw)
    go_simp
    with_reducible rfl
  try simp only [Act.put, List.setIfInBounds_toArray, List.set_cons_zero, List.set_cons_succ]
  refine wpAnyH_take (i := 2) (oi := { dst := some 35, op := Op.move (Operand.tmp 34), type := 4, pos := "law.go:32", after := #[{ on := 1, ground := Ground.data }], guard := none }) (v := ?_) rfl (by kernel_rfl) (by kernel_rfl) (by kernel_rfl) (fun c _ w h => absurd h (hp.out c _ w)) (Or.inl ⟨by rfl, ?_⟩) (by exact hHeld) ?_
  rotate_left
  · intro w hSw
    (try dsimp only at hSw)
    go_simp
    with_reducible rfl
  try simp only [Act.put, List.setIfInBounds_toArray, List.set_cons_zero, List.set_cons_succ]
  refine wpAnyH_take (i := 3) (oi := { dst := some 36, op := Op.move (Operand.tmp 9), type := 24, pos := "law.go:32", after := #[{ on := 2, ground := Ground.guard }], guard := some (2, true) }) (v := ?_) rfl (by kernel_rfl) (by kernel_rfl) (by kernel_rfl) (fun c _ w h => absurd h (hp.out c _ w)) (Or.inl ⟨by rfl, ?_⟩) (by exact hHeld) ?_
  rotate_left
  · intro w hSw
    (try dsimp only at hSw)
    go_simp
    with_reducible rfl
  try simp only [Act.put, List.setIfInBounds_toArray, List.set_cons_zero, List.set_cons_succ]
  refine wpAnyH_take (i := 6) (oi := { dst := some 39, op := Op.move (Operand.tmp 1), type := 24, pos := "law.go:32", after := #[{ on := 2, ground := Ground.guard }], guard := some (2, true) }) (v := ?_) rfl (by kernel_rfl) (by kernel_rfl) (by kernel_rfl) (fun c _ w h => absurd h (hp.out c _ w)) (Or.inl ⟨by rfl, ?_⟩) (by exact hHeld) ?_
  rotate_left
  · intro w hSw
    (try dsimp only at hSw)
    go_simp
    with_reducible rfl
  try simp only [Act.put, List.setIfInBounds_toArray, List.set_cons_zero, List.set_cons_succ]
  refine wpAnyH_take (i := 7) (oi := { dst := some 40, op := Op.convert 24 9 (Operand.tmp 39), type := 9, pos := "law.go:32", after := #[{ on := 6, ground := Ground.data }, { on := 2, ground := Ground.guard }], guard := some (2, true) }) (v := ?_) rfl (by kernel_rfl) (by kernel_rfl) (by kernel_rfl) (fun c _ w h => absurd h (hp.out c _ w)) (Or.inl ⟨by rfl, ?_⟩) (by exact hHeld) ?_
  rotate_left
  · intro w hSw
    (try dsimp only at hSw)
    go_simp
    with_reducible rfl
  try simp only [Act.put, List.setIfInBounds_toArray, List.set_cons_zero, List.set_cons_succ]
  refine wpAnyH_ready (rs := [4]) (by kernel_rfl) (by simp) ?_
  refine AllReadyH.cons (o := { dst := some 37, op := Op.call { callee := Callee.value (Operand.func 23), args := #[Operand.tmp 36], argTypes := #[24] }, type := 24, pos := "law.go:32", after := #[{ on := 3, ground := Ground.data }, { on := 2, ground := Ground.chain }, { on := 2, ground := Ground.guard }], guard := some (2, true) }) rfl (fun K hK => ?_) AllReadyH.nil
  rw [if_pos (by rfl)]
  go_simp
  refine (refseal_yes b8 I _ c8 _ w8.heap.size (hidr _) ?_ hil ?_).mono ?_
  · exact hr8
  · exact Nat.le_refl _
  rintro e w9 ⟨v9, rfl, hown9, hb9⟩
  rw [Hbk.out] at hown9
  obtain ⟨b9, c9, rfl, _, _, hr9, _⟩ := hown9.form
  have hrT9 := rd_below3 hb9 hrT8 hw6
  have s9 := run_str (P := Try.prog) hr9 _ c9 rfl 24 5 9 Try.underlying24 Try.underlying5 Try.underlying9
  have s10 := run_str (P := Try.prog) hrT9 _ c6 rfl 24 5 9 Try.underlying24 Try.underlying5 Try.underlying9
  go_wp2_with fail
  refine hK.out _ _ s10 (fun hHeld2 => ?_)
  clear hK K
  try simp only [Act.put, List.setIfInBounds_toArray, List.set_cons_zero, List.set_cons_succ]
  refine wpAnyH_ready (rs := [5]) (by kernel_rfl) (by simp) ?_
  refine AllReadyH.cons (o := { dst := some 38, op := Op.convert 24 9 (Operand.tmp 37), type := 9, pos := "law.go:32", after := #[{ on := 4, ground := Ground.data }, { on := 2, ground := Ground.guard }], guard := some (2, true) }) rfl (fun K hK => ?_) AllReadyH.nil
  rw [if_pos (by rfl)]
  go_simp
  refine hK.out _ _ s10 (fun hHeld3 => ?_)
  clear hK K
  try simp only [Act.put, List.setIfInBounds_toArray, List.set_cons_zero, List.set_cons_succ]
  refine wpAnyH_take (i := 8) (oi := { dst := some 41, op := Op.binOp BinOp.neq 9 (Operand.tmp 38) (Operand.tmp 40) 9, type := 4, pos := "law.go:32", after := #[{ on := 5, ground := Ground.data }, { on := 7, ground := Ground.data }, { on := 2, ground := Ground.guard }], guard := some (2, true) }) (v := ?_) rfl (by kernel_rfl) (by kernel_rfl) (by kernel_rfl) (fun c _ w h => absurd h (hp.out c _ w)) (Or.inl ⟨by rfl, ?_⟩) (by exact s10) ?_
  rotate_left
  · intro w hSw
    (try dsimp only at hSw)
    go_simp
    with_reducible rfl
  try simp only [Act.put, List.setIfInBounds_toArray, List.set_cons_zero, List.set_cons_succ]
  refine wpAnyH_take (i := 9) (oi := { dst := some 42, op := Op.pick (Operand.tmp 35) (Operand.tmp 41) (Operand.const (Value.bool false)), type := 4, pos := "law.go:32", after := #[{ on := 2, ground := Ground.data }, { on := 8, ground := Ground.data }], guard := none }) (v := ?_) rfl (by kernel_rfl) (by kernel_rfl) (by kernel_rfl) (fun c _ w h => absurd h (hp.out c _ w)) (Or.inl ⟨by rfl, ?_⟩) (by exact s10) ?_
  rotate_left
  · intro w hSw
    (try dsimp only at hSw)
    go_simp
    with_reducible rfl
  try simp only [Act.put, List.setIfInBounds_toArray, List.set_cons_zero, List.set_cons_succ]
  refine wpAnyH_take (i := 10) (oi := { dst := some 43, op := Op.move (Operand.tmp 42), type := 4, pos := "law.go:32", after := #[{ on := 9, ground := Ground.data }, { on := 4, ground := Ground.chain }], guard := none }) (v := ?_) rfl (by kernel_rfl) (by kernel_rfl) (by kernel_rfl) (fun c _ w h => absurd h (hp.out c _ w)) (Or.inl ⟨by rfl, ?_⟩) (by exact s10) ?_
  rotate_left
  · intro w hSw
    (try dsimp only at hSw)
    go_simp
    with_reducible rfl
  try simp only [Act.put, List.setIfInBounds_toArray, List.set_cons_zero, List.set_cons_succ]
  refine wpAnyH_take (i := 11) (oi := { dst := some 44, op := Op.move (Operand.tmp 10), type := 36, pos := "law.go:32", after := #[{ on := 10, ground := Ground.guard }], guard := some (10, false) }) (v := ?_) rfl (by kernel_rfl) (by kernel_rfl) (by kernel_rfl) (fun c _ w h => absurd h (hp.out c _ w)) (Or.inl ⟨by rfl, ?_⟩) (by exact s10) ?_
  rotate_left
  · intro w hSw
    (try dsimp only at hSw)
    go_simp
    with_reducible rfl
  try simp only [Act.put, List.setIfInBounds_toArray, List.set_cons_zero, List.set_cons_succ]
  refine wpAnyH_take (i := 12) (oi := { dst := some 45, op := Op.binOp BinOp.neq 36 (Operand.tmp 44) (Operand.const (Value.int IntKind.i64 0)) 36, type := 4, pos := "law.go:32", after := #[{ on := 11, ground := Ground.data }, { on := 10, ground := Ground.guard }], guard := some (10, false) }) (v := ?_) rfl (by kernel_rfl) (by kernel_rfl) (by kernel_rfl) (fun c _ w h => absurd h (hp.out c _ w)) (Or.inl ⟨by rfl, ?_⟩) (by exact s10) ?_
  rotate_left
  · intro w hSw
    (try dsimp only at hSw)
    go_simp
    with_reducible rfl
  try simp only [Act.put, List.setIfInBounds_toArray, List.set_cons_zero, List.set_cons_succ]
  refine wpAnyH_take (i := 13) (oi := { dst := some 46, op := Op.move (Operand.tmp 45), type := 4, pos := "law.go:32", after := #[{ on := 12, ground := Ground.data }, { on := 10, ground := Ground.chain }, { on := 10, ground := Ground.guard }], guard := some (10, false) }) (v := ?_) rfl (by kernel_rfl) (by kernel_rfl) (by kernel_rfl) (fun c _ w h => absurd h (hp.out c _ w)) (Or.inl ⟨by rfl, ?_⟩) (by exact s10) ?_
  rotate_left
  · intro w hSw
    (try dsimp only at hSw)
    go_simp
    with_reducible rfl
  try simp only [Act.put, List.setIfInBounds_toArray, List.set_cons_zero, List.set_cons_succ]
  refine wpAnyH_take (i := 14) (oi := { dst := some 47, op := Op.move (Operand.tmp 10), type := 36, pos := "law.go:32", after := #[{ on := 13, ground := Ground.guard }], guard := some (13, true) }) (v := undef) rfl (by kernel_rfl) (by kernel_rfl) (by kernel_rfl) (fun c _ w h => absurd h (hp.out c _ w)) (Or.inr ⟨by rfl, rfl⟩) (by exact s10) ?_
  try simp only [Act.put, List.setIfInBounds_toArray, List.set_cons_zero, List.set_cons_succ]
  refine wpAnyH_take (i := 15) (oi := { dst := some 48, op := Op.binOp BinOp.neq 36 (Operand.tmp 47) (Operand.const (Value.int IntKind.i64 11)) 36, type := 4, pos := "law.go:32", after := #[{ on := 14, ground := Ground.data }, { on := 13, ground := Ground.guard }], guard := some (13, true) }) (v := undef) rfl (by kernel_rfl) (by kernel_rfl) (by kernel_rfl) (fun c _ w h => absurd h (hp.out c _ w)) (Or.inr ⟨by rfl, rfl⟩) (by exact s10) ?_
  try simp only [Act.put, List.setIfInBounds_toArray, List.set_cons_zero, List.set_cons_succ]
  refine wpAnyH_take (i := 16) (oi := { dst := some 49, op := Op.move (Operand.tmp 48), type := 4, pos := "law.go:32", after := #[{ on := 15, ground := Ground.data }, { on := 13, ground := Ground.chain }, { on := 13, ground := Ground.guard }], guard := some (13, true) }) (v := undef) rfl (by kernel_rfl) (by kernel_rfl) (by kernel_rfl) (fun c _ w h => absurd h (hp.out c _ w)) (Or.inr ⟨by rfl, rfl⟩) (by exact s10) ?_
  try simp only [Act.put, List.setIfInBounds_toArray, List.set_cons_zero, List.set_cons_succ]
  refine wpAnyH_take (i := 17) (oi := { dst := some 50, op := Op.move (Operand.tmp 9), type := 24, pos := "law.go:32", after := #[{ on := 16, ground := Ground.guard }], guard := some (16, false) }) (v := undef) rfl (by kernel_rfl) (by kernel_rfl) (by kernel_rfl) (fun c _ w h => absurd h (hp.out c _ w)) (Or.inr ⟨by rfl, rfl⟩) (by exact s10) ?_
  try simp only [Act.put, List.setIfInBounds_toArray, List.set_cons_zero, List.set_cons_succ]
  refine wpAnyH_take (i := 18) (oi := { dst := some 51, op := Op.call { callee := Callee.builtin Builtin.len, args := #[Operand.tmp 50], argTypes := #[24] }, type := 3, pos := "law.go:32", after := #[{ on := 17, ground := Ground.data }, { on := 16, ground := Ground.guard }], guard := some (16, false) }) (v := undef) rfl (by kernel_rfl) (by kernel_rfl) (by kernel_rfl) (fun c _ w h => absurd h (hp.out c _ w)) (Or.inr ⟨by rfl, rfl⟩) (by exact s10) ?_
  try simp only [Act.put, List.setIfInBounds_toArray, List.set_cons_zero, List.set_cons_succ]
  refine wpAnyH_take (i := 19) (oi := { dst := some 52, op := Op.binOp BinOp.neq 3 (Operand.tmp 51) (Operand.const (Value.int IntKind.i64 0)) 3, type := 4, pos := "law.go:32", after := #[{ on := 18, ground := Ground.data }, { on := 16, ground := Ground.guard }], guard := some (16, false) }) (v := undef) rfl (by kernel_rfl) (by kernel_rfl) (by kernel_rfl) (fun c _ w h => absurd h (hp.out c _ w)) (Or.inr ⟨by rfl, rfl⟩) (by exact s10) ?_
  try simp only [Act.put, List.setIfInBounds_toArray, List.set_cons_zero, List.set_cons_succ]
  refine wpAnyH_take (i := 20) (oi := { dst := some 53, op := Op.pick (Operand.tmp 49) (Operand.const (Value.bool true)) (Operand.tmp 52), type := 4, pos := "law.go:32", after := #[{ on := 16, ground := Ground.data }, { on := 19, ground := Ground.data }, { on := 13, ground := Ground.guard }], guard := some (13, true) }) (v := undef) rfl (by kernel_rfl) (by kernel_rfl) (by kernel_rfl) (fun c _ w h => absurd h (hp.out c _ w)) (Or.inr ⟨by rfl, rfl⟩) (by exact s10) ?_
  try simp only [Act.put, List.setIfInBounds_toArray, List.set_cons_zero, List.set_cons_succ]
  refine wpAnyH_take (i := 21) (oi := { dst := some 54, op := Op.pick (Operand.tmp 46) (Operand.tmp 53) (Operand.const (Value.bool false)), type := 4, pos := "law.go:32", after := #[{ on := 13, ground := Ground.data }, { on := 20, ground := Ground.data }, { on := 10, ground := Ground.guard }], guard := some (10, false) }) (v := ?_) rfl (by kernel_rfl) (by kernel_rfl) (by kernel_rfl) (fun c _ w h => absurd h (hp.out c _ w)) (Or.inl ⟨by rfl, ?_⟩) (by exact s10) ?_
  rotate_left
  · intro w hSw
    (try dsimp only at hSw)
    go_simp
    with_reducible rfl
  try simp only [Act.put, List.setIfInBounds_toArray, List.set_cons_zero, List.set_cons_succ]
  refine wpAnyH_take (i := 22) (oi := { dst := some 55, op := Op.pick (Operand.tmp 43) (Operand.const (Value.bool true)) (Operand.tmp 54), type := 4, pos := "law.go:32", after := #[{ on := 10, ground := Ground.data }, { on := 21, ground := Ground.data }], guard := none }) (v := ?_) rfl (by kernel_rfl) (by kernel_rfl) (by kernel_rfl) (fun c _ w h => absurd h (hp.out c _ w)) (Or.inl ⟨by rfl, ?_⟩) (by exact s10) ?_
  rotate_left
  · intro w hSw
    (try dsimp only at hSw)
    go_simp
    with_reducible rfl
  try simp only [Act.put, List.setIfInBounds_toArray, List.set_cons_zero, List.set_cons_succ]
  refine wpAnyH_done (by kernel_rfl) ?_ _
  have hbb : Below w8.heap.size w8 w9 := ⟨hb9.os, hb9.tape, hb9.output, hb9.size, hb9.block⟩
  exact hn.out w9 _ _ _ _ _ _ _ _ _ _ _ _ _ _ _ _ _ _ _ _ _ _ hbb

set_option maxHeartbeats 2000000 in
theorem all_region11 (b1 b3 b4 bz a1 : Option Addr) (S L R : List Nat) (c1 c3 c4 cz cR B6 : Nat) (w8 : World) (hil : L.length ≤ 60000) (h3 : Rd w8 B6 b3 S) (h1 : Rd w8 B6 b1 L) (h4 : Rd w8 B6 b4 L) (hz : Rd w8 B6 bz R) (hR : Rd w8 B6 a1 R) (hw6 : B6 ≤ w8.heap.size) (Hbk : Hid (seal1 L = S))
    (u2 u3 u4 u5 u9 u10 u13 u14 u15 u16 u17 u18 u19 u20 u21 u22 u23 u24 u25 u26 u27 u28 u29 u30 u31 u32 u33 u34 u35 u36 u37 u38 u39 u40 u41 u42 u43 u44 u45 u46 u47 u48 u49 u50 u51 u52 u53 u54 u55 u56 u57 u58 u59 u60 u61 u62 u63 u64 u65 u66 u67 u68 u69 u70 u71 u72 u73 u74 u75 u76 u77 u78 u79 u80 u81 u82 u83 u84 u85 u86 u87 u88 u89 : Value) (Q : Exit → Act → World → Prop) (hp : Hid (∀ c a w, ¬ Q (.panic c) a w))
    (hn : Hid (∀ (w9 : World) (v62 v63 v64 v65 v66 v67 v68 v69 v70 v71 v72 v73 v74 v75 v76 v77 v78 v79 v80 v81 v82 v83 v84 v85 v86 v87 v88 v89 : Value), Below w8.heap.size w8 w9 → Q .normal ⟨#[.slice b1 L.length c1, .slice a1 R.length cR, u2, u3, .bool true, u5, .slice b3 S.length c3, .slice b4 L.length c4, .int .i64 0, u9, u10, .slice bz R.length cz, .int .i64 0, u13, u14, u15, u16, u17, u18, u19, u20, u21, u22, u23, u24, u25, u26, u27, u28, u29, u30, u31, u32, u33, u34, u35, u36, u37, u38, u39, u40, u41, u42, u43, u44, u45, u46, u47, u48, u49, u50, u51, u52, u53, u54, u55, u56, u57, u58, u59, u60, u61, v62, v63, v64, v65, v66, v67, v68, v69, v70, v71, v72, v73, v74, v75, v76, v77, v78, v79, v80, v81, v82, v83, v84, v85, v86, v87, v88, v89], []⟩ w9)) :
    (Code.region 11 #[{ dst := some 62, op := Op.move (Operand.tmp 6), type := 24, pos := "law.go:36", after := #[], guard := none }, { dst := some 63, op := Op.convert 24 9 (Operand.tmp 62), type := 9, pos := "law.go:36", after := #[{ on := 0, ground := Ground.data }], guard := none }, { dst := some 64, op := Op.move (Operand.tmp 0), type := 24, pos := "law.go:36", after := #[], guard := none }, { dst := some 65, op := Op.call { callee := Callee.value (Operand.func 23), args := #[Operand.tmp 64], argTypes := #[24] }, type := 24, pos := "law.go:36", after := #[{ on := 2, ground := Ground.data }], guard := none }, { dst := some 66, op := Op.convert 24 9 (Operand.tmp 65), type := 9, pos := "law.go:36", after := #[{ on := 3, ground := Ground.data }], guard := none }, { dst := some 67, op := Op.binOp BinOp.eql 9 (Operand.tmp 63) (Operand.tmp 66) 9, type := 4, pos := "law.go:36", after := #[{ on := 1, ground := Ground.data }, { on := 4, ground := Ground.data }], guard := none }, { dst := some 68, op := Op.move (Operand.tmp 67), type := 4, pos := "law.go:36", after := #[{ on := 5, ground := Ground.data }, { on := 3, ground := Ground.chain }], guard := none }, { dst := some 69, op := Op.move (Operand.tmp 8), type := 36, pos := "law.go:36", after := #[{ on := 6, ground := Ground.guard }], guard := some (6, true) }, { dst := some 70, op := Op.binOp BinOp.eql 36 (Operand.tmp 69) (Operand.const (Value.int IntKind.i64 0)) 36, type := 4, pos := "law.go:36", after := #[{ on := 7, ground := Ground.data }, { on := 6, ground := Ground.guard }], guard := some (6, true) }, { dst := some 71, op := Op.pick (Operand.tmp 68) (Operand.tmp 70) (Operand.const (Value.bool false)), type := 4, pos := "law.go:36", after := #[{ on := 6, ground := Ground.data }, { on := 8, ground := Ground.data }], guard := none }, { dst := some 72, op := Op.move (Operand.tmp 71), type := 4, pos := "law.go:36", after := #[{ on := 9, ground := Ground.data }, { on := 6, ground := Ground.chain }], guard := none }, { dst := some 73, op := Op.move (Operand.tmp 7), type := 24, pos := "law.go:36", after := #[{ on := 10, ground := Ground.guard }], guard := some (10, true) }, { dst := some 74, op := Op.convert 24 9 (Operand.tmp 73), type := 9, pos := "law.go:36", after := #[{ on := 11, ground := Ground.data }, { on := 10, ground := Ground.guard }], guard := some (10, true) }, { dst := some 75, op := Op.move (Operand.tmp 0), type := 24, pos := "law.go:36", after := #[{ on := 10, ground := Ground.guard }], guard := some (10, true) }, { dst := some 76, op := Op.convert 24 9 (Operand.tmp 75), type := 9, pos := "law.go:36", after := #[{ on := 13, ground := Ground.data }, { on := 10, ground := Ground.guard }], guard := some (10, true) }, { dst := some 77, op := Op.binOp BinOp.eql 9 (Operand.tmp 74) (Operand.tmp 76) 9, type := 4, pos := "law.go:36", after := #[{ on := 12, ground := Ground.data }, { on := 14, ground := Ground.data }, { on := 10, ground := Ground.guard }], guard := some (10, true) }, { dst := some 78, op := Op.pick (Operand.tmp 72) (Operand.tmp 77) (Operand.const (Value.bool false)), type := 4, pos := "law.go:36", after := #[{ on := 10, ground := Ground.data }, { on := 15, ground := Ground.data }], guard := none }, { dst := some 79, op := Op.move (Operand.tmp 78), type := 4, pos := "law.go:36", after := #[{ on := 16, ground := Ground.data }, { on := 10, ground := Ground.chain }], guard := none }, { dst := some 80, op := Op.move (Operand.tmp 12), type := 36, pos := "law.go:36", after := #[{ on := 17, ground := Ground.guard }], guard := some (17, true) }, { dst := some 81, op := Op.binOp BinOp.eql 36 (Operand.tmp 80) (Operand.const (Value.int IntKind.i64 0)) 36, type := 4, pos := "law.go:36", after := #[{ on := 18, ground := Ground.data }, { on := 17, ground := Ground.guard }], guard := some (17, true) }, { dst := some 82, op := Op.pick (Operand.tmp 79) (Operand.tmp 81) (Operand.const (Value.bool false)), type := 4, pos := "law.go:36", after := #[{ on := 17, ground := Ground.data }, { on := 19, ground := Ground.data }], guard := none }, { dst := some 83, op := Op.move (Operand.tmp 82), type := 4, pos := "law.go:36", after := #[{ on := 20, ground := Ground.data }, { on := 17, ground := Ground.chain }], guard := none }, { dst := some 84, op := Op.move (Operand.tmp 11), type := 24, pos := "law.go:36", after := #[{ on := 21, ground := Ground.guard }], guard := some (21, true) }, { dst := some 85, op := Op.convert 24 9 (Operand.tmp 84), type := 9, pos := "law.go:36", after := #[{ on := 22, ground := Ground.data }, { on := 21, ground := Ground.guard }], guard := some (21, true) }, { dst := some 86, op := Op.move (Operand.tmp 1), type := 24, pos := "law.go:36", after := #[{ on := 21, ground := Ground.guard }], guard := some (21, true) }, { dst := some 87, op := Op.convert 24 9 (Operand.tmp 86), type := 9, pos := "law.go:36", after := #[{ on := 24, ground := Ground.data }, { on := 21, ground := Ground.guard }], guard := some (21, true) }, { dst := some 88, op := Op.binOp BinOp.eql 9 (Operand.tmp 85) (Operand.tmp 87) 9, type := 4, pos := "law.go:36", after := #[{ on := 23, ground := Ground.data }, { on := 25, ground := Ground.data }, { on := 21, ground := Ground.guard }], guard := some (21, true) }, { dst := some 89, op := Op.pick (Operand.tmp 83) (Operand.tmp 88) (Operand.const (Value.bool false)), type := 4, pos := "law.go:36", after := #[{ on := 21, ground := Ground.data }, { on := 26, ground := Ground.data }], guard := none }, { dst := some 4, op := Op.assign (Operand.tmp 89), type := 4, pos := "law.go:36", after := #[{ on := 27, ground := Ground.data }, { on := 21, ground := Ground.chain }, { on := 0, ground := Ground.phase }, { on := 1, ground := Ground.phase }, { on := 2, ground := Ground.phase }, { on := 3, ground := Ground.phase }, { on := 4, ground := Ground.phase }, { on := 5, ground := Ground.phase }, { on := 6, ground := Ground.phase }, { on := 7, ground := Ground.phase }, { on := 8, ground := Ground.phase }, { on := 9, ground := Ground.phase }, { on := 10, ground := Ground.phase }, { on := 11, ground := Ground.phase }, { on := 12, ground := Ground.phase }, { on := 13, ground := Ground.phase }, { on := 14, ground := Ground.phase }, { on := 15, ground := Ground.phase }, { on := 16, ground := Ground.phase }, { on := 17, ground := Ground.phase }, { on := 18, ground := Ground.phase }, { on := 19, ground := Ground.phase }, { on := 20, ground := Ground.phase }, { on := 21, ground := Ground.phase }, { on := 22, ground := Ground.phase }, { on := 23, ground := Ground.phase }, { on := 24, ground := Ground.phase }, { on := 25, ground := Ground.phase }, { on := 26, ground := Ground.phase }, { on := 27, ground := Ground.phase }], guard := none }] true).wp Try.prog Q ⟨#[.slice b1 L.length c1, .slice a1 R.length cR, u2, u3, u4, u5, .slice b3 S.length c3, .slice b4 L.length c4, .int .i64 0, u9, u10, .slice bz R.length cz, .int .i64 0, u13, u14, u15, u16, u17, u18, u19, u20, u21, u22, u23, u24, u25, u26, u27, u28, u29, u30, u31, u32, u33, u34, u35, u36, u37, u38, u39, u40, u41, u42, u43, u44, u45, u46, u47, u48, u49, u50, u51, u52, u53, u54, u55, u56, u57, u58, u59, u60, u61, u62, u63, u64, u65, u66, u67, u68, u69, u70, u71, u72, u73, u74, u75, u76, u77, u78, u79, u80, u81, u82, u83, u84, u85, u86, u87, u88, u89], []⟩ w8 := by
  have s1 := run_str (P := Try.prog) (w := w8.drew) h3 _ c3 rfl 24 5 9 Try.underlying24 Try.underlying5 Try.underlying9
  have s2 := run_str (P := Try.prog) (w := w8.drew) h1 _ c1 rfl 24 5 9 Try.underlying24 Try.underlying5 Try.underlying9
  have s3 := run_str (P := Try.prog) (w := w8.drew) h4 _ c4 rfl 24 5 9 Try.underlying24 Try.underlying5 Try.underlying9
  have s4 := run_str (P := Try.prog) (w := w8.drew) hz _ cz rfl 24 5 9 Try.underlying24 Try.underlying5 Try.underlying9
  have s5 := run_str (P := Try.prog) (w := w8.drew) hR _ cR rfl 24 5 9 Try.underlying24 Try.underlying5 Try.underlying9
  refine wp_region_held_drew (S := fun w' => (convert 24 9 (.slice b3 S.length c3)).run Try.prog w' = .ok (.string (str S)) w' ∧ (convert 24 9 (.slice b1 L.length c1)).run Try.prog w' = .ok (.string (str L)) w' ∧ (convert 24 9 (.slice b4 L.length c4)).run Try.prog w' = .ok (.string (str L)) w' ∧ (convert 24 9 (.slice bz R.length cz)).run Try.prog w' = .ok (.string (str R)) w' ∧ (convert 24 9 (.slice a1 R.length cR)).run Try.prog w' = .ok (.string (str R)) w') (by kernel_rfl) ?_ (fun hHeld => ?_)
  · exact ⟨s1, s2, s3, s4, s5⟩
  clear s1 s2 s3 s4 s5
  refine wpAnyH_take (i := 0) (oi := { dst := some 62, op := Op.move (Operand.tmp 6), type := 24, pos := "law.go:36", after := #[], guard := none }) (v := ?_) rfl (by kernel_rfl) (by kernel_rfl) (by kernel_rfl) (fun c _ w h => absurd h (hp.out c _ w)) (Or.inl ⟨by rfl, ?_⟩) (by exact hHeld) ?_
  rotate_left
  · intro w hSw
    (try dsimp only at hSw)
    go_simp
    with_reducible rfl
  try simp only [Act.put, List.setIfInBounds_toArray, List.set_cons_zero, List.set_cons_succ]
  refine wpAnyH_take (i := 1) (oi := { dst := some 63, op := Op.convert 24 9 (Operand.tmp 62), type := 9, pos := "law.go:36", after := #[{ on := 0, ground := Ground.data }], guard := none }) (v := ?_) rfl (by kernel_rfl) (by kernel_rfl) (by kernel_rfl) (fun c _ w h => absurd h (hp.out c _ w)) (Or.inl ⟨by rfl, ?_⟩) (by exact hHeld) ?_
  rotate_left
  · intro w hSw
    (try dsimp only at hSw)
    go_simp
    with_reducible rfl
  try simp only [Act.put, List.setIfInBounds_toArray, List.set_cons_zero, List.set_cons_succ]
  refine wpAnyH_take (i := 2) (oi := { dst := some 64, op := Op.move (Operand.tmp 0), type := 24, pos := "law.go:36", after := #[], guard := none }) (v := ?_) rfl (by kernel_rfl) (by kernel_rfl) (by kernel_rfl) (fun c _ w h => absurd h (hp.out c _ w)) (Or.inl ⟨by rfl, ?_⟩) (by exact hHeld) ?_
  rotate_left
  · intro w hSw
    (try dsimp only at hSw)
    go_simp
    with_reducible rfl
  try simp only [Act.put, List.setIfInBounds_toArray, List.set_cons_zero, List.set_cons_succ]
  refine wpAnyH_ready (rs := [3]) (by kernel_rfl) (by simp) ?_
  refine AllReadyH.cons (o := { dst := some 65, op := Op.call { callee := Callee.value (Operand.func 23), args := #[Operand.tmp 64], argTypes := #[24] }, type := 24, pos := "law.go:36", after := #[{ on := 2, ground := Ground.data }], guard := none }) rfl (fun K hK => ?_) AllReadyH.nil
  rw [if_pos (by rfl)]
  go_simp
  refine (refseal_yes b1 L _ c1 _ B6 (hidr _) ?_ hil ?_).mono ?_
  · exact h1
  · exact hw6
  rintro e w9 ⟨v9, rfl, hown9, hb9⟩
  rw [Hbk.out] at hown9
  obtain ⟨b9, c9, rfl, _, _, hr9, _⟩ := hown9.form
  have q3 := rd_below3 hb9 h3 hw6
  have q1 := rd_below3 hb9 h1 hw6
  have q4 := rd_below3 hb9 h4 hw6
  have qz := rd_below3 hb9 hz hw6
  have qR := rd_below3 hb9 hR hw6
  have s9 := run_str (P := Try.prog) hr9 _ c9 rfl 24 5 9 Try.underlying24 Try.underlying5 Try.underlying9
  have s1 := run_str (P := Try.prog) q3 _ c3 rfl 24 5 9 Try.underlying24 Try.underlying5 Try.underlying9
  have s2 := run_str (P := Try.prog) q1 _ c1 rfl 24 5 9 Try.underlying24 Try.underlying5 Try.underlying9
  have s3 := run_str (P := Try.prog) q4 _ c4 rfl 24 5 9 Try.underlying24 Try.underlying5 Try.underlying9
  have s4 := run_str (P := Try.prog) qz _ cz rfl 24 5 9 Try.underlying24 Try.underlying5 Try.underlying9
  have s5 := run_str (P := Try.prog) qR _ cR rfl 24 5 9 Try.underlying24 Try.underlying5 Try.underlying9
  clear hHeld q3 q1 q4 qz qR
  go_wp2_with fail
  refine hK.out _ _ ⟨s1, s2, s3, s4, s5⟩ (fun hHeld2 => ?_)
  clear hK K
  try simp only [Act.put, List.setIfInBounds_toArray, List.set_cons_zero, List.set_cons_succ]
  refine wpAnyH_ready (rs := [4]) (by kernel_rfl) (by simp) ?_
  refine AllReadyH.cons (o := { dst := some 66, op := Op.convert 24 9 (Operand.tmp 65), type := 9, pos := "law.go:36", after := #[{ on := 3, ground := Ground.data }], guard := none }) rfl (fun K hK => ?_) AllReadyH.nil
  rw [if_pos (by rfl)]
  go_simp
  refine hK.out _ _ ⟨s1, s2, s3, s4, s5⟩ (fun hHeld3 => ?_)
  clear hK K hHeld2 s9 s1 s2 s3 s4 s5
  try simp only [Act.put, List.setIfInBounds_toArray, List.set_cons_zero, List.set_cons_succ]
  refine wpAnyH_take (i := 5) (oi := { dst := some 67, op := Op.binOp BinOp.eql 9 (Operand.tmp 63) (Operand.tmp 66) 9, type := 4, pos := "law.go:36", after := #[{ on := 1, ground := Ground.data }, { on := 4, ground := Ground.data }], guard := none }) (v := ?_) rfl (by kernel_rfl) (by kernel_rfl) (by kernel_rfl) (fun c _ w h => absurd h (hp.out c _ w)) (Or.inl ⟨by rfl, ?_⟩) (by exact hHeld3) ?_
  rotate_left
  · intro w hSw
    (try dsimp only at hSw)
    go_simp
    with_reducible rfl
  try simp only [Act.put, List.setIfInBounds_toArray, List.set_cons_zero, List.set_cons_succ]
  refine wpAnyH_take (i := 6) (oi := { dst := some 68, op := Op.move (Operand.tmp 67), type := 4, pos := "law.go:36", after := #[{ on := 5, ground := Ground.data }, { on := 3, ground := Ground.chain }], guard := none }) (v := ?_) rfl (by kernel_rfl) (by kernel_rfl) (by kernel_rfl) (fun c _ w h => absurd h (hp.out c _ w)) (Or.inl ⟨by rfl, ?_⟩) (by exact hHeld3) ?_
  rotate_left
  · intro w hSw
    (try dsimp only at hSw)
    go_simp
    with_reducible rfl
  try simp only [Act.put, List.setIfInBounds_toArray, List.set_cons_zero, List.set_cons_succ]
  refine wpAnyH_take (i := 7) (oi := { dst := some 69, op := Op.move (Operand.tmp 8), type := 36, pos := "law.go:36", after := #[{ on := 6, ground := Ground.guard }], guard := some (6, true) }) (v := ?_) rfl (by kernel_rfl) (by kernel_rfl) (by kernel_rfl) (fun c _ w h => absurd h (hp.out c _ w)) (Or.inl ⟨by rfl, ?_⟩) (by exact hHeld3) ?_
  rotate_left
  · intro w hSw
    (try dsimp only at hSw)
    go_simp
    with_reducible rfl
  try simp only [Act.put, List.setIfInBounds_toArray, List.set_cons_zero, List.set_cons_succ]
  refine wpAnyH_take (i := 8) (oi := { dst := some 70, op := Op.binOp BinOp.eql 36 (Operand.tmp 69) (Operand.const (Value.int IntKind.i64 0)) 36, type := 4, pos := "law.go:36", after := #[{ on := 7, ground := Ground.data }, { on := 6, ground := Ground.guard }], guard := some (6, true) }) (v := ?_) rfl (by kernel_rfl) (by kernel_rfl) (by kernel_rfl) (fun c _ w h => absurd h (hp.out c _ w)) (Or.inl ⟨by rfl, ?_⟩) (by exact hHeld3) ?_
  rotate_left
  · intro w hSw
    (try dsimp only at hSw)
    go_simp
    with_reducible rfl
  try simp only [Act.put, List.setIfInBounds_toArray, List.set_cons_zero, List.set_cons_succ]
  refine wpAnyH_take (i := 9) (oi := { dst := some 71, op := Op.pick (Operand.tmp 68) (Operand.tmp 70) (Operand.const (Value.bool false)), type := 4, pos := "law.go:36", after := #[{ on := 6, ground := Ground.data }, { on := 8, ground := Ground.data }], guard := none }) (v := ?_) rfl (by kernel_rfl) (by kernel_rfl) (by kernel_rfl) (fun c _ w h => absurd h (hp.out c _ w)) (Or.inl ⟨by rfl, ?_⟩) (by exact hHeld3) ?_
  rotate_left
  · intro w hSw
    (try dsimp only at hSw)
    go_simp
    with_reducible rfl
  try simp only [Act.put, List.setIfInBounds_toArray, List.set_cons_zero, List.set_cons_succ]
  refine wpAnyH_take (i := 10) (oi := { dst := some 72, op := Op.move (Operand.tmp 71), type := 4, pos := "law.go:36", after := #[{ on := 9, ground := Ground.data }, { on := 6, ground := Ground.chain }], guard := none }) (v := ?_) rfl (by kernel_rfl) (by kernel_rfl) (by kernel_rfl) (fun c _ w h => absurd h (hp.out c _ w)) (Or.inl ⟨by rfl, ?_⟩) (by exact hHeld3) ?_
  rotate_left
  · intro w hSw
    (try dsimp only at hSw)
    go_simp
    with_reducible rfl
  try simp only [Act.put, List.setIfInBounds_toArray, List.set_cons_zero, List.set_cons_succ]
  refine wpAnyH_take (i := 11) (oi := { dst := some 73, op := Op.move (Operand.tmp 7), type := 24, pos := "law.go:36", after := #[{ on := 10, ground := Ground.guard }], guard := some (10, true) }) (v := ?_) rfl (by kernel_rfl) (by kernel_rfl) (by kernel_rfl) (fun c _ w h => absurd h (hp.out c _ w)) (Or.inl ⟨by rfl, ?_⟩) (by exact hHeld3) ?_
  rotate_left
  · intro w hSw
    (try dsimp only at hSw)
    go_simp
    with_reducible rfl
  try simp only [Act.put, List.setIfInBounds_toArray, List.set_cons_zero, List.set_cons_succ]
  refine wpAnyH_take (i := 12) (oi := { dst := some 74, op := Op.convert 24 9 (Operand.tmp 73), type := 9, pos := "law.go:36", after := #[{ on := 11, ground := Ground.data }, { on := 10, ground := Ground.guard }], guard := some (10, true) }) (v := ?_) rfl (by kernel_rfl) (by kernel_rfl) (by kernel_rfl) (fun c _ w h => absurd h (hp.out c _ w)) (Or.inl ⟨by rfl, ?_⟩) (by exact hHeld3) ?_
  rotate_left
  · intro w hSw
    (try dsimp only at hSw)
    go_simp
    with_reducible rfl
  try simp only [Act.put, List.setIfInBounds_toArray, List.set_cons_zero, List.set_cons_succ]
  refine wpAnyH_take (i := 13) (oi := { dst := some 75, op := Op.move (Operand.tmp 0), type := 24, pos := "law.go:36", after := #[{ on := 10, ground := Ground.guard }], guard := some (10, true) }) (v := ?_) rfl (by kernel_rfl) (by kernel_rfl) (by kernel_rfl) (fun c _ w h => absurd h (hp.out c _ w)) (Or.inl ⟨by rfl, ?_⟩) (by exact hHeld3) ?_
  rotate_left
  · intro w hSw
    (try dsimp only at hSw)
    go_simp
    with_reducible rfl
  try simp only [Act.put, List.setIfInBounds_toArray, List.set_cons_zero, List.set_cons_succ]
  refine wpAnyH_take (i := 14) (oi := { dst := some 76, op := Op.convert 24 9 (Operand.tmp 75), type := 9, pos := "law.go:36", after := #[{ on := 13, ground := Ground.data }, { on := 10, ground := Ground.guard }], guard := some (10, true) }) (v := ?_) rfl (by kernel_rfl) (by kernel_rfl) (by kernel_rfl) (fun c _ w h => absurd h (hp.out c _ w)) (Or.inl ⟨by rfl, ?_⟩) (by exact hHeld3) ?_
  rotate_left
  · intro w hSw
    (try dsimp only at hSw)
    go_simp
    with_reducible rfl
  try simp only [Act.put, List.setIfInBounds_toArray, List.set_cons_zero, List.set_cons_succ]
  refine wpAnyH_take (i := 15) (oi := { dst := some 77, op := Op.binOp BinOp.eql 9 (Operand.tmp 74) (Operand.tmp 76) 9, type := 4, pos := "law.go:36", after := #[{ on := 12, ground := Ground.data }, { on := 14, ground := Ground.data }, { on := 10, ground := Ground.guard }], guard := some (10, true) }) (v := ?_) rfl (by kernel_rfl) (by kernel_rfl) (by kernel_rfl) (fun c _ w h => absurd h (hp.out c _ w)) (Or.inl ⟨by rfl, ?_⟩) (by exact hHeld3) ?_
  rotate_left
  · intro w hSw
    (try dsimp only at hSw)
    go_simp
    with_reducible rfl
  try simp only [Act.put, List.setIfInBounds_toArray, List.set_cons_zero, List.set_cons_succ]
  refine wpAnyH_take (i := 16) (oi := { dst := some 78, op := Op.pick (Operand.tmp 72) (Operand.tmp 77) (Operand.const (Value.bool false)), type := 4, pos := "law.go:36", after := #[{ on := 10, ground := Ground.data }, { on := 15, ground := Ground.data }], guard := none }) (v := ?_) rfl (by kernel_rfl) (by kernel_rfl) (by kernel_rfl) (fun c _ w h => absurd h (hp.out c _ w)) (Or.inl ⟨by rfl, ?_⟩) (by exact hHeld3) ?_
  rotate_left
  · intro w hSw
    (try dsimp only at hSw)
    go_simp
    with_reducible rfl
  try simp only [Act.put, List.setIfInBounds_toArray, List.set_cons_zero, List.set_cons_succ]
  refine wpAnyH_take (i := 17) (oi := { dst := some 79, op := Op.move (Operand.tmp 78), type := 4, pos := "law.go:36", after := #[{ on := 16, ground := Ground.data }, { on := 10, ground := Ground.chain }], guard := none }) (v := ?_) rfl (by kernel_rfl) (by kernel_rfl) (by kernel_rfl) (fun c _ w h => absurd h (hp.out c _ w)) (Or.inl ⟨by rfl, ?_⟩) (by exact hHeld3) ?_
  rotate_left
  · intro w hSw
    (try dsimp only at hSw)
    go_simp
    with_reducible rfl
  try simp only [Act.put, List.setIfInBounds_toArray, List.set_cons_zero, List.set_cons_succ]
  refine wpAnyH_take (i := 18) (oi := { dst := some 80, op := Op.move (Operand.tmp 12), type := 36, pos := "law.go:36", after := #[{ on := 17, ground := Ground.guard }], guard := some (17, true) }) (v := ?_) rfl (by kernel_rfl) (by kernel_rfl) (by kernel_rfl) (fun c _ w h => absurd h (hp.out c _ w)) (Or.inl ⟨by rfl, ?_⟩) (by exact hHeld3) ?_
  rotate_left
  · intro w hSw
    (try dsimp only at hSw)
    go_simp
    with_reducible rfl
  try simp only [Act.put, List.setIfInBounds_toArray, List.set_cons_zero, List.set_cons_succ]
  refine wpAnyH_take (i := 19) (oi := { dst := some 81, op := Op.binOp BinOp.eql 36 (Operand.tmp 80) (Operand.const (Value.int IntKind.i64 0)) 36, type := 4, pos := "law.go:36", after := #[{ on := 18, ground := Ground.data }, { on := 17, ground := Ground.guard }], guard := some (17, true) }) (v := ?_) rfl (by kernel_rfl) (by kernel_rfl) (by kernel_rfl) (fun c _ w h => absurd h (hp.out c _ w)) (Or.inl ⟨by rfl, ?_⟩) (by exact hHeld3) ?_
  rotate_left
  · intro w hSw
    (try dsimp only at hSw)
    go_simp
    with_reducible rfl
  try simp only [Act.put, List.setIfInBounds_toArray, List.set_cons_zero, List.set_cons_succ]
  refine wpAnyH_take (i := 20) (oi := { dst := some 82, op := Op.pick (Operand.tmp 79) (Operand.tmp 81) (Operand.const (Value.bool false)), type := 4, pos := "law.go:36", after := #[{ on := 17, ground := Ground.data }, { on := 19, ground := Ground.data }], guard := none }) (v := ?_) rfl (by kernel_rfl) (by kernel_rfl) (by kernel_rfl) (fun c _ w h => absurd h (hp.out c _ w)) (Or.inl ⟨by rfl, ?_⟩) (by exact hHeld3) ?_
  rotate_left
  · intro w hSw
    (try dsimp only at hSw)
    go_simp
    with_reducible rfl
  try simp only [Act.put, List.setIfInBounds_toArray, List.set_cons_zero, List.set_cons_succ]
  refine wpAnyH_take (i := 21) (oi := { dst := some 83, op := Op.move (Operand.tmp 82), type := 4, pos := "law.go:36", after := #[{ on := 20, ground := Ground.data }, { on := 17, ground := Ground.chain }], guard := none }) (v := ?_) rfl (by kernel_rfl) (by kernel_rfl) (by kernel_rfl) (fun c _ w h => absurd h (hp.out c _ w)) (Or.inl ⟨by rfl, ?_⟩) (by exact hHeld3) ?_
  rotate_left
  · intro w hSw
    (try dsimp only at hSw)
    go_simp
    with_reducible rfl
  try simp only [Act.put, List.setIfInBounds_toArray, List.set_cons_zero, List.set_cons_succ]
  refine wpAnyH_take (i := 22) (oi := { dst := some 84, op := Op.move (Operand.tmp 11), type := 24, pos := "law.go:36", after := #[{ on := 21, ground := Ground.guard }], guard := some (21, true) }) (v := ?_) rfl (by kernel_rfl) (by kernel_rfl) (by kernel_rfl) (fun c _ w h => absurd h (hp.out c _ w)) (Or.inl ⟨by rfl, ?_⟩) (by exact hHeld3) ?_
  rotate_left
  · intro w hSw
    (try dsimp only at hSw)
    go_simp
    with_reducible rfl
  try simp only [Act.put, List.setIfInBounds_toArray, List.set_cons_zero, List.set_cons_succ]
  refine wpAnyH_take (i := 23) (oi := { dst := some 85, op := Op.convert 24 9 (Operand.tmp 84), type := 9, pos := "law.go:36", after := #[{ on := 22, ground := Ground.data }, { on := 21, ground := Ground.guard }], guard := some (21, true) }) (v := ?_) rfl (by kernel_rfl) (by kernel_rfl) (by kernel_rfl) (fun c _ w h => absurd h (hp.out c _ w)) (Or.inl ⟨by rfl, ?_⟩) (by exact hHeld3) ?_
  rotate_left
  · intro w hSw
    (try dsimp only at hSw)
    go_simp
    with_reducible rfl
  try simp only [Act.put, List.setIfInBounds_toArray, List.set_cons_zero, List.set_cons_succ]
  refine wpAnyH_take (i := 24) (oi := { dst := some 86, op := Op.move (Operand.tmp 1), type := 24, pos := "law.go:36", after := #[{ on := 21, ground := Ground.guard }], guard := some (21, true) }) (v := ?_) rfl (by kernel_rfl) (by kernel_rfl) (by kernel_rfl) (fun c _ w h => absurd h (hp.out c _ w)) (Or.inl ⟨by rfl, ?_⟩) (by exact hHeld3) ?_
  rotate_left
  · intro w hSw
    (try dsimp only at hSw)
    go_simp
    with_reducible rfl
  try simp only [Act.put, List.setIfInBounds_toArray, List.set_cons_zero, List.set_cons_succ]
  refine wpAnyH_take (i := 25) (oi := { dst := some 87, op := Op.convert 24 9 (Operand.tmp 86), type := 9, pos := "law.go:36", after := #[{ on := 24, ground := Ground.data }, { on := 21, ground := Ground.guard }], guard := some (21, true) }) (v := ?_) rfl (by kernel_rfl) (by kernel_rfl) (by kernel_rfl) (fun c _ w h => absurd h (hp.out c _ w)) (Or.inl ⟨by rfl, ?_⟩) (by exact hHeld3) ?_
  rotate_left
  · intro w hSw
    (try dsimp only at hSw)
    go_simp
    with_reducible rfl
  try simp only [Act.put, List.setIfInBounds_toArray, List.set_cons_zero, List.set_cons_succ]
  refine wpAnyH_take (i := 26) (oi := { dst := some 88, op := Op.binOp BinOp.eql 9 (Operand.tmp 85) (Operand.tmp 87) 9, type := 4, pos := "law.go:36", after := #[{ on := 23, ground := Ground.data }, { on := 25, ground := Ground.data }, { on := 21, ground := Ground.guard }], guard := some (21, true) }) (v := ?_) rfl (by kernel_rfl) (by kernel_rfl) (by kernel_rfl) (fun c _ w h => absurd h (hp.out c _ w)) (Or.inl ⟨by rfl, ?_⟩) (by exact hHeld3) ?_
  rotate_left
  · intro w hSw
    (try dsimp only at hSw)
    go_simp
    with_reducible rfl
  try simp only [Act.put, List.setIfInBounds_toArray, List.set_cons_zero, List.set_cons_succ]
  refine wpAnyH_take (i := 27) (oi := { dst := some 89, op := Op.pick (Operand.tmp 83) (Operand.tmp 88) (Operand.const (Value.bool false)), type := 4, pos := "law.go:36", after := #[{ on := 21, ground := Ground.data }, { on := 26, ground := Ground.data }], guard := none }) (v := ?_) rfl (by kernel_rfl) (by kernel_rfl) (by kernel_rfl) (fun c _ w h => absurd h (hp.out c _ w)) (Or.inl ⟨by rfl, ?_⟩) (by exact hHeld3) ?_
  rotate_left
  · intro w hSw
    (try dsimp only at hSw)
    go_simp
    with_reducible rfl
  try simp only [Act.put, List.setIfInBounds_toArray, List.set_cons_zero, List.set_cons_succ]
  refine wpAnyH_take (i := 28) (oi := { dst := some 4, op := Op.assign (Operand.tmp 89), type := 4, pos := "law.go:36", after := #[{ on := 27, ground := Ground.data }, { on := 21, ground := Ground.chain }, { on := 0, ground := Ground.phase }, { on := 1, ground := Ground.phase }, { on := 2, ground := Ground.phase }, { on := 3, ground := Ground.phase }, { on := 4, ground := Ground.phase }, { on := 5, ground := Ground.phase }, { on := 6, ground := Ground.phase }, { on := 7, ground := Ground.phase }, { on := 8, ground := Ground.phase }, { on := 9, ground := Ground.phase }, { on := 10, ground := Ground.phase }, { on := 11, ground := Ground.phase }, { on := 12, ground := Ground.phase }, { on := 13, ground := Ground.phase }, { on := 14, ground := Ground.phase }, { on := 15, ground := Ground.phase }, { on := 16, ground := Ground.phase }, { on := 17, ground := Ground.phase }, { on := 18, ground := Ground.phase }, { on := 19, ground := Ground.phase }, { on := 20, ground := Ground.phase }, { on := 21, ground := Ground.phase }, { on := 22, ground := Ground.phase }, { on := 23, ground := Ground.phase }, { on := 24, ground := Ground.phase }, { on := 25, ground := Ground.phase }, { on := 26, ground := Ground.phase }, { on := 27, ground := Ground.phase }], guard := none }) (v := ?_) rfl (by kernel_rfl) (by kernel_rfl) (by kernel_rfl) (fun c _ w h => absurd h (hp.out c _ w)) (Or.inl ⟨by rfl, ?_⟩) (by exact hHeld3) ?_
  rotate_left
  · intro w hSw
    (try dsimp only at hSw)
    go_simp
    with_reducible rfl
  try simp only [Act.put, List.setIfInBounds_toArray, List.set_cons_zero, List.set_cons_succ]
  refine wpAnyH_done (by kernel_rfl) ?_ _
  have hbb : Below w8.heap.size w8 w9 := ⟨hb9.os, hb9.tape, hb9.output, hb9.size, hb9.block⟩
  exact hn.out w9 _ _ _ _ _ _ _ _ _ _ _ _ _ _ _ _ _ _ _ _ _ _ _ _ _ _ _ _ hbb

end Go.Proofs.Ytfeddkldnmgncaa
