/- Region 15 of MeterSums: it draws its order, and holds six calls of Add and a row that is made: what it leaves. -/
import Derived.Test.YtdnfncbinhbioaaMeterDet
import Derived.Deep.RegionHeld3
namespace Go.Proofs.Ytdnfncbinhbioaa
open Go.RowKit
set_option linter.unusedVariables false
attribute [local irreducible] floatOfInt

set_option maxHeartbeats 2000000 in
theorem sums_region15 (vA mA A2 : Option Addr) (n m p n2 vc mc c2 l1 l2 m1 m2 t1 t2 d1 d2 x1 x2 : Nat) (w : World)
    (HL : Hid (∀ w', Below w.heap.size w w' → Calls Try.prog 13 #[.slice vA n vc] w' fun e w'' => e = .returned (.complex .f64 l1 l2) ∧ w' = w''))
    (HM : Hid (∀ w', Below w.heap.size w w' → Calls Try.prog 13 #[.slice mA m mc] w' fun e w'' => e = .returned (.complex .f64 m1 m2) ∧ w' = w''))
    (HT : Hid (∀ w', Below w.heap.size w w' → Calls Try.prog 13 #[.slice vA p vc] w' fun e w'' => e = .returned (.complex .f64 t1 t2) ∧ w' = w''))
    (HD : Hid (∀ w', Below w.heap.size w w' → Calls Try.prog 13 #[.slice A2 n2 c2] w' fun e w'' => e = .returned (.complex .f64 d1 d2) ∧ w' = w''))
    (HX : Hid (∀ w', Below w.heap.size w w' → Calls Try.prog 13 #[.slice (some ⟨w'.heap.size, 0, none⟩) 2 2] (w'.alloc (.cells #[.complex .f64 t1 t2, .complex .f64 d1 d2] 26)) fun e w'' => e = .returned (.complex .f64 x1 x2) ∧ (w'.alloc (.cells #[.complex .f64 t1 t2, .complex .f64 d1 d2] 26)) = w''))
    (HN : Hid (∀ w', Calls Try.prog 13 #[.slice none 0 0] w' fun e w'' => e = .returned (.complex .f64 0 0) ∧ w' = w''))
    (q1 : ∀ w, (Instr.slice 24 (.slice vA n vc) none (some (.int .i64 (p : Int))) none).run Try.prog w = .ok (.slice vA p vc) w)
    (q2 : ∀ w, (Instr.slice 24 (.slice vA n vc) (some (.int .i64 (p : Int))) none none).run Try.prog w = .ok (.slice A2 n2 c2) w)
    (o1 : FloatKind.f64.format.order l1 m1 = some .eq) (o2 : FloatKind.f64.format.order l2 m2 = some .eq) (o3 : FloatKind.f64.format.order x1 l1 = some .eq) (o4 : FloatKind.f64.format.order x2 l2 = some .eq) (o5 : FloatKind.f64.format.order 0 0 = some .eq)
    (u0 u1 u3 u4 u5 u6 u7 u10 u11 u12 u13 u14 u15 u16 u17 u18 u19 u20 u21 u22 u23 u24 u25 u26 u27 u28 u29 u30 u31 u32 u33 u34 u35 u36 u37 u38 u39 u40 u41 u42 u43 u44 u45 u46 u47 u48 u49 u50 u51 u52 u53 u54 u55 u56 u57 u58 u59 u60 u61 u62 u63 u64 u65 u66 u67 u68 u69 u70 u71 u72 u73 u74 u75 u76 u77 u78 u79 u80 u81 u82 u83 u84 u85 u86 u87 u88 u89 u90 u91 u92 u93 u94 u95 : Value) (Q : Exit → Act → World → Prop) (hp : Hid (∀ c a w, ¬ Q (.panic c) a w))
    (hn : Hid (∀ (w9 : World) (v72 v73 v74 v75 v76 v77 v78 v79 v80 v81 v82 v83 v84 v85 v86 v87 v88 v89 v90 v91 v92 v93 v94 v95 : Value), Below w.heap.size w w9 → Q .normal ⟨#[u0, u1, .int .i64 (p : Int), u3, u4, u5, .bool true, u7, .slice vA n vc, .slice mA m mc, u10, u11, u12, u13, u14, u15, u16, u17, u18, u19, u20, u21, u22, u23, u24, u25, u26, u27, u28, u29, u30, u31, u32, u33, u34, u35, u36, u37, u38, u39, u40, u41, u42, u43, u44, u45, u46, u47, u48, u49, u50, u51, u52, u53, u54, u55, u56, u57, u58, u59, u60, u61, u62, u63, u64, u65, u66, u67, u68, u69, u70, u71, v72, v73, v74, v75, v76, v77, v78, v79, v80, v81, v82, v83, v84, v85, v86, v87, v88, v89, v90, v91, v92, v93, v94, v95], []⟩ w9)) :
    (Code.region 15 #[{ dst := some 72, op := Op.move (Operand.tmp 8), type := 24, pos := "wide.go:21", after := #[], guard := none }, { dst := some 73, op := Op.call { callee := Callee.value (Operand.func 13), args := #[Operand.tmp 72], argTypes := #[24] }, type := 26, pos := "wide.go:21", after := #[{ on := 0, ground := Ground.data }], guard := none }, { dst := some 74, op := Op.move (Operand.tmp 9), type := 24, pos := "wide.go:21", after := #[], guard := none }, { dst := some 75, op := Op.call { callee := Callee.value (Operand.func 13), args := #[Operand.tmp 74], argTypes := #[24] }, type := 26, pos := "wide.go:21", after := #[{ on := 2, ground := Ground.data }, { on := 1, ground := Ground.chain }], guard := none }, { dst := some 76, op := Op.binOp BinOp.eql 26 (Operand.tmp 73) (Operand.tmp 75) 26, type := 4, pos := "wide.go:21", after := #[{ on := 1, ground := Ground.data }, { on := 3, ground := Ground.data }], guard := none }, { dst := some 77, op := Op.move (Operand.tmp 76), type := 4, pos := "wide.go:21", after := #[{ on := 4, ground := Ground.data }, { on := 3, ground := Ground.chain }], guard := none }, { dst := some 78, op := Op.move (Operand.tmp 8), type := 24, pos := "wide.go:21", after := #[{ on := 5, ground := Ground.guard }], guard := some (5, true) }, { dst := some 79, op := Op.move (Operand.tmp 2), type := 3, pos := "wide.go:21", after := #[{ on := 5, ground := Ground.guard }], guard := some (5, true) }, { dst := some 80, op := Op.slice 24 (Operand.tmp 78) none (some (Operand.tmp 79)) none, type := 24, pos := "wide.go:21", after := #[{ on := 6, ground := Ground.data }, { on := 7, ground := Ground.data }, { on := 5, ground := Ground.guard }], guard := some (5, true) }, { dst := some 81, op := Op.call { callee := Callee.value (Operand.func 13), args := #[Operand.tmp 80], argTypes := #[24] }, type := 26, pos := "wide.go:21", after := #[{ on := 8, ground := Ground.data }, { on := 5, ground := Ground.chain }, { on := 5, ground := Ground.guard }], guard := some (5, true) }, { dst := some 82, op := Op.move (Operand.tmp 8), type := 24, pos := "wide.go:21", after := #[{ on := 5, ground := Ground.guard }], guard := some (5, true) }, { dst := some 83, op := Op.move (Operand.tmp 2), type := 3, pos := "wide.go:21", after := #[{ on := 5, ground := Ground.guard }], guard := some (5, true) }, { dst := some 84, op := Op.slice 24 (Operand.tmp 82) (some (Operand.tmp 83)) none none, type := 24, pos := "wide.go:21", after := #[{ on := 10, ground := Ground.data }, { on := 11, ground := Ground.data }, { on := 5, ground := Ground.guard }], guard := some (5, true) }, { dst := some 85, op := Op.call { callee := Callee.value (Operand.func 13), args := #[Operand.tmp 84], argTypes := #[24] }, type := 26, pos := "wide.go:21", after := #[{ on := 12, ground := Ground.data }, { on := 9, ground := Ground.chain }, { on := 5, ground := Ground.guard }], guard := some (5, true) }, { dst := some 86, op := Op.buildSlice 24 2 #[(0, Operand.tmp 81), (1, Operand.tmp 85)], type := 24, pos := "wide.go:21", after := #[{ on := 9, ground := Ground.data }, { on := 13, ground := Ground.data }, { on := 5, ground := Ground.guard }], guard := some (5, true) }, { dst := some 87, op := Op.call { callee := Callee.value (Operand.func 13), args := #[Operand.tmp 86], argTypes := #[24] }, type := 26, pos := "wide.go:21", after := #[{ on := 14, ground := Ground.data }, { on := 13, ground := Ground.chain }, { on := 5, ground := Ground.guard }], guard := some (5, true) }, { dst := some 88, op := Op.move (Operand.tmp 8), type := 24, pos := "wide.go:21", after := #[{ on := 5, ground := Ground.guard }], guard := some (5, true) }, { dst := some 89, op := Op.call { callee := Callee.value (Operand.func 13), args := #[Operand.tmp 88], argTypes := #[24] }, type := 26, pos := "wide.go:21", after := #[{ on := 16, ground := Ground.data }, { on := 15, ground := Ground.chain }, { on := 5, ground := Ground.guard }], guard := some (5, true) }, { dst := some 90, op := Op.binOp BinOp.eql 26 (Operand.tmp 87) (Operand.tmp 89) 26, type := 4, pos := "wide.go:21", after := #[{ on := 15, ground := Ground.data }, { on := 17, ground := Ground.data }, { on := 5, ground := Ground.guard }], guard := some (5, true) }, { dst := some 91, op := Op.pick (Operand.tmp 77) (Operand.tmp 90) (Operand.const (Value.bool false)), type := 4, pos := "wide.go:21", after := #[{ on := 5, ground := Ground.data }, { on := 18, ground := Ground.data }], guard := none }, { dst := some 92, op := Op.move (Operand.tmp 91), type := 4, pos := "wide.go:21", after := #[{ on := 19, ground := Ground.data }, { on := 17, ground := Ground.chain }], guard := none }, { dst := some 93, op := Op.call { callee := Callee.value (Operand.func 13), args := #[Operand.const (Value.slice none 0 0)], argTypes := #[24] }, type := 26, pos := "wide.go:21", after := #[{ on := 20, ground := Ground.chain }, { on := 20, ground := Ground.guard }], guard := some (20, true) }, { dst := some 94, op := Op.binOp BinOp.eql 26 (Operand.tmp 93) (Operand.const (Value.complex FloatKind.f64 0 0)) 26, type := 4, pos := "wide.go:21", after := #[{ on := 21, ground := Ground.data }, { on := 20, ground := Ground.guard }], guard := some (20, true) }, { dst := some 95, op := Op.pick (Operand.tmp 92) (Operand.tmp 94) (Operand.const (Value.bool false)), type := 4, pos := "wide.go:21", after := #[{ on := 20, ground := Ground.data }, { on := 22, ground := Ground.data }], guard := none }, { dst := some 6, op := Op.assign (Operand.tmp 95), type := 4, pos := "wide.go:21", after := #[{ on := 23, ground := Ground.data }, { on := 21, ground := Ground.chain }, { on := 0, ground := Ground.phase }, { on := 1, ground := Ground.phase }, { on := 2, ground := Ground.phase }, { on := 3, ground := Ground.phase }, { on := 4, ground := Ground.phase }, { on := 5, ground := Ground.phase }, { on := 6, ground := Ground.phase }, { on := 7, ground := Ground.phase }, { on := 8, ground := Ground.phase }, { on := 9, ground := Ground.phase }, { on := 10, ground := Ground.phase }, { on := 11, ground := Ground.phase }, { on := 12, ground := Ground.phase }, { on := 13, ground := Ground.phase }, { on := 14, ground := Ground.phase }, { on := 15, ground := Ground.phase }, { on := 16, ground := Ground.phase }, { on := 17, ground := Ground.phase }, { on := 18, ground := Ground.phase }, { on := 19, ground := Ground.phase }, { on := 20, ground := Ground.phase }, { on := 21, ground := Ground.phase }, { on := 22, ground := Ground.phase }, { on := 23, ground := Ground.phase }], guard := none }] true).wp Try.prog Q ⟨#[u0, u1, .int .i64 (p : Int), u3, u4, u5, u6, u7, .slice vA n vc, .slice mA m mc, u10, u11, u12, u13, u14, u15, u16, u17, u18, u19, u20, u21, u22, u23, u24, u25, u26, u27, u28, u29, u30, u31, u32, u33, u34, u35, u36, u37, u38, u39, u40, u41, u42, u43, u44, u45, u46, u47, u48, u49, u50, u51, u52, u53, u54, u55, u56, u57, u58, u59, u60, u61, u62, u63, u64, u65, u66, u67, u68, u69, u70, u71, u72, u73, u74, u75, u76, u77, u78, u79, u80, u81, u82, u83, u84, u85, u86, u87, u88, u89, u90, u91, u92, u93, u94, u95], []⟩ w := by
  have hb0 : Below w.heap.size w w.drew := (Below.refl _ _).drew
  refine wp_region_held_drew (S := fun _ => True) (by kernel_rfl) trivial (fun hHeld => ?_)
  refine wpAnyH_take (i := 0) (oi := { dst := some 72, op := Op.move (Operand.tmp 8), type := 24, pos := "wide.go:21", after := #[], guard := none }) (v := ?_) rfl (by kernel_rfl) (by kernel_rfl) (by kernel_rfl) (fun c _ w h => absurd h (hp.out c _ w)) (Or.inl ⟨by rfl, ?_⟩) (by trivial) ?_
  rotate_left
  · intro w hSw
    (try dsimp only at hSw)
    go_simp
    with_reducible rfl
  try simp only [Act.put, List.setIfInBounds_toArray, List.set_cons_zero, List.set_cons_succ]
  refine wpAnyH_take (i := 2) (oi := { dst := some 74, op := Op.move (Operand.tmp 9), type := 24, pos := "wide.go:21", after := #[], guard := none }) (v := ?_) rfl (by kernel_rfl) (by kernel_rfl) (by kernel_rfl) (fun c _ w h => absurd h (hp.out c _ w)) (Or.inl ⟨by rfl, ?_⟩) (by trivial) ?_
  rotate_left
  · intro w hSw
    (try dsimp only at hSw)
    go_simp
    with_reducible rfl
  try simp only [Act.put, List.setIfInBounds_toArray, List.set_cons_zero, List.set_cons_succ]
  refine wpAnyH_ready (rs := [1]) (by kernel_rfl) (by simp) ?_
  refine AllReadyH.cons (o := { dst := some 73, op := Op.call { callee := Callee.value (Operand.func 13), args := #[Operand.tmp 72], argTypes := #[24] }, type := 26, pos := "wide.go:21", after := #[{ on := 0, ground := Ground.data }], guard := none }) rfl (fun K hK => ?_) AllReadyH.nil
  rw [if_pos (by rfl)]
  go_simp
  refine (HL.out _ hb0).mono ?_
  rintro e w5 ⟨rfl, rfl⟩
  dsimp only
  refine hK.out _ _ trivial (fun _ => ?_)
  clear hK K
  try simp only [Act.put, List.setIfInBounds_toArray, List.set_cons_zero, List.set_cons_succ]
  refine wpAnyH_ready (rs := [3]) (by kernel_rfl) (by simp) ?_
  refine AllReadyH.cons (o := { dst := some 75, op := Op.call { callee := Callee.value (Operand.func 13), args := #[Operand.tmp 74], argTypes := #[24] }, type := 26, pos := "wide.go:21", after := #[{ on := 2, ground := Ground.data }, { on := 1, ground := Ground.chain }], guard := none }) rfl (fun K hK => ?_) AllReadyH.nil
  rw [if_pos (by rfl)]
  go_simp
  refine (HM.out _ hb0).mono ?_
  rintro e w5 ⟨rfl, rfl⟩
  dsimp only
  refine hK.out _ _ trivial (fun _ => ?_)
  clear hK K
  try simp only [Act.put, List.setIfInBounds_toArray, List.set_cons_zero, List.set_cons_succ]
  refine wpAnyH_take (i := 4) (oi := { dst := some 76, op := Op.binOp BinOp.eql 26 (Operand.tmp 73) (Operand.tmp 75) 26, type := 4, pos := "wide.go:21", after := #[{ on := 1, ground := Ground.data }, { on := 3, ground := Ground.data }], guard := none }) (v := ?_) rfl (by kernel_rfl) (by kernel_rfl) (by kernel_rfl) (fun c _ w h => absurd h (hp.out c _ w)) (Or.inl ⟨by rfl, ?_⟩) (by trivial) ?_
  rotate_left
  · intro w hSw
    (try dsimp only at hSw)
    go_simp
    with_reducible rfl
  try simp only [Act.put, List.setIfInBounds_toArray, List.set_cons_zero, List.set_cons_succ]
  refine wpAnyH_take (i := 5) (oi := { dst := some 77, op := Op.move (Operand.tmp 76), type := 4, pos := "wide.go:21", after := #[{ on := 4, ground := Ground.data }, { on := 3, ground := Ground.chain }], guard := none }) (v := ?_) rfl (by kernel_rfl) (by kernel_rfl) (by kernel_rfl) (fun c _ w h => absurd h (hp.out c _ w)) (Or.inl ⟨by rfl, ?_⟩) (by trivial) ?_
  rotate_left
  · intro w hSw
    (try dsimp only at hSw)
    go_simp
    with_reducible rfl
  try simp only [Act.put, List.setIfInBounds_toArray, List.set_cons_zero, List.set_cons_succ]
  refine wpAnyH_take (i := 6) (oi := { dst := some 78, op := Op.move (Operand.tmp 8), type := 24, pos := "wide.go:21", after := #[{ on := 5, ground := Ground.guard }], guard := some (5, true) }) (v := ?_) rfl (by kernel_rfl) (by kernel_rfl) (by kernel_rfl) (fun c _ w h => absurd h (hp.out c _ w)) (Or.inl ⟨by rfl, ?_⟩) (by trivial) ?_
  rotate_left
  · intro w hSw
    (try dsimp only at hSw)
    go_simp
    with_reducible rfl
  try simp only [Act.put, List.setIfInBounds_toArray, List.set_cons_zero, List.set_cons_succ]
  refine wpAnyH_take (i := 7) (oi := { dst := some 79, op := Op.move (Operand.tmp 2), type := 3, pos := "wide.go:21", after := #[{ on := 5, ground := Ground.guard }], guard := some (5, true) }) (v := ?_) rfl (by kernel_rfl) (by kernel_rfl) (by kernel_rfl) (fun c _ w h => absurd h (hp.out c _ w)) (Or.inl ⟨by rfl, ?_⟩) (by trivial) ?_
  rotate_left
  · intro w hSw
    (try dsimp only at hSw)
    go_simp
    with_reducible rfl
  try simp only [Act.put, List.setIfInBounds_toArray, List.set_cons_zero, List.set_cons_succ]
  refine wpAnyH_take (i := 8) (oi := { dst := some 80, op := Op.slice 24 (Operand.tmp 78) none (some (Operand.tmp 79)) none, type := 24, pos := "wide.go:21", after := #[{ on := 6, ground := Ground.data }, { on := 7, ground := Ground.data }, { on := 5, ground := Ground.guard }], guard := some (5, true) }) (v := ?_) rfl (by kernel_rfl) (by kernel_rfl) (by kernel_rfl) (fun c _ w h => absurd h (hp.out c _ w)) (Or.inl ⟨by rfl, ?_⟩) (by trivial) ?_
  rotate_left
  · intro w hSw
    (try dsimp only at hSw)
    go_simp
    with_reducible rfl
  try simp only [Act.put, List.setIfInBounds_toArray, List.set_cons_zero, List.set_cons_succ]
  refine wpAnyH_take (i := 10) (oi := { dst := some 82, op := Op.move (Operand.tmp 8), type := 24, pos := "wide.go:21", after := #[{ on := 5, ground := Ground.guard }], guard := some (5, true) }) (v := ?_) rfl (by kernel_rfl) (by kernel_rfl) (by kernel_rfl) (fun c _ w h => absurd h (hp.out c _ w)) (Or.inl ⟨by rfl, ?_⟩) (by trivial) ?_
  rotate_left
  · intro w hSw
    (try dsimp only at hSw)
    go_simp
    with_reducible rfl
  try simp only [Act.put, List.setIfInBounds_toArray, List.set_cons_zero, List.set_cons_succ]
  refine wpAnyH_take (i := 11) (oi := { dst := some 83, op := Op.move (Operand.tmp 2), type := 3, pos := "wide.go:21", after := #[{ on := 5, ground := Ground.guard }], guard := some (5, true) }) (v := ?_) rfl (by kernel_rfl) (by kernel_rfl) (by kernel_rfl) (fun c _ w h => absurd h (hp.out c _ w)) (Or.inl ⟨by rfl, ?_⟩) (by trivial) ?_
  rotate_left
  · intro w hSw
    (try dsimp only at hSw)
    go_simp
    with_reducible rfl
  try simp only [Act.put, List.setIfInBounds_toArray, List.set_cons_zero, List.set_cons_succ]
  refine wpAnyH_take (i := 12) (oi := { dst := some 84, op := Op.slice 24 (Operand.tmp 82) (some (Operand.tmp 83)) none none, type := 24, pos := "wide.go:21", after := #[{ on := 10, ground := Ground.data }, { on := 11, ground := Ground.data }, { on := 5, ground := Ground.guard }], guard := some (5, true) }) (v := ?_) rfl (by kernel_rfl) (by kernel_rfl) (by kernel_rfl) (fun c _ w h => absurd h (hp.out c _ w)) (Or.inl ⟨by rfl, ?_⟩) (by trivial) ?_
  rotate_left
  · intro w hSw
    (try dsimp only at hSw)
    go_simp
    with_reducible rfl
  try simp only [Act.put, List.setIfInBounds_toArray, List.set_cons_zero, List.set_cons_succ]
  refine wpAnyH_take (i := 16) (oi := { dst := some 88, op := Op.move (Operand.tmp 8), type := 24, pos := "wide.go:21", after := #[{ on := 5, ground := Ground.guard }], guard := some (5, true) }) (v := ?_) rfl (by kernel_rfl) (by kernel_rfl) (by kernel_rfl) (fun c _ w h => absurd h (hp.out c _ w)) (Or.inl ⟨by rfl, ?_⟩) (by trivial) ?_
  rotate_left
  · intro w hSw
    (try dsimp only at hSw)
    go_simp
    with_reducible rfl
  try simp only [Act.put, List.setIfInBounds_toArray, List.set_cons_zero, List.set_cons_succ]
  refine wpAnyH_ready (rs := [9]) (by kernel_rfl) (by simp) ?_
  refine AllReadyH.cons (o := { dst := some 81, op := Op.call { callee := Callee.value (Operand.func 13), args := #[Operand.tmp 80], argTypes := #[24] }, type := 26, pos := "wide.go:21", after := #[{ on := 8, ground := Ground.data }, { on := 5, ground := Ground.chain }, { on := 5, ground := Ground.guard }], guard := some (5, true) }) rfl (fun K hK => ?_) AllReadyH.nil
  rw [if_pos (by rfl)]
  go_simp
  refine (HT.out _ hb0).mono ?_
  rintro e w5 ⟨rfl, rfl⟩
  dsimp only
  refine hK.out _ _ trivial (fun _ => ?_)
  clear hK K
  try simp only [Act.put, List.setIfInBounds_toArray, List.set_cons_zero, List.set_cons_succ]
  refine wpAnyH_ready (rs := [13]) (by kernel_rfl) (by simp) ?_
  refine AllReadyH.cons (o := { dst := some 85, op := Op.call { callee := Callee.value (Operand.func 13), args := #[Operand.tmp 84], argTypes := #[24] }, type := 26, pos := "wide.go:21", after := #[{ on := 12, ground := Ground.data }, { on := 9, ground := Ground.chain }, { on := 5, ground := Ground.guard }], guard := some (5, true) }) rfl (fun K hK => ?_) AllReadyH.nil
  rw [if_pos (by rfl)]
  go_simp
  refine (HD.out _ hb0).mono ?_
  rintro e w5 ⟨rfl, rfl⟩
  dsimp only
  refine hK.out _ _ trivial (fun _ => ?_)
  clear hK K
  try simp only [Act.put, List.setIfInBounds_toArray, List.set_cons_zero, List.set_cons_succ]
  refine wpAnyH_ready (rs := [14]) (by kernel_rfl) (by simp) ?_
  refine AllReadyH.cons (o := { dst := some 86, op := Op.buildSlice 24 2 #[(0, Operand.tmp 81), (1, Operand.tmp 85)], type := 24, pos := "wide.go:21", after := #[{ on := 9, ground := Ground.data }, { on := 13, ground := Ground.data }, { on := 5, ground := Ground.guard }], guard := some (5, true) }) rfl (fun K hK => ?_) AllReadyH.nil
  rw [if_pos (by rfl)]
  go_simp
  have hb1 : Below w.heap.size w (w.drew.alloc (.cells #[.complex .f64 t1 t2, .complex .f64 d1 d2] 26)) := hb0.alloc (Nat.le_refl _) _
  refine hK.out _ _ trivial (fun _ => ?_)
  clear hK K
  try simp only [Act.put, List.setIfInBounds_toArray, List.set_cons_zero, List.set_cons_succ]
  refine wpAnyH_ready (rs := [15]) (by kernel_rfl) (by simp) ?_
  refine AllReadyH.cons (o := { dst := some 87, op := Op.call { callee := Callee.value (Operand.func 13), args := #[Operand.tmp 86], argTypes := #[24] }, type := 26, pos := "wide.go:21", after := #[{ on := 14, ground := Ground.data }, { on := 13, ground := Ground.chain }, { on := 5, ground := Ground.guard }], guard := some (5, true) }) rfl (fun K hK => ?_) AllReadyH.nil
  rw [if_pos (by rfl)]
  go_simp
  refine (HX.out w.drew hb0).mono ?_
  rintro e w5 ⟨rfl, rfl⟩
  dsimp only
  refine hK.out _ _ trivial (fun _ => ?_)
  clear hK K
  try simp only [Act.put, List.setIfInBounds_toArray, List.set_cons_zero, List.set_cons_succ]
  refine wpAnyH_ready (rs := [17]) (by kernel_rfl) (by simp) ?_
  refine AllReadyH.cons (o := { dst := some 89, op := Op.call { callee := Callee.value (Operand.func 13), args := #[Operand.tmp 88], argTypes := #[24] }, type := 26, pos := "wide.go:21", after := #[{ on := 16, ground := Ground.data }, { on := 15, ground := Ground.chain }, { on := 5, ground := Ground.guard }], guard := some (5, true) }) rfl (fun K hK => ?_) AllReadyH.nil
  rw [if_pos (by rfl)]
  go_simp
  refine (HL.out _ hb1).mono ?_
  rintro e w5 ⟨rfl, rfl⟩
  dsimp only
  refine hK.out _ _ trivial (fun _ => ?_)
  clear hK K
  try simp only [Act.put, List.setIfInBounds_toArray, List.set_cons_zero, List.set_cons_succ]
  refine wpAnyH_take (i := 18) (oi := { dst := some 90, op := Op.binOp BinOp.eql 26 (Operand.tmp 87) (Operand.tmp 89) 26, type := 4, pos := "wide.go:21", after := #[{ on := 15, ground := Ground.data }, { on := 17, ground := Ground.data }, { on := 5, ground := Ground.guard }], guard := some (5, true) }) (v := ?_) rfl (by kernel_rfl) (by kernel_rfl) (by kernel_rfl) (fun c _ w h => absurd h (hp.out c _ w)) (Or.inl ⟨by rfl, ?_⟩) (by trivial) ?_
  rotate_left
  · intro w hSw
    (try dsimp only at hSw)
    go_simp
    with_reducible rfl
  try simp only [Act.put, List.setIfInBounds_toArray, List.set_cons_zero, List.set_cons_succ]
  refine wpAnyH_take (i := 19) (oi := { dst := some 91, op := Op.pick (Operand.tmp 77) (Operand.tmp 90) (Operand.const (Value.bool false)), type := 4, pos := "wide.go:21", after := #[{ on := 5, ground := Ground.data }, { on := 18, ground := Ground.data }], guard := none }) (v := ?_) rfl (by kernel_rfl) (by kernel_rfl) (by kernel_rfl) (fun c _ w h => absurd h (hp.out c _ w)) (Or.inl ⟨by rfl, ?_⟩) (by trivial) ?_
  rotate_left
  · intro w hSw
    (try dsimp only at hSw)
    go_simp
    with_reducible rfl
  try simp only [Act.put, List.setIfInBounds_toArray, List.set_cons_zero, List.set_cons_succ]
  refine wpAnyH_take (i := 20) (oi := { dst := some 92, op := Op.move (Operand.tmp 91), type := 4, pos := "wide.go:21", after := #[{ on := 19, ground := Ground.data }, { on := 17, ground := Ground.chain }], guard := none }) (v := ?_) rfl (by kernel_rfl) (by kernel_rfl) (by kernel_rfl) (fun c _ w h => absurd h (hp.out c _ w)) (Or.inl ⟨by rfl, ?_⟩) (by trivial) ?_
  rotate_left
  · intro w hSw
    (try dsimp only at hSw)
    go_simp
    with_reducible rfl
  try simp only [Act.put, List.setIfInBounds_toArray, List.set_cons_zero, List.set_cons_succ]
  refine wpAnyH_ready (rs := [21]) (by kernel_rfl) (by simp) ?_
  refine AllReadyH.cons (o := { dst := some 93, op := Op.call { callee := Callee.value (Operand.func 13), args := #[Operand.const (Value.slice none 0 0)], argTypes := #[24] }, type := 26, pos := "wide.go:21", after := #[{ on := 20, ground := Ground.chain }, { on := 20, ground := Ground.guard }], guard := some (20, true) }) rfl (fun K hK => ?_) AllReadyH.nil
  rw [if_pos (by rfl)]
  go_simp
  refine (HN.out _).mono ?_
  rintro e w5 ⟨rfl, rfl⟩
  dsimp only
  refine hK.out _ _ trivial (fun _ => ?_)
  clear hK K
  try simp only [Act.put, List.setIfInBounds_toArray, List.set_cons_zero, List.set_cons_succ]
  refine wpAnyH_take (i := 22) (oi := { dst := some 94, op := Op.binOp BinOp.eql 26 (Operand.tmp 93) (Operand.const (Value.complex FloatKind.f64 0 0)) 26, type := 4, pos := "wide.go:21", after := #[{ on := 21, ground := Ground.data }, { on := 20, ground := Ground.guard }], guard := some (20, true) }) (v := ?_) rfl (by kernel_rfl) (by kernel_rfl) (by kernel_rfl) (fun c _ w h => absurd h (hp.out c _ w)) (Or.inl ⟨by rfl, ?_⟩) (by trivial) ?_
  rotate_left
  · intro w hSw
    (try dsimp only at hSw)
    go_simp
    with_reducible rfl
  try simp only [Act.put, List.setIfInBounds_toArray, List.set_cons_zero, List.set_cons_succ]
  refine wpAnyH_take (i := 23) (oi := { dst := some 95, op := Op.pick (Operand.tmp 92) (Operand.tmp 94) (Operand.const (Value.bool false)), type := 4, pos := "wide.go:21", after := #[{ on := 20, ground := Ground.data }, { on := 22, ground := Ground.data }], guard := none }) (v := ?_) rfl (by kernel_rfl) (by kernel_rfl) (by kernel_rfl) (fun c _ w h => absurd h (hp.out c _ w)) (Or.inl ⟨by rfl, ?_⟩) (by trivial) ?_
  rotate_left
  · intro w hSw
    (try dsimp only at hSw)
    go_simp
    with_reducible rfl
  try simp only [Act.put, List.setIfInBounds_toArray, List.set_cons_zero, List.set_cons_succ]
  refine wpAnyH_take (i := 24) (oi := { dst := some 6, op := Op.assign (Operand.tmp 95), type := 4, pos := "wide.go:21", after := #[{ on := 23, ground := Ground.data }, { on := 21, ground := Ground.chain }, { on := 0, ground := Ground.phase }, { on := 1, ground := Ground.phase }, { on := 2, ground := Ground.phase }, { on := 3, ground := Ground.phase }, { on := 4, ground := Ground.phase }, { on := 5, ground := Ground.phase }, { on := 6, ground := Ground.phase }, { on := 7, ground := Ground.phase }, { on := 8, ground := Ground.phase }, { on := 9, ground := Ground.phase }, { on := 10, ground := Ground.phase }, { on := 11, ground := Ground.phase }, { on := 12, ground := Ground.phase }, { on := 13, ground := Ground.phase }, { on := 14, ground := Ground.phase }, { on := 15, ground := Ground.phase }, { on := 16, ground := Ground.phase }, { on := 17, ground := Ground.phase }, { on := 18, ground := Ground.phase }, { on := 19, ground := Ground.phase }, { on := 20, ground := Ground.phase }, { on := 21, ground := Ground.phase }, { on := 22, ground := Ground.phase }, { on := 23, ground := Ground.phase }], guard := none }) (v := ?_) rfl (by kernel_rfl) (by kernel_rfl) (by kernel_rfl) (fun c _ w h => absurd h (hp.out c _ w)) (Or.inl ⟨by rfl, ?_⟩) (by trivial) ?_
  rotate_left
  · intro w hSw
    (try dsimp only at hSw)
    go_simp
    with_reducible rfl
  try simp only [Act.put, List.setIfInBounds_toArray, List.set_cons_zero, List.set_cons_succ]
  refine wpAnyH_done (by kernel_rfl) ?_ _
  exact hn.out _ _ _ _ _ _ _ _ _ _ _ _ _ _ _ _ _ _ _ _ _ _ _ _ _ hb1

end Go.Proofs.Ytdnfncbinhbioaa
