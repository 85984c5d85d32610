/- Regions of SuperCrash that draw their order and hold calls of Text: what each leaves. -/
import Derived.Test.YtgkmcbpcbannfaaSuperOn
import Derived.Deep.RegionHeld3
namespace Go.Proofs.Ytgkmcbpcbannfaa
open Go.RowKit Crc
set_option linter.unusedVariables false

set_option maxHeartbeats 2000000 in
theorem crash_region18 (a0 : Option Addr) (n0 p0 sx : Nat) (x0 : List Nat) (t1 : Int) (w : World)
    (HTX : Hid (∀ w', Below w.heap.size w w' → Calls Try.prog 28 #[.pointer (some ⟨sx, 0, none⟩)] w' fun e w'' => ∃ v, e = .returned v ∧ Own w'' w'.heap.size 5 v x0 ∧ Below w'.heap.size w' w''))
    (HUX : Hid (∀ w', Below w.heap.size w w' → Calls Try.prog 29 #[.pointer (some ⟨sx, 0, none⟩)] w' fun e w'' => e = .returned (.int .i64 t1) ∧ w' = w''))
    (S0 : Hid (∀ w', Below w.heap.size w w' → (convert 22 9 (.slice a0 n0 p0)).run Try.prog w' = .ok (.string (str x0)) w'))
    (ht : t1 = 1)
    {u1 u2 u3 u4 u5 u6 u7 u8 u9 u10 u11 u12 u13 u14 u15 u16 u18 u19 u20 u21 u22 u23 u24 u25 u26 u27 u28 u29 u30 u31 u32 u33 u34 u35 u36 u37 u38 u39 u40 u41 u42 u43 u44 u45 u46 u47 u48 u49 u50 u51 u52 u53 u54 u55 u56 u57 u58 u59 u60 u61 u62 u63 u64 u65 u66 u67 u68 u69 u70 u71 u72 u73 u74 u75 u76 u77 u78 u79 u80 u81 u82 u83 u84 u85 u86 u87 u88 u89 u90 u91 u92 u93 u94 u95 u96 u97 u98 u99 u100 u101 u102 u103 u104 u105 u106 u107 u108 u109 u110 u111 u112 u113 u114 u115 u116 u117 u118 u119 u120 u121 u122 u123 u124 u125 u126 u127 u128 u129 u130 u131 u132 u133 u134 u135 u136 u137 : Value} {Q : Exit → Act → World → Prop} (hp : Hid (∀ c a w, ¬ Q (.panic c) a w))
    (hn : Hid (∀ (w9 : World) (v73 v74 v75 v76 v77 v78 v79 v80 v81 v82 v83 : Value), Below w.heap.size w w9 → Q .normal ⟨#[.slice a0 n0 p0, u1, u2, u3, u4, u5, u6, u7, u8, u9, u10, u11, u12, u13, u14, u15, u16, .pointer (some ⟨sx, 0, none⟩), u18, .bool true, u20, u21, u22, u23, u24, u25, u26, u27, u28, u29, u30, u31, u32, u33, u34, u35, u36, u37, u38, u39, u40, u41, u42, u43, u44, u45, u46, u47, u48, u49, u50, u51, u52, u53, u54, u55, u56, u57, u58, u59, u60, u61, u62, u63, u64, u65, u66, u67, u68, u69, u70, u71, u72, v73, v74, v75, v76, v77, v78, v79, v80, v81, v82, v83, u84, u85, u86, u87, u88, u89, u90, u91, u92, u93, u94, u95, u96, u97, u98, u99, u100, u101, u102, u103, u104, u105, u106, u107, u108, u109, u110, u111, u112, u113, u114, u115, u116, u117, u118, u119, u120, u121, u122, u123, u124, u125, u126, u127, u128, u129, u130, u131, u132, u133, u134, u135, u136, u137], []⟩ w9)) :
    (Code.region 18 #[{ dst := some 73, op := Op.move (Operand.tmp 17), type := 42, pos := "law.go:83", after := #[], guard := none }, { dst := some 74, op := Op.call { callee := Callee.value (Operand.func 29), args := #[Operand.tmp 73], argTypes := #[42] }, type := 2, pos := "law.go:83", after := #[{ on := 0, ground := Ground.data }], guard := none }, { dst := some 75, op := Op.binOp BinOp.eql 2 (Operand.tmp 74) (Operand.const (Value.int IntKind.i64 1)) 2, type := 4, pos := "law.go:83", after := #[{ on := 1, ground := Ground.data }], guard := none }, { dst := some 76, op := Op.move (Operand.tmp 75), type := 4, pos := "law.go:83", after := #[{ on := 2, ground := Ground.data }, { on := 1, ground := Ground.chain }], guard := none }, { dst := some 77, op := Op.move (Operand.tmp 17), type := 42, pos := "law.go:83", after := #[{ on := 3, ground := Ground.guard }], guard := some (3, true) }, { dst := some 78, op := Op.call { callee := Callee.value (Operand.func 28), args := #[Operand.tmp 77], argTypes := #[42] }, type := 22, pos := "law.go:83", after := #[{ on := 4, ground := Ground.data }, { on := 3, ground := Ground.chain }, { on := 3, ground := Ground.guard }], guard := some (3, true) }, { dst := some 79, op := Op.convert 22 9 (Operand.tmp 78), type := 9, pos := "law.go:83", after := #[{ on := 5, ground := Ground.data }, { on := 3, ground := Ground.guard }], guard := some (3, true) }, { dst := some 80, op := Op.move (Operand.tmp 0), type := 22, pos := "law.go:83", after := #[{ on := 3, ground := Ground.guard }], guard := some (3, true) }, { dst := some 81, op := Op.convert 22 9 (Operand.tmp 80), type := 9, pos := "law.go:83", after := #[{ on := 7, ground := Ground.data }, { on := 3, ground := Ground.guard }], guard := some (3, true) }, { dst := some 82, op := Op.binOp BinOp.eql 9 (Operand.tmp 79) (Operand.tmp 81) 9, type := 4, pos := "law.go:83", after := #[{ on := 6, ground := Ground.data }, { on := 8, ground := Ground.data }, { on := 3, ground := Ground.guard }], guard := some (3, true) }, { dst := some 83, op := Op.pick (Operand.tmp 76) (Operand.tmp 82) (Operand.const (Value.bool false)), type := 4, pos := "law.go:83", after := #[{ on := 3, ground := Ground.data }, { on := 9, ground := Ground.data }], guard := none }, { dst := some 19, op := Op.assign (Operand.tmp 83), type := 4, pos := "law.go:83", after := #[{ on := 10, ground := Ground.data }, { on := 5, ground := Ground.chain }, { on := 0, ground := Ground.phase }, { on := 1, ground := Ground.phase }, { on := 2, ground := Ground.phase }, { on := 3, ground := Ground.phase }, { on := 4, ground := Ground.phase }, { on := 5, ground := Ground.phase }, { on := 6, ground := Ground.phase }, { on := 7, ground := Ground.phase }, { on := 8, ground := Ground.phase }, { on := 9, ground := Ground.phase }, { on := 10, ground := Ground.phase }], guard := none }] true).wp Try.prog Q ⟨#[.slice a0 n0 p0, u1, u2, u3, u4, u5, u6, u7, u8, u9, u10, u11, u12, u13, u14, u15, u16, .pointer (some ⟨sx, 0, none⟩), u18, u19, u20, u21, u22, u23, u24, u25, u26, u27, u28, u29, u30, u31, u32, u33, u34, u35, u36, u37, u38, u39, u40, u41, u42, u43, u44, u45, u46, u47, u48, u49, u50, u51, u52, u53, u54, u55, u56, u57, u58, u59, u60, u61, u62, u63, u64, u65, u66, u67, u68, u69, u70, u71, u72, u73, u74, u75, u76, u77, u78, u79, u80, u81, u82, u83, u84, u85, u86, u87, u88, u89, u90, u91, u92, u93, u94, u95, u96, u97, u98, u99, u100, u101, u102, u103, u104, u105, u106, u107, u108, u109, u110, u111, u112, u113, u114, u115, u116, u117, u118, u119, u120, u121, u122, u123, u124, u125, u126, u127, u128, u129, u130, u131, u132, u133, u134, u135, u136, u137], []⟩ w := by
  have hB0 : Below w.heap.size w w.drew := (Below.refl _ _).drew
  refine wp_region_held_drew (S := fun w' => Below w.heap.size w w') (by kernel_rfl) hB0 (fun hHeld => ?_)
  refine wpAnyH_take (i := 0) (oi := { dst := some 73, op := Op.move (Operand.tmp 17), type := 42, pos := "law.go:83", after := #[], guard := none }) (v := ?_) rfl (by kernel_rfl) (by kernel_rfl) (by kernel_rfl) (fun c _ w h => absurd h (hp.out c _ w)) (Or.inl ⟨by rfl, ?_⟩) (by exact hB0) ?_
  rotate_left
  · intro w' hSw
    (try dsimp only at hSw)
    go_simp
    with_reducible rfl
  try simp only [Act.put, List.setIfInBounds_toArray, List.set_cons_zero, List.set_cons_succ]
  refine wpAnyH_ready (rs := [1]) (by kernel_rfl) (by simp) ?_
  refine AllReadyH.cons (o := { dst := some 74, op := Op.call { callee := Callee.value (Operand.func 29), args := #[Operand.tmp 73], argTypes := #[42] }, type := 2, pos := "law.go:83", after := #[{ on := 0, ground := Ground.data }], guard := none }) rfl (fun K hK => ?_) AllReadyH.nil
  rw [if_pos (by rfl)]
  go_simp
  refine (HUX.out _ hB0).mono ?_
  rintro e w' ⟨rfl, rfl⟩
  dsimp only
  refine hK.out _ _ hB0 (fun _ => ?_)
  clear hK K
  try simp only [Act.put, List.setIfInBounds_toArray, List.set_cons_zero, List.set_cons_succ]
  refine wpAnyH_take (i := 2) (oi := { dst := some 75, op := Op.binOp BinOp.eql 2 (Operand.tmp 74) (Operand.const (Value.int IntKind.i64 1)) 2, type := 4, pos := "law.go:83", after := #[{ on := 1, ground := Ground.data }], guard := none }) (v := ?_) rfl (by kernel_rfl) (by kernel_rfl) (by kernel_rfl) (fun c _ w h => absurd h (hp.out c _ w)) (Or.inl ⟨by rfl, ?_⟩) (by exact hB0) ?_
  rotate_left
  · intro w' hSw
    (try dsimp only at hSw)
    go_simp
    with_reducible rfl
  try simp only [Act.put, List.setIfInBounds_toArray, List.set_cons_zero, List.set_cons_succ]
  refine wpAnyH_take (i := 3) (oi := { dst := some 76, op := Op.move (Operand.tmp 75), type := 4, pos := "law.go:83", after := #[{ on := 2, ground := Ground.data }, { on := 1, ground := Ground.chain }], guard := none }) (v := ?_) rfl (by kernel_rfl) (by kernel_rfl) (by kernel_rfl) (fun c _ w h => absurd h (hp.out c _ w)) (Or.inl ⟨by rfl, ?_⟩) (by exact hB0) ?_
  rotate_left
  · intro w' hSw
    (try dsimp only at hSw)
    go_simp
    with_reducible rfl
  try simp only [Act.put, List.setIfInBounds_toArray, List.set_cons_zero, List.set_cons_succ]
  refine wpAnyH_take (i := 4) (oi := { dst := some 77, op := Op.move (Operand.tmp 17), type := 42, pos := "law.go:83", after := #[{ on := 3, ground := Ground.guard }], guard := some (3, true) }) (v := ?_) rfl (by kernel_rfl) (by kernel_rfl) (by kernel_rfl) (fun c _ w h => absurd h (hp.out c _ w)) (Or.inl ⟨by rfl, ?_⟩) (by exact hB0) ?_
  rotate_left
  · intro w' hSw
    (try dsimp only at hSw)
    go_simp
    with_reducible rfl
  try simp only [Act.put, List.setIfInBounds_toArray, List.set_cons_zero, List.set_cons_succ]
  refine wpAnyH_take (i := 7) (oi := { dst := some 80, op := Op.move (Operand.tmp 0), type := 22, pos := "law.go:83", after := #[{ on := 3, ground := Ground.guard }], guard := some (3, true) }) (v := ?_) rfl (by kernel_rfl) (by kernel_rfl) (by kernel_rfl) (fun c _ w h => absurd h (hp.out c _ w)) (Or.inl ⟨by rfl, ?_⟩) (by exact hB0) ?_
  rotate_left
  · intro w' hSw
    (try dsimp only at hSw)
    go_simp
    with_reducible rfl
  try simp only [Act.put, List.setIfInBounds_toArray, List.set_cons_zero, List.set_cons_succ]
  refine wpAnyH_take (i := 8) (oi := { dst := some 81, op := Op.convert 22 9 (Operand.tmp 80), type := 9, pos := "law.go:83", after := #[{ on := 7, ground := Ground.data }, { on := 3, ground := Ground.guard }], guard := some (3, true) }) (v := ?_) rfl (by kernel_rfl) (by kernel_rfl) (by kernel_rfl) (fun c _ w h => absurd h (hp.out c _ w)) (Or.inl ⟨by rfl, ?_⟩) (by exact hB0) ?_
  rotate_left
  · intro w' hSw
    (try dsimp only at hSw)
    have f0 := S0.out _ hSw
    go_simp
    with_reducible rfl
  try simp only [Act.put, List.setIfInBounds_toArray, List.set_cons_zero, List.set_cons_succ]
  refine wpAnyH_ready (rs := [5]) (by kernel_rfl) (by simp) ?_
  refine AllReadyH.cons (o := { dst := some 78, op := Op.call { callee := Callee.value (Operand.func 28), args := #[Operand.tmp 77], argTypes := #[42] }, type := 22, pos := "law.go:83", after := #[{ on := 4, ground := Ground.data }, { on := 3, ground := Ground.chain }, { on := 3, ground := Ground.guard }], guard := some (3, true) }) rfl (fun K hK => ?_) AllReadyH.nil
  rw [if_pos (by rfl)]
  go_simp
  refine (HTX.out _ hB0).mono ?_
  rintro e wt1 ⟨vt1, rfl, hown1, hbk1⟩
  obtain ⟨at1, nt1, ct1, rfl, hnt1, hcv1, hle1⟩ := own_str hown1
  subst hnt1
  have hB1 := hB0.trans (hbk1.mono hB0.size)
  clear hown1 hbk1
  dsimp only
  refine hK.out _ _ hB1 (fun _ => ?_)
  clear hK K
  try simp only [Act.put, List.setIfInBounds_toArray, List.set_cons_zero, List.set_cons_succ]
  refine wpAnyH_ready (rs := [6]) (by kernel_rfl) (by simp) ?_
  refine AllReadyH.cons (o := { dst := some 79, op := Op.convert 22 9 (Operand.tmp 78), type := 9, pos := "law.go:83", after := #[{ on := 5, ground := Ground.data }, { on := 3, ground := Ground.guard }], guard := some (3, true) }) rfl (fun K hK => ?_) AllReadyH.nil
  rw [if_pos (by rfl)]
  go_simp
  refine hK.out _ _ hB1 (fun _ => ?_)
  clear hK K
  try simp only [Act.put, List.setIfInBounds_toArray, List.set_cons_zero, List.set_cons_succ]
  refine wpAnyH_take (i := 9) (oi := { dst := some 82, op := Op.binOp BinOp.eql 9 (Operand.tmp 79) (Operand.tmp 81) 9, type := 4, pos := "law.go:83", after := #[{ on := 6, ground := Ground.data }, { on := 8, ground := Ground.data }, { on := 3, ground := Ground.guard }], guard := some (3, true) }) (v := ?_) rfl (by kernel_rfl) (by kernel_rfl) (by kernel_rfl) (fun c _ w h => absurd h (hp.out c _ w)) (Or.inl ⟨by rfl, ?_⟩) (by exact hB1) ?_
  rotate_left
  · intro w' hSw
    (try dsimp only at hSw)
    go_simp
    with_reducible rfl
  try simp only [Act.put, List.setIfInBounds_toArray, List.set_cons_zero, List.set_cons_succ]
  refine wpAnyH_take (i := 10) (oi := { dst := some 83, op := Op.pick (Operand.tmp 76) (Operand.tmp 82) (Operand.const (Value.bool false)), type := 4, pos := "law.go:83", after := #[{ on := 3, ground := Ground.data }, { on := 9, ground := Ground.data }], guard := none }) (v := ?_) rfl (by kernel_rfl) (by kernel_rfl) (by kernel_rfl) (fun c _ w h => absurd h (hp.out c _ w)) (Or.inl ⟨by rfl, ?_⟩) (by exact hB1) ?_
  rotate_left
  · intro w' hSw
    (try dsimp only at hSw)
    go_simp
    with_reducible rfl
  try simp only [Act.put, List.setIfInBounds_toArray, List.set_cons_zero, List.set_cons_succ]
  refine wpAnyH_take (i := 11) (oi := { dst := some 19, op := Op.assign (Operand.tmp 83), type := 4, pos := "law.go:83", after := #[{ on := 10, ground := Ground.data }, { on := 5, ground := Ground.chain }, { on := 0, ground := Ground.phase }, { on := 1, ground := Ground.phase }, { on := 2, ground := Ground.phase }, { on := 3, ground := Ground.phase }, { on := 4, ground := Ground.phase }, { on := 5, ground := Ground.phase }, { on := 6, ground := Ground.phase }, { on := 7, ground := Ground.phase }, { on := 8, ground := Ground.phase }, { on := 9, ground := Ground.phase }, { on := 10, ground := Ground.phase }], guard := none }) (v := ?_) rfl (by kernel_rfl) (by kernel_rfl) (by kernel_rfl) (fun c _ w h => absurd h (hp.out c _ w)) (Or.inl ⟨by rfl, ?_⟩) (by exact hB1) ?_
  rotate_left
  · intro w' hSw
    (try dsimp only at hSw)
    go_simp
    with_reducible rfl
  try simp only [Act.put, List.setIfInBounds_toArray, List.set_cons_zero, List.set_cons_succ]
  refine wpAnyH_done (by kernel_rfl) ?_ _
  exact hn.out _ _ _ _ _ _ _ _ _ _ _ _ hB1

set_option maxHeartbeats 2000000 in
theorem crash_region19 (a0 : Option Addr) (n0 p0 sx : Nat) (x0 : List Nat) (t1 : Int) (w : World)
    (HTX : Hid (∀ w', Below w.heap.size w w' → Calls Try.prog 28 #[.pointer (some ⟨sx, 0, none⟩)] w' fun e w'' => ∃ v, e = .returned v ∧ Own w'' w'.heap.size 5 v x0 ∧ Below w'.heap.size w' w''))
    (HUX : Hid (∀ w', Below w.heap.size w w' → Calls Try.prog 29 #[.pointer (some ⟨sx, 0, none⟩)] w' fun e w'' => e = .returned (.int .i64 t1) ∧ w' = w''))
    (S0 : Hid (∀ w', Below w.heap.size w w' → (convert 22 9 (.slice a0 n0 p0)).run Try.prog w' = .ok (.string (str x0)) w'))
    (ht : t1 = 2)
    {u0 u2 u3 u4 u5 u6 u7 u8 u9 u10 u11 u12 u13 u14 u15 u16 u18 u19 u20 u21 u22 u23 u24 u25 u26 u27 u28 u29 u30 u31 u32 u33 u34 u35 u36 u37 u38 u39 u40 u41 u42 u43 u44 u45 u46 u47 u48 u49 u50 u51 u52 u53 u54 u55 u56 u57 u58 u59 u60 u61 u62 u63 u64 u65 u66 u67 u68 u69 u70 u71 u72 u73 u74 u75 u76 u77 u78 u79 u80 u81 u82 u83 u84 u85 u86 u87 u88 u89 u90 u91 u92 u93 u94 u95 u96 u97 u98 u99 u100 u101 u102 u103 u104 u105 u106 u107 u108 u109 u110 u111 u112 u113 u114 u115 u116 u117 u118 u119 u120 u121 u122 u123 u124 u125 u126 u127 u128 u129 u130 u131 u132 u133 u134 u135 u136 u137 : Value} {Q : Exit → Act → World → Prop} (hp : Hid (∀ c a w, ¬ Q (.panic c) a w))
    (hn : Hid (∀ (w9 : World) (v84 v85 v86 v87 v88 v89 v90 v91 v92 v93 v94 : Value), Below w.heap.size w w9 → Q .normal ⟨#[u0, .slice a0 n0 p0, u2, u3, u4, u5, u6, u7, u8, u9, u10, u11, u12, u13, u14, u15, u16, .pointer (some ⟨sx, 0, none⟩), u18, u19, .bool true, u21, u22, u23, u24, u25, u26, u27, u28, u29, u30, u31, u32, u33, u34, u35, u36, u37, u38, u39, u40, u41, u42, u43, u44, u45, u46, u47, u48, u49, u50, u51, u52, u53, u54, u55, u56, u57, u58, u59, u60, u61, u62, u63, u64, u65, u66, u67, u68, u69, u70, u71, u72, u73, u74, u75, u76, u77, u78, u79, u80, u81, u82, u83, v84, v85, v86, v87, v88, v89, v90, v91, v92, v93, v94, u95, u96, u97, u98, u99, u100, u101, u102, u103, u104, u105, u106, u107, u108, u109, u110, u111, u112, u113, u114, u115, u116, u117, u118, u119, u120, u121, u122, u123, u124, u125, u126, u127, u128, u129, u130, u131, u132, u133, u134, u135, u136, u137], []⟩ w9)) :
    (Code.region 19 #[{ dst := some 84, op := Op.move (Operand.tmp 17), type := 42, pos := "law.go:84", after := #[], guard := none }, { dst := some 85, op := Op.call { callee := Callee.value (Operand.func 29), args := #[Operand.tmp 84], argTypes := #[42] }, type := 2, pos := "law.go:84", after := #[{ on := 0, ground := Ground.data }], guard := none }, { dst := some 86, op := Op.binOp BinOp.eql 2 (Operand.tmp 85) (Operand.const (Value.int IntKind.i64 2)) 2, type := 4, pos := "law.go:84", after := #[{ on := 1, ground := Ground.data }], guard := none }, { dst := some 87, op := Op.move (Operand.tmp 86), type := 4, pos := "law.go:84", after := #[{ on := 2, ground := Ground.data }, { on := 1, ground := Ground.chain }], guard := none }, { dst := some 88, op := Op.move (Operand.tmp 17), type := 42, pos := "law.go:84", after := #[{ on := 3, ground := Ground.guard }], guard := some (3, true) }, { dst := some 89, op := Op.call { callee := Callee.value (Operand.func 28), args := #[Operand.tmp 88], argTypes := #[42] }, type := 22, pos := "law.go:84", after := #[{ on := 4, ground := Ground.data }, { on := 3, ground := Ground.chain }, { on := 3, ground := Ground.guard }], guard := some (3, true) }, { dst := some 90, op := Op.convert 22 9 (Operand.tmp 89), type := 9, pos := "law.go:84", after := #[{ on := 5, ground := Ground.data }, { on := 3, ground := Ground.guard }], guard := some (3, true) }, { dst := some 91, op := Op.move (Operand.tmp 1), type := 22, pos := "law.go:84", after := #[{ on := 3, ground := Ground.guard }], guard := some (3, true) }, { dst := some 92, op := Op.convert 22 9 (Operand.tmp 91), type := 9, pos := "law.go:84", after := #[{ on := 7, ground := Ground.data }, { on := 3, ground := Ground.guard }], guard := some (3, true) }, { dst := some 93, op := Op.binOp BinOp.eql 9 (Operand.tmp 90) (Operand.tmp 92) 9, type := 4, pos := "law.go:84", after := #[{ on := 6, ground := Ground.data }, { on := 8, ground := Ground.data }, { on := 3, ground := Ground.guard }], guard := some (3, true) }, { dst := some 94, op := Op.pick (Operand.tmp 87) (Operand.tmp 93) (Operand.const (Value.bool false)), type := 4, pos := "law.go:84", after := #[{ on := 3, ground := Ground.data }, { on := 9, ground := Ground.data }], guard := none }, { dst := some 20, op := Op.assign (Operand.tmp 94), type := 4, pos := "law.go:84", after := #[{ on := 10, ground := Ground.data }, { on := 5, ground := Ground.chain }, { on := 0, ground := Ground.phase }, { on := 1, ground := Ground.phase }, { on := 2, ground := Ground.phase }, { on := 3, ground := Ground.phase }, { on := 4, ground := Ground.phase }, { on := 5, ground := Ground.phase }, { on := 6, ground := Ground.phase }, { on := 7, ground := Ground.phase }, { on := 8, ground := Ground.phase }, { on := 9, ground := Ground.phase }, { on := 10, ground := Ground.phase }], guard := none }] true).wp Try.prog Q ⟨#[u0, .slice a0 n0 p0, u2, u3, u4, u5, u6, u7, u8, u9, u10, u11, u12, u13, u14, u15, u16, .pointer (some ⟨sx, 0, none⟩), u18, u19, u20, u21, u22, u23, u24, u25, u26, u27, u28, u29, u30, u31, u32, u33, u34, u35, u36, u37, u38, u39, u40, u41, u42, u43, u44, u45, u46, u47, u48, u49, u50, u51, u52, u53, u54, u55, u56, u57, u58, u59, u60, u61, u62, u63, u64, u65, u66, u67, u68, u69, u70, u71, u72, u73, u74, u75, u76, u77, u78, u79, u80, u81, u82, u83, u84, u85, u86, u87, u88, u89, u90, u91, u92, u93, u94, u95, u96, u97, u98, u99, u100, u101, u102, u103, u104, u105, u106, u107, u108, u109, u110, u111, u112, u113, u114, u115, u116, u117, u118, u119, u120, u121, u122, u123, u124, u125, u126, u127, u128, u129, u130, u131, u132, u133, u134, u135, u136, u137], []⟩ w := by
  have hB0 : Below w.heap.size w w.drew := (Below.refl _ _).drew
  refine wp_region_held_drew (S := fun w' => Below w.heap.size w w') (by kernel_rfl) hB0 (fun hHeld => ?_)
  refine wpAnyH_take (i := 0) (oi := { dst := some 84, op := Op.move (Operand.tmp 17), type := 42, pos := "law.go:84", after := #[], guard := none }) (v := ?_) rfl (by kernel_rfl) (by kernel_rfl) (by kernel_rfl) (fun c _ w h => absurd h (hp.out c _ w)) (Or.inl ⟨by rfl, ?_⟩) (by exact hB0) ?_
  rotate_left
  · intro w' hSw
    (try dsimp only at hSw)
    go_simp
    with_reducible rfl
  try simp only [Act.put, List.setIfInBounds_toArray, List.set_cons_zero, List.set_cons_succ]
  refine wpAnyH_ready (rs := [1]) (by kernel_rfl) (by simp) ?_
  refine AllReadyH.cons (o := { dst := some 85, op := Op.call { callee := Callee.value (Operand.func 29), args := #[Operand.tmp 84], argTypes := #[42] }, type := 2, pos := "law.go:84", after := #[{ on := 0, ground := Ground.data }], guard := none }) rfl (fun K hK => ?_) AllReadyH.nil
  rw [if_pos (by rfl)]
  go_simp
  refine (HUX.out _ hB0).mono ?_
  rintro e w' ⟨rfl, rfl⟩
  dsimp only
  refine hK.out _ _ hB0 (fun _ => ?_)
  clear hK K
  try simp only [Act.put, List.setIfInBounds_toArray, List.set_cons_zero, List.set_cons_succ]
  refine wpAnyH_take (i := 2) (oi := { dst := some 86, op := Op.binOp BinOp.eql 2 (Operand.tmp 85) (Operand.const (Value.int IntKind.i64 2)) 2, type := 4, pos := "law.go:84", after := #[{ on := 1, ground := Ground.data }], guard := none }) (v := ?_) rfl (by kernel_rfl) (by kernel_rfl) (by kernel_rfl) (fun c _ w h => absurd h (hp.out c _ w)) (Or.inl ⟨by rfl, ?_⟩) (by exact hB0) ?_
  rotate_left
  · intro w' hSw
    (try dsimp only at hSw)
    go_simp
    with_reducible rfl
  try simp only [Act.put, List.setIfInBounds_toArray, List.set_cons_zero, List.set_cons_succ]
  refine wpAnyH_take (i := 3) (oi := { dst := some 87, op := Op.move (Operand.tmp 86), type := 4, pos := "law.go:84", after := #[{ on := 2, ground := Ground.data }, { on := 1, ground := Ground.chain }], guard := none }) (v := ?_) rfl (by kernel_rfl) (by kernel_rfl) (by kernel_rfl) (fun c _ w h => absurd h (hp.out c _ w)) (Or.inl ⟨by rfl, ?_⟩) (by exact hB0) ?_
  rotate_left
  · intro w' hSw
    (try dsimp only at hSw)
    go_simp
    with_reducible rfl
  try simp only [Act.put, List.setIfInBounds_toArray, List.set_cons_zero, List.set_cons_succ]
  refine wpAnyH_take (i := 4) (oi := { dst := some 88, op := Op.move (Operand.tmp 17), type := 42, pos := "law.go:84", after := #[{ on := 3, ground := Ground.guard }], guard := some (3, true) }) (v := ?_) rfl (by kernel_rfl) (by kernel_rfl) (by kernel_rfl) (fun c _ w h => absurd h (hp.out c _ w)) (Or.inl ⟨by rfl, ?_⟩) (by exact hB0) ?_
  rotate_left
  · intro w' hSw
    (try dsimp only at hSw)
    go_simp
    with_reducible rfl
  try simp only [Act.put, List.setIfInBounds_toArray, List.set_cons_zero, List.set_cons_succ]
  refine wpAnyH_take (i := 7) (oi := { dst := some 91, op := Op.move (Operand.tmp 1), type := 22, pos := "law.go:84", after := #[{ on := 3, ground := Ground.guard }], guard := some (3, true) }) (v := ?_) rfl (by kernel_rfl) (by kernel_rfl) (by kernel_rfl) (fun c _ w h => absurd h (hp.out c _ w)) (Or.inl ⟨by rfl, ?_⟩) (by exact hB0) ?_
  rotate_left
  · intro w' hSw
    (try dsimp only at hSw)
    go_simp
    with_reducible rfl
  try simp only [Act.put, List.setIfInBounds_toArray, List.set_cons_zero, List.set_cons_succ]
  refine wpAnyH_take (i := 8) (oi := { dst := some 92, op := Op.convert 22 9 (Operand.tmp 91), type := 9, pos := "law.go:84", after := #[{ on := 7, ground := Ground.data }, { on := 3, ground := Ground.guard }], guard := some (3, true) }) (v := ?_) rfl (by kernel_rfl) (by kernel_rfl) (by kernel_rfl) (fun c _ w h => absurd h (hp.out c _ w)) (Or.inl ⟨by rfl, ?_⟩) (by exact hB0) ?_
  rotate_left
  · intro w' hSw
    (try dsimp only at hSw)
    have f0 := S0.out _ hSw
    go_simp
    with_reducible rfl
  try simp only [Act.put, List.setIfInBounds_toArray, List.set_cons_zero, List.set_cons_succ]
  refine wpAnyH_ready (rs := [5]) (by kernel_rfl) (by simp) ?_
  refine AllReadyH.cons (o := { dst := some 89, op := Op.call { callee := Callee.value (Operand.func 28), args := #[Operand.tmp 88], argTypes := #[42] }, type := 22, pos := "law.go:84", after := #[{ on := 4, ground := Ground.data }, { on := 3, ground := Ground.chain }, { on := 3, ground := Ground.guard }], guard := some (3, true) }) rfl (fun K hK => ?_) AllReadyH.nil
  rw [if_pos (by rfl)]
  go_simp
  refine (HTX.out _ hB0).mono ?_
  rintro e wt1 ⟨vt1, rfl, hown1, hbk1⟩
  obtain ⟨at1, nt1, ct1, rfl, hnt1, hcv1, hle1⟩ := own_str hown1
  subst hnt1
  have hB1 := hB0.trans (hbk1.mono hB0.size)
  clear hown1 hbk1
  dsimp only
  refine hK.out _ _ hB1 (fun _ => ?_)
  clear hK K
  try simp only [Act.put, List.setIfInBounds_toArray, List.set_cons_zero, List.set_cons_succ]
  refine wpAnyH_ready (rs := [6]) (by kernel_rfl) (by simp) ?_
  refine AllReadyH.cons (o := { dst := some 90, op := Op.convert 22 9 (Operand.tmp 89), type := 9, pos := "law.go:84", after := #[{ on := 5, ground := Ground.data }, { on := 3, ground := Ground.guard }], guard := some (3, true) }) rfl (fun K hK => ?_) AllReadyH.nil
  rw [if_pos (by rfl)]
  go_simp
  refine hK.out _ _ hB1 (fun _ => ?_)
  clear hK K
  try simp only [Act.put, List.setIfInBounds_toArray, List.set_cons_zero, List.set_cons_succ]
  refine wpAnyH_take (i := 9) (oi := { dst := some 93, op := Op.binOp BinOp.eql 9 (Operand.tmp 90) (Operand.tmp 92) 9, type := 4, pos := "law.go:84", after := #[{ on := 6, ground := Ground.data }, { on := 8, ground := Ground.data }, { on := 3, ground := Ground.guard }], guard := some (3, true) }) (v := ?_) rfl (by kernel_rfl) (by kernel_rfl) (by kernel_rfl) (fun c _ w h => absurd h (hp.out c _ w)) (Or.inl ⟨by rfl, ?_⟩) (by exact hB1) ?_
  rotate_left
  · intro w' hSw
    (try dsimp only at hSw)
    go_simp
    with_reducible rfl
  try simp only [Act.put, List.setIfInBounds_toArray, List.set_cons_zero, List.set_cons_succ]
  refine wpAnyH_take (i := 10) (oi := { dst := some 94, op := Op.pick (Operand.tmp 87) (Operand.tmp 93) (Operand.const (Value.bool false)), type := 4, pos := "law.go:84", after := #[{ on := 3, ground := Ground.data }, { on := 9, ground := Ground.data }], guard := none }) (v := ?_) rfl (by kernel_rfl) (by kernel_rfl) (by kernel_rfl) (fun c _ w h => absurd h (hp.out c _ w)) (Or.inl ⟨by rfl, ?_⟩) (by exact hB1) ?_
  rotate_left
  · intro w' hSw
    (try dsimp only at hSw)
    go_simp
    with_reducible rfl
  try simp only [Act.put, List.setIfInBounds_toArray, List.set_cons_zero, List.set_cons_succ]
  refine wpAnyH_take (i := 11) (oi := { dst := some 20, op := Op.assign (Operand.tmp 94), type := 4, pos := "law.go:84", after := #[{ on := 10, ground := Ground.data }, { on := 5, ground := Ground.chain }, { on := 0, ground := Ground.phase }, { on := 1, ground := Ground.phase }, { on := 2, ground := Ground.phase }, { on := 3, ground := Ground.phase }, { on := 4, ground := Ground.phase }, { on := 5, ground := Ground.phase }, { on := 6, ground := Ground.phase }, { on := 7, ground := Ground.phase }, { on := 8, ground := Ground.phase }, { on := 9, ground := Ground.phase }, { on := 10, ground := Ground.phase }], guard := none }) (v := ?_) rfl (by kernel_rfl) (by kernel_rfl) (by kernel_rfl) (fun c _ w h => absurd h (hp.out c _ w)) (Or.inl ⟨by rfl, ?_⟩) (by exact hB1) ?_
  rotate_left
  · intro w' hSw
    (try dsimp only at hSw)
    go_simp
    with_reducible rfl
  try simp only [Act.put, List.setIfInBounds_toArray, List.set_cons_zero, List.set_cons_succ]
  refine wpAnyH_done (by kernel_rfl) ?_ _
  exact hn.out _ _ _ _ _ _ _ _ _ _ _ _ hB1

set_option maxHeartbeats 2000000 in
theorem crash_region26 (a0 : Option Addr) (n0 p0 sx : Nat) (x0 : List Nat) (t1 : Int) (w : World)
    (HTX : Hid (∀ w', Below w.heap.size w w' → Calls Try.prog 28 #[.pointer (some ⟨sx, 0, none⟩)] w' fun e w'' => ∃ v, e = .returned v ∧ Own w'' w'.heap.size 5 v x0 ∧ Below w'.heap.size w' w''))
    (HUX : Hid (∀ w', Below w.heap.size w w' → Calls Try.prog 29 #[.pointer (some ⟨sx, 0, none⟩)] w' fun e w'' => e = .returned (.int .i64 t1) ∧ w' = w''))
    (S0 : Hid (∀ w', Below w.heap.size w w' → (convert 22 9 (.slice a0 n0 p0)).run Try.prog w' = .ok (.string (str x0)) w'))
    (t2 : Int)
    (ht : IntKind.i64.wrap (t2 + 1) = t1)
    {u0 u1 u3 u4 u5 u6 u7 u8 u9 u10 u11 u12 u13 u14 u15 u16 u17 u18 u19 u20 u24 u25 u26 u27 u28 u29 u30 u31 u32 u33 u34 u35 u36 u37 u38 u39 u40 u41 u42 u43 u44 u45 u46 u47 u48 u49 u50 u51 u52 u53 u54 u55 u56 u57 u58 u59 u60 u61 u62 u63 u64 u65 u66 u67 u68 u69 u70 u71 u72 u73 u74 u75 u76 u77 u78 u79 u80 u81 u82 u83 u84 u85 u86 u87 u88 u89 u90 u91 u92 u93 u94 u95 u96 u97 u98 u99 u100 u101 u102 u103 u104 u105 u106 u107 u108 u109 u110 u111 u112 u113 u114 u115 u116 u117 u118 u119 u120 u121 u122 u123 u124 u125 u126 u127 u128 u129 u130 u131 u132 u133 u134 u135 u136 u137 : Value} {Q : Exit → Act → World → Prop} (hp : Hid (∀ c a w, ¬ Q (.panic c) a w))
    (hn : Hid (∀ (w9 : World) (v121 v122 v123 v124 v125 v126 v127 v128 v129 v130 v131 v132 v133 v134 v135 v136 v137 : Value), Below w.heap.size w w9 → Q .normal ⟨#[u0, u1, .slice a0 n0 p0, u3, u4, u5, u6, u7, u8, u9, .bool true, u11, u12, u13, u14, u15, u16, u17, u18, u19, u20, .int .i64 t2, .pointer (some ⟨sx, 0, none⟩), .int .i64 0, u24, u25, u26, u27, u28, u29, u30, u31, u32, u33, u34, u35, u36, u37, u38, u39, u40, u41, u42, u43, u44, u45, u46, u47, u48, u49, u50, u51, u52, u53, u54, u55, u56, u57, u58, u59, u60, u61, u62, u63, u64, u65, u66, u67, u68, u69, u70, u71, u72, u73, u74, u75, u76, u77, u78, u79, u80, u81, u82, u83, u84, u85, u86, u87, u88, u89, u90, u91, u92, u93, u94, u95, u96, u97, u98, u99, u100, u101, u102, u103, u104, u105, u106, u107, u108, u109, u110, u111, u112, u113, u114, u115, u116, u117, u118, u119, u120, v121, v122, v123, v124, v125, v126, v127, v128, v129, v130, v131, v132, v133, v134, v135, v136, v137], []⟩ w9)) :
    (Code.region 26 #[{ dst := some 121, op := Op.move (Operand.tmp 23), type := 27, pos := "law.go:93", after := #[], guard := none }, { dst := some 122, op := Op.binOp BinOp.eql 27 (Operand.tmp 121) (Operand.const (Value.int IntKind.i64 0)) 27, type := 4, pos := "law.go:93", after := #[{ on := 0, ground := Ground.data }], guard := none }, { dst := some 123, op := Op.move (Operand.tmp 122), type := 4, pos := "law.go:93", after := #[{ on := 1, ground := Ground.data }], guard := none }, { dst := some 124, op := Op.move (Operand.tmp 22), type := 42, pos := "law.go:93", after := #[{ on := 2, ground := Ground.guard }], guard := some (2, true) }, { dst := some 125, op := Op.call { callee := Callee.value (Operand.func 29), args := #[Operand.tmp 124], argTypes := #[42] }, type := 2, pos := "law.go:93", after := #[{ on := 3, ground := Ground.data }, { on := 2, ground := Ground.chain }, { on := 2, ground := Ground.guard }], guard := some (2, true) }, { dst := some 126, op := Op.move (Operand.tmp 21), type := 2, pos := "law.go:93", after := #[{ on := 2, ground := Ground.guard }], guard := some (2, true) }, { dst := some 127, op := Op.binOp BinOp.add 2 (Operand.tmp 126) (Operand.const (Value.int IntKind.i64 1)) 2, type := 2, pos := "law.go:93", after := #[{ on := 5, ground := Ground.data }, { on := 2, ground := Ground.guard }], guard := some (2, true) }, { dst := some 128, op := Op.binOp BinOp.eql 2 (Operand.tmp 125) (Operand.tmp 127) 2, type := 4, pos := "law.go:93", after := #[{ on := 4, ground := Ground.data }, { on := 6, ground := Ground.data }, { on := 2, ground := Ground.guard }], guard := some (2, true) }, { dst := some 129, op := Op.pick (Operand.tmp 123) (Operand.tmp 128) (Operand.const (Value.bool false)), type := 4, pos := "law.go:93", after := #[{ on := 2, ground := Ground.data }, { on := 7, ground := Ground.data }], guard := none }, { dst := some 130, op := Op.move (Operand.tmp 129), type := 4, pos := "law.go:93", after := #[{ on := 8, ground := Ground.data }, { on := 4, ground := Ground.chain }], guard := none }, { dst := some 131, op := Op.move (Operand.tmp 22), type := 42, pos := "law.go:93", after := #[{ on := 9, ground := Ground.guard }], guard := some (9, true) }, { dst := some 132, op := Op.call { callee := Callee.value (Operand.func 28), args := #[Operand.tmp 131], argTypes := #[42] }, type := 22, pos := "law.go:93", after := #[{ on := 10, ground := Ground.data }, { on := 9, ground := Ground.chain }, { on := 9, ground := Ground.guard }], guard := some (9, true) }, { dst := some 133, op := Op.convert 22 9 (Operand.tmp 132), type := 9, pos := "law.go:93", after := #[{ on := 11, ground := Ground.data }, { on := 9, ground := Ground.guard }], guard := some (9, true) }, { dst := some 134, op := Op.move (Operand.tmp 2), type := 22, pos := "law.go:93", after := #[{ on := 9, ground := Ground.guard }], guard := some (9, true) }, { dst := some 135, op := Op.convert 22 9 (Operand.tmp 134), type := 9, pos := "law.go:93", after := #[{ on := 13, ground := Ground.data }, { on := 9, ground := Ground.guard }], guard := some (9, true) }, { dst := some 136, op := Op.binOp BinOp.eql 9 (Operand.tmp 133) (Operand.tmp 135) 9, type := 4, pos := "law.go:93", after := #[{ on := 12, ground := Ground.data }, { on := 14, ground := Ground.data }, { on := 9, ground := Ground.guard }], guard := some (9, true) }, { dst := some 137, op := Op.pick (Operand.tmp 130) (Operand.tmp 136) (Operand.const (Value.bool false)), type := 4, pos := "law.go:93", after := #[{ on := 9, ground := Ground.data }, { on := 15, ground := Ground.data }], guard := none }, { dst := some 10, op := Op.assign (Operand.tmp 137), type := 4, pos := "law.go:93", after := #[{ on := 16, ground := Ground.data }, { on := 11, ground := Ground.chain }, { on := 0, ground := Ground.phase }, { on := 1, ground := Ground.phase }, { on := 2, ground := Ground.phase }, { on := 3, ground := Ground.phase }, { on := 4, ground := Ground.phase }, { on := 5, ground := Ground.phase }, { on := 6, ground := Ground.phase }, { on := 7, ground := Ground.phase }, { on := 8, ground := Ground.phase }, { on := 9, ground := Ground.phase }, { on := 10, ground := Ground.phase }, { on := 11, ground := Ground.phase }, { on := 12, ground := Ground.phase }, { on := 13, ground := Ground.phase }, { on := 14, ground := Ground.phase }, { on := 15, ground := Ground.phase }, { on := 16, ground := Ground.phase }], guard := none }] true).wp Try.prog Q ⟨#[u0, u1, .slice a0 n0 p0, u3, u4, u5, u6, u7, u8, u9, u10, u11, u12, u13, u14, u15, u16, u17, u18, u19, u20, .int .i64 t2, .pointer (some ⟨sx, 0, none⟩), .int .i64 0, u24, u25, u26, u27, u28, u29, u30, u31, u32, u33, u34, u35, u36, u37, u38, u39, u40, u41, u42, u43, u44, u45, u46, u47, u48, u49, u50, u51, u52, u53, u54, u55, u56, u57, u58, u59, u60, u61, u62, u63, u64, u65, u66, u67, u68, u69, u70, u71, u72, u73, u74, u75, u76, u77, u78, u79, u80, u81, u82, u83, u84, u85, u86, u87, u88, u89, u90, u91, u92, u93, u94, u95, u96, u97, u98, u99, u100, u101, u102, u103, u104, u105, u106, u107, u108, u109, u110, u111, u112, u113, u114, u115, u116, u117, u118, u119, u120, u121, u122, u123, u124, u125, u126, u127, u128, u129, u130, u131, u132, u133, u134, u135, u136, u137], []⟩ w := by
  have hB0 : Below w.heap.size w w.drew := (Below.refl _ _).drew
  refine wp_region_held_drew (S := fun w' => Below w.heap.size w w') (by kernel_rfl) hB0 (fun hHeld => ?_)
  refine wpAnyH_take (i := 0) (oi := { dst := some 121, op := Op.move (Operand.tmp 23), type := 27, pos := "law.go:93", after := #[], guard := none }) (v := ?_) rfl (by kernel_rfl) (by kernel_rfl) (by kernel_rfl) (fun c _ w h => absurd h (hp.out c _ w)) (Or.inl ⟨by rfl, ?_⟩) (by exact hB0) ?_
  rotate_left
  · intro w' hSw
    (try dsimp only at hSw)
    go_simp
    with_reducible rfl
  try simp only [Act.put, List.setIfInBounds_toArray, List.set_cons_zero, List.set_cons_succ]
  refine wpAnyH_take (i := 1) (oi := { dst := some 122, op := Op.binOp BinOp.eql 27 (Operand.tmp 121) (Operand.const (Value.int IntKind.i64 0)) 27, type := 4, pos := "law.go:93", after := #[{ on := 0, ground := Ground.data }], guard := none }) (v := ?_) rfl (by kernel_rfl) (by kernel_rfl) (by kernel_rfl) (fun c _ w h => absurd h (hp.out c _ w)) (Or.inl ⟨by rfl, ?_⟩) (by exact hB0) ?_
  rotate_left
  · intro w' hSw
    (try dsimp only at hSw)
    go_simp
    with_reducible rfl
  try simp only [Act.put, List.setIfInBounds_toArray, List.set_cons_zero, List.set_cons_succ]
  refine wpAnyH_take (i := 2) (oi := { dst := some 123, op := Op.move (Operand.tmp 122), type := 4, pos := "law.go:93", after := #[{ on := 1, ground := Ground.data }], guard := none }) (v := ?_) rfl (by kernel_rfl) (by kernel_rfl) (by kernel_rfl) (fun c _ w h => absurd h (hp.out c _ w)) (Or.inl ⟨by rfl, ?_⟩) (by exact hB0) ?_
  rotate_left
  · intro w' hSw
    (try dsimp only at hSw)
    go_simp
    with_reducible rfl
  try simp only [Act.put, List.setIfInBounds_toArray, List.set_cons_zero, List.set_cons_succ]
  refine wpAnyH_take (i := 3) (oi := { dst := some 124, op := Op.move (Operand.tmp 22), type := 42, pos := "law.go:93", after := #[{ on := 2, ground := Ground.guard }], guard := some (2, true) }) (v := ?_) rfl (by kernel_rfl) (by kernel_rfl) (by kernel_rfl) (fun c _ w h => absurd h (hp.out c _ w)) (Or.inl ⟨by rfl, ?_⟩) (by exact hB0) ?_
  rotate_left
  · intro w' hSw
    (try dsimp only at hSw)
    go_simp
    with_reducible rfl
  try simp only [Act.put, List.setIfInBounds_toArray, List.set_cons_zero, List.set_cons_succ]
  refine wpAnyH_take (i := 5) (oi := { dst := some 126, op := Op.move (Operand.tmp 21), type := 2, pos := "law.go:93", after := #[{ on := 2, ground := Ground.guard }], guard := some (2, true) }) (v := ?_) rfl (by kernel_rfl) (by kernel_rfl) (by kernel_rfl) (fun c _ w h => absurd h (hp.out c _ w)) (Or.inl ⟨by rfl, ?_⟩) (by exact hB0) ?_
  rotate_left
  · intro w' hSw
    (try dsimp only at hSw)
    go_simp
    with_reducible rfl
  try simp only [Act.put, List.setIfInBounds_toArray, List.set_cons_zero, List.set_cons_succ]
  refine wpAnyH_take (i := 6) (oi := { dst := some 127, op := Op.binOp BinOp.add 2 (Operand.tmp 126) (Operand.const (Value.int IntKind.i64 1)) 2, type := 2, pos := "law.go:93", after := #[{ on := 5, ground := Ground.data }, { on := 2, ground := Ground.guard }], guard := some (2, true) }) (v := ?_) rfl (by kernel_rfl) (by kernel_rfl) (by kernel_rfl) (fun c _ w h => absurd h (hp.out c _ w)) (Or.inl ⟨by rfl, ?_⟩) (by exact hB0) ?_
  rotate_left
  · intro w' hSw
    (try dsimp only at hSw)
    go_simp
    with_reducible rfl
  try simp only [Act.put, List.setIfInBounds_toArray, List.set_cons_zero, List.set_cons_succ]
  refine wpAnyH_ready (rs := [4]) (by kernel_rfl) (by simp) ?_
  refine AllReadyH.cons (o := { dst := some 125, op := Op.call { callee := Callee.value (Operand.func 29), args := #[Operand.tmp 124], argTypes := #[42] }, type := 2, pos := "law.go:93", after := #[{ on := 3, ground := Ground.data }, { on := 2, ground := Ground.chain }, { on := 2, ground := Ground.guard }], guard := some (2, true) }) rfl (fun K hK => ?_) AllReadyH.nil
  rw [if_pos (by rfl)]
  go_simp
  refine (HUX.out _ hB0).mono ?_
  rintro e w' ⟨rfl, rfl⟩
  dsimp only
  refine hK.out _ _ hB0 (fun _ => ?_)
  clear hK K
  try simp only [Act.put, List.setIfInBounds_toArray, List.set_cons_zero, List.set_cons_succ]
  refine wpAnyH_take (i := 7) (oi := { dst := some 128, op := Op.binOp BinOp.eql 2 (Operand.tmp 125) (Operand.tmp 127) 2, type := 4, pos := "law.go:93", after := #[{ on := 4, ground := Ground.data }, { on := 6, ground := Ground.data }, { on := 2, ground := Ground.guard }], guard := some (2, true) }) (v := ?_) rfl (by kernel_rfl) (by kernel_rfl) (by kernel_rfl) (fun c _ w h => absurd h (hp.out c _ w)) (Or.inl ⟨by rfl, ?_⟩) (by exact hB0) ?_
  rotate_left
  · intro w' hSw
    (try dsimp only at hSw)
    go_simp
    with_reducible rfl
  try simp only [Act.put, List.setIfInBounds_toArray, List.set_cons_zero, List.set_cons_succ]
  refine wpAnyH_take (i := 8) (oi := { dst := some 129, op := Op.pick (Operand.tmp 123) (Operand.tmp 128) (Operand.const (Value.bool false)), type := 4, pos := "law.go:93", after := #[{ on := 2, ground := Ground.data }, { on := 7, ground := Ground.data }], guard := none }) (v := ?_) rfl (by kernel_rfl) (by kernel_rfl) (by kernel_rfl) (fun c _ w h => absurd h (hp.out c _ w)) (Or.inl ⟨by rfl, ?_⟩) (by exact hB0) ?_
  rotate_left
  · intro w' hSw
    (try dsimp only at hSw)
    go_simp
    with_reducible rfl
  try simp only [Act.put, List.setIfInBounds_toArray, List.set_cons_zero, List.set_cons_succ]
  refine wpAnyH_take (i := 9) (oi := { dst := some 130, op := Op.move (Operand.tmp 129), type := 4, pos := "law.go:93", after := #[{ on := 8, ground := Ground.data }, { on := 4, ground := Ground.chain }], guard := none }) (v := ?_) rfl (by kernel_rfl) (by kernel_rfl) (by kernel_rfl) (fun c _ w h => absurd h (hp.out c _ w)) (Or.inl ⟨by rfl, ?_⟩) (by exact hB0) ?_
  rotate_left
  · intro w' hSw
    (try dsimp only at hSw)
    go_simp
    with_reducible rfl
  try simp only [Act.put, List.setIfInBounds_toArray, List.set_cons_zero, List.set_cons_succ]
  refine wpAnyH_take (i := 10) (oi := { dst := some 131, op := Op.move (Operand.tmp 22), type := 42, pos := "law.go:93", after := #[{ on := 9, ground := Ground.guard }], guard := some (9, true) }) (v := ?_) rfl (by kernel_rfl) (by kernel_rfl) (by kernel_rfl) (fun c _ w h => absurd h (hp.out c _ w)) (Or.inl ⟨by rfl, ?_⟩) (by exact hB0) ?_
  rotate_left
  · intro w' hSw
    (try dsimp only at hSw)
    go_simp
    with_reducible rfl
  try simp only [Act.put, List.setIfInBounds_toArray, List.set_cons_zero, List.set_cons_succ]
  refine wpAnyH_take (i := 13) (oi := { dst := some 134, op := Op.move (Operand.tmp 2), type := 22, pos := "law.go:93", after := #[{ on := 9, ground := Ground.guard }], guard := some (9, true) }) (v := ?_) rfl (by kernel_rfl) (by kernel_rfl) (by kernel_rfl) (fun c _ w h => absurd h (hp.out c _ w)) (Or.inl ⟨by rfl, ?_⟩) (by exact hB0) ?_
  rotate_left
  · intro w' hSw
    (try dsimp only at hSw)
    go_simp
    with_reducible rfl
  try simp only [Act.put, List.setIfInBounds_toArray, List.set_cons_zero, List.set_cons_succ]
  refine wpAnyH_take (i := 14) (oi := { dst := some 135, op := Op.convert 22 9 (Operand.tmp 134), type := 9, pos := "law.go:93", after := #[{ on := 13, ground := Ground.data }, { on := 9, ground := Ground.guard }], guard := some (9, true) }) (v := ?_) rfl (by kernel_rfl) (by kernel_rfl) (by kernel_rfl) (fun c _ w h => absurd h (hp.out c _ w)) (Or.inl ⟨by rfl, ?_⟩) (by exact hB0) ?_
  rotate_left
  · intro w' hSw
    (try dsimp only at hSw)
    have f0 := S0.out _ hSw
    go_simp
    with_reducible rfl
  try simp only [Act.put, List.setIfInBounds_toArray, List.set_cons_zero, List.set_cons_succ]
  refine wpAnyH_ready (rs := [11]) (by kernel_rfl) (by simp) ?_
  refine AllReadyH.cons (o := { dst := some 132, op := Op.call { callee := Callee.value (Operand.func 28), args := #[Operand.tmp 131], argTypes := #[42] }, type := 22, pos := "law.go:93", after := #[{ on := 10, ground := Ground.data }, { on := 9, ground := Ground.chain }, { on := 9, ground := Ground.guard }], guard := some (9, true) }) rfl (fun K hK => ?_) AllReadyH.nil
  rw [if_pos (by rfl)]
  go_simp
  refine (HTX.out _ hB0).mono ?_
  rintro e wt1 ⟨vt1, rfl, hown1, hbk1⟩
  obtain ⟨at1, nt1, ct1, rfl, hnt1, hcv1, hle1⟩ := own_str hown1
  subst hnt1
  have hB1 := hB0.trans (hbk1.mono hB0.size)
  clear hown1 hbk1
  dsimp only
  refine hK.out _ _ hB1 (fun _ => ?_)
  clear hK K
  try simp only [Act.put, List.setIfInBounds_toArray, List.set_cons_zero, List.set_cons_succ]
  refine wpAnyH_ready (rs := [12]) (by kernel_rfl) (by simp) ?_
  refine AllReadyH.cons (o := { dst := some 133, op := Op.convert 22 9 (Operand.tmp 132), type := 9, pos := "law.go:93", after := #[{ on := 11, ground := Ground.data }, { on := 9, ground := Ground.guard }], guard := some (9, true) }) rfl (fun K hK => ?_) AllReadyH.nil
  rw [if_pos (by rfl)]
  go_simp
  refine hK.out _ _ hB1 (fun _ => ?_)
  clear hK K
  try simp only [Act.put, List.setIfInBounds_toArray, List.set_cons_zero, List.set_cons_succ]
  refine wpAnyH_take (i := 15) (oi := { dst := some 136, op := Op.binOp BinOp.eql 9 (Operand.tmp 133) (Operand.tmp 135) 9, type := 4, pos := "law.go:93", after := #[{ on := 12, ground := Ground.data }, { on := 14, ground := Ground.data }, { on := 9, ground := Ground.guard }], guard := some (9, true) }) (v := ?_) rfl (by kernel_rfl) (by kernel_rfl) (by kernel_rfl) (fun c _ w h => absurd h (hp.out c _ w)) (Or.inl ⟨by rfl, ?_⟩) (by exact hB1) ?_
  rotate_left
  · intro w' hSw
    (try dsimp only at hSw)
    go_simp
    with_reducible rfl
  try simp only [Act.put, List.setIfInBounds_toArray, List.set_cons_zero, List.set_cons_succ]
  refine wpAnyH_take (i := 16) (oi := { dst := some 137, op := Op.pick (Operand.tmp 130) (Operand.tmp 136) (Operand.const (Value.bool false)), type := 4, pos := "law.go:93", after := #[{ on := 9, ground := Ground.data }, { on := 15, ground := Ground.data }], guard := none }) (v := ?_) rfl (by kernel_rfl) (by kernel_rfl) (by kernel_rfl) (fun c _ w h => absurd h (hp.out c _ w)) (Or.inl ⟨by rfl, ?_⟩) (by exact hB1) ?_
  rotate_left
  · intro w' hSw
    (try dsimp only at hSw)
    go_simp
    with_reducible rfl
  try simp only [Act.put, List.setIfInBounds_toArray, List.set_cons_zero, List.set_cons_succ]
  refine wpAnyH_take (i := 17) (oi := { dst := some 10, op := Op.assign (Operand.tmp 137), type := 4, pos := "law.go:93", after := #[{ on := 16, ground := Ground.data }, { on := 11, ground := Ground.chain }, { on := 0, ground := Ground.phase }, { on := 1, ground := Ground.phase }, { on := 2, ground := Ground.phase }, { on := 3, ground := Ground.phase }, { on := 4, ground := Ground.phase }, { on := 5, ground := Ground.phase }, { on := 6, ground := Ground.phase }, { on := 7, ground := Ground.phase }, { on := 8, ground := Ground.phase }, { on := 9, ground := Ground.phase }, { on := 10, ground := Ground.phase }, { on := 11, ground := Ground.phase }, { on := 12, ground := Ground.phase }, { on := 13, ground := Ground.phase }, { on := 14, ground := Ground.phase }, { on := 15, ground := Ground.phase }, { on := 16, ground := Ground.phase }], guard := none }) (v := ?_) rfl (by kernel_rfl) (by kernel_rfl) (by kernel_rfl) (fun c _ w h => absurd h (hp.out c _ w)) (Or.inl ⟨by rfl, ?_⟩) (by exact hB1) ?_
  rotate_left
  · intro w' hSw
    (try dsimp only at hSw)
    go_simp
    with_reducible rfl
  try simp only [Act.put, List.setIfInBounds_toArray, List.set_cons_zero, List.set_cons_succ]
  refine wpAnyH_done (by kernel_rfl) ?_ _
  exact hn.out _ _ _ _ _ _ _ _ _ _ _ _ _ _ _ _ _ _ hB1

end Go.Proofs.Ytgkmcbpcbannfaa
