/- Regions of SuperTwo that draw their order and hold calls of Text: what each leaves. -/
import Derived.Test.YtgkmcbpcbannfaaSuperOn
import Derived.Deep.RegionHeld3
namespace Go.Proofs.Ytgkmcbpcbannfaa
open Go.RowKit Crc
set_option linter.unusedVariables false

set_option maxHeartbeats 2000000 in
theorem two_region31 (a0 a1 l r : Option Addr) (n0 p0 n1 p1 t1 t2 sx sy cl cr : Nat) (x0 x1 : List Nat) (w : World)
    (HTX : Hid (∀ w', Below w.heap.size w w' → Calls Try.prog 28 #[.pointer (some ⟨sx, 0, none⟩)] w' fun e w'' => ∃ v, e = .returned v ∧ Own w'' w'.heap.size 5 v x0 ∧ Below w'.heap.size w' w''))
    (HUX : Hid (∀ w', Below w.heap.size w w' → Calls Try.prog 29 #[.pointer (some ⟨sx, 0, none⟩)] w' fun e w'' => e = .returned (.int .i64 (t1 : Nat)) ∧ w' = w''))
    (HTY : Hid (∀ w', Below w.heap.size w w' → Calls Try.prog 28 #[.pointer (some ⟨sy, 0, none⟩)] w' fun e w'' => ∃ v, e = .returned v ∧ Own w'' w'.heap.size 5 v x1 ∧ Below w'.heap.size w' w''))
    (HUY : Hid (∀ w', Below w.heap.size w w' → Calls Try.prog 29 #[.pointer (some ⟨sy, 0, none⟩)] w' fun e w'' => e = .returned (.int .i64 (t2 : Nat)) ∧ w' = w''))
    (S0 : Hid (∀ w', Below w.heap.size w w' → (convert 22 9 (.slice a0 n0 p0)).run Try.prog w' = .ok (.string (str x0)) w'))
    (S1 : Hid (∀ w', Below w.heap.size w w' → (convert 22 9 (.slice a1 n1 p1)).run Try.prog w' = .ok (.string (str x1)) w'))
    (S2 : Hid (∀ w', Below w.heap.size w w' → (convert 22 9 (.slice l 4 cl)).run Try.prog w' = .ok (.string (⟨#[108, 101, 102, 116]⟩ : ByteArray)) w'))
    (S3 : Hid (∀ w', Below w.heap.size w w' → (convert 22 9 (.slice r 5 cr)).run Try.prog w' = .ok (.string (⟨#[114, 105, 103, 104, 116]⟩ : ByteArray)) w'))
    (q1 : ∀ w', (Instr.slice 22 (.slice l 64 cl) none (some (.int .i64 4)) none).run Try.prog w' = .ok (.slice l 4 cl) w')
    (q2 : ∀ w', (Instr.slice 22 (.slice r 64 cr) none (some (.int .i64 5)) none).run Try.prog w' = .ok (.slice r 5 cr) w')
    {u2 u3 u4 u5 u6 u7 u8 u9 u10 u11 u12 u15 u16 u20 u22 u23 u24 u25 u26 u27 u28 u29 u30 u31 u32 u33 u34 u35 u36 u37 u38 u39 u40 u41 u42 u43 u44 u45 u46 u47 u48 u49 u50 u51 u52 u53 u54 u55 u56 u57 u58 u59 u60 u61 u62 u63 u64 u65 u66 u67 u68 u69 u70 u71 u72 u73 u74 u75 u76 u77 u78 u79 u80 u81 u82 u83 u84 u85 u86 u87 u88 u89 u90 u91 u92 u93 u94 u95 u96 u97 u98 u99 u100 u101 u102 u103 u104 u105 u106 u107 u108 u109 u110 u111 u112 u113 u114 u115 u116 u117 u118 u119 u120 u121 u122 u123 u124 u125 u126 u127 u128 u129 u130 u131 u132 u133 u134 u135 u136 u137 u138 u139 u140 u141 u142 u143 u144 u145 u146 u147 u148 u149 u150 u151 u152 : Value} {Q : Exit → Act → World → Prop} (hp : Hid (∀ c a w, ¬ Q (.panic c) a w))
    (hn : Hid (∀ (w9 : World) (v115 v116 v117 v118 v119 v120 v121 v122 v123 v124 v125 v126 v127 v128 v129 v130 v131 v132 v133 v134 v135 v136 v137 v138 v139 v140 v141 v142 v143 v144 v145 v146 v147 v148 v149 v150 v151 v152 : Value), Below w.heap.size w w9 → Q .normal ⟨#[.slice a0 n0 p0, .slice a1 n1 p1, u2, u3, u4, u5, .bool true, u7, u8, u9, u10, u11, u12, .int .i64 (t1 : Nat), .int .i64 (t2 : Nat), u15, u16, .pointer (some ⟨sx, 0, none⟩), .pointer (some ⟨sy, 0, none⟩), .slice l 64 cl, u20, .slice r 64 cr, u22, u23, u24, u25, u26, u27, u28, u29, u30, u31, u32, u33, u34, u35, u36, u37, u38, u39, u40, u41, u42, u43, u44, u45, u46, u47, u48, u49, u50, u51, u52, u53, u54, u55, u56, u57, u58, u59, u60, u61, u62, u63, u64, u65, u66, u67, u68, u69, u70, u71, u72, u73, u74, u75, u76, u77, u78, u79, u80, u81, u82, u83, u84, u85, u86, u87, u88, u89, u90, u91, u92, u93, u94, u95, u96, u97, u98, u99, u100, u101, u102, u103, u104, u105, u106, u107, u108, u109, u110, u111, u112, u113, u114, v115, v116, v117, v118, v119, v120, v121, v122, v123, v124, v125, v126, v127, v128, v129, v130, v131, v132, v133, v134, v135, v136, v137, v138, v139, v140, v141, v142, v143, v144, v145, v146, v147, v148, v149, v150, v151, v152], []⟩ w9)) :
    (Code.region 31 #[{ dst := some 115, op := Op.move (Operand.tmp 17), type := 42, pos := "more.go:47", after := #[], guard := none }, { dst := some 116, op := Op.call { callee := Callee.value (Operand.func 28), args := #[Operand.tmp 115], argTypes := #[42] }, type := 22, pos := "more.go:47", after := #[{ on := 0, ground := Ground.data }], guard := none }, { dst := some 117, op := Op.convert 22 9 (Operand.tmp 116), type := 9, pos := "more.go:47", after := #[{ on := 1, ground := Ground.data }], guard := none }, { dst := some 118, op := Op.move (Operand.tmp 0), type := 22, pos := "more.go:47", after := #[], guard := none }, { dst := some 119, op := Op.convert 22 9 (Operand.tmp 118), type := 9, pos := "more.go:47", after := #[{ on := 3, ground := Ground.data }], guard := none }, { dst := some 120, op := Op.binOp BinOp.eql 9 (Operand.tmp 117) (Operand.tmp 119) 9, type := 4, pos := "more.go:47", after := #[{ on := 2, ground := Ground.data }, { on := 4, ground := Ground.data }], guard := none }, { dst := some 121, op := Op.move (Operand.tmp 120), type := 4, pos := "more.go:47", after := #[{ on := 5, ground := Ground.data }, { on := 1, ground := Ground.chain }], guard := none }, { dst := some 122, op := Op.move (Operand.tmp 17), type := 42, pos := "more.go:47", after := #[{ on := 6, ground := Ground.guard }], guard := some (6, true) }, { dst := some 123, op := Op.call { callee := Callee.value (Operand.func 29), args := #[Operand.tmp 122], argTypes := #[42] }, type := 2, pos := "more.go:47", after := #[{ on := 7, ground := Ground.data }, { on := 6, ground := Ground.chain }, { on := 6, ground := Ground.guard }], guard := some (6, true) }, { dst := some 124, op := Op.move (Operand.tmp 13), type := 2, pos := "more.go:47", after := #[{ on := 6, ground := Ground.guard }], guard := some (6, true) }, { dst := some 125, op := Op.binOp BinOp.eql 2 (Operand.tmp 123) (Operand.tmp 124) 2, type := 4, pos := "more.go:47", after := #[{ on := 8, ground := Ground.data }, { on := 9, ground := Ground.data }, { on := 6, ground := Ground.guard }], guard := some (6, true) }, { dst := some 126, op := Op.pick (Operand.tmp 121) (Operand.tmp 125) (Operand.const (Value.bool false)), type := 4, pos := "more.go:47", after := #[{ on := 6, ground := Ground.data }, { on := 10, ground := Ground.data }], guard := none }, { dst := some 127, op := Op.move (Operand.tmp 126), type := 4, pos := "more.go:47", after := #[{ on := 11, ground := Ground.data }, { on := 8, ground := Ground.chain }], guard := none }, { dst := some 128, op := Op.move (Operand.tmp 18), type := 42, pos := "more.go:47", after := #[{ on := 12, ground := Ground.guard }], guard := some (12, true) }, { dst := some 129, op := Op.call { callee := Callee.value (Operand.func 28), args := #[Operand.tmp 128], argTypes := #[42] }, type := 22, pos := "more.go:47", after := #[{ on := 13, ground := Ground.data }, { on := 12, ground := Ground.chain }, { on := 12, ground := Ground.guard }], guard := some (12, true) }, { dst := some 130, op := Op.convert 22 9 (Operand.tmp 129), type := 9, pos := "more.go:47", after := #[{ on := 14, ground := Ground.data }, { on := 12, ground := Ground.guard }], guard := some (12, true) }, { dst := some 131, op := Op.move (Operand.tmp 1), type := 22, pos := "more.go:47", after := #[{ on := 12, ground := Ground.guard }], guard := some (12, true) }, { dst := some 132, op := Op.convert 22 9 (Operand.tmp 131), type := 9, pos := "more.go:47", after := #[{ on := 16, ground := Ground.data }, { on := 12, ground := Ground.guard }], guard := some (12, true) }, { dst := some 133, op := Op.binOp BinOp.eql 9 (Operand.tmp 130) (Operand.tmp 132) 9, type := 4, pos := "more.go:47", after := #[{ on := 15, ground := Ground.data }, { on := 17, ground := Ground.data }, { on := 12, ground := Ground.guard }], guard := some (12, true) }, { dst := some 134, op := Op.pick (Operand.tmp 127) (Operand.tmp 133) (Operand.const (Value.bool false)), type := 4, pos := "more.go:47", after := #[{ on := 12, ground := Ground.data }, { on := 18, ground := Ground.data }], guard := none }, { dst := some 135, op := Op.move (Operand.tmp 134), type := 4, pos := "more.go:47", after := #[{ on := 19, ground := Ground.data }, { on := 14, ground := Ground.chain }], guard := none }, { dst := some 136, op := Op.move (Operand.tmp 18), type := 42, pos := "more.go:47", after := #[{ on := 20, ground := Ground.guard }], guard := some (20, true) }, { dst := some 137, op := Op.call { callee := Callee.value (Operand.func 29), args := #[Operand.tmp 136], argTypes := #[42] }, type := 2, pos := "more.go:47", after := #[{ on := 21, ground := Ground.data }, { on := 20, ground := Ground.chain }, { on := 20, ground := Ground.guard }], guard := some (20, true) }, { dst := some 138, op := Op.move (Operand.tmp 14), type := 2, pos := "more.go:47", after := #[{ on := 20, ground := Ground.guard }], guard := some (20, true) }, { dst := some 139, op := Op.binOp BinOp.eql 2 (Operand.tmp 137) (Operand.tmp 138) 2, type := 4, pos := "more.go:47", after := #[{ on := 22, ground := Ground.data }, { on := 23, ground := Ground.data }, { on := 20, ground := Ground.guard }], guard := some (20, true) }, { dst := some 140, op := Op.pick (Operand.tmp 135) (Operand.tmp 139) (Operand.const (Value.bool false)), type := 4, pos := "more.go:47", after := #[{ on := 20, ground := Ground.data }, { on := 24, ground := Ground.data }], guard := none }, { dst := some 141, op := Op.move (Operand.tmp 140), type := 4, pos := "more.go:47", after := #[{ on := 25, ground := Ground.data }, { on := 22, ground := Ground.chain }], guard := none }, { dst := some 142, op := Op.move (Operand.tmp 19), type := 22, pos := "more.go:47", after := #[{ on := 26, ground := Ground.guard }], guard := some (26, true) }, { dst := some 143, op := Op.slice 22 (Operand.tmp 142) none (some (Operand.const (Value.int IntKind.i64 4))) none, type := 22, pos := "more.go:47", after := #[{ on := 27, ground := Ground.data }, { on := 26, ground := Ground.guard }], guard := some (26, true) }, { dst := some 144, op := Op.convert 22 9 (Operand.tmp 143), type := 9, pos := "more.go:47", after := #[{ on := 28, ground := Ground.data }, { on := 26, ground := Ground.guard }], guard := some (26, true) }, { dst := some 145, op := Op.binOp BinOp.eql 9 (Operand.tmp 144) (Operand.const (Value.string { data := #[108, 101, 102, 116] })) 9, type := 4, pos := "more.go:47", after := #[{ on := 29, ground := Ground.data }, { on := 26, ground := Ground.guard }], guard := some (26, true) }, { dst := some 146, op := Op.pick (Operand.tmp 141) (Operand.tmp 145) (Operand.const (Value.bool false)), type := 4, pos := "more.go:47", after := #[{ on := 26, ground := Ground.data }, { on := 30, ground := Ground.data }], guard := none }, { dst := some 147, op := Op.move (Operand.tmp 146), type := 4, pos := "more.go:47", after := #[{ on := 31, ground := Ground.data }, { on := 26, ground := Ground.chain }], guard := none }, { dst := some 148, op := Op.move (Operand.tmp 21), type := 22, pos := "more.go:47", after := #[{ on := 32, ground := Ground.guard }], guard := some (32, true) }, { dst := some 149, op := Op.slice 22 (Operand.tmp 148) none (some (Operand.const (Value.int IntKind.i64 5))) none, type := 22, pos := "more.go:47", after := #[{ on := 33, ground := Ground.data }, { on := 32, ground := Ground.guard }], guard := some (32, true) }, { dst := some 150, op := Op.convert 22 9 (Operand.tmp 149), type := 9, pos := "more.go:47", after := #[{ on := 34, ground := Ground.data }, { on := 32, ground := Ground.guard }], guard := some (32, true) }, { dst := some 151, op := Op.binOp BinOp.eql 9 (Operand.tmp 150) (Operand.const (Value.string { data := #[114, 105, 103, 104, 116] })) 9, type := 4, pos := "more.go:47", after := #[{ on := 35, ground := Ground.data }, { on := 32, ground := Ground.guard }], guard := some (32, true) }, { dst := some 152, op := Op.pick (Operand.tmp 147) (Operand.tmp 151) (Operand.const (Value.bool false)), type := 4, pos := "more.go:47", after := #[{ on := 32, ground := Ground.data }, { on := 36, ground := Ground.data }], guard := none }, { dst := some 6, op := Op.assign (Operand.tmp 152), type := 4, pos := "more.go:47", after := #[{ on := 37, ground := Ground.data }, { on := 32, ground := Ground.chain }, { on := 0, ground := Ground.phase }, { on := 1, ground := Ground.phase }, { on := 2, ground := Ground.phase }, { on := 3, ground := Ground.phase }, { on := 4, ground := Ground.phase }, { on := 5, ground := Ground.phase }, { on := 6, ground := Ground.phase }, { on := 7, ground := Ground.phase }, { on := 8, ground := Ground.phase }, { on := 9, ground := Ground.phase }, { on := 10, ground := Ground.phase }, { on := 11, ground := Ground.phase }, { on := 12, ground := Ground.phase }, { on := 13, ground := Ground.phase }, { on := 14, ground := Ground.phase }, { on := 15, ground := Ground.phase }, { on := 16, ground := Ground.phase }, { on := 17, ground := Ground.phase }, { on := 18, ground := Ground.phase }, { on := 19, ground := Ground.phase }, { on := 20, ground := Ground.phase }, { on := 21, ground := Ground.phase }, { on := 22, ground := Ground.phase }, { on := 23, ground := Ground.phase }, { on := 24, ground := Ground.phase }, { on := 25, ground := Ground.phase }, { on := 26, ground := Ground.phase }, { on := 27, ground := Ground.phase }, { on := 28, ground := Ground.phase }, { on := 29, ground := Ground.phase }, { on := 30, ground := Ground.phase }, { on := 31, ground := Ground.phase }, { on := 32, ground := Ground.phase }, { on := 33, ground := Ground.phase }, { on := 34, ground := Ground.phase }, { on := 35, ground := Ground.phase }, { on := 36, ground := Ground.phase }, { on := 37, ground := Ground.phase }], guard := none }] true).wp Try.prog Q ⟨#[.slice a0 n0 p0, .slice a1 n1 p1, u2, u3, u4, u5, u6, u7, u8, u9, u10, u11, u12, .int .i64 (t1 : Nat), .int .i64 (t2 : Nat), u15, u16, .pointer (some ⟨sx, 0, none⟩), .pointer (some ⟨sy, 0, none⟩), .slice l 64 cl, u20, .slice r 64 cr, u22, u23, u24, u25, u26, u27, u28, u29, u30, u31, u32, u33, u34, u35, u36, u37, u38, u39, u40, u41, u42, u43, u44, u45, u46, u47, u48, u49, u50, u51, u52, u53, u54, u55, u56, u57, u58, u59, u60, u61, u62, u63, u64, u65, u66, u67, u68, u69, u70, u71, u72, u73, u74, u75, u76, u77, u78, u79, u80, u81, u82, u83, u84, u85, u86, u87, u88, u89, u90, u91, u92, u93, u94, u95, u96, u97, u98, u99, u100, u101, u102, u103, u104, u105, u106, u107, u108, u109, u110, u111, u112, u113, u114, u115, u116, u117, u118, u119, u120, u121, u122, u123, u124, u125, u126, u127, u128, u129, u130, u131, u132, u133, u134, u135, u136, u137, u138, u139, u140, u141, u142, u143, u144, u145, u146, u147, u148, u149, u150, u151, u152], []⟩ w := by
  have hB0 : Below w.heap.size w w.drew := (Below.refl _ _).drew
  refine wp_region_held_drew (S := fun w' => Below w.heap.size w w') (by kernel_rfl) hB0 (fun hHeld => ?_)
  refine wpAnyH_take (i := 0) (oi := { dst := some 115, op := Op.move (Operand.tmp 17), type := 42, pos := "more.go:47", after := #[], guard := none }) (v := ?_) rfl (by kernel_rfl) (by kernel_rfl) (by kernel_rfl) (fun c _ w h => absurd h (hp.out c _ w)) (Or.inl ⟨by rfl, ?_⟩) (by exact hB0) ?_
  rotate_left
  · intro w' hSw
    (try dsimp only at hSw)
    go_simp
    with_reducible rfl
  try simp only [Act.put, List.setIfInBounds_toArray, List.set_cons_zero, List.set_cons_succ]
  refine wpAnyH_take (i := 3) (oi := { dst := some 118, op := Op.move (Operand.tmp 0), type := 22, pos := "more.go:47", after := #[], guard := none }) (v := ?_) rfl (by kernel_rfl) (by kernel_rfl) (by kernel_rfl) (fun c _ w h => absurd h (hp.out c _ w)) (Or.inl ⟨by rfl, ?_⟩) (by exact hB0) ?_
  rotate_left
  · intro w' hSw
    (try dsimp only at hSw)
    go_simp
    with_reducible rfl
  try simp only [Act.put, List.setIfInBounds_toArray, List.set_cons_zero, List.set_cons_succ]
  refine wpAnyH_take (i := 4) (oi := { dst := some 119, op := Op.convert 22 9 (Operand.tmp 118), type := 9, pos := "more.go:47", after := #[{ on := 3, ground := Ground.data }], guard := none }) (v := ?_) rfl (by kernel_rfl) (by kernel_rfl) (by kernel_rfl) (fun c _ w h => absurd h (hp.out c _ w)) (Or.inl ⟨by rfl, ?_⟩) (by exact hB0) ?_
  rotate_left
  · intro w' hSw
    (try dsimp only at hSw)
    have f0 := S0.out _ hSw
    go_simp
    with_reducible rfl
  try simp only [Act.put, List.setIfInBounds_toArray, List.set_cons_zero, List.set_cons_succ]
  refine wpAnyH_ready (rs := [1]) (by kernel_rfl) (by simp) ?_
  refine AllReadyH.cons (o := { dst := some 116, op := Op.call { callee := Callee.value (Operand.func 28), args := #[Operand.tmp 115], argTypes := #[42] }, type := 22, pos := "more.go:47", after := #[{ on := 0, ground := Ground.data }], guard := none }) rfl (fun K hK => ?_) AllReadyH.nil
  rw [if_pos (by rfl)]
  go_simp
  refine (HTX.out _ hB0).mono ?_
  rintro e wt1 ⟨vt1, rfl, hown1, hbk1⟩
  obtain ⟨at1, nt1, ct1, rfl, hnt1, hcv1, hle1⟩ := own_str hown1
  subst hnt1
  have hB1 := hB0.trans (hbk1.mono hB0.size)
  clear hown1 hbk1
  dsimp only
  refine hK.out _ _ hB1 (fun _ => ?_)
  clear hK K
  try simp only [Act.put, List.setIfInBounds_toArray, List.set_cons_zero, List.set_cons_succ]
  refine wpAnyH_ready (rs := [2]) (by kernel_rfl) (by simp) ?_
  refine AllReadyH.cons (o := { dst := some 117, op := Op.convert 22 9 (Operand.tmp 116), type := 9, pos := "more.go:47", after := #[{ on := 1, ground := Ground.data }], guard := none }) rfl (fun K hK => ?_) AllReadyH.nil
  rw [if_pos (by rfl)]
  go_simp
  refine hK.out _ _ hB1 (fun _ => ?_)
  clear hK K
  try simp only [Act.put, List.setIfInBounds_toArray, List.set_cons_zero, List.set_cons_succ]
  refine wpAnyH_take (i := 5) (oi := { dst := some 120, op := Op.binOp BinOp.eql 9 (Operand.tmp 117) (Operand.tmp 119) 9, type := 4, pos := "more.go:47", after := #[{ on := 2, ground := Ground.data }, { on := 4, ground := Ground.data }], guard := none }) (v := ?_) rfl (by kernel_rfl) (by kernel_rfl) (by kernel_rfl) (fun c _ w h => absurd h (hp.out c _ w)) (Or.inl ⟨by rfl, ?_⟩) (by exact hB1) ?_
  rotate_left
  · intro w' hSw
    (try dsimp only at hSw)
    go_simp
    with_reducible rfl
  try simp only [Act.put, List.setIfInBounds_toArray, List.set_cons_zero, List.set_cons_succ]
  refine wpAnyH_take (i := 6) (oi := { dst := some 121, op := Op.move (Operand.tmp 120), type := 4, pos := "more.go:47", after := #[{ on := 5, ground := Ground.data }, { on := 1, ground := Ground.chain }], guard := none }) (v := ?_) rfl (by kernel_rfl) (by kernel_rfl) (by kernel_rfl) (fun c _ w h => absurd h (hp.out c _ w)) (Or.inl ⟨by rfl, ?_⟩) (by exact hB1) ?_
  rotate_left
  · intro w' hSw
    (try dsimp only at hSw)
    go_simp
    with_reducible rfl
  try simp only [Act.put, List.setIfInBounds_toArray, List.set_cons_zero, List.set_cons_succ]
  refine wpAnyH_take (i := 7) (oi := { dst := some 122, op := Op.move (Operand.tmp 17), type := 42, pos := "more.go:47", after := #[{ on := 6, ground := Ground.guard }], guard := some (6, true) }) (v := ?_) rfl (by kernel_rfl) (by kernel_rfl) (by kernel_rfl) (fun c _ w h => absurd h (hp.out c _ w)) (Or.inl ⟨by rfl, ?_⟩) (by exact hB1) ?_
  rotate_left
  · intro w' hSw
    (try dsimp only at hSw)
    go_simp
    with_reducible rfl
  try simp only [Act.put, List.setIfInBounds_toArray, List.set_cons_zero, List.set_cons_succ]
  refine wpAnyH_take (i := 9) (oi := { dst := some 124, op := Op.move (Operand.tmp 13), type := 2, pos := "more.go:47", after := #[{ on := 6, ground := Ground.guard }], guard := some (6, true) }) (v := ?_) rfl (by kernel_rfl) (by kernel_rfl) (by kernel_rfl) (fun c _ w h => absurd h (hp.out c _ w)) (Or.inl ⟨by rfl, ?_⟩) (by exact hB1) ?_
  rotate_left
  · intro w' hSw
    (try dsimp only at hSw)
    go_simp
    with_reducible rfl
  try simp only [Act.put, List.setIfInBounds_toArray, List.set_cons_zero, List.set_cons_succ]
  refine wpAnyH_ready (rs := [8]) (by kernel_rfl) (by simp) ?_
  refine AllReadyH.cons (o := { dst := some 123, op := Op.call { callee := Callee.value (Operand.func 29), args := #[Operand.tmp 122], argTypes := #[42] }, type := 2, pos := "more.go:47", after := #[{ on := 7, ground := Ground.data }, { on := 6, ground := Ground.chain }, { on := 6, ground := Ground.guard }], guard := some (6, true) }) rfl (fun K hK => ?_) AllReadyH.nil
  rw [if_pos (by rfl)]
  go_simp
  refine (HUX.out _ hB1).mono ?_
  rintro e w' ⟨rfl, rfl⟩
  dsimp only
  refine hK.out _ _ hB1 (fun _ => ?_)
  clear hK K
  try simp only [Act.put, List.setIfInBounds_toArray, List.set_cons_zero, List.set_cons_succ]
  refine wpAnyH_take (i := 10) (oi := { dst := some 125, op := Op.binOp BinOp.eql 2 (Operand.tmp 123) (Operand.tmp 124) 2, type := 4, pos := "more.go:47", after := #[{ on := 8, ground := Ground.data }, { on := 9, ground := Ground.data }, { on := 6, ground := Ground.guard }], guard := some (6, true) }) (v := ?_) rfl (by kernel_rfl) (by kernel_rfl) (by kernel_rfl) (fun c _ w h => absurd h (hp.out c _ w)) (Or.inl ⟨by rfl, ?_⟩) (by exact hB1) ?_
  rotate_left
  · intro w' hSw
    (try dsimp only at hSw)
    go_simp
    with_reducible rfl
  try simp only [Act.put, List.setIfInBounds_toArray, List.set_cons_zero, List.set_cons_succ]
  refine wpAnyH_take (i := 11) (oi := { dst := some 126, op := Op.pick (Operand.tmp 121) (Operand.tmp 125) (Operand.const (Value.bool false)), type := 4, pos := "more.go:47", after := #[{ on := 6, ground := Ground.data }, { on := 10, ground := Ground.data }], guard := none }) (v := ?_) rfl (by kernel_rfl) (by kernel_rfl) (by kernel_rfl) (fun c _ w h => absurd h (hp.out c _ w)) (Or.inl ⟨by rfl, ?_⟩) (by exact hB1) ?_
  rotate_left
  · intro w' hSw
    (try dsimp only at hSw)
    go_simp
    with_reducible rfl
  try simp only [Act.put, List.setIfInBounds_toArray, List.set_cons_zero, List.set_cons_succ]
  refine wpAnyH_take (i := 12) (oi := { dst := some 127, op := Op.move (Operand.tmp 126), type := 4, pos := "more.go:47", after := #[{ on := 11, ground := Ground.data }, { on := 8, ground := Ground.chain }], guard := none }) (v := ?_) rfl (by kernel_rfl) (by kernel_rfl) (by kernel_rfl) (fun c _ w h => absurd h (hp.out c _ w)) (Or.inl ⟨by rfl, ?_⟩) (by exact hB1) ?_
  rotate_left
  · intro w' hSw
    (try dsimp only at hSw)
    go_simp
    with_reducible rfl
  try simp only [Act.put, List.setIfInBounds_toArray, List.set_cons_zero, List.set_cons_succ]
  refine wpAnyH_take (i := 13) (oi := { dst := some 128, op := Op.move (Operand.tmp 18), type := 42, pos := "more.go:47", after := #[{ on := 12, ground := Ground.guard }], guard := some (12, true) }) (v := ?_) rfl (by kernel_rfl) (by kernel_rfl) (by kernel_rfl) (fun c _ w h => absurd h (hp.out c _ w)) (Or.inl ⟨by rfl, ?_⟩) (by exact hB1) ?_
  rotate_left
  · intro w' hSw
    (try dsimp only at hSw)
    go_simp
    with_reducible rfl
  try simp only [Act.put, List.setIfInBounds_toArray, List.set_cons_zero, List.set_cons_succ]
  refine wpAnyH_take (i := 16) (oi := { dst := some 131, op := Op.move (Operand.tmp 1), type := 22, pos := "more.go:47", after := #[{ on := 12, ground := Ground.guard }], guard := some (12, true) }) (v := ?_) rfl (by kernel_rfl) (by kernel_rfl) (by kernel_rfl) (fun c _ w h => absurd h (hp.out c _ w)) (Or.inl ⟨by rfl, ?_⟩) (by exact hB1) ?_
  rotate_left
  · intro w' hSw
    (try dsimp only at hSw)
    go_simp
    with_reducible rfl
  try simp only [Act.put, List.setIfInBounds_toArray, List.set_cons_zero, List.set_cons_succ]
  refine wpAnyH_take (i := 17) (oi := { dst := some 132, op := Op.convert 22 9 (Operand.tmp 131), type := 9, pos := "more.go:47", after := #[{ on := 16, ground := Ground.data }, { on := 12, ground := Ground.guard }], guard := some (12, true) }) (v := ?_) rfl (by kernel_rfl) (by kernel_rfl) (by kernel_rfl) (fun c _ w h => absurd h (hp.out c _ w)) (Or.inl ⟨by rfl, ?_⟩) (by exact hB1) ?_
  rotate_left
  · intro w' hSw
    (try dsimp only at hSw)
    have f0 := S1.out _ hSw
    go_simp
    with_reducible rfl
  try simp only [Act.put, List.setIfInBounds_toArray, List.set_cons_zero, List.set_cons_succ]
  refine wpAnyH_ready (rs := [14]) (by kernel_rfl) (by simp) ?_
  refine AllReadyH.cons (o := { dst := some 129, op := Op.call { callee := Callee.value (Operand.func 28), args := #[Operand.tmp 128], argTypes := #[42] }, type := 22, pos := "more.go:47", after := #[{ on := 13, ground := Ground.data }, { on := 12, ground := Ground.chain }, { on := 12, ground := Ground.guard }], guard := some (12, true) }) rfl (fun K hK => ?_) AllReadyH.nil
  rw [if_pos (by rfl)]
  go_simp
  refine (HTY.out _ hB1).mono ?_
  rintro e wt2 ⟨vt2, rfl, hown2, hbk2⟩
  obtain ⟨at2, nt2, ct2, rfl, hnt2, hcv2, hle2⟩ := own_str hown2
  subst hnt2
  have hB2 := hB1.trans (hbk2.mono hB1.size)
  clear hown2 hbk2
  dsimp only
  refine hK.out _ _ hB2 (fun _ => ?_)
  clear hK K
  try simp only [Act.put, List.setIfInBounds_toArray, List.set_cons_zero, List.set_cons_succ]
  refine wpAnyH_ready (rs := [15]) (by kernel_rfl) (by simp) ?_
  refine AllReadyH.cons (o := { dst := some 130, op := Op.convert 22 9 (Operand.tmp 129), type := 9, pos := "more.go:47", after := #[{ on := 14, ground := Ground.data }, { on := 12, ground := Ground.guard }], guard := some (12, true) }) rfl (fun K hK => ?_) AllReadyH.nil
  rw [if_pos (by rfl)]
  go_simp
  refine hK.out _ _ hB2 (fun _ => ?_)
  clear hK K
  try simp only [Act.put, List.setIfInBounds_toArray, List.set_cons_zero, List.set_cons_succ]
  refine wpAnyH_take (i := 18) (oi := { dst := some 133, op := Op.binOp BinOp.eql 9 (Operand.tmp 130) (Operand.tmp 132) 9, type := 4, pos := "more.go:47", after := #[{ on := 15, ground := Ground.data }, { on := 17, ground := Ground.data }, { on := 12, ground := Ground.guard }], guard := some (12, true) }) (v := ?_) rfl (by kernel_rfl) (by kernel_rfl) (by kernel_rfl) (fun c _ w h => absurd h (hp.out c _ w)) (Or.inl ⟨by rfl, ?_⟩) (by exact hB2) ?_
  rotate_left
  · intro w' hSw
    (try dsimp only at hSw)
    go_simp
    with_reducible rfl
  try simp only [Act.put, List.setIfInBounds_toArray, List.set_cons_zero, List.set_cons_succ]
  refine wpAnyH_take (i := 19) (oi := { dst := some 134, op := Op.pick (Operand.tmp 127) (Operand.tmp 133) (Operand.const (Value.bool false)), type := 4, pos := "more.go:47", after := #[{ on := 12, ground := Ground.data }, { on := 18, ground := Ground.data }], guard := none }) (v := ?_) rfl (by kernel_rfl) (by kernel_rfl) (by kernel_rfl) (fun c _ w h => absurd h (hp.out c _ w)) (Or.inl ⟨by rfl, ?_⟩) (by exact hB2) ?_
  rotate_left
  · intro w' hSw
    (try dsimp only at hSw)
    go_simp
    with_reducible rfl
  try simp only [Act.put, List.setIfInBounds_toArray, List.set_cons_zero, List.set_cons_succ]
  refine wpAnyH_take (i := 20) (oi := { dst := some 135, op := Op.move (Operand.tmp 134), type := 4, pos := "more.go:47", after := #[{ on := 19, ground := Ground.data }, { on := 14, ground := Ground.chain }], guard := none }) (v := ?_) rfl (by kernel_rfl) (by kernel_rfl) (by kernel_rfl) (fun c _ w h => absurd h (hp.out c _ w)) (Or.inl ⟨by rfl, ?_⟩) (by exact hB2) ?_
  rotate_left
  · intro w' hSw
    (try dsimp only at hSw)
    go_simp
    with_reducible rfl
  try simp only [Act.put, List.setIfInBounds_toArray, List.set_cons_zero, List.set_cons_succ]
  refine wpAnyH_take (i := 21) (oi := { dst := some 136, op := Op.move (Operand.tmp 18), type := 42, pos := "more.go:47", after := #[{ on := 20, ground := Ground.guard }], guard := some (20, true) }) (v := ?_) rfl (by kernel_rfl) (by kernel_rfl) (by kernel_rfl) (fun c _ w h => absurd h (hp.out c _ w)) (Or.inl ⟨by rfl, ?_⟩) (by exact hB2) ?_
  rotate_left
  · intro w' hSw
    (try dsimp only at hSw)
    go_simp
    with_reducible rfl
  try simp only [Act.put, List.setIfInBounds_toArray, List.set_cons_zero, List.set_cons_succ]
  refine wpAnyH_take (i := 23) (oi := { dst := some 138, op := Op.move (Operand.tmp 14), type := 2, pos := "more.go:47", after := #[{ on := 20, ground := Ground.guard }], guard := some (20, true) }) (v := ?_) rfl (by kernel_rfl) (by kernel_rfl) (by kernel_rfl) (fun c _ w h => absurd h (hp.out c _ w)) (Or.inl ⟨by rfl, ?_⟩) (by exact hB2) ?_
  rotate_left
  · intro w' hSw
    (try dsimp only at hSw)
    go_simp
    with_reducible rfl
  try simp only [Act.put, List.setIfInBounds_toArray, List.set_cons_zero, List.set_cons_succ]
  refine wpAnyH_ready (rs := [22]) (by kernel_rfl) (by simp) ?_
  refine AllReadyH.cons (o := { dst := some 137, op := Op.call { callee := Callee.value (Operand.func 29), args := #[Operand.tmp 136], argTypes := #[42] }, type := 2, pos := "more.go:47", after := #[{ on := 21, ground := Ground.data }, { on := 20, ground := Ground.chain }, { on := 20, ground := Ground.guard }], guard := some (20, true) }) rfl (fun K hK => ?_) AllReadyH.nil
  rw [if_pos (by rfl)]
  go_simp
  refine (HUY.out _ hB2).mono ?_
  rintro e w' ⟨rfl, rfl⟩
  dsimp only
  refine hK.out _ _ hB2 (fun _ => ?_)
  clear hK K
  try simp only [Act.put, List.setIfInBounds_toArray, List.set_cons_zero, List.set_cons_succ]
  refine wpAnyH_take (i := 24) (oi := { dst := some 139, op := Op.binOp BinOp.eql 2 (Operand.tmp 137) (Operand.tmp 138) 2, type := 4, pos := "more.go:47", after := #[{ on := 22, ground := Ground.data }, { on := 23, ground := Ground.data }, { on := 20, ground := Ground.guard }], guard := some (20, true) }) (v := ?_) rfl (by kernel_rfl) (by kernel_rfl) (by kernel_rfl) (fun c _ w h => absurd h (hp.out c _ w)) (Or.inl ⟨by rfl, ?_⟩) (by exact hB2) ?_
  rotate_left
  · intro w' hSw
    (try dsimp only at hSw)
    go_simp
    with_reducible rfl
  try simp only [Act.put, List.setIfInBounds_toArray, List.set_cons_zero, List.set_cons_succ]
  refine wpAnyH_take (i := 25) (oi := { dst := some 140, op := Op.pick (Operand.tmp 135) (Operand.tmp 139) (Operand.const (Value.bool false)), type := 4, pos := "more.go:47", after := #[{ on := 20, ground := Ground.data }, { on := 24, ground := Ground.data }], guard := none }) (v := ?_) rfl (by kernel_rfl) (by kernel_rfl) (by kernel_rfl) (fun c _ w h => absurd h (hp.out c _ w)) (Or.inl ⟨by rfl, ?_⟩) (by exact hB2) ?_
  rotate_left
  · intro w' hSw
    (try dsimp only at hSw)
    go_simp
    with_reducible rfl
  try simp only [Act.put, List.setIfInBounds_toArray, List.set_cons_zero, List.set_cons_succ]
  refine wpAnyH_take (i := 26) (oi := { dst := some 141, op := Op.move (Operand.tmp 140), type := 4, pos := "more.go:47", after := #[{ on := 25, ground := Ground.data }, { on := 22, ground := Ground.chain }], guard := none }) (v := ?_) rfl (by kernel_rfl) (by kernel_rfl) (by kernel_rfl) (fun c _ w h => absurd h (hp.out c _ w)) (Or.inl ⟨by rfl, ?_⟩) (by exact hB2) ?_
  rotate_left
  · intro w' hSw
    (try dsimp only at hSw)
    go_simp
    with_reducible rfl
  try simp only [Act.put, List.setIfInBounds_toArray, List.set_cons_zero, List.set_cons_succ]
  refine wpAnyH_take (i := 27) (oi := { dst := some 142, op := Op.move (Operand.tmp 19), type := 22, pos := "more.go:47", after := #[{ on := 26, ground := Ground.guard }], guard := some (26, true) }) (v := ?_) rfl (by kernel_rfl) (by kernel_rfl) (by kernel_rfl) (fun c _ w h => absurd h (hp.out c _ w)) (Or.inl ⟨by rfl, ?_⟩) (by exact hB2) ?_
  rotate_left
  · intro w' hSw
    (try dsimp only at hSw)
    go_simp
    with_reducible rfl
  try simp only [Act.put, List.setIfInBounds_toArray, List.set_cons_zero, List.set_cons_succ]
  refine wpAnyH_take (i := 28) (oi := { dst := some 143, op := Op.slice 22 (Operand.tmp 142) none (some (Operand.const (Value.int IntKind.i64 4))) none, type := 22, pos := "more.go:47", after := #[{ on := 27, ground := Ground.data }, { on := 26, ground := Ground.guard }], guard := some (26, true) }) (v := ?_) rfl (by kernel_rfl) (by kernel_rfl) (by kernel_rfl) (fun c _ w h => absurd h (hp.out c _ w)) (Or.inl ⟨by rfl, ?_⟩) (by exact hB2) ?_
  rotate_left
  · intro w' hSw
    (try dsimp only at hSw)
    go_simp
    with_reducible rfl
  try simp only [Act.put, List.setIfInBounds_toArray, List.set_cons_zero, List.set_cons_succ]
  refine wpAnyH_take (i := 29) (oi := { dst := some 144, op := Op.convert 22 9 (Operand.tmp 143), type := 9, pos := "more.go:47", after := #[{ on := 28, ground := Ground.data }, { on := 26, ground := Ground.guard }], guard := some (26, true) }) (v := ?_) rfl (by kernel_rfl) (by kernel_rfl) (by kernel_rfl) (fun c _ w h => absurd h (hp.out c _ w)) (Or.inl ⟨by rfl, ?_⟩) (by exact hB2) ?_
  rotate_left
  · intro w' hSw
    (try dsimp only at hSw)
    have f0 := S2.out _ hSw
    go_simp
    with_reducible rfl
  try simp only [Act.put, List.setIfInBounds_toArray, List.set_cons_zero, List.set_cons_succ]
  refine wpAnyH_take (i := 30) (oi := { dst := some 145, op := Op.binOp BinOp.eql 9 (Operand.tmp 144) (Operand.const (Value.string { data := #[108, 101, 102, 116] })) 9, type := 4, pos := "more.go:47", after := #[{ on := 29, ground := Ground.data }, { on := 26, ground := Ground.guard }], guard := some (26, true) }) (v := ?_) rfl (by kernel_rfl) (by kernel_rfl) (by kernel_rfl) (fun c _ w h => absurd h (hp.out c _ w)) (Or.inl ⟨by rfl, ?_⟩) (by exact hB2) ?_
  rotate_left
  · intro w' hSw
    (try dsimp only at hSw)
    go_simp
    with_reducible rfl
  try simp only [Act.put, List.setIfInBounds_toArray, List.set_cons_zero, List.set_cons_succ]
  refine wpAnyH_take (i := 31) (oi := { dst := some 146, op := Op.pick (Operand.tmp 141) (Operand.tmp 145) (Operand.const (Value.bool false)), type := 4, pos := "more.go:47", after := #[{ on := 26, ground := Ground.data }, { on := 30, ground := Ground.data }], guard := none }) (v := ?_) rfl (by kernel_rfl) (by kernel_rfl) (by kernel_rfl) (fun c _ w h => absurd h (hp.out c _ w)) (Or.inl ⟨by rfl, ?_⟩) (by exact hB2) ?_
  rotate_left
  · intro w' hSw
    (try dsimp only at hSw)
    go_simp
    with_reducible rfl
  try simp only [Act.put, List.setIfInBounds_toArray, List.set_cons_zero, List.set_cons_succ]
  refine wpAnyH_take (i := 32) (oi := { dst := some 147, op := Op.move (Operand.tmp 146), type := 4, pos := "more.go:47", after := #[{ on := 31, ground := Ground.data }, { on := 26, ground := Ground.chain }], guard := none }) (v := ?_) rfl (by kernel_rfl) (by kernel_rfl) (by kernel_rfl) (fun c _ w h => absurd h (hp.out c _ w)) (Or.inl ⟨by rfl, ?_⟩) (by exact hB2) ?_
  rotate_left
  · intro w' hSw
    (try dsimp only at hSw)
    go_simp
    with_reducible rfl
  try simp only [Act.put, List.setIfInBounds_toArray, List.set_cons_zero, List.set_cons_succ]
  refine wpAnyH_take (i := 33) (oi := { dst := some 148, op := Op.move (Operand.tmp 21), type := 22, pos := "more.go:47", after := #[{ on := 32, ground := Ground.guard }], guard := some (32, true) }) (v := ?_) rfl (by kernel_rfl) (by kernel_rfl) (by kernel_rfl) (fun c _ w h => absurd h (hp.out c _ w)) (Or.inl ⟨by rfl, ?_⟩) (by exact hB2) ?_
  rotate_left
  · intro w' hSw
    (try dsimp only at hSw)
    go_simp
    with_reducible rfl
  try simp only [Act.put, List.setIfInBounds_toArray, List.set_cons_zero, List.set_cons_succ]
  refine wpAnyH_take (i := 34) (oi := { dst := some 149, op := Op.slice 22 (Operand.tmp 148) none (some (Operand.const (Value.int IntKind.i64 5))) none, type := 22, pos := "more.go:47", after := #[{ on := 33, ground := Ground.data }, { on := 32, ground := Ground.guard }], guard := some (32, true) }) (v := ?_) rfl (by kernel_rfl) (by kernel_rfl) (by kernel_rfl) (fun c _ w h => absurd h (hp.out c _ w)) (Or.inl ⟨by rfl, ?_⟩) (by exact hB2) ?_
  rotate_left
  · intro w' hSw
    (try dsimp only at hSw)
    go_simp
    with_reducible rfl
  try simp only [Act.put, List.setIfInBounds_toArray, List.set_cons_zero, List.set_cons_succ]
  refine wpAnyH_take (i := 35) (oi := { dst := some 150, op := Op.convert 22 9 (Operand.tmp 149), type := 9, pos := "more.go:47", after := #[{ on := 34, ground := Ground.data }, { on := 32, ground := Ground.guard }], guard := some (32, true) }) (v := ?_) rfl (by kernel_rfl) (by kernel_rfl) (by kernel_rfl) (fun c _ w h => absurd h (hp.out c _ w)) (Or.inl ⟨by rfl, ?_⟩) (by exact hB2) ?_
  rotate_left
  · intro w' hSw
    (try dsimp only at hSw)
    have f0 := S3.out _ hSw
    go_simp
    with_reducible rfl
  try simp only [Act.put, List.setIfInBounds_toArray, List.set_cons_zero, List.set_cons_succ]
  refine wpAnyH_take (i := 36) (oi := { dst := some 151, op := Op.binOp BinOp.eql 9 (Operand.tmp 150) (Operand.const (Value.string { data := #[114, 105, 103, 104, 116] })) 9, type := 4, pos := "more.go:47", after := #[{ on := 35, ground := Ground.data }, { on := 32, ground := Ground.guard }], guard := some (32, true) }) (v := ?_) rfl (by kernel_rfl) (by kernel_rfl) (by kernel_rfl) (fun c _ w h => absurd h (hp.out c _ w)) (Or.inl ⟨by rfl, ?_⟩) (by exact hB2) ?_
  rotate_left
  · intro w' hSw
    (try dsimp only at hSw)
    go_simp
    with_reducible rfl
  try simp only [Act.put, List.setIfInBounds_toArray, List.set_cons_zero, List.set_cons_succ]
  refine wpAnyH_take (i := 37) (oi := { dst := some 152, op := Op.pick (Operand.tmp 147) (Operand.tmp 151) (Operand.const (Value.bool false)), type := 4, pos := "more.go:47", after := #[{ on := 32, ground := Ground.data }, { on := 36, ground := Ground.data }], guard := none }) (v := ?_) rfl (by kernel_rfl) (by kernel_rfl) (by kernel_rfl) (fun c _ w h => absurd h (hp.out c _ w)) (Or.inl ⟨by rfl, ?_⟩) (by exact hB2) ?_
  rotate_left
  · intro w' hSw
    (try dsimp only at hSw)
    go_simp
    with_reducible rfl
  try simp only [Act.put, List.setIfInBounds_toArray, List.set_cons_zero, List.set_cons_succ]
  refine wpAnyH_take (i := 38) (oi := { dst := some 6, op := Op.assign (Operand.tmp 152), type := 4, pos := "more.go:47", after := #[{ on := 37, ground := Ground.data }, { on := 32, ground := Ground.chain }, { on := 0, ground := Ground.phase }, { on := 1, ground := Ground.phase }, { on := 2, ground := Ground.phase }, { on := 3, ground := Ground.phase }, { on := 4, ground := Ground.phase }, { on := 5, ground := Ground.phase }, { on := 6, ground := Ground.phase }, { on := 7, ground := Ground.phase }, { on := 8, ground := Ground.phase }, { on := 9, ground := Ground.phase }, { on := 10, ground := Ground.phase }, { on := 11, ground := Ground.phase }, { on := 12, ground := Ground.phase }, { on := 13, ground := Ground.phase }, { on := 14, ground := Ground.phase }, { on := 15, ground := Ground.phase }, { on := 16, ground := Ground.phase }, { on := 17, ground := Ground.phase }, { on := 18, ground := Ground.phase }, { on := 19, ground := Ground.phase }, { on := 20, ground := Ground.phase }, { on := 21, ground := Ground.phase }, { on := 22, ground := Ground.phase }, { on := 23, ground := Ground.phase }, { on := 24, ground := Ground.phase }, { on := 25, ground := Ground.phase }, { on := 26, ground := Ground.phase }, { on := 27, ground := Ground.phase }, { on := 28, ground := Ground.phase }, { on := 29, ground := Ground.phase }, { on := 30, ground := Ground.phase }, { on := 31, ground := Ground.phase }, { on := 32, ground := Ground.phase }, { on := 33, ground := Ground.phase }, { on := 34, ground := Ground.phase }, { on := 35, ground := Ground.phase }, { on := 36, ground := Ground.phase }, { on := 37, ground := Ground.phase }], guard := none }) (v := ?_) rfl (by kernel_rfl) (by kernel_rfl) (by kernel_rfl) (fun c _ w h => absurd h (hp.out c _ w)) (Or.inl ⟨by rfl, ?_⟩) (by exact hB2) ?_
  rotate_left
  · intro w' hSw
    (try dsimp only at hSw)
    go_simp
    with_reducible rfl
  try simp only [Act.put, List.setIfInBounds_toArray, List.set_cons_zero, List.set_cons_succ]
  refine wpAnyH_done (by kernel_rfl) ?_ _
  exact hn.out _ _ _ _ _ _ _ _ _ _ _ _ _ _ _ _ _ _ _ _ _ _ _ _ _ _ _ _ _ _ _ _ _ _ _ _ _ _ _ hB2

end Go.Proofs.Ytgkmcbpcbannfaa
