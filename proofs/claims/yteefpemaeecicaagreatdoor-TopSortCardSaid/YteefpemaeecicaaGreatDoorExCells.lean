/- More operations of values alone. No condition. -/
import Derived.Test.YteefpemaeecicaaGreatDoorExNums
import Derived.Laws.Cover2
import Derived.Laws.Slices
section
open Go
namespace Go.Proofs.YteefpemaeecicaaGreatDoor.Ev
set_option linter.unusedVariables false
set_option linter.unusedSimpArgs false
set_option linter.constructorNameAsVariable false
noncomputable section
def P3 [Rho] (P : Program) (F : AV → AV → AV → (AV → Ans) → Ans) (f : Value → Value → Value → Sem Value) : Prop :=
  ∀ x y z kk, F x y z kk = .yes → ∃ v, kk v = .yes ∧ ∀ μ x' y' z', VR μ x x' → VR μ y y' → VR μ z z' → ∃ v', VR μ v v' ∧ ∀ w, (f x' y' z').run P w = .ok v' w
def PL [Rho] (P : Program) (F : List AV → (AV → Ans) → Ans) (f : List Value → Sem Value) : Prop :=
  ∀ l kk, F l kk = .yes → ∃ v, kk v = .yes ∧ ∀ μ xs, VRs μ l xs → ∃ v', VR μ v v' ∧ ∀ w, (f xs).run P w = .ok v' w
section
variable {P : Program} {t : TypeId} {ox oy : Operand}
theorem pick_p3 [Rho] : P3 P fPick (fun c a b => do pure (if ← asBool c then a else b)) := by
  intro x y z kk h
  obtain ⟨t, rfl, h⟩ := inv_b h
  rcases inv_bif h with ⟨rfl, h⟩ | ⟨rfl, h⟩
  · exact ⟨_, h, fun μ x' y' z' hx hy hz => ⟨y', hy, fun w => by rw [hx.b_inv]; rfl⟩⟩
  · exact ⟨_, h, fun μ x' y' z' hx hy hz => ⟨z', hz, fun w => by rw [hx.b_inv]; rfl⟩⟩
theorem min_p2 [Rho] (k : IntKind) (ts : Array TypeId) (ty : TypeId) : P2 P (fMinMax (ltOf k) (kc k)) (fun x y => Builtin.min_ ts ty #[x, y]) := by
  intro x y kk h
  obtain ⟨a, b, rfl, rfl, h'⟩ := minMax_yes h
  refine ⟨_, h', fun μ x' y' hx hy => ?_⟩
  obtain ⟨ha, rfl⟩ := hx.kn_inv
  obtain ⟨hb, rfl⟩ := hy.kn_inv
  rw [ltOf_eq k hb ha]
  by_cases hl : k.wrap (b : Int) < k.wrap (a : Int)
  · simp only [hl, decide_true, if_true]
    exact ⟨_, .n k b hb, fun w => by rw [run_min_int2, if_pos hl]⟩
  · simp only [hl, decide_false, if_false, Bool.false_eq_true]
    exact ⟨_, .n k a ha, fun w => by rw [run_min_int2, if_neg hl]⟩
theorem max_p2 [Rho] (k : IntKind) (ts : Array TypeId) (ty : TypeId) : P2 P (fMinMax (fun b a => ltOf k a b) (kc k)) (fun x y => Builtin.max_ ts ty #[x, y]) := by
  intro x y kk h
  obtain ⟨a, b, rfl, rfl, h'⟩ := minMax_yes h
  refine ⟨_, h', fun μ x' y' hx hy => ?_⟩
  obtain ⟨ha, rfl⟩ := hx.kn_inv
  obtain ⟨hb, rfl⟩ := hy.kn_inv
  rw [ltOf_eq k ha hb]
  by_cases hl : k.wrap (a : Int) < k.wrap (b : Int)
  · simp only [hl, decide_true, if_true]
    exact ⟨_, .n k b hb, fun w => by rw [run_max_int2, if_pos (by omega)]⟩
  · simp only [hl, decide_false, if_false, Bool.false_eq_true]
    exact ⟨_, .n k a ha, fun w => by rw [run_max_int2, if_neg (by omega)]⟩
theorem complex_p2 [Rho] (ts : Array TypeId) (ty : TypeId) : P2 P fComplex (fun x y => Builtin.complex_ ts ty #[x, y]) := by
  intro x y kk h
  obtain ⟨a, rfl, h⟩ := inv_f h
  obtain ⟨b, rfl, h⟩ := inv_f h
  refine ⟨_, h, fun μ x' y' hx hy => ?_⟩
  obtain ⟨p, h1, rfl⟩ := hx.f_inv
  obtain ⟨q, h2, rfl⟩ := hy.f_inv
  exact ⟨_, .c a b p q h1 h2, fun w => run_complex w ts ty .f64 p q⟩
theorem real_p1 [Rho] (ts : Array TypeId) (ty : TypeId) : P1 P (fReal false) (fun x => Builtin.real_ ts ty #[x]) := by
  intro x kk h
  obtain ⟨a, b, rfl, h⟩ := inv_c h
  refine ⟨_, h, fun μ x' hx => ?_⟩
  obtain ⟨p, q, h1, h2, rfl⟩ := hx.c_inv
  exact ⟨_, .f a p h1, fun w => run_real w ts ty .f64 p q⟩
theorem imag_p1 [Rho] (ts : Array TypeId) (ty : TypeId) : P1 P (fReal true) (fun x => Builtin.imag_ ts ty #[x]) := by
  intro x kk h
  obtain ⟨a, b, rfl, h⟩ := inv_c h
  refine ⟨_, h, fun μ x' hx => ?_⟩
  obtain ⟨p, q, h1, h2, rfl⟩ := hx.c_inv
  exact ⟨_, .f b q h2, fun w => run_imag w ts ty .f64 p q⟩
theorem strstr_p1 [Rho] {src dst : TypeId} (hs : P.underlying src = some .string) (hd : P.underlying dst = some .string) : P1 P fStrStr (fun x => convert src dst x) := by
  intro x kk h
  obtain ⟨a, rfl, h⟩ := inv_s h
  refine ⟨_, h, fun μ x' hx => ?_⟩
  obtain ⟨rfl, ha⟩ := hx.s_inv
  exact ⟨_, .s a ha, fun w => by simp [convert, run_underlying hs, run_underlying hd]⟩
theorem lget_yes {α : Type} : ∀ {l : List α} {i : Nat} {g : α → Ans}, lgetK l i g = .yes → ∃ a, l[i]? = some a ∧ g a = .yes
  | [], i, g, h => by cases h
  | a :: l, 0, g, h => ⟨a, rfl, h⟩
  | a :: l, i + 1, g, h => by
    have h' : lgetK l i g = .yes := h
    obtain ⟨b, h1, h2⟩ := lget_yes h'
    exact ⟨b, by simpa using h1, h2⟩
theorem VRs.at [Rho] {μ : Mp} {l : List AV} {x : List Value} (h : VRs μ l x) {i : Nat} {a : AV} (ha : l[i]? = some a) : ∃ c, x[i]? = some c ∧ VR μ a c := by
  have hl : i < l.length := by
    rcases Nat.lt_or_ge i l.length with hl | hl
    · exact hl
    · rw [List.getElem?_eq_none hl] at ha; cases ha
  have hx : i < x.length := by rw [h.1]; exact hl
  exact ⟨x[i], List.getElem?_eq_getElem hx, h.2 i a _ ha (List.getElem?_eq_getElem hx)⟩
theorem extract_p1 [Rho] (i : Nat) : P1 P (fExtract i) (fun x => Instr.extract x i) := by
  intro x kk h
  obtain ⟨l, rfl, h⟩ := inv_tu h
  obtain ⟨a, h1, h2⟩ := lget_yes h
  refine ⟨a, h2, fun μ x' hx => ?_⟩
  obtain ⟨y, rfl, hy⟩ := hx.tu_inv
  obtain ⟨c, h3, h4⟩ := hy.at h1
  have h3' : y[i]? = some c := by simpa using h3
  exact ⟨c, h4, fun w => by simp [Instr.extract, h3']⟩
theorem small_n {n : Nat} (h : Nat.ble n 1000000000 = true) : n < km .i64 ∧ IntKind.i64.wrap (n : Int) = n := by
  have := ble_iff.1 h
  exact ⟨by show n < 18446744073709551616; omega, wrap_low (by show n < 9223372036854775808; omega)⟩
theorem VR.len [Rho] {μ : Mp} {n : Nat} (h : n ≤ 1000000000) : VR μ (.n 3 n) (goInt n) := by
  obtain ⟨h1, h2⟩ := small_n (ble_iff.2 h)
  have := VR.n (μ := μ) .i64 n h1
  rw [h2] at this
  exact this
/-- A text's bytes, known or not. -/
def dl [Rho] (l : List Ex) : List Nat := l.map fun x => den x % 256
theorem dl_lt [Rho] (l : List Ex) : ∀ n ∈ dl l, n < 256 := by
  intro n hn
  obtain ⟨x, _, rfl⟩ := List.mem_map.1 hn
  exact Nat.mod_lt _ (by omega)
theorem dl_len [Rho] (l : List Ex) : (dl l).length = l.length := by simp [dl]
theorem exList_mkE : ∀ l, exList (mkE l) = l
  | [] => rfl
  | a :: l => by show a :: exList (mkE l) = a :: l; rw [exList_mkE l]
theorem VR.y_inv [Rho] {μ : Mp} {j : Nat} {e : Ex} {v : Value} (h : VR μ (.y j e) v) : (∃ k, j = kc k ∧ v = .int k (k.wrap (den e % km k : Nat))) ∨ (j = 8 ∧ ∃ i, e = .var i ∧ v = Rho.v i) ∨ (j = 9 ∧ v = .string (bstr (dl (exList e)))) ∨ (j = 11 ∧ ∃ x, v = .float .f64 x ∧ Flo x (den e % 18446744073709551616 : Nat)) ∨ (j = 10 ∧ ∃ e1 e2 a b, e = .op 0 0 e1 e2 ∧ v = .complex .f64 a b ∧ Flo a (den e1 % 18446744073709551616 : Nat) ∧ Flo b (den e2 % 18446744073709551616 : Nat)) ∨ 16 ≤ j := by
  cases h with
  | y k e => exact .inl ⟨k, rfl, rfl⟩
  | yo i => exact .inr (.inl ⟨rfl, i, rfl, rfl⟩)
  | ys l => exact .inr (.inr (.inl ⟨rfl, by rw [exList_mkE]; rfl⟩))
  | yf e x h => exact .inr (.inr (.inr (.inl ⟨rfl, x, rfl, h⟩)))
  | yc e1 e2 a b h1 h2 => exact .inr (.inr (.inr (.inr (.inl ⟨rfl, e1, e2, a, b, rfl, rfl, h1, h2⟩))))
  | yl k le l a n cap => exact .inr (.inr (.inr (.inr (.inr (by omega)))))
  | yp k e a => exact .inr (.inr (.inr (.inr (.inr (by omega)))))
theorem kc_lt (k : IntKind) : kc k < 8 := by cases k <;> decide
/-- A row of the input. -/
theorem VR.yl_inv [Rho] {μ : Mp} {j c w : Nat} {le r : Ex} {v : Value} (h : VR μ (.y j (.op c w le r)) v) (h1 : 16 ≤ j) (h2 : j ≤ 23) :
    ∃ k a n cap, j = 16 + kc k ∧ v = .slice a n cap ∧ RowI k a ((exList r).map fun x => den x % km k) ∧ (exList r).length ≤ n ∧ n ≤ cap ∧ n < 9223372036854775808 ∧ den le % 18446744073709551616 = n := by
  generalize he : Ex.op c w le r = e at h
  cases h with
  | y k e => have := kc_lt k; omega
  | yo i => omega
  | ys l => omega
  | yf e x h => omega
  | yc e1 e2 a b h1 h2 => omega
  | yp k e a => omega
  | yl k le' l a n cap q1 q2 q3 q4 q5 =>
    cases he
    exact ⟨k, a, n, cap, rfl, rfl, by rw [exList_mkE]; exact q1, by rw [exList_mkE]; exact q2, q3, q4, q5⟩
theorem VR.yp_inv [Rho] {μ : Mp} {j : Nat} {e : Ex} {v : Value} (h : VR μ (.y j e) v) (h1 : 24 ≤ j) :
    ∃ k a, j = 24 + kc k ∧ v = .pointer (some a) ∧ RowI k (some a) [den e % km k] := by
  cases h with
  | y k e => have := kc_lt k; omega
  | yo i => omega
  | ys l => omega
  | yf e x h => omega
  | yc e1 e2 a b h1 h2 => omega
  | yl k le l a n cap => have := kc_lt k; omega
  | yp k e a q1 => exact ⟨k, a, rfl, rfl, q1⟩
theorem exRow_yes {j : Nat} {e : Ex} {g : Ex → List Ex → Ans} (h : exRow j e g = .yes) : 16 ≤ j ∧ j ≤ 23 ∧ ∃ c w le r, e = .op c w le r ∧ g le (exList r) = .yes := by
  obtain ⟨h1, h2⟩ := inv_if h
  obtain ⟨h3, h4⟩ := and_eq.1 h1
  cases e with
  | var i => cases h2
  | lit n => cases h2
  | op c w le r => exact ⟨ble_iff.1 h3, ble_iff.1 h4, c, w, le, r, rfl, h2⟩
theorem exLit_yes {e : Ex} {g : Nat → Ans} (h : exLit e g = .yes) : ∃ n, e = .lit n ∧ n ≤ 1000000000 ∧ g n = .yes := by
  cases e with
  | var i => cases h
  | op c w le r => cases h
  | lit n =>
    obtain ⟨h1, h2⟩ := inv_if h
    exact ⟨n, rfl, ble_iff.1 h1, h2⟩
theorem rowA_eq (j : Nat) : ∀ l : List Ex, rowA j l = l.map fun a => AV.y j a
  | [] => rfl
  | a :: l => by show AV.y j a :: rowA j l = _; rw [rowA_eq j l]; rfl
theorem VR.y9_inv [Rho] {μ : Mp} {e : Ex} {v : Value} (h : VR μ (.y 9 e) v) : v = .string (bstr (dl (exList e))) := by
  rcases h.y_inv with ⟨k, h1, _⟩ | ⟨h1, _⟩ | ⟨_, h1⟩ | ⟨h1, _⟩ | ⟨h1, _⟩ | h1
  · have := kc_lt k; omega
  · omega
  · exact h1
  · omega
  · omega
  · omega
theorem lenS_p1 [Rho] {ts : Array TypeId} {ty : TypeId} (h0 : ts[0]? = some t) (ht : P.underlying t = some .string) : P1 P fLenS (fun x => Builtin.len_ ts ty #[x]) := by
  intro x kk h
  rcases inv_sy h with ⟨s, rfl, h⟩ | ⟨j, e, rfl, h⟩
  · have h : lenK s (fun n => Bool.rec (motive := fun _ => Ans) Ans.no (kk (.n 3 n)) (Nat.ble n 1000000000)) = .yes := h
    rw [lenK_eq] at h
    obtain ⟨h1, h2⟩ := inv_if h
    refine ⟨_, h2, fun μ x' hx => ?_⟩
    obtain ⟨rfl, hs⟩ := hx.s_inv
    refine ⟨_, .len (ble_iff.1 h1), fun w => ?_⟩
    simp [Builtin.len_, h0, run_underlying ht, bstr_size]
  · obtain ⟨hj, h⟩ := inv_if h
    have hj := beq_iff.1 hj
    subst hj
    have h : lenK (exList e) (fun n => Bool.rec (motive := fun _ => Ans) Ans.no (kk (.n 3 n)) (Nat.ble n 1000000000)) = .yes := h
    rw [lenK_eq] at h
    obtain ⟨h1, h2⟩ := inv_if h
    refine ⟨_, h2, fun μ x' hx => ?_⟩
    rw [hx.y9_inv]
    refine ⟨_, .len (ble_iff.1 h1), fun w => ?_⟩
    simp [Builtin.len_, h0, run_underlying ht, bstr_size, dl_len]
/-- A slice's value. -/
theorem VR.sl_inv [Rho] {μ : Mp} {nm : Nm} {off len cap : Nat} {v : Value} (h : VR μ (.sl nm off len cap) v) : ∃ bk, μ nm = some bk ∧ len ≤ cap ∧ cap ≤ 1000000000 ∧ v = .slice (some ⟨bk.blk, off, none⟩) len cap := by
  cases h with | sl nm off len cap bk h1 h2 h3 => exact ⟨bk, h1, h2, h3, rfl⟩
theorem VR.so_inv [Rho] {μ : Mp} {nm : Nm} {off len : Nat} {v : Value} (h : VR μ (.so nm off len) v) : ∃ bk cap, μ nm = some bk ∧ len ≤ cap ∧ len ≤ 1000000000 ∧ (off = 0 → cap * bk.es ≤ bk.size) ∧ v = .slice (some ⟨bk.blk, off, none⟩) len cap := by
  cases h with | so nm off len bk cap h1 h2 h3 h4 => exact ⟨bk, cap, h1, h2, h3, h4, rfl⟩
theorem VR.sl0_inv [Rho] {μ : Mp} {v : Value} (h : VR μ .sl0 v) : v = .slice none 0 0 := by cases h; rfl
theorem VR.se_inv [Rho] {μ : Mp} {v : Value} (h : VR μ .se v) : ∃ a cap, v = .slice (some a) 0 cap := by cases h with | se a cap => exact ⟨a, cap, rfl⟩
theorem lenL_p1 [Rho] {ts : Array TypeId} {ty e : TypeId} (h0 : ts[0]? = some t) (ht : P.underlying t = some (.slice e)) : P1 P fLenL (fun x => Builtin.len_ ts ty #[x]) := by
  intro x kk h
  rcases inv_sly_ h with ⟨rfl, h⟩ | ⟨nm, off, len, cap, rfl, h⟩ | ⟨nm, off, len, rfl, h⟩ | ⟨rfl, h⟩ | ⟨j, e, rfl, h5⟩
  · exact ⟨_, h, fun μ x' hx => ⟨_, .len (n := 0) (by omega), fun w => by rw [hx.sl0_inv]; simp [Builtin.len_, h0, run_underlying ht]⟩⟩
  · refine ⟨_, h, fun μ x' hx => ?_⟩
    obtain ⟨bk, h1, h2, h3, rfl⟩ := hx.sl_inv
    exact ⟨_, .len (n := len) (by omega), fun w => by simp [Builtin.len_, h0, run_underlying ht]⟩
  · refine ⟨_, h, fun μ x' hx => ?_⟩
    obtain ⟨bk, cap, h1, h2, h3, h4, rfl⟩ := hx.so_inv
    exact ⟨_, .len (n := len) h3, fun w => by simp [Builtin.len_, h0, run_underlying ht]⟩
  · refine ⟨_, h, fun μ x' hx => ?_⟩
    obtain ⟨a, cap, rfl⟩ := hx.se_inv
    exact ⟨_, .len (n := 0) (by omega), fun w => by simp [Builtin.len_, h0, run_underlying ht]⟩
  · obtain ⟨j1, j2, c, w0, le, r, rfl, h2⟩ := exRow_yes h5
    have any : ∀ (kk' : AV → Ans) , kk' (.y 3 le) = .yes → ∃ v, kk' v = .yes ∧ ∀ μ x', VR μ (.y j (.op c w0 le r)) x' → ∃ v', VR μ v v' ∧ ∀ w, (Builtin.len_ ts ty #[x']).run P w = .ok v' w := fun kk' hk => by
      refine ⟨_, hk, fun μ x' hx => ?_⟩
      obtain ⟨k, a, n, cap, _, rfl, _, _, _, q4, q5⟩ := hx.yl_inv j1 j2
      refine ⟨goInt n, ?_, fun w => by simp [Builtin.len_, h0, run_underlying ht]⟩
      have := VR.y (μ := μ) .i64 le
      have e1 : IntKind.i64.wrap ((den le % km .i64 : Nat) : Int) = n := by
        show IntKind.i64.wrap ((den le % 18446744073709551616 : Nat) : Int) = n
        rw [q5]; exact wrap_low (by show n < 9223372036854775808; omega)
      rw [e1] at this
      exact this
    cases le with
    | var i => exact any kk h2
    | op c' w' a' b' => exact any kk h2
    | lit n =>
      obtain ⟨h3, h4⟩ := inv_if h2
      have h3 := ble_iff.1 h3
      refine ⟨_, h4, fun μ x' hx => ?_⟩
      obtain ⟨k, a, n', cap, _, rfl, _, _, _, q4, q5⟩ := hx.yl_inv j1 j2
      have q5 : n % 18446744073709551616 = n' := q5
      rw [Nat.mod_eq_of_lt (by omega)] at q5
      subst q5
      exact ⟨_, .len h3, fun w => by simp [Builtin.len_, h0, run_underlying ht]⟩
theorem lenA_p1 [Rho] {ts : Array TypeId} {ty e : TypeId} {n : Nat} (h0 : ts[0]? = some t) (ht : P.underlying t = some (.array n e)) (hn : n ≤ 1000000000) : P1 P (fLenA n) (fun x => Builtin.len_ ts ty #[x]) := by
  intro x kk h
  exact ⟨_, h, fun μ x' hx => ⟨_, .len hn, fun w => by simp [Builtin.len_, h0, run_underlying ht]⟩⟩
/-- A number that is none below nought. -/
theorem pos_yes [Rho] {x : AV} {g : Nat → Ans} (h : posK x g = .yes) : ∃ a, g a = .yes ∧ ∀ μ v, VR μ x v → ∃ k, v = .int k (a : Int) := by
  obtain ⟨j, a, rfl, h⟩ := inv_n h
  obtain ⟨h1, h2⟩ := inv_if h
  refine ⟨a, h2, fun μ v hv => ?_⟩
  obtain ⟨k, rfl, ha, rfl⟩ := hv.n_inv
  have h1 : a + 4611686018427387904 * (3 - kc k) ≤ 4611686018427387903 := ble_iff.1 h1
  have hlow : a < kh k ∨ ksg k = false := by
    cases k <;> first
      | exact .inr rfl
      | (simp only [kc, kh] at h1 ⊢; left; omega)
  refine ⟨k, ?_⟩
  rcases hlow with hl | hl
  · rw [wrap_low hl]
  · rw [wrap_un hl ha]
theorem indexS_p2 [Rho] (ht : P.underlying t = some .string) : P2 P fIndexS (fun x i => Instr.index t x i) := by
  intro x i kk h
  obtain ⟨a, h, hi⟩ := pos_yes h
  obtain ⟨l, rfl, h⟩ := inv_s h
  obtain ⟨b, h1, h2⟩ := lget_yes h
  refine ⟨_, h2, fun μ x' i' hx hi' => ?_⟩
  obtain ⟨rfl, hl⟩ := hx.s_inv
  obtain ⟨k, rfl⟩ := hi μ i' hi'
  have hb : b < 256 := hl b (List.mem_of_getElem? h1)
  have hlt : a < l.length := by
    rcases Nat.lt_or_ge a l.length with hl | hl
    · exact hl
    · rw [List.getElem?_eq_none hl] at h1; cases h1
  refine ⟨_, .n .u8 b hb, fun w => ?_⟩
  have hg : (bstr l)[a]? = some (UInt8.ofNat b) := by
    have : (bstr l)[a]? = (bstr l).data[a]? := by
      simp only [getElem?_def]
      rfl
    rw [this]
    simp [bstr, h1]
  have he : IntKind.u8.wrap (b : Int) = b := wrap_un rfl hb
  have : (UInt8.ofNat b).toNat = b := by simp [UInt8.toNat_ofNat', Nat.mod_eq_of_lt hb]
  simp [Instr.index, asIntOf, run_underlying ht, hg, he, this]
end
end
end Go.Proofs.YteefpemaeecicaaGreatDoor.Ev
end
section
open Go
namespace Go.Proofs.YteefpemaeecicaaGreatDoor.Ev
set_option linter.unusedVariables false
set_option linter.unusedSimpArgs false
set_option linter.constructorNameAsVariable false
noncomputable section
section
variable {P : Program} {t : TypeId} {ox oy : Operand}
/-- What can be nil: its kinds. -/
theorem nilPtr {v : AV} (h : isNilP v = true) : v = .p0 := by cases v <;> first | rfl | cases h
theorem somePtr {v : AV} (h : isSomeP v = true) : ∃ a b, v = .p a b := by cases v <;> first | exact ⟨_, _, rfl⟩ | cases h
/-- An equality by 'equal'. -/
theorem eqlN {op : BinOp} {neg : Bool} (hop : op = if neg then .neq else .eql) {x y : Value} {r : Bool} (hg : ∀ op, eqGuard op t ox oy x y = pure ())
    (hb : binOp .eql t x y = (do pure (.bool (← Op.equal t x y))) ∧ binOp .neq t x y = (do pure (.bool (!(← Op.equal t x y)))))
    (hr : ∀ w, (Op.equal t x y).run P w = .ok r w) (w : World) : (bin2 op t ox oy x y).run P w = .ok (.bool (if neg then !r else r)) w := by
  subst hop
  cases neg
  · simp [bin2, hg, hb.1, hr]
  · simp [bin2, hg, hb.2, hr]
theorem negB (neg r : Bool) : (if neg = true then !r else r) = (if r = true then not_ neg else neg) := by cases neg <;> cases r <;> rfl
theorem nilEq_p2 [Rho] {op : BinOp} {neg : Bool} (hop : op = if neg then .neq else .eql) {N S : AV → Bool}
    (hN : ∀ μ u x v y, VR μ u x → VR μ v y → N u = true → N v = true → (∀ w, (bin2 op t ox oy x y).run P w = .ok (.bool (not_ neg)) w))
    (hNS : ∀ μ u x v y, VR μ u x → VR μ v y → N u = true → S v = true → (∀ w, (bin2 op t ox oy x y).run P w = .ok (.bool neg) w))
    (hSN : ∀ μ u x v y, VR μ u x → VR μ v y → S u = true → N v = true → (∀ w, (bin2 op t ox oy x y).run P w = .ok (.bool neg) w)) :
    P2 P (fNilEq N S neg) (bin2 op t ox oy) := by
  intro x y kk h
  rcases inv_bif h with ⟨e, h⟩ | ⟨e, h⟩
  · rcases inv_bif h with ⟨e2, h⟩ | ⟨e2, h⟩
    · exact ⟨_, h, fun μ x' y' hx hy => ⟨_, .b _, hN μ _ _ _ _ hx hy e e2⟩⟩
    · obtain ⟨e3, h⟩ := inv_if h
      exact ⟨_, h, fun μ x' y' hx hy => ⟨_, .b _, hNS μ _ _ _ _ hx hy e e3⟩⟩
  · obtain ⟨e2, h⟩ := inv_if h
    obtain ⟨e3, h⟩ := inv_if h
    exact ⟨_, h, fun μ x' y' hx hy => ⟨_, .b _, hSN μ _ _ _ _ hx hy e3 e2⟩⟩
theorem sl_none [Rho] {μ : Mp} {v : AV} {x : Value} (h : isNilL v = true) (r : VR μ v x) : x = .slice none 0 0 := by
  have : v = .sl0 := by cases v <;> first | rfl | cases h
  subst this; exact r.sl0_inv
theorem sl_some [Rho] {μ : Mp} {v : AV} {x : Value} (h : isSomeL v = true) (r : VR μ v x) : ∃ a l c, x = .slice (some a) l c := by
  cases r <;> first | exact ⟨_, _, _, rfl⟩ | cases h
theorem m_none [Rho] {μ : Mp} {v : AV} {x : Value} (h : isNilM v = true) (r : VR μ v x) : x = .map none := by
  cases r <;> first | rfl | cases h
theorem m_some [Rho] {μ : Mp} {v : AV} {x : Value} (h : isSomeM v = true) (r : VR μ v x) : ∃ a, x = .map (some a) := by
  cases r <;> first | exact ⟨_, rfl⟩ | cases h
theorem f_none [Rho] {μ : Mp} {v : AV} {x : Value} (h : isNilF v = true) (r : VR μ v x) : x = .nilFunc := by
  cases r <;> first | rfl | cases h
theorem f_some [Rho] {μ : Mp} {v : AV} {x : Value} (h : isSomeF v = true) (r : VR μ v x) : ∃ f a b, x = .func f a b := by
  cases r <;> first | exact ⟨_, _, _, rfl⟩ | cases h
theorem p_none [Rho] {μ : Mp} {v : AV} {x : Value} (h : isNilP v = true) (r : VR μ v x) : x = .pointer none := by
  cases r <;> first | rfl | cases h
theorem p_some [Rho] {μ : Mp} {v : AV} {x : Value} (h : isSomeP v = true) (r : VR μ v x) : ∃ a, x = .pointer (some a) := by
  cases r <;> first | exact ⟨_, rfl⟩ | cases h
theorem eqIn_sl {e : TypeId} (h : P.underlying t = some (.slice e)) (d : Nat) (a : Option Addr) (l c : Nat) (w : World) :
    (Op.equalIn (d + 1) t (.slice none 0 0) (.slice a l c)).run P w = .ok a.isNone w := by simp [Op.equalIn, run_underlying h]
theorem eqIn_m {k e : TypeId} (h : P.underlying t = some (.map k e)) (d : Nat) (a : Option Nat) (w : World) :
    (Op.equalIn (d + 1) t (.map none) (.map a)).run P w = .ok a.isNone w := by simp [Op.equalIn, run_underlying h]
theorem eqIn_f0 {a b : Array TypeId} {c : Bool} (h : P.underlying t = some (.func a b c)) (d : Nat) (w : World) :
    (Op.equalIn (d + 1) t .nilFunc .nilFunc).run P w = .ok true w := by simp [Op.equalIn, run_underlying h]
theorem eqIn_f1 {a b : Array TypeId} {c : Bool} (h : P.underlying t = some (.func a b c)) (d : Nat) (f : Fn) (x y : Array Value) (w : World) :
    (Op.equalIn (d + 1) t .nilFunc (.func f x y)).run P w = .ok false w := by simp [Op.equalIn, run_underlying h]
theorem eqIn_f2 {a b : Array TypeId} {c : Bool} (h : P.underlying t = some (.func a b c)) (d : Nat) (f : Fn) (x y : Array Value) (w : World) :
    (Op.equalIn (d + 1) t (.func f x y) .nilFunc).run P w = .ok false w := by simp [Op.equalIn, run_underlying h]
theorem eqIn_p0 {e : TypeId} (h : P.underlying t = some (.pointer e)) (d : Nat) (a : Option Addr) (w : World) :
    (Op.equalIn (d + 1) t (.pointer none) (.pointer a)).run P w = .ok a.isNone w := by simp [Op.equalIn, run_underlying h]
theorem eqIn_p1 {e : TypeId} (h : P.underlying t = some (.pointer e)) (d : Nat) (a : Addr) (w : World) :
    (Op.equalIn (d + 1) t (.pointer (some a)) (.pointer none)).run P w = .ok false w := by simp [Op.equalIn, run_underlying h]
theorem eqIn_p2 {e : TypeId} {i : TypeInfo} (h : P.underlying t = some (.pointer e)) (hi : P.info? e = some i) (hz : i.size ≠ 0) (d : Nat) (b : Nat) (m n : Nat) (w : World) :
    (Op.equalIn (d + 1) t (.pointer (some ⟨b, m, none⟩)) (.pointer (some ⟨b, n, none⟩))).run P w = .ok (decide (m = n)) w := by
  have : ((⟨b, m, none⟩ : Addr) == ⟨b, n, none⟩) = decide (m = n) := by
    rw [Bool.eq_iff_iff, beq_iff_eq, decide_eq_true_eq]
    exact ⟨fun e => by cases e; rfl, fun e => by rw [e]⟩
  simp [Op.equalIn, run_underlying h, run_size hi, hz, sameAddr, this]
end
end
end Go.Proofs.YteefpemaeecicaaGreatDoor.Ev
end
section
open Go
namespace Go.Proofs.YteefpemaeecicaaGreatDoor.Ev
set_option linter.unusedVariables false
set_option linter.unusedSimpArgs false
set_option linter.constructorNameAsVariable false
noncomputable section
section
variable {P : Program} {t : TypeId} {ox oy : Operand}
def eqOp (neg : Bool) : BinOp := if neg then .neq else .eql
theorem nilSl_p2 [Rho] (neg : Bool) {e : TypeId} (ht : P.underlying t = some (.slice e)) : P2 P (fNilEq isNilL isSomeL neg) (bin2 (eqOp neg) t ox oy) := by
  refine nilEq_p2 (op := eqOp neg) rfl ?_ ?_ ?_
  · intro μ u x v y hu hv h1 h2 w
    rw [sl_none h1 hu, sl_none h2 hv, eqlN (op := eqOp neg) (neg := neg) (ox := ox) (oy := oy) rfl (fun op => by cases op <;> rfl) ⟨rfl, rfl⟩ (fun w => eqIn_sl ht 9999 none 0 0 w) w, negB]
    rfl
  · intro μ u x v y hu hv h1 h2 w
    obtain ⟨a, l, c, rfl⟩ := sl_some h2 hv
    rw [sl_none h1 hu, eqlN (op := eqOp neg) (neg := neg) (ox := ox) (oy := oy) rfl (fun op => by cases op <;> rfl) ⟨rfl, rfl⟩ (fun w => eqIn_sl ht 9999 (some a) l c w) w, negB]
    rfl
  · intro μ u x v y hu hv h1 h2 w
    obtain ⟨a, l, c, rfl⟩ := sl_some h1 hu
    rw [sl_none h2 hv, eqlN (op := eqOp neg) (neg := neg) (ox := ox) (oy := oy) rfl (fun op => by cases op <;> rfl) ⟨rfl, rfl⟩ (fun w => run_equalIn_slice_nil w 9999 t e (some a) l c ht) w, negB]
    rfl
theorem nilM_p2 [Rho] (neg : Bool) {k e : TypeId} (ht : P.underlying t = some (.map k e)) : P2 P (fNilEq isNilM isSomeM neg) (bin2 (eqOp neg) t ox oy) := by
  refine nilEq_p2 (op := eqOp neg) rfl ?_ ?_ ?_
  · intro μ u x v y hu hv h1 h2 w
    rw [m_none h1 hu, m_none h2 hv, eqlN (op := eqOp neg) (neg := neg) (ox := ox) (oy := oy) rfl (fun op => by cases op <;> rfl) ⟨rfl, rfl⟩ (fun w => eqIn_m ht 9999 none w) w, negB]
    rfl
  · intro μ u x v y hu hv h1 h2 w
    obtain ⟨a, rfl⟩ := m_some h2 hv
    rw [m_none h1 hu, eqlN (op := eqOp neg) (neg := neg) (ox := ox) (oy := oy) rfl (fun op => by cases op <;> rfl) ⟨rfl, rfl⟩ (fun w => eqIn_m ht 9999 (some a) w) w, negB]
    rfl
  · intro μ u x v y hu hv h1 h2 w
    obtain ⟨a, rfl⟩ := m_some h1 hu
    rw [m_none h2 hv, eqlN (op := eqOp neg) (neg := neg) (ox := ox) (oy := oy) rfl (fun op => by cases op <;> rfl) ⟨rfl, rfl⟩ (fun w => run_equalIn_map_nil w 9999 t k e (some a) ht) w, negB]
    rfl
theorem nilF_p2 [Rho] (neg : Bool) {a b : Array TypeId} {c : Bool} (ht : P.underlying t = some (.func a b c)) : P2 P (fNilEq isNilF isSomeF neg) (bin2 (eqOp neg) t ox oy) := by
  refine nilEq_p2 (op := eqOp neg) rfl ?_ ?_ ?_
  · intro μ u x v y hu hv h1 h2 w
    rw [f_none h1 hu, f_none h2 hv, eqlN (op := eqOp neg) (neg := neg) (ox := ox) (oy := oy) rfl (fun op => by cases op <;> rfl) ⟨rfl, rfl⟩ (fun w => eqIn_f0 ht 9999 w) w, negB]
    rfl
  · intro μ u x v y hu hv h1 h2 w
    obtain ⟨f, p, q, rfl⟩ := f_some h2 hv
    rw [f_none h1 hu, eqlN (op := eqOp neg) (neg := neg) (ox := ox) (oy := oy) rfl (fun op => by cases op <;> rfl) ⟨rfl, rfl⟩ (fun w => eqIn_f1 ht 9999 f p q w) w, negB]
    rfl
  · intro μ u x v y hu hv h1 h2 w
    obtain ⟨f, p, q, rfl⟩ := f_some h1 hu
    rw [f_none h2 hv, eqlN (op := eqOp neg) (neg := neg) (ox := ox) (oy := oy) rfl (fun op => by cases op <;> rfl) ⟨rfl, rfl⟩ (fun w => eqIn_f2 ht 9999 f p q w) w, negB]
    rfl
theorem ptr_p2 [Rho] (neg : Bool) {e : TypeId} {i : TypeInfo} (ht : P.underlying t = some (.pointer e)) (hi : P.info? e = some i) (hz : i.size ≠ 0) : P2 P (fPtr neg) (bin2 (eqOp neg) t ox oy) := by
  intro x y kk h
  rcases inv_bif h with ⟨e1, h⟩ | ⟨e1, h⟩
  · rcases inv_bif h with ⟨e2, h⟩ | ⟨e2, h⟩
    · refine ⟨_, h, fun μ x' y' hx hy => ⟨_, .b _, fun w => ?_⟩⟩
      rw [p_none e1 hx, p_none e2 hy, eqlN (op := eqOp neg) (neg := neg) (ox := ox) (oy := oy) rfl (fun op => by cases op <;> rfl) ⟨rfl, rfl⟩ (fun w => eqIn_p0 ht 9999 none w) w, negB]
      rfl
    · obtain ⟨e3, h⟩ := inv_if h
      refine ⟨_, h, fun μ x' y' hx hy => ⟨_, .b _, fun w => ?_⟩⟩
      obtain ⟨a, rfl⟩ := p_some e3 hy
      rw [p_none e1 hx, eqlN (op := eqOp neg) (neg := neg) (ox := ox) (oy := oy) rfl (fun op => by cases op <;> rfl) ⟨rfl, rfl⟩ (fun w => eqIn_p0 ht 9999 (some a) w) w, negB]
      rfl
  · rcases inv_bif h with ⟨e2, h⟩ | ⟨e2, h⟩
    · obtain ⟨e3, h⟩ := inv_if h
      refine ⟨_, h, fun μ x' y' hx hy => ⟨_, .b _, fun w => ?_⟩⟩
      obtain ⟨a, rfl⟩ := p_some e3 hx
      rw [p_none e2 hy, eqlN (op := eqOp neg) (neg := neg) (ox := ox) (oy := oy) rfl (fun op => by cases op <;> rfl) ⟨rfl, rfl⟩ (fun w => eqIn_p1 ht 9999 a w) w, negB]
      rfl
    · obtain ⟨a, i1, rfl, h1⟩ := inv_p h
      obtain ⟨b, i2, rfl, h2⟩ := inv_p h1
      obtain ⟨e3, h3⟩ := inv_if h2
      rw [Nm.beq_eq, decide_eq_true_eq] at e3
      subst e3
      clear h h1 h2
      have key : kk (.b (if decide (i1 = i2) = true then not_ neg else neg)) = .yes := by
        rcases inv_bif h3 with ⟨e4, h4⟩ | ⟨e4, h4⟩
        · rw [if_pos (decide_eq_true (beq_iff.1 e4))]; exact h4
        · rw [if_neg (by intro hh; rw [beq_iff.2 (of_decide_eq_true hh)] at e4; cases e4)]; exact h4
      refine ⟨_, key, fun μ x' y' hx hy => ⟨_, .b _, fun w => ?_⟩⟩
      obtain ⟨bk, h1, rfl⟩ := hx.p_inv
      obtain ⟨bk', h2, rfl⟩ := hy.p_inv
      rw [h1] at h2; cases h2
      rw [eqlN (op := eqOp neg) (neg := neg) (ox := ox) (oy := oy) rfl (fun op => by cases op <;> rfl) ⟨rfl, rfl⟩ (fun w => eqIn_p2 ht hi hz 9999 bk.blk i1 i2 w) w, negB]
/-! ### Complex numbers -/
theorem intK_eq (z : Int) (g : Int → Ans) : intK z g = g z := by
  cases z with
  | ofNat n => exact natK_eq n (fun n => g (.ofNat n))
  | negSucc n => exact natK_eq n (fun n => g (.negSucc n))
theorem okC_yes {re im : Int} {kk : AV → Ans} (h : okC re im kk = .yes) : smallI re = true ∧ smallI im = true ∧ kk (.c re im) = .yes := by
  unfold okC at h
  rw [intK_eq, intK_eq] at h
  obtain ⟨h1, h2⟩ := inv_if h
  exact ⟨(and_eq.1 h1).1, (and_eq.1 h1).2, h2⟩
theorem cadd_p2 [Rho] : P2 P fCAdd (bin2 .add t ox oy) := by
  intro x y kk h
  obtain ⟨a, b, rfl, h⟩ := inv_c h
  obtain ⟨c, d, rfl, h⟩ := inv_c h
  obtain ⟨h1, h2, h3⟩ := okC_yes h
  refine ⟨_, h3, fun μ x' y' hx hy => ?_⟩
  obtain ⟨p, q, e1, e2, rfl⟩ := hx.c_inv
  obtain ⟨r, s, e3, e4, rfl⟩ := hy.c_inv
  obtain ⟨u, g1, g2⟩ := fl_add e1 e3 (smallI_lt h1)
  obtain ⟨v, g3, g4⟩ := fl_add e2 e4 (smallI_lt h2)
  refine ⟨_, .c _ _ u v g2 g4, fun w => ?_⟩
  have : cSumBits .add .f64 p q r s = some (u, v) := by simp [cSumBits, g1, g3]
  simp only [bin2, eqGuard_at_complex]
  exact run_complex_sum w .add (.inl rfl) t .f64 p q r s u v this
theorem cmul_p2 [Rho] : P2 P fCMul (bin2 .mul t ox oy) := by
  intro x y kk h
  obtain ⟨a, b, rfl, h⟩ := inv_c h
  obtain ⟨c, d, rfl, h⟩ := inv_c h
  have h' : (intK (Int.mul a c) fun ac => intK (Int.mul b d) fun bd => intK (Int.mul a d) fun ad => intK (Int.mul b c) fun bc => Bool.rec (motive := fun _ => Ans) Ans.no (okC (Int.sub ac bd) (Int.add ad bc) kk) (and_ (and_ (smallI ac) (smallI bd)) (and_ (smallI ad) (smallI bc)))) = .yes := h
  rw [intK_eq, intK_eq, intK_eq, intK_eq] at h'
  obtain ⟨h0, h'⟩ := inv_if h'
  obtain ⟨h1, h2, h3⟩ := okC_yes h'
  have s1 := (and_eq.1 (and_eq.1 h0).1).1
  have s2 := (and_eq.1 (and_eq.1 h0).1).2
  have s3 := (and_eq.1 (and_eq.1 h0).2).1
  have s4 := (and_eq.1 (and_eq.1 h0).2).2
  refine ⟨_, h3, fun μ x' y' hx hy => ?_⟩
  obtain ⟨p, q, e1, e2, rfl⟩ := hx.c_inv
  obtain ⟨r, s, e3, e4, rfl⟩ := hy.c_inv
  obtain ⟨u1, g1, k1⟩ := fl_mul e1 e3 (smallI_lt s1)
  obtain ⟨u2, g2, k2⟩ := fl_mul e2 e4 (smallI_lt s2)
  obtain ⟨u3, g3, k3⟩ := fl_mul e1 e4 (smallI_lt s3)
  obtain ⟨u4, g4, k4⟩ := fl_mul e2 e3 (smallI_lt s4)
  obtain ⟨u5, g5, k5⟩ := fl_sub k1 k2 (smallI_lt h1)
  obtain ⟨u6, g6, k6⟩ := fl_add k3 k4 (smallI_lt h2)
  refine ⟨_, .c _ _ u5 u6 k5 k6, fun w => ?_⟩
  have : cMulBits p q r s = some (u5, u6) := by simp [cMulBits, g1, g2, g3, g4, g5, g6]
  simp only [bin2, eqGuard_at_complex]
  exact run_complex_mul w t p q r s u5 u6 this
theorem eqI_eq (x y : Int) : eqI x y = decide (x = y) := by
  cases x with
  | ofNat m => cases y with
    | ofNat n =>
      show Nat.beq m n = _
      rw [Bool.eq_iff_iff, beq_iff, decide_eq_true_eq]
      exact ⟨fun e => by rw [e], fun e => by cases e; rfl⟩
    | negSucc n => rfl
  | negSucc m => cases y with
    | ofNat n => rfl
    | negSucc n =>
      show Nat.beq m n = _
      rw [Bool.eq_iff_iff, beq_iff, decide_eq_true_eq]
      exact ⟨fun e => by rw [e], fun e => by cases e; rfl⟩
theorem ceq_p2 [Rho] (neg : Bool) : P2 P (fCEq neg) (bin2 (eqOp neg) t ox oy) := by
  intro x y kk h
  obtain ⟨a, b, rfl, h⟩ := inv_c h
  obtain ⟨c, d, rfl, h2⟩ := inv_c h
  have key : kk (.b (if neg = true then !(decide (a = c) && decide (b = d)) else (decide (a = c) && decide (b = d)))) = .yes := by
    have e : and_ (eqI a c) (eqI b d) = (decide (a = c) && decide (b = d)) := by rw [eqI_eq, eqI_eq]; cases decide (a = c) <;> rfl
    rw [e] at h2
    generalize (decide (a = c) && decide (b = d)) = r at h2 ⊢
    cases neg <;> cases r <;> exact h2
  refine ⟨_, key, fun μ x' y' hx hy => ⟨_, .b _, fun w => ?_⟩⟩
  obtain ⟨p, q, e1, e2, rfl⟩ := hx.c_inv
  obtain ⟨r, s, e3, e4, rfl⟩ := hy.c_inv
  cases neg
  · simp only [eqOp, bin2, eqGuard_at_complex, Bool.false_eq_true, if_false]
    rw [← fl_eq e1 e3, ← fl_eq e2 e4]
    exact run_eql_complex w t .f64 p q r s
  · simp only [eqOp, bin2, eqGuard_at_complex, if_true]
    rw [← fl_eq e1 e3, ← fl_eq e2 e4]
    exact run_neq_complex w t .f64 p q r s
/-! ### Floats -/
theorem sInt_eq {k : IntKind} {a : Nat} (ha : a < km k) : sInt (if ksg k then kh k else km k) (km k) a = k.wrap (a : Int) := by
  have h2 := kh_two k
  rw [wrap_nat ha]
  unfold sInt
  by_cases hs : ksg k = true
  · simp only [hs, if_true, true_and]
    by_cases hl : a < kh k
    · rw [ble_iff.2 hl, if_neg (by omega)]; rfl
    · have : Nat.ble (Nat.succ a) (kh k) = false := by
        cases hb : Nat.ble (Nat.succ a) (kh k) with
        | false => rfl
        | true => exact (hl (ble_iff.1 hb)).elim
      rw [this, if_pos (by omega)]
      show Int.negSucc (km k - 1 - a) = _
      omega
  · simp only [hs, if_false, false_and, Bool.false_eq_true]
    rw [ble_iff.2 ha]; rfl
theorem intFlo_p1 [Rho] {src dst : TypeId} (k : IntKind) (hs : P.underlying src = some (.int k)) (hd : P.underlying dst = some (.float .f64)) :
    P1 P (fIntFlo (kc k) (if ksg k then kh k else km k) (km k)) (fun x => convert src dst x) := by
  intro x kk h
  obtain ⟨j, a, rfl, h3⟩ := inv_n h
  obtain ⟨h1, h4⟩ := inv_if h3
  cases beq_iff.1 h1
  have h5 : intK (sInt (if ksg k then kh k else km k) (km k) a) (fun z => Bool.rec (motive := fun _ => Ans) Ans.no (kk (.f z)) (smallI z)) = .yes := h4
  clear h h3 h4
  rw [intK_eq] at h5
  obtain ⟨h2, h⟩ := inv_if h5
  refine ⟨_, h, fun μ x' hx => ?_⟩
  obtain ⟨ha, rfl⟩ := hx.kn_inv
  rw [sInt_eq ha] at h2 ⊢
  refine ⟨_, .f _ _ (fl_of_int (smallI_lt h2)), fun w => ?_⟩
  exact run_convert_int_float w src dst k .f64 _ (by rw [hs]; rfl) hd
theorem fitsI_eq {lo hi : Nat} {z : Int} (h : fitsI lo hi z = true) : -(lo : Int) ≤ z ∧ z < hi := by
  cases z with
  | ofNat n => have h' : n + 1 ≤ hi := ble_iff.1 h; exact ⟨by simp only [Int.ofNat_eq_natCast]; omega, by simp only [Int.ofNat_eq_natCast]; omega⟩
  | negSucc n => have h' : n + 1 ≤ lo := ble_iff.1 h; exact ⟨by omega, by omega⟩
theorem floInt_p1 [Rho] {src dst : TypeId} (k : IntKind) (hs : P.underlying src = some (.float .f64)) (hd : P.underlying dst = some (.int k)) :
    P1 P (fFloInt (kc k) (if ksg k then kh k else 0) (if ksg k then kh k else km k) (km k)) (fun x => convert src dst x) := by
  intro x kk h
  obtain ⟨a, rfl, h⟩ := inv_f h
  obtain ⟨h1, h⟩ := inv_if h
  rw [natK_eq] at h
  have hb := fitsI_eq h1
  have h2 := kh_two k
  refine ⟨_, h, fun μ x' hx => ?_⟩
  obtain ⟨p, e1, rfl⟩ := hx.f_inv
  have hk : -(kh k : Int) ≤ a ∧ a < km k ∧ (ksg k = true → a < kh k) ∧ (ksg k = false → 0 ≤ a) := by
    by_cases hs : ksg k = true
    · simp only [hs, if_true] at hb; exact ⟨hb.1, by omega, fun _ => hb.2, fun e => by rw [hs] at e; cases e⟩
    · simp only [hs, if_false, Bool.false_eq_true] at hb; exact ⟨by omega, hb.2, fun e => (hs e).elim, fun _ => by omega⟩
  have hto : toN (km k) a < km k ∧ ((toN (km k) a : Nat) : Int) % (km k : Int) = a % (km k : Int) := by
    cases a with
    | ofNat n => exact ⟨by show n < km k; have := hk.2.1; simp only [Int.ofNat_eq_natCast] at this; omega, rfl⟩
    | negSucc n =>
      have hn : n < kh k := by have := hk.1; omega
      refine ⟨by show km k - (n + 1) < km k; omega, ?_⟩
      show ((km k - (n + 1) : Nat) : Int) % _ = _
      have : ((km k - (n + 1) : Nat) : Int) = Int.negSucc n + km k := by omega
      rw [this, Int.add_emod_right]
  refine ⟨_, VR.n_mk k hto.1 hto.2, fun w => ?_⟩
  have hw : k.wrap a = a := wrap_id (fun hs => ⟨hk.1, hk.2.2.1 hs⟩) (fun hs => ⟨hk.2.2.2 hs, hk.2.1⟩)
  rw [hw]
  refine run_convert_float_int w src dst .f64 k p a (by rw [hs]; rfl) hd ?_
  unfold floatToIntVal
  rw [toInt_whole e1]
  have : k.min ≤ a ∧ a ≤ k.max := by
    obtain ⟨q1, q2, q3, q4⟩ := hk
    cases k <;> simp only [kh, km, ksg, IntKind.min, IntKind.max, IntKind.signed, IntKind.bits] at q1 q2 q3 q4 ⊢ <;> simp at q1 q2 q3 q4 ⊢ <;> omega
  simp only [this, and_self, if_true]
end
end
end Go.Proofs.YteefpemaeecicaaGreatDoor.Ev
end
section
open Go
namespace Go.Proofs.YteefpemaeecicaaGreatDoor.Ev
set_option linter.unusedVariables false
set_option linter.unusedSimpArgs false
set_option linter.constructorNameAsVariable false
noncomputable section
/-- Cells of an element, one behind the other. -/
def cellsOf (form : Nat) (v : AV) (j cnt : Nat) : List AV := (List.range cnt).map fun i => cellOf form v (j + i)
theorem cellsOf_get {form : Nat} {v : AV} {j cnt i : Nat} (h : i < cnt) : (cellsOf form v j cnt)[i]? = some (cellOf form v (j + i)) := by
  simp [cellsOf, h]
theorem cellsOf_length {form : Nat} {v : AV} {j cnt : Nat} : (cellsOf form v j cnt).length = cnt := by simp [cellsOf]
theorem nrec_acc {α : Type} (f : Nat → α) (step : Nat → (List α → Ans) → List α → Ans) (hs : ∀ i ih acc, step i ih acc = ih (f i :: acc)) (kk : List α → Ans) : ∀ (cnt : Nat) (acc : List α),
    (nrec cnt (fun acc => kk acc) step : List α → Ans) acc = kk ((List.range cnt).map f ++ acc)
  | 0, acc => rfl
  | n + 1, acc => by
    show step n (nrec n (fun acc => kk acc) step) acc = _
    rw [hs, nrec_acc f step hs kk n, List.range_succ, List.map_append, List.append_assoc]
    rfl
theorem cellsK_eq {form s : Nat} {v : AV} (he : isE form s v) (j cnt : Nat) (kk : List AV → Ans) : cellsK form v j cnt kk = kk (cellsOf form v j cnt) := by
  unfold cellsK
  rw [nrec_acc (fun i => cellOf form v (j + i)) _ (fun i ih acc => compK_eq he (j + i) _) kk cnt [], List.append_nil]
  rfl
/-- Cells are laid into an element. -/
def setCells (form : Nat) : List AV → Nat → AV → AV
  | [], _, v => v
  | a :: l, j, v => setCells form l (j + 1) (setCell form v j a)
theorem isE_setCells {form s : Nat} : ∀ (l : List AV) (j : Nat) (v : AV), isE form s v → isE form s (setCells form l j v)
  | [], _, _, h => h
  | a :: l, j, v, h => isE_setCells l (j + 1) _ (isE_set h j a)
theorem setCellsK_eq {form s : Nat} : ∀ (l : List AV) (j : Nat) (v : AV) (kk : AV → Ans), isE form s v → setCellsK form l j v kk = kk (setCells form l j v)
  | [], _, _, _, _ => rfl
  | a :: l, j, v, kk, h => by
    show setCompK form v j a (fun v => setCellsK form l (Nat.succ j) v kk) = _
    rw [setCompK_eq h, setCellsK_eq l (j + 1) _ kk (isE_set h j a)]
    rfl
theorem cellOf_setCells {form s : Nat} : ∀ (l : List AV) (j i : Nat) (v : AV), isE form s v → i < top form → j + l.length ≤ top form →
    cellOf form (setCells form l j v) i = if j ≤ i ∧ i < j + l.length then l.getD (i - j) .u else cellOf form v i
  | [], j, i, v, h, _, _ => by rw [if_neg (by intro h; simp only [List.length_nil] at h; omega)]; rfl
  | a :: l, j, i, v, h, hi, hj => by
    simp only [List.length_cons] at hj ⊢
    show cellOf form (setCells form l (j + 1) (setCell form v j a)) i = _
    rw [cellOf_setCells l (j + 1) i _ (isE_set h j a) hi (by omega), cellOf_set h hi (by omega)]
    by_cases h1 : j + 1 ≤ i ∧ i < j + 1 + l.length
    · rw [if_pos h1, if_pos (by omega), show i - j = (i - (j + 1)) + 1 by omega]
      rfl
    · rw [if_neg h1]
      by_cases h2 : i = j
      · subst h2; rw [if_pos rfl, if_pos (by omega), Nat.sub_self]; rfl
      · rw [if_neg h2, if_neg (by omega)]
theorem isE_empty {f s : Nat} (hf : f ≤ 4) (h0 : f = 0 → s = 1) : isE f s (emptyE f s) := by
  rcases f with _ | _ | _ | _ | _ | f
  · exact h0 rfl
  · rfl
  · rfl
  · rfl
  · rfl
  · omega
theorem get_sub (a b : Nat) {α : Type} : ∀ (t : Tr α (a + b)), True := fun _ => trivial
theorem get3_1 {α : Type} (t : N8 (N8 (N8 α))) {j i : Nat} (hj : j % 64 = 0) (hi : i < 64) :
    Tr.get (α := α) 3 (paK 3 (j + i)) t = Tr.get (α := α) 2 (paK 2 i) (Tr.get (α := N8 (N8 α)) 1 (paK 1 (j / 64)) t) := by
  have e1 : (j + i) / 8 ^ 2 % 8 = j / 64 / 8 ^ 0 % 8 := by simp; omega
  have e2 : paK 2 (j + i) = paK 2 i := by
    rw [← paK_mod 2 (j + i), ← paK_mod 2 i]
    congr 1
    simp; omega
  show Tr.get (α := α) 2 (paK 2 (j + i)) (nget t (D8.ofK ((j + i) / 8 ^ 2 % 8))) = Tr.get (α := α) 2 (paK 2 i) (nget t (D8.ofK (j / 64 / 8 ^ 0 % 8)))
  rw [e1, e2]
theorem get3_2 {α : Type} (t : N8 (N8 (N8 α))) {j i : Nat} (hj : j % 8 = 0) (hi : i < 8) :
    Tr.get (α := α) 3 (paK 3 (j + i)) t = Tr.get (α := α) 1 (paK 1 i) (Tr.get (α := N8 α) 2 (paK 2 (j / 8)) t) := by
  have e1 : (j + i) / 8 ^ 2 % 8 = j / 8 / 8 ^ 1 % 8 := by simp; omega
  have e3 : (j + i) / 8 ^ 1 % 8 = j / 8 / 8 ^ 0 % 8 := by simp; omega
  have e2 : paK 1 (j + i) = paK 1 i := by
    rw [← paK_mod 1 (j + i), ← paK_mod 1 i]
    congr 1
    simp; omega
  show Tr.get (α := α) 1 (paK 1 (j + i)) (nget (nget t (D8.ofK ((j + i) / 8 ^ 2 % 8))) (D8.ofK ((j + i) / 8 ^ 1 % 8))) = Tr.get (α := α) 1 (paK 1 i) (nget (nget t (D8.ofK (j / 8 / 8 ^ 1 % 8))) (D8.ofK (j / 8 / 8 ^ 0 % 8)))
  rw [e1, e2, e3]
theorem get2_1 {α : Type} (t : N8 (N8 α)) {j i : Nat} (hj : j % 8 = 0) (hi : i < 8) :
    Tr.get (α := α) 2 (paK 2 (j + i)) t = Tr.get (α := α) 1 (paK 1 i) (Tr.get (α := N8 α) 1 (paK 1 (j / 8)) t) := by
  have e1 : (j + i) / 8 ^ 1 % 8 = j / 8 / 8 ^ 0 % 8 := by simp; omega
  have e2 : paK 1 (j + i) = paK 1 i := by
    rw [← paK_mod 1 (j + i), ← paK_mod 1 i]
    congr 1
    simp; omega
  show Tr.get (α := α) 1 (paK 1 (j + i)) (nget t (D8.ofK ((j + i) / 8 ^ 1 % 8))) = Tr.get (α := α) 1 (paK 1 i) (nget t (D8.ofK (j / 8 / 8 ^ 0 % 8)))
  rw [e1, e2]
theorem al_iff {form a f b j n : Nat} (h : and_ (Nat.beq form a) (and_ (Nat.beq f b) (Nat.beq (Nat.mod j n) 0)) = true) : form = a ∧ f = b ∧ j % n = 0 := by
  obtain ⟨h1, h2⟩ := and_eq.1 h
  obtain ⟨h2, h3⟩ := and_eq.1 h2
  exact ⟨beq_iff.1 h1, beq_iff.1 h2, beq_iff.1 h3⟩
/-- A part of an element. -/
theorem subK_spec {form es s f j : Nat} {v : AV} (he : isE form es v) (hs : s ≤ top f) (hf : f ≤ 4) (h0 : f = 0 → s = 1) :
    ∃ v', (∀ kk, subK form v j s f kk = kk v') ∧ isE f s v' ∧ ∀ i, i < s → cellOf f v' i = cellOf form v (j + i) := by
  have gen : ∃ v', (∀ kk, (cellsK form v j s fun l => setCellsK f l 0 (emptyE f s) kk) = kk v') ∧ isE f s v' ∧ ∀ i, i < s → cellOf f v' i = cellOf form v (j + i) := by
    have hE := isE_empty hf h0
    refine ⟨setCells f (cellsOf form v j s) 0 (emptyE f s), fun kk => ?_, isE_setCells _ _ _ hE, fun i hi => ?_⟩
    · rw [cellsK_eq he, setCellsK_eq _ _ _ _ hE]
    · rw [cellOf_setCells _ _ _ _ hE (by omega) (by rw [cellsOf_length]; omega), if_pos (by rw [cellsOf_length]; omega), Nat.sub_zero, List.getD_eq_getElem?_getD, cellsOf_get hi]
      rfl
  cases c1 : and_ (Nat.beq form 4) (and_ (Nat.beq f 3) (Nat.beq (Nat.mod j 64) 0)) with
  | true =>
    obtain ⟨rfl, rfl, hj⟩ := al_iff c1
    obtain ⟨t, rfl⟩ := isE4 he
    refine ⟨.a2 s (Tr.get (α := N8 (N8 AV)) 1 (paK 1 (j / 64)) t), fun kk => ?_, rfl, fun i hi => ?_⟩
    · unfold subK; rw [c1]
      exact Tr.g_eq (α := N8 (N8 AV)) 1 (paK 1 (j / 64)) t (fun u => kk (.a2 s u))
    · exact (get3_1 t hj (by have : s ≤ 64 := hs; omega)).symm
  | false =>
  cases c2 : and_ (Nat.beq form 4) (and_ (Nat.beq f 2) (Nat.beq (Nat.mod j 8) 0)) with
  | true =>
    obtain ⟨rfl, rfl, hj⟩ := al_iff c2
    obtain ⟨t, rfl⟩ := isE4 he
    refine ⟨.a1 s (Tr.get (α := N8 AV) 2 (paK 2 (j / 8)) t), fun kk => ?_, rfl, fun i hi => ?_⟩
    · unfold subK; rw [c1, c2]
      exact Tr.g_eq (α := N8 AV) 2 (paK 2 (j / 8)) t (fun u => kk (.a1 s u))
    · exact (get3_2 t hj (by have : s ≤ 8 := hs; omega)).symm
  | false =>
  cases c3 : and_ (Nat.beq form 3) (and_ (Nat.beq f 2) (Nat.beq (Nat.mod j 8) 0)) with
  | true =>
    obtain ⟨rfl, rfl, hj⟩ := al_iff c3
    obtain ⟨t, rfl⟩ := isE3 he
    refine ⟨.a1 s (Tr.get (α := N8 AV) 1 (paK 1 (j / 8)) t), fun kk => ?_, rfl, fun i hi => ?_⟩
    · unfold subK; rw [c1, c2, c3]
      exact Tr.g_eq (α := N8 AV) 1 (paK 1 (j / 8)) t (fun u => kk (.a1 s u))
    · exact (get2_1 t hj (by have : s ≤ 8 := hs; omega)).symm
  | false =>
    obtain ⟨v', h1, h2, h3⟩ := gen
    refine ⟨v', fun kk => ?_, h2, h3⟩
    unfold subK; rw [c1, c2, c3]
    exact h1 kk
/-- An element's cells are laid into an element. -/
theorem setSubK_spec {form es s f j : Nat} {v x : AV} (he : isE form es v) (hx : isE f s x) (hes : es ≤ top form) (hj : j + s ≤ es) (hs : s ≤ top f) :
    ∃ v', (∀ kk, setSubK form v j s f x kk = kk v') ∧ isE form es v' ∧ ∀ i, i < es → cellOf form v' i = if j ≤ i ∧ i < j + s then cellOf f x (i - j) else cellOf form v i := by
  have gen : ∃ v', (∀ kk, (cellsK f x 0 s fun l => setCellsK form l j v kk) = kk v') ∧ isE form es v' ∧ ∀ i, i < es → cellOf form v' i = if j ≤ i ∧ i < j + s then cellOf f x (i - j) else cellOf form v i := by
    refine ⟨setCells form (cellsOf f x 0 s) j v, fun kk => ?_, isE_setCells _ _ _ he, fun i hi => ?_⟩
    · rw [cellsK_eq hx, setCellsK_eq _ _ _ _ he]
    · rw [cellOf_setCells _ _ _ _ he (by omega) (by rw [cellsOf_length]; omega), cellsOf_length]
      by_cases hc : j ≤ i ∧ i < j + s
      · rw [if_pos hc, if_pos hc, List.getD_eq_getElem?_getD, cellsOf_get (by omega), Nat.zero_add]
        rfl
      · rw [if_neg hc, if_neg hc]
  cases c1 : and_ (Nat.beq s 64) (and_ (Nat.beq form 4) (and_ (Nat.beq f 3) (Nat.beq (Nat.mod j 64) 0))) with
  | true =>
    obtain ⟨c0, c2⟩ := and_eq.1 c1
    have c0 := beq_iff.1 c0
    subst c0
    obtain ⟨rfl, rfl, hj0⟩ := al_iff c2
    obtain ⟨t, rfl⟩ := isE4 he
    obtain ⟨u, rfl⟩ := isE3 hx
    refine ⟨.a3 es (Tr.set (α := N8 (N8 AV)) 1 (paK 1 (j / 64)) t u), fun kk => ?_, rfl, fun i hi => ?_⟩
    · unfold setSubK; rw [c1]
      exact Tr.s_eq (α := N8 (N8 AV)) 1 (paK 1 (j / 64)) t (fun _ k => k u) (fun t => kk (.a3 es t))
    · have hes : es ≤ 512 := hes
      show Tr.get (α := AV) 3 (paK 3 i) (Tr.set (α := N8 (N8 AV)) 1 (paK 1 (j / 64)) t u) = if j ≤ i ∧ i < j + 64 then Tr.get (α := AV) 2 (paK 2 (i - j)) u else Tr.get (α := AV) 3 (paK 3 i) t
      have hi3 : i = i / 64 * 64 + i % 64 := by omega
      have q1 : Tr.get (α := AV) 3 (paK 3 i) (Tr.set (α := N8 (N8 AV)) 1 (paK 1 (j / 64)) t u) = Tr.get (α := AV) 2 (paK 2 (i % 64)) (Tr.get (α := N8 (N8 AV)) 1 (paK 1 (i / 64)) (Tr.set (α := N8 (N8 AV)) 1 (paK 1 (j / 64)) t u)) := by
        have := get3_1 (Tr.set (α := N8 (N8 AV)) 1 (paK 1 (j / 64)) t u) (j := i / 64 * 64) (i := i % 64) (by omega) (by omega)
        rw [← hi3, show i / 64 * 64 / 64 = i / 64 by omega] at this
        exact this
      have q2 : Tr.get (α := AV) 3 (paK 3 i) t = Tr.get (α := AV) 2 (paK 2 (i % 64)) (Tr.get (α := N8 (N8 AV)) 1 (paK 1 (i / 64)) t) := by
        have := get3_1 t (j := i / 64 * 64) (i := i % 64) (by omega) (by omega)
        rw [← hi3, show i / 64 * 64 / 64 = i / 64 by omega] at this
        exact this
      rw [q1, Tr.get_set 1 t u (by show i / 64 < 8; omega) (by show j / 64 < 8; omega)]
      by_cases hc : j ≤ i ∧ i < j + 64
      · rw [if_pos hc, if_pos (by omega), show i - j = i % 64 by omega]
      · rw [if_neg hc, if_neg (by omega), q2]
  | false =>
    obtain ⟨v', h1, h2, h3⟩ := gen
    refine ⟨v', fun kk => ?_, h2, h3⟩
    unfold setSubK; rw [c1]
    exact h1 kk
end
end Go.Proofs.YteefpemaeecicaaGreatDoor.Ev
end
section
open Go
namespace Go.Proofs.YteefpemaeecicaaGreatDoor.Ev
set_option linter.unusedVariables false
set_option linter.unusedSimpArgs false
set_option linter.constructorNameAsVariable false
noncomputable section
theorem compK_yes {form j : Nat} {v : AV} {kk : AV → Ans} (h : compK form v j kk = .yes) : kk (cellOf form v j) = .yes ∧ (form ≠ 0 → ∃ s, isE form s v) := by
  rcases form with _ | _ | _ | _ | _ | form
  · exact ⟨h, fun e => (e rfl).elim⟩
  · obtain ⟨s, x, rfl, h1⟩ := inv_a0 h; exact ⟨h1, fun _ => ⟨s, rfl⟩⟩
  · obtain ⟨s, x, rfl, h1⟩ := inv_a1 h
    have h2 : Tr.g (α := AV) 1 (paK 1 j) x kk = .yes := h1
    rw [Tr.g_eq] at h2; exact ⟨h2, fun _ => ⟨s, rfl⟩⟩
  · obtain ⟨s, x, rfl, h1⟩ := inv_a2 h
    have h2 : Tr.g (α := AV) 2 (paK 2 j) x kk = .yes := h1
    rw [Tr.g_eq] at h2; exact ⟨h2, fun _ => ⟨s, rfl⟩⟩
  · obtain ⟨s, x, rfl, h1⟩ := inv_a3 h
    have h2 : Tr.g (α := AV) 3 (paK 3 j) x kk = .yes := h1
    rw [Tr.g_eq] at h2; exact ⟨h2, fun _ => ⟨s, rfl⟩⟩
  · cases h
theorem setCompK_yes {form j : Nat} {v x : AV} {kk : AV → Ans} (h : setCompK form v j x kk = .yes) : kk (setCell form v j x) = .yes ∧ (form ≠ 0 → ∃ s, isE form s v) := by
  rcases form with _ | _ | _ | _ | _ | form
  · exact ⟨h, fun e => (e rfl).elim⟩
  · obtain ⟨s, y, rfl, h1⟩ := inv_a0 h; exact ⟨h1, fun _ => ⟨s, rfl⟩⟩
  · obtain ⟨s, y, rfl, h1⟩ := inv_a1 h
    have h2 : Tr.s (α := AV) 1 (paK 1 j) y (fun _ k => k x) (fun t => kk (.a1 s t)) = .yes := h1
    rw [Tr.s_eq] at h2; exact ⟨h2, fun _ => ⟨s, rfl⟩⟩
  · obtain ⟨s, y, rfl, h1⟩ := inv_a2 h
    have h2 : Tr.s (α := AV) 2 (paK 2 j) y (fun _ k => k x) (fun t => kk (.a2 s t)) = .yes := h1
    rw [Tr.s_eq] at h2; exact ⟨h2, fun _ => ⟨s, rfl⟩⟩
  · obtain ⟨s, y, rfl, h1⟩ := inv_a3 h
    have h2 : Tr.s (α := AV) 3 (paK 3 j) y (fun _ k => k x) (fun t => kk (.a3 s t)) = .yes := h1
    rw [Tr.s_eq] at h2; exact ⟨h2, fun _ => ⟨s, rfl⟩⟩
  · cases h
/-- Whether an element has a form at all. -/
theorem isE_any {form s : Nat} {v : AV} (hf : form = 0 → s = 1) (h : form ≠ 0 → ∃ s, isE form s v) : ∃ s, isE form s v := by
  by_cases e : form = 0
  · subst e; exact ⟨1, rfl⟩
  · exact h e
theorem cellsK_yes {form j cnt : Nat} {v : AV} {kk : List AV → Ans} (h : cellsK form v j cnt kk = .yes) : kk (cellsOf form v j cnt) = .yes := by
  have gen : ∀ (cnt : Nat) (acc : List AV), (nrec cnt (fun acc => kk acc) (fun i ih acc => compK form v (Nat.add j i) fun x => ih (x :: acc)) : List AV → Ans) acc = .yes → kk (cellsOf form v j cnt ++ acc) = .yes := by
    intro cnt
    induction cnt with
    | zero => intro acc h; exact h
    | succ n ih =>
      intro acc h
      have h1 := (compK_yes (form := form) (j := Nat.add j n) (v := v) (kk := fun x => (nrec n (fun acc => kk acc) (fun i ih acc => compK form v (Nat.add j i) fun x => ih (x :: acc)) : List AV → Ans) (x :: acc)) h).1
      have h2 := ih _ h1
      rw [cellsOf, List.range_succ, List.map_append, List.append_assoc]
      exact h2
  have := gen cnt [] h
  rwa [List.append_nil] at this
theorem setCellsK_yes {form : Nat} {kk : AV → Ans} : ∀ (l : List AV) (j : Nat) (v : AV), setCellsK form l j v kk = .yes → kk (setCells form l j v) = .yes
  | [], _, _, h => h
  | a :: l, j, v, h => by
    have h1 := (setCompK_yes (form := form) (j := j) (v := v) (x := a) (kk := fun v => setCellsK form l (Nat.succ j) v kk) h).1
    exact setCellsK_yes l (j + 1) _ h1
/-- A part of an element, as the reckoning finds it. -/
def subV (form : Nat) (v : AV) (j s f : Nat) : AV :=
  bif_ (and_ (Nat.beq form 4) (and_ (Nat.beq f 3) (Nat.beq (Nat.mod j 64) 0))) (match v with | .a3 _ t => .a2 s (Tr.get (α := N8 (N8 AV)) 1 (paK 1 (Nat.div j 64)) t) | _ => .u)
  (bif_ (and_ (Nat.beq form 4) (and_ (Nat.beq f 2) (Nat.beq (Nat.mod j 8) 0))) (match v with | .a3 _ t => .a1 s (Tr.get (α := N8 AV) 2 (paK 2 (Nat.div j 8)) t) | _ => .u)
  (bif_ (and_ (Nat.beq form 3) (and_ (Nat.beq f 2) (Nat.beq (Nat.mod j 8) 0))) (match v with | .a2 _ t => .a1 s (Tr.get (α := N8 AV) 1 (paK 1 (Nat.div j 8)) t) | _ => .u)
  (setCells f (cellsOf form v j s) 0 (emptyE f s))))
theorem subK_yes {form j s f : Nat} {v : AV} {kk : AV → Ans} (h : subK form v j s f kk = .yes) : kk (subV form v j s f) = .yes := by
  unfold subV
  rcases inv_bif h with ⟨e, h1⟩ | ⟨e, h1⟩
  · obtain ⟨s', t, rfl, h2⟩ := inv_a3 h1
    rw [e]
    have h3 : Tr.g (α := N8 (N8 AV)) 1 (paK 1 (Nat.div j 64)) t (fun u => kk (.a2 s u)) = .yes := h2
    rw [Tr.g_eq] at h3; exact h3
  · rw [e]
    rcases inv_bif h1 with ⟨e, h1⟩ | ⟨e, h1⟩
    · obtain ⟨s', t, rfl, h2⟩ := inv_a3 h1
      rw [e]
      have h3 : Tr.g (α := N8 AV) 2 (paK 2 (Nat.div j 8)) t (fun u => kk (.a1 s u)) = .yes := h2
      rw [Tr.g_eq] at h3; exact h3
    · rw [e]
      rcases inv_bif h1 with ⟨e, h1⟩ | ⟨e, h1⟩
      · obtain ⟨s', t, rfl, h2⟩ := inv_a2 h1
        rw [e]
        have h3 : Tr.g (α := N8 AV) 1 (paK 1 (Nat.div j 8)) t (fun u => kk (.a1 s u)) = .yes := h2
        rw [Tr.g_eq] at h3; exact h3
      · rw [e]
        exact setCellsK_yes _ _ _ (cellsK_yes h1)
theorem subV_spec {form es s f j : Nat} {v : AV} (he : isE form es v) (hs : s ≤ top f) (hf : f ≤ 4) (h0 : f = 0 → s = 1) :
    isE f s (subV form v j s f) ∧ ∀ i, i < s → cellOf f (subV form v j s f) i = cellOf form v (j + i) := by
  obtain ⟨v', h1, h2, h3⟩ := subK_spec (j := j) he hs hf h0
  have inj : ∀ (a b : AV), (∀ kk : AV → Ans, kk a = .yes → kk b = .yes) → a = b := by
    intro a b h
    classical
    have := h (fun x => if x = a then .yes else .no) (by simp)
    by_cases e : b = a
    · exact e.symm
    · simp [e] at this
  have : v' = subV form v j s f := inj _ _ fun kk hk => subK_yes (by rw [h1]; exact hk)
  rw [← this]
  exact ⟨h2, h3⟩
def setSubV (form : Nat) (v : AV) (j s f : Nat) (x : AV) : AV :=
  bif_ (and_ (Nat.beq s 64) (and_ (Nat.beq form 4) (and_ (Nat.beq f 3) (Nat.beq (Nat.mod j 64) 0)))) (match v, x with | .a3 s' t, .a2 _ u => .a3 s' (Tr.set (α := N8 (N8 AV)) 1 (paK 1 (Nat.div j 64)) t u) | _, _ => .u)
  (setCells form (cellsOf f x 0 s) j v)
theorem setSubK_yes {form j s f : Nat} {v x : AV} {kk : AV → Ans} (h : setSubK form v j s f x kk = .yes) : kk (setSubV form v j s f x) = .yes := by
  unfold setSubV
  rcases inv_bif h with ⟨e, h1⟩ | ⟨e, h1⟩
  · obtain ⟨s', t, rfl, h2⟩ := inv_a3 h1
    obtain ⟨s2, u, rfl, h3⟩ := inv_a2 h2
    rw [e]
    have h4 : Tr.s (α := N8 (N8 AV)) 1 (paK 1 (Nat.div j 64)) t (fun _ k => k u) (fun t => kk (.a3 s' t)) = .yes := h3
    rw [Tr.s_eq] at h4; exact h4
  · rw [e]
    exact setCellsK_yes _ _ _ (cellsK_yes h1)
theorem setSubV_spec {form es s f j : Nat} {v x : AV} (he : isE form es v) (hx : isE f s x) (hes : es ≤ top form) (hj : j + s ≤ es) (hs : s ≤ top f) :
    isE form es (setSubV form v j s f x) ∧ ∀ i, i < es → cellOf form (setSubV form v j s f x) i = if j ≤ i ∧ i < j + s then cellOf f x (i - j) else cellOf form v i := by
  obtain ⟨v', h1, h2, h3⟩ := setSubK_spec (j := j) he hx hes hj hs
  have inj : ∀ (a b : AV), (∀ kk : AV → Ans, kk a = .yes → kk b = .yes) → a = b := by
    intro a b h
    classical
    have := h (fun x => if x = a then .yes else .no) (by simp)
    by_cases e : b = a
    · exact e.symm
    · simp [e] at this
  have : v' = setSubV form v j s f x := inj _ _ fun kk hk => setSubK_yes (by rw [h1]; exact hk)
  rw [← this]
  exact ⟨h2, h3⟩
/-! ### Places in a row -/
theorem divmod {off i es : Nat} (h : off % es + i < es) : (off + i) / es = off / es ∧ (off + i) % es = off % es + i := by
  have e : off + i = off % es + i + es * (off / es) := by have := Nat.div_add_mod off es; omega
  rw [e, Nat.add_mul_div_left _ _ (by omega), Nat.add_mul_mod_self_left, Nat.div_eq_of_lt h, Nat.mod_eq_of_lt h]
  omega
section
variable {μ : Mp} {arr : Array Value} {fr : Nat × Nat} {n es form ke : Nat} {t : Tr AV ke} {bk : Bk}
theorem CellsR.q_lt [Rho] (h : CellsR μ arr fr n es form ke t bk) {i : Nat} (hi : i < n) : i / es < 8 ^ ke := by
  have := h.hnk
  rw [Nat.div_lt_iff_lt_mul h.hpos, Nat.mul_comm]
  omega
theorem CellsR.q_mul [Rho] (h : CellsR μ arr fr n es form ke t bk) {i : Nat} (hi : i < n) : i / es * es < n := by
  have := Nat.div_mul_le_self i es
  omega
/-- Cells are written. -/
theorem CellsR.write [Rho] {l : List Value} {off : Nat} {t' : Tr AV ke} (h : CellsR μ arr fr n es form ke t bk) (hl : off + l.length ≤ n)
    (hleaf : ∀ q, q * es < n → isE form es (Tr.get (α := AV) ke (paK ke q) t'))
    (hold : ∀ i, i < n → ¬ (off ≤ i ∧ i < off + l.length) → cellOf form (Tr.get (α := AV) ke (paK ke (i / es)) t') (i % es) = cellOf form (Tr.get (α := AV) ke (paK ke (i / es)) t) (i % es))
    (hnew : ∀ i, i < l.length → ∃ c, l[i]? = some c ∧ oneC c = true ∧ VR μ (cellOf form (Tr.get (α := AV) ke (paK ke ((off + i) / es)) t') ((off + i) % es)) c) :
    CellsR μ (wrA arr off l) fr n es form ke t' bk := by
  have hs := h.hsize
  have hn := h.hn
  refine { hsize := by rw [wrA_size]; exact h.hsize, hes := h.hes, hpos := h.hpos, hform := h.hform, htop := h.htop, hform0 := h.hform0, hn := h.hn, hnk := h.hnk, hfroz := h.hfroz, hleaf := hleaf, hcell := fun i hi => ?_ }
  rw [wrA_get l arr off i (by omega)]
  by_cases hc : off ≤ i ∧ i < off + l.length
  · rw [if_pos hc]
    obtain ⟨c, h1, h2, h3⟩ := hnew (i - off) (by omega)
    rw [show off + (i - off) = i by omega] at h3
    exact ⟨c, h1, h2, h3⟩
  · rw [if_neg hc, hold i hi hc]
    exact h.hcell i hi
end
end
end Go.Proofs.YteefpemaeecicaaGreatDoor.Ev
end
section
open Go
namespace Go.Proofs.YteefpemaeecicaaGreatDoor.Ev
set_option linter.unusedVariables false
set_option linter.unusedSimpArgs false
set_option linter.constructorNameAsVariable false
noncomputable section
/-- An operation that reads; one that does something. -/
def L1 [Rho] (P : Program) (F : AV → Hp → (AV → Ans) → Ans) (f : Value → Sem Value) : Prop :=
  ∀ x h kk, F x h kk = .yes → ∃ v, kk v = .yes ∧ ∀ K μ w x', MR K μ h w → VR μ x x' → ∃ v', VR μ v v' ∧ (f x').run P w = .ok v' w
def L2 [Rho] (P : Program) (F : AV → AV → Hp → (AV → Ans) → Ans) (f : Value → Value → Sem Value) : Prop :=
  ∀ x y h kk, F x y h kk = .yes → ∃ v, kk v = .yes ∧ ∀ K μ w x' y', MR K μ h w → VR μ x x' → VR μ y y' → ∃ v', VR μ v v' ∧ (f x' y').run P w = .ok v' w
def W1 [Rho] (P : Program) (F : AV → Hp → (AV → Hp → Ans) → Ans) (f : Value → Sem Value) : Prop :=
  ∀ x h kk, F x h kk = .yes → ∃ v h', kk v h' = .yes ∧ ∀ K μ w x', MR K μ h w → VR μ x x' → ∃ μ' v' w', (f x').run P w = .ok v' w' ∧ Ext μ μ' ∧ VR μ' v v' ∧ MR K μ' h' w'
def W2 [Rho] (P : Program) (F : AV → AV → Hp → (AV → Hp → Ans) → Ans) (f : Value → Value → Sem Value) : Prop :=
  ∀ x y h kk, F x y h kk = .yes → ∃ v h', kk v h' = .yes ∧ ∀ K μ w x' y', MR K μ h w → VR μ x x' → VR μ y y' → ∃ μ' v' w', (f x' y').run P w = .ok v' w' ∧ Ext μ μ' ∧ VR μ' v v' ∧ MR K μ' h' w'
def W3 [Rho] (P : Program) (F : AV → AV → AV → Hp → (AV → Hp → Ans) → Ans) (f : Value → Value → Value → Sem Value) : Prop :=
  ∀ x y z h kk, F x y z h kk = .yes → ∃ v h', kk v h' = .yes ∧ ∀ K μ w x' y' z', MR K μ h w → VR μ x x' → VR μ y y' → VR μ z z' → ∃ μ' v' w', (f x' y' z').run P w = .ok v' w' ∧ Ext μ μ' ∧ VR μ' v v' ∧ MR K μ' h' w'
theorem inj_kk {a b : AV} (h : ∀ kk : AV → Ans, kk a = .yes → kk b = .yes) : a = b := by
  classical
  have := h (fun x => if x = a then .yes else .no) (by simp)
  by_cases e : b = a
  · exact e.symm
  · simp [e] at this
theorem VR.undef [Rho] (μ : Mp) : VR μ (.tu []) undef := .tu [] #[] rfl (fun i u c h => by simp at h)
section
variable {P : Program} {T : Ty}
theorem loadCells_list {w : World} {g off : Nat} (cs : List Value) (h : ∀ (j : Nat) v, cs[j]? = some v → w.cell? ⟨g, off + j, none⟩ = some v) :
    (loadCells ⟨g, off, none⟩ cs.length).run P w = .ok cs.toArray w :=
  run_loadCells_list (P := P) w ⟨g, off, none⟩ cs (fun j v hv => by rw [addr_add]; exact h j v hv)
/-- What stands in a row from a place on. -/
theorem CellsR.slice [Rho] {μ : Mp} {arr : Array Value} {fr : Nat × Nat} {n es form ke : Nat} {t : Tr AV ke} {bk : Bk} (h : CellsR μ arr fr n es form ke t bk) (off : Nat) :
    ∀ (cnt : Nat), off + cnt ≤ n → ∃ cs : List Value, cs.length = cnt ∧ (∀ (j : Nat) v, cs[j]? = some v → arr[off + j]? = some v ∧ oneC v = true ∧ VR μ (cellOf form (Tr.get (α := AV) ke (paK ke ((off + j) / es)) t) ((off + j) % es)) v)
  | 0, _ => ⟨[], rfl, fun j v e => by simp at e⟩
  | cnt + 1, hl => by
    obtain ⟨cs, h1, h2⟩ := h.slice off cnt (by omega)
    obtain ⟨c, h3, h4, h5⟩ := h.hcell (off + cnt) (by omega)
    refine ⟨cs ++ [c], by simp [h1], fun j v e => ?_⟩
    rw [List.getElem?_append] at e
    by_cases hj : j < cs.length
    · rw [if_pos hj] at e; exact h2 j v e
    · rw [if_neg hj] at e
      have : j = cnt := by
        rcases Nat.lt_or_ge (j - cs.length) 1 with hh | hh
        · omega
        · rw [List.getElem?_eq_none (by simpa using hh)] at e; cases e
      subst this
      rw [h1, Nat.sub_self] at e
      cases e
      exact ⟨h3, h4, h5⟩
theorem load1_l1 [Rho] {t : TypeId} {s : Nat} (hT : TyOk P T) (hs : shp T t = some (s, 0)) : L1 P fLoad1 (fun x => Instr.loadAt t x) := by
  intro x h kk hy
  obtain ⟨m, c⟩ := h
  rcases inv_py_ hy with ⟨nm, off, rfl, h1⟩ | ⟨j, e, rfl, h5⟩
  rotate_left
  · obtain ⟨h1, h2⟩ := inv_if h5
    obtain ⟨h3, h4⟩ := and_eq.1 h1
    refine ⟨_, h2, fun K μ w x' hr hx => ?_⟩
    obtain ⟨k, a, rfl, rfl, q1⟩ := hx.yp_inv (ble_iff.1 h3)
    obtain ⟨b, off, arr, ty, fr, q2, q3, q4⟩ := q1.resolve_left (by simp)
    cases q2
    have q5 := q4 0 _ rfl
    rw [Nat.add_zero] at q5
    have ha := hr.keep _ _ (hr.inp _ _ q3).2
    obtain ⟨_, _, _, _, _, hagg, _⟩ := shp_spec (w := w) hT hs
    refine ⟨_, (by show VR μ (.y (24 + kc k - 24) e) _; rw [Nat.add_sub_cancel_left]; exact .y k e), ?_⟩
    have hcell : w.cell? ⟨b, off, none⟩ = some (.int k (k.wrap (den e % km k : Nat))) := by rw [cell_of_row w _ _ arr ty fr ha, q5]
    simp [Instr.loadAt, Instr.sureAddr, loadVar, hagg, hcell]
  obtain ⟨ty, op, n, es, form, ke, tr, hm, h2⟩ := inv_cells h1
  obtain ⟨hn, h3⟩ := inv_if h2
  have hn : off + 1 ≤ n := ble_iff.1 hn
  have key : kk (cellOf form (Tr.get (α := AV) ke (paK ke (off / es)) tr) (off % es)) = .yes := by
    rcases inv_bif h3 with ⟨e, h4⟩ | ⟨e, h4⟩
    · rw [Tr.g_eq] at h4
      have e := beq_iff.1 e
      rw [e, Nat.div_one, Nat.mod_one]
      exact (compK_yes h4).1
    · rw [Tr.g_eq] at h4
      exact (compK_yes h4).1
  refine ⟨_, key, fun K μ w x' hr hx => ?_⟩
  obtain ⟨bk, hb, rfl⟩ := hx.p_inv
  obtain ⟨arr, fr, ha, hc⟩ := hr.cells hm hb
  obtain ⟨v, h5, h6, h7⟩ := hc.hcell off (by omega)
  refine ⟨v, h7, ?_⟩
  obtain ⟨_, _, _, _, _, hagg, _⟩ := shp_spec (w := w) hT hs
  have hcell : w.cell? ⟨bk.blk, off, none⟩ = some v := by rw [cell_of_row w _ _ arr ty fr ha, h5]
  simp [Instr.loadAt, Instr.sureAddr, loadVar, hagg, hcell]
theorem same_place {off s es : Nat} (hp : 0 < es) (h1 : es = s) (h2 : off % es = 0) {i : Nat} (hi : i < s) : (off + i) / es = off / es ∧ (off + i) % es = i := by
  have := divmod (off := off) (i := i) (es := es) (by omega)
  rw [h2, Nat.zero_add] at this
  exact this
theorem loadA_l1 [Rho] {t : TypeId} {s f : Nat} (hT : TyOk P T) (hs : shp T t = some (s, f + 1)) : L1 P (fLoadA s (f + 1)) (fun x => Instr.loadAt t x) := by
  intro x h kk hy
  obtain ⟨m, c⟩ := h
  obtain ⟨nm, off, rfl, h1⟩ := inv_p hy
  obtain ⟨ty, op, n, es, form, ke, tr, hm, h2⟩ := inv_cells h1
  obtain ⟨hn, h3⟩ := inv_if h2
  have hn : off + s ≤ n := ble_iff.1 hn
  obtain ⟨v, hv, hspec⟩ : ∃ v, kk v = .yes ∧ ∀ μ arr fr bk, CellsR μ arr fr n es form ke tr bk → 0 < s → s ≤ top (f + 1) → f + 1 ≤ 4 → isE (f + 1) s v ∧ ∀ i, i < s → cellOf (f + 1) v i = cellOf form (Tr.get (α := AV) ke (paK ke ((off + i) / es)) tr) ((off + i) % es) := by
    rcases inv_bif h3 with ⟨e, h4⟩ | ⟨e, h4⟩
    · obtain ⟨e1, e2⟩ := and_eq.1 e
      have e1 := beq_iff.1 e1
      have e2 := beq_iff.1 e2
      obtain ⟨e3, h5⟩ := inv_if h4
      have e3 : off % es = 0 := beq_iff.1 e3
      rw [Tr.g_eq] at h5
      refine ⟨_, h5, fun μ arr fr bk hc hs0 hs1 hf => ?_⟩
      have hle := hc.hleaf (off / es) (hc.q_mul (by omega))
      subst e1; subst e2
      refine ⟨hle, fun i hi => ?_⟩
      obtain ⟨q1, q2⟩ := same_place hc.hpos rfl e3 hi
      rw [q1, q2]; rfl
    · obtain ⟨e3, h5⟩ := inv_if h4
      have e3 : off % es + s ≤ es := ble_iff.1 e3
      rw [Tr.g_eq] at h5
      refine ⟨_, subK_yes h5, fun μ arr fr bk hc hs0 hs1 hf => ?_⟩
      have hle := hc.hleaf (off / es) (hc.q_mul (by omega))
      obtain ⟨g1, g2⟩ := subV_spec (j := off % es) hle hs1 hf (fun e => by omega)
      refine ⟨g1, fun i hi => ?_⟩
      obtain ⟨q1, q2⟩ := divmod (off := off) (i := i) (es := es) (by omega)
      rw [q1, q2]
      exact g2 i hi
  refine ⟨v, hv, fun K μ w x' hr hx => ?_⟩
  obtain ⟨bk, hb, rfl⟩ := hx.p_inv
  obtain ⟨arr, fr, ha, hc⟩ := hr.cells hm hb
  obtain ⟨⟨i, hi, hsz⟩, hs0, hs1, hf4, _, hagg, _⟩ := shp_spec (w := w) hT hs
  obtain ⟨g1, g2⟩ := hspec μ arr fr bk hc hs0 hs1 hf4
  obtain ⟨cs, k1, k2⟩ := hc.slice off s hn
  have hget : ∀ (j : Nat) d, cs.toArray[j]? = some d → cs[j]? = some d := fun j d hd => by simpa using hd
  refine ⟨.agg cs.toArray, VR.agg_mk (by omega) g1 (by simp [k1]) hs1 (fun j d hd => (k2 j d (hget j d hd)).2.1) (fun j d hd => ?_), ?_⟩
  · have hj : j < s := by
      rcases Nat.lt_or_ge j cs.length with hl | hl
      · omega
      · have := hget j d hd; rw [List.getElem?_eq_none hl] at this; cases this
    rw [g2 j hj]
    exact (k2 j d (hget j d hd)).2.2
  · have hl : (loadCells ⟨bk.blk, off, none⟩ s).run P w = .ok cs.toArray w := by
      have := loadCells_list (P := P) (w := w) (g := bk.blk) (off := off) cs (fun j v hv => by
        rw [cell_of_row w _ _ arr ty fr ha]; exact (k2 j v hv).1)
      rwa [k1] at this
    have hagg' : (Go.isAgg t).run P w = .ok true w := hagg
    simp [Instr.loadAt, Instr.sureAddr, loadVar, hagg', run_size hi, hsz, hl]
/-! ### Stores -/
theorem run_storeVar {t : TypeId} {i : TypeInfo} (hi : P.info? t = some i) {w : World} {g off : Nat} {v : Value} {arr : Array Value} {ty : TypeId} {fr : Nat × Nat}
    (ha : w.heap[g]? = some (.cells arr ty fr)) (hsz : v.cells.size = i.size) (hl : off + i.size ≤ arr.size) (h1 : ∀ (j : Nat) c, v.cells[j]? = some c → oneC c = true) (hf : ∀ j, fr.1 ≤ j → j < fr.2 → arr.size ≤ j) :
    (do Instr.storeAt t (.pointer (some ⟨g, off, none⟩)) v; pure undef : Sem Value).run P w = .ok undef (setR w g (.cells (wrA arr off v.cells.toList) ty fr)) := by
  have h := run_storeCells (P := P) off v.cells.toList w arr 0 ha (by simp [hsz]; omega) (fun u hu => by
    obtain ⟨j, hj⟩ := List.mem_iff_getElem?.1 hu
    exact h1 j u (by simpa using hj)) hf
  rw [Nat.add_zero] at h
  simp [Instr.storeAt, Instr.sureAddr, storeVar, run_size hi, hsz, h]
/-- A row that is written belongs to a memory that is written. -/
theorem MR.write [Rho] {K : Kp} {μ : Mp} {m : Mem} {c : Nm} {w : World} (hr : MR K μ ⟨m, c⟩ w) {nm : Nm} {bk : Bk} (hb : μ nm = some bk) {ty : Nat} {op : Bool} {n es form ke : Nat} {t t' : Tr AV ke}
    (hm : Mem.at nm m = .cells ty op n es form ke t) {arr arr' : Array Value} {fr fr' : Nat × Nat} (ha : w.heap[bk.blk]? = some (.cells arr ty fr)) (hc : CellsR μ arr' fr' n es form ke t' bk) :
    MR K μ ⟨Mem.to nm m (.cells ty op n es form ke t'), c⟩ (setR w bk.blk (.cells arr' ty fr')) :=
  hr.upd (by rw [hm]; intro e; cases e) hb rfl rfl rfl setR_size (fun a ha => setR_ne ha) ⟨arr', fr', setR_same ha, hc⟩
theorem store1_w2 [Rho] {t : TypeId} {s : Nat} (hT : TyOk P T) (hs : shp T t = some (s, 0)) : W2 P fStore1 (fun a x => do Instr.storeAt t a x; pure undef) := by
  intro x y h kk hy
  obtain ⟨m, c⟩ := h
  obtain ⟨nm, off, rfl, h1⟩ := inv_p hy
  obtain ⟨ty, op, n, es, form, ke, tr, hm, h2⟩ := inv_cells h1
  obtain ⟨hn, h3⟩ := inv_if h2
  obtain ⟨hn, hcell⟩ := and_eq.1 hn
  have hn : off + 1 ≤ n := ble_iff.1 hn
  rw [Tr.s_eq] at h3
  have h4 := (setCompK_yes h3).1
  refine ⟨.tu [], ⟨Mem.to nm m (.cells ty op n es form ke (Tr.set (α := AV) ke (paK ke (off / es)) tr (setCell form (Tr.get (α := AV) ke (paK ke (off / es)) tr) (off % es) y))), c⟩, h4, fun K μ w x' y' hr hx hy => ?_⟩
  obtain ⟨bk, hb, rfl⟩ := hx.p_inv
  obtain ⟨arr, fr, ha, hc⟩ := hr.cells hm hb
  have ho := isCell_one hcell hy
  have hcs : y'.cells = #[y'] := by cases y' <;> first | rfl | cases ho
  obtain ⟨⟨i, hi, hsz⟩, _, _, _, hs0, _, _⟩ := shp_spec (w := w) hT hs
  have hs1 := hs0 rfl
  have hrun := run_storeVar (P := P) hi (w := w) (g := bk.blk) (off := off) (v := y') ha (by rw [hcs]; simp; omega) (by have := hc.hn; have := hc.hsize; omega)
    (fun j d hd => by rw [hcs] at hd; cases j with | zero => simp at hd; subst hd; exact ho | succ j => simp at hd) (fun j a b => by rw [hc.hsize]; exact hc.froz j a b)
  have hle := hc.hleaf (off / es) (hc.q_mul (by omega))
  have hq := hc.q_lt (i := off) (by omega)
  have hmo : off % es < es := Nat.mod_lt _ hc.hpos
  refine ⟨μ, undef, _, hrun, Ext.refl μ, VR.undef μ, hr.write hb hm ha ?_⟩
  rw [hcs]
  refine hc.write (l := [y']) (by simpa using hn) (fun q hq' => ?_) (fun j hj hne => ?_) (fun j hj => ?_)
  · have hq2 : q < 8 ^ ke := by have := hc.hnk; have := hc.hpos; rcases Nat.lt_or_ge q (8 ^ ke) with h | h; exact h; have := Nat.mul_le_mul_left es h; rw [Nat.mul_comm q es] at hq'; omega
    rw [Tr.get_set ke tr _ hq2 hq]
    split
    · exact isE_set hle _ _
    · exact hc.hleaf q hq'
  · simp only [List.length_singleton] at hne
    rw [Tr.get_set ke tr _ (hc.q_lt hj) hq]
    split
    · rename_i e
      have hjm : j % es < es := Nat.mod_lt _ hc.hpos
      have ht := hc.htop
      rw [cellOf_set hle (by omega) (by omega), e]
      have : ¬ (j % es = off % es) := fun e2 => hne (by
        have a := Nat.div_add_mod j es
        have b := Nat.div_add_mod off es
        rw [e, e2] at a
        omega)
      rw [if_neg this]
    · rfl
  · simp only [List.length_singleton] at hj
    have : j = 0 := by omega
    subst this
    have ht := hc.htop
    refine ⟨y', rfl, ho, ?_⟩
    rw [Nat.add_zero, Tr.get_set ke tr _ hq hq, if_pos rfl, cellOf_set hle (by omega) (by omega), if_pos rfl]
    exact hy
theorem storeA_w2 [Rho] {t : TypeId} {s f : Nat} (hT : TyOk P T) (hs : shp T t = some (s, f + 1)) : W2 P (fStoreA s (f + 1)) (fun a x => do Instr.storeAt t a x; pure undef) := by
  intro x y h kk hy
  obtain ⟨m, c⟩ := h
  obtain ⟨nm, off, rfl, h1⟩ := inv_p hy
  obtain ⟨ty, op, n, es, form, ke, tr, hm, h2⟩ := inv_cells h1
  obtain ⟨hn, h3⟩ := inv_if h2
  have hn : off + s ≤ n := ble_iff.1 hn
  obtain ⟨⟨i, hi, hsz⟩, hs0, hs1, hf4, _, _, _⟩ := shp_spec (w := default) hT hs
  obtain ⟨hE, _, h4, _⟩ := isElem_yes h3 hf4 (fun e => by omega)
  have fin : ∀ K μ w x' y', MR K μ ⟨m, c⟩ w → VR μ (.p nm off) x' → VR μ y y' → ∀ leaf, (∀ (arr : Array Value) fr bk, CellsR μ arr fr n es form ke tr bk → off % es + s ≤ es ∧ isE form es leaf ∧ ∀ i, i < es → cellOf form leaf i = if off % es ≤ i ∧ i < off % es + s then cellOf (f + 1) y (i - off % es) else cellOf form (Tr.get (α := AV) ke (paK ke (off / es)) tr) i) →
      ∃ μ' v' w', (do Instr.storeAt t x' y'; pure undef : Sem Value).run P w = .ok v' w' ∧ Ext μ μ' ∧ VR μ' (.tu []) v' ∧ MR K μ' ⟨Mem.to nm m (.cells ty op n es form ke (Tr.set (α := AV) ke (paK ke (off / es)) tr leaf)), c⟩ w' := by
    intro K μ w x' y' hr hx hy leaf hL
    obtain ⟨bk, hb, rfl⟩ := hx.p_inv
    obtain ⟨arr, fr, ha, hc⟩ := hr.cells hm hb
    obtain ⟨hfit, hE', hcells⟩ := hL arr fr bk hc
    obtain ⟨k1, k2, k3⟩ := elem_cells hy hE (fun e => by omega)
    have hrun := run_storeVar (P := P) hi (w := w) (g := bk.blk) (off := off) (v := y') ha (by omega) (by have := hc.hn; have := hc.hsize; omega) k2 (fun j a b => by rw [hc.hsize]; exact hc.froz j a b)
    have hq := hc.q_lt (i := off) (by omega)
    have ht := hc.htop
    refine ⟨μ, undef, _, hrun, Ext.refl μ, VR.undef μ, hr.write hb hm ha ?_⟩
    have hlen : y'.cells.toList.length = s := by simp [k1]
    refine hc.write (l := y'.cells.toList) (by rw [hlen]; exact hn) (fun q hq' => ?_) (fun j hj hne => ?_) (fun j hj => ?_)
    · have hq2 : q < 8 ^ ke := by have := hc.hnk; have := hc.hpos; rcases Nat.lt_or_ge q (8 ^ ke) with h | h; exact h; have := Nat.mul_le_mul_left es h; rw [Nat.mul_comm q es] at hq'; omega
      rw [Tr.get_set ke tr _ hq2 hq]
      split
      · exact hE'
      · exact hc.hleaf q hq'
    · rw [hlen] at hne
      rw [Tr.get_set ke tr _ (hc.q_lt hj) hq]
      split
      · rename_i e
        have hjm : j % es < es := Nat.mod_lt _ hc.hpos
        rw [hcells _ hjm, e]
        have : ¬ (off % es ≤ j % es ∧ j % es < off % es + s) := fun e2 => hne (by
          have a := Nat.div_add_mod j es
          have b := Nat.div_add_mod off es
          rw [e] at a
          omega)
        rw [if_neg this]
      · rfl
    · rw [hlen] at hj
      obtain ⟨q1, q2⟩ := divmod (off := off) (i := j) (es := es) (by omega)
      have hd : y'.cells[j]? = some y'.cells[j] := Array.getElem?_eq_getElem (by omega)
      refine ⟨y'.cells[j], by simp, k2 j _ hd, ?_⟩
      rw [q1, q2, Tr.get_set ke tr _ hq hq, if_pos rfl, hcells _ (by omega), if_pos (by omega), show off % es + j - off % es = j by omega]
      exact k3 j _ hd
  rcases inv_bif h4 with ⟨e, h5⟩ | ⟨e, h5⟩
  · obtain ⟨e1, e2⟩ := and_eq.1 e
    obtain ⟨e2, e3⟩ := and_eq.1 e2
    have e1 : off % es = 0 := beq_iff.1 e1
    have e2 := beq_iff.1 e2
    have e3 := beq_iff.1 e3
    rw [Tr.s_eq] at h5
    refine ⟨_, _, h5, fun K μ w x' y' hr hx hy => fin K μ w x' y' hr hx hy y (fun arr fr bk hc => ⟨by omega, ?_, fun i hi => ?_⟩)⟩
    · subst e2; subst e3; exact hE
    · rw [if_pos (by omega), e1, e3]; rfl
  · obtain ⟨e1, h6⟩ := inv_if h5
    have e1 : off % es + s ≤ es := ble_iff.1 e1
    rw [Tr.s_eq] at h6
    have h7 := setSubK_yes h6
    refine ⟨_, _, h7, fun K μ w x' y' hr hx hy => fin K μ w x' y' hr hx hy _ (fun arr fr bk hc => ?_)⟩
    obtain ⟨g1, g2⟩ := setSubV_spec (j := off % es) (hc.hleaf (off / es) (hc.q_mul (by omega))) hE hc.htop e1 hs1
    exact ⟨e1, g1, g2⟩
end
end
end Go.Proofs.YteefpemaeecicaaGreatDoor.Ev
end
section
open Go
namespace Go.Proofs.YteefpemaeecicaaGreatDoor.Ev
set_option linter.unusedVariables false
set_option linter.unusedSimpArgs false
set_option linter.constructorNameAsVariable false
noncomputable section
section
variable {P : Program} {T : Ty}
theorem run_fieldPlace {w : World} {g off : Nat} {f : Field} {i : TypeInfo} (hi : P.info? f.type = some i) (hz : i.size ≠ 0) : (fieldPlace ⟨g, off, none⟩ f).run P w = .ok ⟨g, off + f.offset, none⟩ w := by
  simp [fieldPlace, run_size hi, hz, addr_add]
theorem fieldAddr_p1 [Rho] {t i : Nat} {fs : Array Field} {f : Field} {j : TypeInfo} (ht : P.underlying t = some (.struct fs)) (hf : fs[i]? = some f) (hi : P.info? f.type = some j) (hz : j.size ≠ 0) :
    P1 P (fFieldAddr f.offset) (fun x => Instr.fieldAt t x i) := by
  intro x kk h
  obtain ⟨nm, off, rfl, h1⟩ := inv_p h
  refine ⟨.p nm (off + f.offset), h1, fun μ x' hx => ?_⟩
  obtain ⟨bk, hb, rfl⟩ := hx.p_inv
  refine ⟨_, .p nm _ bk hb, fun w => ?_⟩
  simp [Instr.fieldAt, run_underlying ht, hf, Instr.sureAddr, run_fieldPlace hi hz]
/-- A part of an element's value. -/
theorem run_part [Rho] {t s f : Nat} (hT : TyOk P T) (hs : shp T t = some (s, f)) {cs : Array Value} {off : Nat} {w : World} (hl : off + s ≤ cs.size) :
    (part t cs off).run P w = .ok (if f = 0 then cs.getD off undef else .agg (cs.extract off (off + s))) w := by
  obtain ⟨⟨i, hi, hsz⟩, hs0, hs1, hf4, h0, hagg, _⟩ := shp_spec (w := w) hT hs
  by_cases hf : f = 0
  · subst hf
    have hagg : (Go.isAgg t).run P w = .ok false w := hagg
    have hlt : off < cs.size := by have := h0 rfl; omega
    simp [part, hagg, hlt, Array.getElem?_eq_getElem hlt]
  · have hb : (f != 0) = true := by simp [hf]
    rw [hb] at hagg
    simp [part, hagg, run_size hi, hsz, hf]
theorem field1_p1 [Rho] {t i s : Nat} {fs : Array Field} {f : Field} {sx fx : Nat} (hT : TyOk P T) (ht : P.underlying t = some (.struct fs)) (hx : shp T t = some (sx, fx)) (hf : fs[i]? = some f) (hs : shp T f.type = some (s, 0)) (hl : f.offset + s ≤ sx) :
    P1 P (fField1 fx sx f.offset) (fun x => Instr.field t x i) := by
  intro x kk h
  obtain ⟨_, h0, h1, hf4, hff, _⟩ := shp_spec (w := default) hT hx
  obtain ⟨_, s0, s1, sf4, sff, _⟩ := shp_spec (w := default) hT hs
  obtain ⟨hE, hc, h2, _⟩ := isElem_yes h hf4 hff
  have h3 := (compK_yes h2).1
  have hs1 : s = 1 := sff rfl
  refine ⟨_, h3, fun μ x' hx' => ?_⟩
  obtain ⟨_, _, _, _, _, hagg, _⟩ := shp_spec (w := default) hT hx
  by_cases hfx : fx = 0
  · subst hfx
    have := run_underlying ht (default : World)
    have hagg' : (Go.isAgg t).run P default = .ok false default := hagg
    simp [Go.isAgg, this] at hagg'
  obtain ⟨cs, rfl, k1, k2, k3, k4⟩ := hx'.agg_inv hfx hE
  have hlt : f.offset < cs.size := by omega
  refine ⟨cs[f.offset], ?_, fun w => ?_⟩
  · have := k4 f.offset cs[f.offset] (Array.getElem?_eq_getElem hlt)
    exact this
  · have := run_part hT hs (cs := cs) (off := f.offset) (w := w) (by omega)
    simp only [if_true] at this
    simp [Instr.field, run_underlying ht, hf, asAgg, this, hlt, Array.getElem?_eq_getElem hlt]
theorem fieldA_p1 [Rho] {t i s fo : Nat} {fs : Array Field} {f : Field} {sx fx : Nat} (hT : TyOk P T) (ht : P.underlying t = some (.struct fs)) (hx : shp T t = some (sx, fx)) (hf : fs[i]? = some f) (hs : shp T f.type = some (s, fo)) (hfo : fo ≠ 0) (hl : f.offset + s ≤ sx) :
    P1 P (fFieldA fx sx f.offset s fo) (fun x => Instr.field t x i) := by
  intro x kk h
  obtain ⟨_, h0, h1, hf4, hff, _⟩ := shp_spec (w := default) hT hx
  obtain ⟨_, s0, s1, sf4, sff, _⟩ := shp_spec (w := default) hT hs
  obtain ⟨hE, hc, h2, _⟩ := isElem_yes h hf4 hff
  have h3 := subK_yes h2
  refine ⟨_, h3, fun μ x' hx' => ?_⟩
  obtain ⟨_, _, _, _, _, hagg, _⟩ := shp_spec (w := default) hT hx
  by_cases hfx : fx = 0
  · subst hfx
    have := run_underlying ht (default : World)
    have hagg' : (Go.isAgg t).run P default = .ok false default := hagg
    simp [Go.isAgg, this] at hagg'
  obtain ⟨cs, rfl, k1, k2, k3, k4⟩ := hx'.agg_inv hfx hE
  obtain ⟨g1, g2⟩ := subV_spec (j := f.offset) hE s1 sf4 sff
  have hget : ∀ (j : Nat) d, (cs.extract f.offset (f.offset + s))[j]? = some d → j < s ∧ cs[f.offset + j]? = some d := by
    intro j d hd
    rw [Array.getElem?_extract] at hd
    split at hd
    · exact ⟨by omega, hd⟩
    · cases hd
  refine ⟨.agg (cs.extract f.offset (f.offset + s)), VR.agg_mk hfo g1 (by simp; omega) s1 (fun j d hd => k3 _ d (hget j d hd).2) (fun j d hd => ?_), fun w => ?_⟩
  · rw [g2 j (hget j d hd).1]
    exact k4 _ d (hget j d hd).2
  · have := run_part hT hs (cs := cs) (off := f.offset) (w := w) (by omega)
    rw [if_neg hfo] at this
    simp [Instr.field, run_underlying ht, hf, asAgg, this]
/-! ### Indices -/
theorem idx_yes [Rho] {i j len : Nat} {x : Ans} (h : Bool.rec (motive := fun _ => Ans) Ans.no x (Nat.ble (Nat.succ i) (Nat.mul len (Nat.sub 1 (Nat.sub 3 j)))) = .yes) (hl : len ≤ 1000000000) :
    i < len ∧ x = .yes ∧ ∀ μ v, VR μ (.n j i) v → ∃ k, v = .int k (i : Int) := by
  obtain ⟨h1, h2⟩ := inv_if h
  have h1 : i + 1 ≤ len * (1 - (3 - j)) := ble_iff.1 h1
  have hj : 3 ≤ j := by
    rcases Nat.lt_or_ge j 3 with hh | hh
    · have : 1 - (3 - j) = 0 := by omega
      rw [this, Nat.mul_zero] at h1; omega
    · exact hh
  have : 1 - (3 - j) = 1 := by omega
  rw [this, Nat.mul_one] at h1
  refine ⟨h1, h2, fun μ v hv => ?_⟩
  obtain ⟨k, rfl, hu, rfl⟩ := hv.n_inv
  refine ⟨k, ?_⟩
  cases k <;> first
    | (exfalso; revert hj; simp only [kc]; omega)
    | (rw [wrap_low (by simp only [kh]; omega)])
    | (rw [wrap_un rfl hu])
theorem indexAddrA_p2 [Rho] {t n e : Nat} {j : TypeInfo} (ht : P.underlying t = some (.array n e)) (hi : P.info? e = some j) (hn : n ≤ 1000000000) :
    P2 P (fIndexAddrA j.size n) (fun x i => Instr.indexAt t x i) := by
  intro x i kk h
  obtain ⟨q, a, rfl, h1⟩ := inv_n h
  obtain ⟨nm, off, rfl, h2⟩ := inv_p h1
  obtain ⟨hlt, h3, hv⟩ := idx_yes h2 hn
  refine ⟨.p nm (off + a * j.size), h3, fun μ x' i' hx hi' => ?_⟩
  obtain ⟨bk, hb, rfl⟩ := hx.p_inv
  obtain ⟨k, rfl⟩ := hv μ i' hi'
  refine ⟨_, .p nm _ bk hb, fun w => ?_⟩
  have : (a : Int) < n := by omega
  simp [Instr.indexAt, asIntOf, run_underlying ht, Instr.sureAddr, hlt, Nat.not_le.2 hlt, run_size hi, addr_add]
theorem indexAddrS_p2 [Rho] {t e : Nat} {j : TypeInfo} (ht : P.underlying t = some (.slice e)) (hi : P.info? e = some j) :
    P2 P (fIndexAddrS j.size) (fun x i => Instr.indexAt t x i) := by
  intro x i kk h
  obtain ⟨q, a, rfl, h1⟩ := inv_n h
  rcases inv_sly_ h1 with ⟨rfl, h2⟩ | ⟨nm, off, len, cap, rfl, h2⟩ | ⟨nm, off, len, rfl, h2⟩ | ⟨rfl, h2⟩ | ⟨jy, ey, rfl, h5⟩
  · cases h2
  · have h2' := h2
    by_cases hl : len ≤ 1000000000
    · obtain ⟨hlt, h3, hv⟩ := idx_yes h2' hl
      refine ⟨.p nm (off + a * j.size), h3, fun μ x' i' hx hi' => ?_⟩
      obtain ⟨bk, hb, hle, hcap, rfl⟩ := hx.sl_inv
      obtain ⟨k, rfl⟩ := hv μ i' hi'
      refine ⟨_, .p nm _ bk hb, fun w => ?_⟩
      have : (a : Int) < len := by omega
      simp [Instr.indexAt, asIntOf, run_underlying ht, hlt, Nat.not_le.2 hlt, run_size hi, addr_add]
    · obtain ⟨_, h3⟩ := inv_if h2'
      refine ⟨.p nm (off + a * j.size), h3, fun μ x' i' hx hi' => ?_⟩
      obtain ⟨bk, hb, hle, hcap, rfl⟩ := hx.sl_inv
      omega
  · by_cases hl : len ≤ 1000000000
    · obtain ⟨hlt, h3, hv⟩ := idx_yes h2 hl
      refine ⟨.p nm (off + a * j.size), h3, fun μ x' i' hx hi' => ?_⟩
      obtain ⟨bk, cap, hb, hle, hcap, _, rfl⟩ := hx.so_inv
      obtain ⟨k, rfl⟩ := hv μ i' hi'
      refine ⟨_, .p nm _ bk hb, fun w => ?_⟩
      have : (a : Int) < len := by omega
      simp [Instr.indexAt, asIntOf, run_underlying ht, hlt, Nat.not_le.2 hlt, run_size hi, addr_add]
    · obtain ⟨_, h3⟩ := inv_if h2
      refine ⟨.p nm (off + a * j.size), h3, fun μ x' i' hx hi' => ?_⟩
      obtain ⟨bk, cap, hb, hle, hcap, _, rfl⟩ := hx.so_inv
      omega
  · cases h2
  · obtain ⟨hlt, h3, hv⟩ := idx_yes h5 (by omega)
    obtain ⟨j1, j2, c, w0, le, r, rfl, h6⟩ := exRow_yes h3
    obtain ⟨u, hu, h7⟩ := lget_yes h6
    obtain ⟨hs, h8⟩ := inv_if h7
    have hs := beq_iff.1 hs
    refine ⟨_, h8, fun μ x' i' hx hi' => ?_⟩
    obtain ⟨k, ad, n, cap, rfl, rfl, q1, q2, q3, q4, q5⟩ := hx.yl_inv j1 j2
    obtain ⟨k', rfl⟩ := hv μ i' hi'
    have ha : a < (exList r).length := (List.getElem?_eq_some_iff.1 hu).1
    have hu' : ((exList r).map fun x => den x % km k)[a]? = some (den u % km k) := by rw [List.getElem?_map, hu]; rfl
    obtain ⟨b, off, arr, ty, fr, rfl, q7, q8⟩ := q1.resolve_left (fun e => by rw [e] at hu'; simp at hu')
    refine ⟨.pointer (some ⟨b, off + a, none⟩), ?_, fun w => ?_⟩
    · show VR μ (.y (16 + kc k + 8) u) _
      rw [show 16 + kc k + 8 = 24 + kc k by omega]
      refine .yp k u _ (.inr ⟨b, off + a, arr, ty, fr, rfl, q7, fun i v hi => ?_⟩)
      cases i with
      | zero => cases hi; exact q8 a _ hu'
      | succ i => simp at hi
    · have : (a : Int) < n := by omega
      have h9 : a < n := by omega
      simp [Instr.indexAt, asIntOf, run_underlying ht, h9, Nat.not_le.2 h9, run_size hi, addr_add, hs]
theorem index1_p2 [Rho] {t n e s sx fx : Nat} (hT : TyOk P T) (ht : P.underlying t = some (.array n e)) (hx : shp T t = some (sx, fx)) (hs : shp T e = some (s, 0)) (hl : n * s ≤ sx) (hn : n ≤ 1000000000) :
    P2 P (fIndex1 fx sx n) (fun x i => Instr.index t x i) := by
  intro x i kk h
  obtain ⟨q, a, rfl, h1⟩ := inv_n h
  obtain ⟨hlt, h2, hv⟩ := idx_yes h1 hn
  obtain ⟨_, h0, h1', hf4, hff, hagg, _⟩ := shp_spec (w := default) hT hx
  obtain ⟨⟨j, hj, hsz⟩, s0, s1, sf4, sff, _⟩ := shp_spec (w := default) hT hs
  obtain ⟨hE, hc, h3, _⟩ := isElem_yes h2 hf4 hff
  have h4 := (compK_yes h3).1
  have hs1 : s = 1 := sff rfl
  subst hs1
  refine ⟨_, h4, fun μ x' i' hx' hi' => ?_⟩
  by_cases hfx : fx = 0
  · subst hfx
    have := run_underlying ht (default : World)
    have hagg' : (Go.isAgg t).run P default = .ok false default := hagg
    simp [Go.isAgg, this] at hagg'
  obtain ⟨cs, rfl, k1, k2, k3, k4⟩ := hx'.agg_inv hfx hE
  obtain ⟨k, rfl⟩ := hv μ i' hi'
  have hlt' : a < cs.size := by omega
  refine ⟨cs[a], k4 a _ (Array.getElem?_eq_getElem hlt'), fun w => ?_⟩
  have := run_part hT hs (cs := cs) (off := a) (w := w) (by omega)
  simp only [if_true] at this
  have hi2 : (a : Int) < n := by omega
  simp [Instr.index, asIntOf, run_underlying ht, hlt, Nat.not_le.2 hlt, run_size hj, hsz, this, hlt', Array.getElem?_eq_getElem hlt']
theorem indexA_p2 [Rho] {t n e s f sx fx : Nat} (hT : TyOk P T) (ht : P.underlying t = some (.array n e)) (hx : shp T t = some (sx, fx)) (hs : shp T e = some (s, f)) (hf : f ≠ 0) (hl : n * s ≤ sx) (hn : n ≤ 1000000000) :
    P2 P (fIndexA fx sx n s f) (fun x i => Instr.index t x i) := by
  intro x i kk h
  obtain ⟨q, a, rfl, h1⟩ := inv_n h
  obtain ⟨hlt, h2, hv⟩ := idx_yes h1 hn
  obtain ⟨_, h0, h1', hf4, hff, hagg, _⟩ := shp_spec (w := default) hT hx
  obtain ⟨⟨j, hj, hsz⟩, s0, s1, sf4, sff, _⟩ := shp_spec (w := default) hT hs
  obtain ⟨hE, hc, h3, _⟩ := isElem_yes h2 hf4 hff
  have h4 := subK_yes h3
  have hfit : a * s + s ≤ n * s := by rw [← Nat.succ_mul]; exact Nat.mul_le_mul_right s hlt
  refine ⟨_, h4, fun μ x' i' hx' hi' => ?_⟩
  by_cases hfx : fx = 0
  · subst hfx
    have := run_underlying ht (default : World)
    have hagg' : (Go.isAgg t).run P default = .ok false default := hagg
    simp [Go.isAgg, this] at hagg'
  obtain ⟨cs, rfl, k1, k2, k3, k4⟩ := hx'.agg_inv hfx hE
  obtain ⟨k, rfl⟩ := hv μ i' hi'
  obtain ⟨g1, g2⟩ := subV_spec (j := a * s) hE s1 sf4 sff
  have hget : ∀ (j : Nat) d, (cs.extract (a * s) (a * s + s))[j]? = some d → j < s ∧ cs[a * s + j]? = some d := by
    intro j d hd
    rw [Array.getElem?_extract] at hd
    split at hd
    · exact ⟨by omega, hd⟩
    · cases hd
  refine ⟨.agg (cs.extract (a * s) (a * s + s)), VR.agg_mk hf g1 (by simp; omega) s1 (fun j d hd => k3 _ d (hget j d hd).2) (fun j d hd => ?_), fun w => ?_⟩
  · exact (g2 j (hget j d hd).1) ▸ k4 _ d (hget j d hd).2
  · have := run_part hT hs (cs := cs) (off := a * s) (w := w) (by omega)
    rw [if_neg hf] at this
    have hi2 : (a : Int) < n := by omega
    simp [Instr.index, asIntOf, run_underlying ht, hlt, Nat.not_le.2 hlt, run_size hj, hsz, this]
end
end
end Go.Proofs.YteefpemaeecicaaGreatDoor.Ev
end
section
open Go
namespace Go.Proofs.YteefpemaeecicaaGreatDoor.Ev
set_option linter.unusedVariables false
set_option linter.unusedSimpArgs false
set_option linter.constructorNameAsVariable false
noncomputable section
def OR [Rho] (μ : Mp) (x : Option AV) (x' : Option Value) : Prop := match x, x' with | none, none => True | some a, some v => VR μ a v | _, _ => False
/-- A bound that is told, or else its default. -/
def Bnd (x' : Option Value) (dflt b : Nat) : Prop := match x' with | none => b = dflt | some v => ∃ k, v = .int k (b : Int)
theorem bnd_yes [Rho] {x : Option AV} {dflt : Nat} {g : Nat → Ans} (h : bndK x dflt g = .yes) : ∃ b, g b = .yes ∧ ∀ μ x', OR μ x x' → Bnd x' dflt b := by
  cases x with
  | none =>
    refine ⟨dflt, h, fun μ x' hx => ?_⟩
    cases x' with
    | none => rfl
    | some v => exact hx.elim
  | some a =>
    obtain ⟨b, h1, h2⟩ := pos_yes (x := a) (g := g) h
    refine ⟨b, h1, fun μ x' hx => ?_⟩
    cases x' with
    | none => exact hx.elim
    | some v => exact h2 μ v hx
section
variable {P : Program} {T : Ty}
theorem run_bound {k : IntKind} {b y : Nat} {code : BoundsCode} {w : World} (h : b ≤ y) : (Instr.sliceBound (.int k (b : Int)) y code).run P w = .ok b w := by
  simp [Instr.sliceBound, asIntOf, h]
theorem run_bounds {isS : Bool} {len cap a b c : Nat} {lo hi mx : Option Value} {w : World} (hm : Bnd mx cap c) (hh : Bnd hi len b) (hl : Bnd lo 0 a) (hs : mx.isSome = true → hi.isSome = true)
    (h1 : a ≤ b) (h2 : b ≤ c) (h3 : c ≤ cap) : (Instr.sliceBounds isS len cap lo hi mx).run P w = .ok (a, b, c) w := by
  cases mx with
  | none =>
    have hm : c = cap := hm
    subst hm
    cases hi with
    | none =>
      have hh : b = len := hh
      subst hh
      cases lo with
      | none => have hl : a = 0 := hl; subst hl; simp [Instr.sliceBounds]
      | some v => obtain ⟨k, rfl⟩ := hl; simp [Instr.sliceBounds, run_bound h1]
    | some u =>
      obtain ⟨k, rfl⟩ := hh
      cases lo with
      | none => have hl : a = 0 := hl; subst hl; simp [Instr.sliceBounds, run_bound h2]
      | some v => obtain ⟨k, rfl⟩ := hl; simp [Instr.sliceBounds, run_bound h1, run_bound h2]
  | some z =>
    obtain ⟨k, rfl⟩ := hm
    cases hi with
    | none => have := hs rfl; cases this
    | some u =>
      obtain ⟨k, rfl⟩ := hh
      cases lo with
      | none => have hl : a = 0 := hl; subst hl; simp [Instr.sliceBounds, run_bound h2, run_bound h3]
      | some v => obtain ⟨k, rfl⟩ := hl; simp [Instr.sliceBounds, run_bound h1, run_bound h2, run_bound h3]
/-- A slice of a slice, whose bounds are told. -/
theorem run_slice {t e : TypeId} {i : TypeInfo} (ht : P.underlying t = some (.slice e)) (hi : P.info? e = some i) {p : Option Addr} {len cap a b c : Nat} {lo hi' mx : Option Value} {w : World}
    (hb : ∀ w, (Instr.sliceBounds true len cap lo hi' mx).run P w = .ok (a, b, c) w) :
    (Instr.sliceAt t (.slice p len cap) lo hi' mx).run P w = .ok (.slice (if c = a then p else p.map (·.add (a * i.size))) (b - a) (c - a)) w := by
  simp [Instr.sliceAt, Instr.slice, run_underlying ht, hb, run_size hi]
theorem cut_yes {s a b c off : Nat} {nm : Nm} {kk : AV → Ans} (h : cutK s nm off a b c kk = .yes) : kk (.sl nm (if c = a then off else off + a * s) (b - a) (c - a)) = .yes := by
  unfold cutK at h
  rw [natK_eq, natK_eq, natK_eq] at h
  by_cases e : c = a
  · subst e
    rw [if_pos rfl]
    rw [Nat.beq_refl] at h
    exact h
  · rw [if_neg e]
    have : Nat.beq c a = false := by
      cases hb : Nat.beq c a with
      | false => rfl
      | true => exact (e (beq_iff.1 hb)).elim
    rw [this] at h
    exact h
theorem abm {a b c top : Nat} {x : Ans} (h : Bool.rec (motive := fun _ => Ans) Ans.no x (and_ (Nat.ble a b) (and_ (Nat.ble b c) (Nat.ble c top))) = .yes) : (a ≤ b ∧ b ≤ c ∧ c ≤ top) ∧ x = .yes := by
  obtain ⟨h1, h2⟩ := inv_if h
  obtain ⟨h1, h3⟩ := and_eq.1 h1
  obtain ⟨h3, h4⟩ := and_eq.1 h3
  exact ⟨⟨ble_iff.1 h1, ble_iff.1 h3, ble_iff.1 h4⟩, h2⟩
theorem slice_law [Rho] {t e s : Nat} {i : TypeInfo} (ht : P.underlying t = some (.slice e)) (hi : P.info? e = some i) (hsz : i.size = s) (hs0 : 0 < s) {x : AV} {lo hi' mx : Option AV} {kk : AV → Ans}
    (hm : mx.isSome = true → hi'.isSome = true) (h : fSlice s x lo hi' mx kk = .yes) :
    ∃ v, kk v = .yes ∧ ∀ μ x' l h' m, VR μ x x' → OR μ lo l → OR μ hi' h' → OR μ mx m → ∃ v', VR μ v v' ∧ ∀ w, (Instr.sliceAt t x' l h' m).run P w = .ok v' w := by
  have iso : ∀ {μ : Mp} {a : Option AV} {b : Option Value}, OR μ a b → a.isSome = b.isSome := fun {μ a b} h => by cases a <;> cases b <;> first | rfl | exact h.elim
  have hm' : ∀ {μ : Mp} {m h' : Option Value}, OR μ mx m → OR μ hi' h' → m.isSome = true → h'.isSome = true := fun a b c => by rw [← iso b]; exact hm (by rw [iso a]; exact c)
  rcases inv_sly_ h with ⟨rfl, h1⟩ | ⟨nm, off, len, cap, rfl, h1⟩ | ⟨nm, off, len, rfl, h1⟩ | ⟨rfl, h1⟩ | ⟨jy, ey, rfl, hy5⟩
  · obtain ⟨b, h2, hb⟩ := bnd_yes h1
    obtain ⟨a, h3, ha⟩ := bnd_yes h2
    obtain ⟨c, h4, hc⟩ := bnd_yes h3
    obtain ⟨⟨q1, q2, q3⟩, h5⟩ := abm h4
    refine ⟨_, h5, fun μ x' l h' m hx hl hh hmm => ?_⟩
    rw [hx.sl0_inv]
    refine ⟨.slice none 0 0, .sl0, fun w => ?_⟩
    rw [run_slice ht hi (fun w => run_bounds (hc μ m hmm) (hb μ h' hh) (ha μ l hl) (hm' hmm hh) q1 q2 q3)]
    have : a = 0 := by omega
    have : b = 0 := by omega
    have : c = 0 := by omega
    simp [*]
  · obtain ⟨c, h2, hc⟩ := bnd_yes h1
    obtain ⟨b, h3, hb⟩ := bnd_yes h2
    obtain ⟨a, h4, ha⟩ := bnd_yes h3
    obtain ⟨⟨q1, q2, q3⟩, h5⟩ := abm h4
    refine ⟨_, cut_yes h5, fun μ x' l h' m hx hl hh hmm => ?_⟩
    obtain ⟨bk, hb0, hle, hcap, rfl⟩ := hx.sl_inv
    refine ⟨_, .sl nm _ _ _ bk hb0 (by omega) (by omega), fun w => ?_⟩
    rw [run_slice ht hi (fun w => run_bounds (hc μ m hmm) (hb μ h' hh) (ha μ l hl) (hm' hmm hh) q1 q2 q3), hsz]
    by_cases e : c = a
    · rw [if_pos e, if_pos e]
    · rw [if_neg e, if_neg e, Option.map_some, addr_add]
  · cases mx with
    | none =>
      obtain ⟨b, h2, hb⟩ := bnd_yes h1
      obtain ⟨a, h3, ha⟩ := bnd_yes h2
      obtain ⟨h4, h5⟩ := inv_if h3
      obtain ⟨q1, q2⟩ := and_eq.1 h4
      have q1 := ble_iff.1 q1
      have q2 := ble_iff.1 q2
      rcases inv_bif h5 with ⟨e, h6⟩ | ⟨e, h6⟩
      · rw [natK_eq, natK_eq] at h6
        have e : a < len ∨ a = 0 := by
          rcases or_eq.1 e with e | e
          · exact .inl (ble_iff.1 e)
          · exact .inr (beq_iff.1 e)
        refine ⟨.so nm (off + a * s) (b - a), h6, fun μ x' l h' m hx hl hh hmm => ?_⟩
        obtain ⟨bk, cap, hb0, hle, hlen, hz, rfl⟩ := hx.so_inv
        cases m with
        | some v => exact hmm.elim
        | none =>
          refine ⟨.slice (some ⟨bk.blk, off + a * s, none⟩) (b - a) (cap - a), .so nm _ _ bk _ hb0 (by omega) (by omega) (fun e0 => ?_), fun w => ?_⟩
          · have ha0 : a * s = 0 := by omega
            have : a = 0 := by
              rcases Nat.mul_eq_zero.1 ha0 with h | h
              · exact h
              · omega
            subst this
            exact hz (by omega)
          · rw [run_slice ht hi (fun w => run_bounds (c := cap) (cap := cap) (mx := none) rfl (hb μ h' hh) (ha μ l hl) (fun e => by cases e) q1 (by omega) (Nat.le_refl _)), hsz]
            by_cases e2 : cap = a
            · have : a = 0 := by omega
              subst this
              rw [if_pos e2, Nat.zero_mul, Nat.add_zero]
            · rw [if_neg e2, Option.map_some, addr_add]
      · refine ⟨_, h6, fun μ x' l h' m hx hl hh hmm => ?_⟩
        obtain ⟨bk, cap, hb0, hle, hlen, hz, rfl⟩ := hx.so_inv
        have e : ¬ (a < len ∨ a = 0) := fun hh => by
          have : or_ (Nat.ble (Nat.succ a) len) (Nat.beq a 0) = true := or_eq.2 (hh.imp (fun h => ble_iff.2 h) (fun h => beq_iff.2 h))
          rw [this] at e; cases e
        cases m with
        | some v => exact hmm.elim
        | none =>
          have hb' : b - a = 0 := by omega
          refine ⟨.slice (some (if cap = a then ⟨bk.blk, off, none⟩ else ⟨bk.blk, off + a * s, none⟩)) 0 (cap - a), .se _ _, fun w => ?_⟩
          rw [run_slice ht hi (fun w => run_bounds (c := cap) (cap := cap) (mx := none) rfl (hb μ h' hh) (ha μ l hl) (fun e => by cases e) q1 (by omega) (Nat.le_refl _)), hsz, hb']
          by_cases e2 : cap = a
          · rw [if_pos e2, if_pos e2]
          · rw [if_neg e2, if_neg e2, Option.map_some, addr_add]
    | some mv =>
      obtain ⟨c, h2, hc⟩ := bnd_yes h1
      obtain ⟨b, h3, hb⟩ := bnd_yes h2
      obtain ⟨a, h4, ha⟩ := bnd_yes h3
      obtain ⟨⟨q1, q2, q3⟩, h5⟩ := abm h4
      refine ⟨_, cut_yes h5, fun μ x' l h' m hx hl hh hmm => ?_⟩
      obtain ⟨bk, cap, hb0, hle, hlen, hz, rfl⟩ := hx.so_inv
      cases m with
      | none => exact hmm.elim
      | some v =>
        refine ⟨_, .sl nm _ _ _ bk hb0 (by omega) (by omega), fun w => ?_⟩
        have hc' : Bnd (some v) cap c := hc μ (some v) hmm
        rw [run_slice ht hi (fun w => run_bounds hc' (hb μ h' hh) (ha μ l hl) (hm' hmm hh) q1 q2 (by omega)), hsz]
        by_cases e : c = a
        · rw [if_pos e, if_pos e]
        · rw [if_neg e, if_neg e, Option.map_some, addr_add]
  · cases mx with
    | some mv => cases h1
    | none =>
      obtain ⟨b, h2, hb⟩ := bnd_yes h1
      obtain ⟨a, h3, ha⟩ := bnd_yes h2
      obtain ⟨h4, h5⟩ := inv_if h3
      obtain ⟨q1, q2⟩ := and_eq.1 h4
      have q1 := beq_iff.1 q1
      have q2 := beq_iff.1 q2
      subst q1; subst q2
      refine ⟨_, h5, fun μ x' l h' m hx hl hh hmm => ?_⟩
      obtain ⟨p, cap, rfl⟩ := hx.se_inv
      cases m with
      | some v => exact hmm.elim
      | none =>
        refine ⟨.slice (some p) 0 cap, .se _ _, fun w => ?_⟩
        rw [run_slice ht hi (fun w => run_bounds (c := cap) (cap := cap) (mx := none) rfl (hb μ h' hh) (ha μ l hl) (fun e => by cases e) (Nat.le_refl _) (by omega) (Nat.le_refl _))]
        by_cases e2 : cap = 0
        · rw [if_pos e2]; rfl
        · rw [if_neg e2, Option.map_some, Nat.zero_mul]
          have : p.add 0 = p := by unfold Addr.add; simp
          rw [this]; rfl
  · obtain ⟨j1, j2, cc, w0, le, r, rfl, h2⟩ := exRow_yes hy5
    cases mx with
    | some mv => cases h2
    | none =>
    cases hi' with
    | none => cases h2
    | some hv =>
    obtain ⟨b, h3, hb⟩ := bnd_yes (x := some hv) (dflt := 0) h2
    obtain ⟨a, h4, ha⟩ := bnd_yes h3
    rw [lenK_eq] at h4
    obtain ⟨h5, h6⟩ := inv_if h4
    obtain ⟨q1, q2⟩ := and_eq.1 h5
    have q1 := beq_iff.1 q1
    have q2 := ble_iff.1 q2
    subst q1
    rw [ltake_eq] at h6
    refine ⟨_, h6, fun μ x' l h' m hx hl hh hmm => ?_⟩
    obtain ⟨k, ad, n, cap, rfl, rfl, p1, p2, p3, p4, p5⟩ := hx.yl_inv j1 j2
    cases m with
    | some v => exact hmm.elim
    | none =>
      refine ⟨.slice ad b cap, .yl k (.lit b) ((exList r).take b) ad b cap ?_ (by rw [List.length_take]; omega) (by omega) (by omega) (by show b % _ = b; exact Nat.mod_eq_of_lt (by omega)), fun w => ?_⟩
      · rcases p1 with p1 | ⟨b', off, arr, ty, fr, e1, e2, e3⟩
        · left
          have : exList r = [] := by simpa using p1
          rw [this]; simp
        · exact .inr ⟨b', off, arr, ty, fr, e1, e2, fun i u hu => e3 i u (by
            rw [List.getElem?_map] at hu ⊢
            rw [List.getElem?_take] at hu
            split at hu
            · exact hu
            · cases hu)⟩
      · rw [run_slice ht hi (fun w => run_bounds (c := cap) (cap := cap) (mx := none) rfl (by
            cases h' with
            | none => exact hh.elim
            | some v => exact hb μ (some v) hh) (ha μ l hl) (fun e => by cases e) (Nat.zero_le _) (by omega) (Nat.le_refl _))]
        simp
        intro _
        cases ad <;> rfl
theorem sliceA_law [Rho] {t e s n : Nat} {i : TypeInfo} (ht : P.underlying t = some (.array n e)) (hi : P.info? e = some i) (hsz : i.size = s) (hn : n ≤ 1000000000) {x : AV} {lo hi' mx : Option AV} {kk : AV → Ans}
    (hm : mx.isSome = true → hi'.isSome = true) (h : fSliceA s n x lo hi' mx kk = .yes) :
    ∃ v, kk v = .yes ∧ ∀ μ x' l h' m, VR μ x x' → OR μ lo l → OR μ hi' h' → OR μ mx m → ∃ v', VR μ v v' ∧ ∀ w, (Instr.sliceAt t x' l h' m).run P w = .ok v' w := by
  have iso : ∀ {μ : Mp} {a : Option AV} {b : Option Value}, OR μ a b → a.isSome = b.isSome := fun {μ a b} h => by cases a <;> cases b <;> first | rfl | exact h.elim
  have hm' : ∀ {μ : Mp} {m h' : Option Value}, OR μ mx m → OR μ hi' h' → m.isSome = true → h'.isSome = true := fun a b c => by rw [← iso b]; exact hm (by rw [iso a]; exact c)
  obtain ⟨nm, off, rfl, h1⟩ := inv_p h
  obtain ⟨c, h2, hc⟩ := bnd_yes h1
  obtain ⟨b, h3, hb⟩ := bnd_yes h2
  obtain ⟨a, h4, ha⟩ := bnd_yes h3
  obtain ⟨⟨q1, q2, q3⟩, h5⟩ := abm h4
  refine ⟨_, cut_yes h5, fun μ x' l h' m hx hl hh hmm => ?_⟩
  obtain ⟨bk, hb0, rfl⟩ := hx.p_inv
  refine ⟨_, .sl nm _ _ _ bk hb0 (by omega) (by omega), fun w => ?_⟩
  have hbs := fun w => run_bounds (P := P) (isS := false) (w := w) (hc μ m hmm) (hb μ h' hh) (ha μ l hl) (hm' hmm hh) q1 q2 q3
  simp only [Instr.sliceAt, Sem.run_bind, run_underlying ht, Result.andThen_ok, Instr.sureAddr, Sem.run_pure, hbs, run_size hi, hsz, addr_add]
  by_cases e : c = a
  · rw [if_pos e, if_pos e]
  · rw [if_neg e, if_neg e]
theorem bstr_extract (s : List Nat) (a b : Nat) : (bstr s).extract a b = bstr ((s.take b).drop a) := by
  apply ByteArray.ext
  apply Array.toList_inj.1
  simp [bstr, ByteArray.data_extract, List.extract_eq_take_drop, List.map_drop, List.map_take, List.drop_take]
theorem knownL_yes [Rho] : ∀ (l : List Ex) {g : List Nat → Ans} {no : Ans}, knownL l g no = .yes → (∃ s, g s = .yes ∧ dl l = s ∧ ∀ n ∈ s, n < 256) ∨ no = .yes
  | [], g, no, h => .inl ⟨[], h, rfl, fun n hn => by simp at hn⟩
  | a :: l, g, no, h => by
    have h : (Ex.rec (motive := fun _ => Ans) (fun _ => no) (fun n => (Bool.rec (motive := fun _ => Ans) no (knownL l (fun l => g (n :: l)) no) (Nat.ble (Nat.succ n) 256))) (fun _ _ _ _ _ _ => no) a) = .yes := h
    cases a with
    | var i => exact .inr h
    | lit n =>
      rcases inv_bif h with ⟨h1, h2⟩ | ⟨_, h2⟩
      · have h1 : n < 256 := ble_iff.1 h1
        rcases knownL_yes l h2 with ⟨s, h3, h4, h5⟩ | h3
        · refine .inl ⟨n :: s, h3, ?_, fun m hm => ?_⟩
          · show den (.lit n) % 256 :: dl l = n :: s
            rw [h4]
            show n % 256 :: s = _
            rw [Nat.mod_eq_of_lt h1]
          · rcases List.mem_cons.1 hm with rfl | hm
            · exact h1
            · exact h5 m hm
        · exact .inr h3
      · exact .inr h2
    | op c w a b => exact .inr h
theorem strK_yes [Rho] {l : List Ex} {kk : AV → Ans} (h : strK l kk = .yes) : ∃ v, kk v = .yes ∧ ∀ μ, VR μ v (.string (bstr (dl l))) := by
  rcases knownL_yes l h with ⟨s, h1, h2, h3⟩ | h1
  · exact ⟨_, h1, fun μ => by rw [h2]; exact .s s h3⟩
  · exact ⟨_, h1, fun μ => VR.ys (μ := μ) l⟩
theorem sliceS_law [Rho] {t : Nat} (ht : P.underlying t = some .string) {x : AV} {lo hi' : Option AV} {kk : AV → Ans} (h : fSliceS x lo hi' kk = .yes) :
    ∃ v, kk v = .yes ∧ ∀ μ x' l h', VR μ x x' → OR μ lo l → OR μ hi' h' → ∃ v', VR μ v v' ∧ ∀ w, (Instr.sliceAt t x' l h' none).run P w = .ok v' w := by
  rcases inv_sy h with ⟨s, rfl, h1⟩ | ⟨j, e, rfl, h1⟩
  · have h1 : lenK s (fun len => bndK hi' len fun b => bndK lo 0 fun a => Bool.rec (motive := fun _ => Ans) Ans.no (kk (.s (ldrop (ltake s b) a))) (and_ (Nat.ble a b) (Nat.ble b len))) = .yes := h1
    rw [lenK_eq] at h1
    obtain ⟨b, h3, hb⟩ := bnd_yes h1
    obtain ⟨a, h4, ha⟩ := bnd_yes h3
    obtain ⟨h4, h5⟩ := inv_if h4
    obtain ⟨q1, q2⟩ := and_eq.1 h4
    have q1 := ble_iff.1 q1
    have q2 := ble_iff.1 q2
    rw [ltake_eq, ldrop_eq] at h5
    refine ⟨_, h5, fun μ x' l h' hx hl hh => ?_⟩
    obtain ⟨rfl, hs⟩ := hx.s_inv
    refine ⟨_, .s _ (fun n hn => hs n (List.mem_of_mem_take (List.mem_of_mem_drop hn))), fun w => ?_⟩
    have hbs := fun w => run_bounds (P := P) (isS := false) (w := w) (len := (bstr s).size) (cap := (bstr s).size) (c := (bstr s).size) (mx := none) rfl (by rw [bstr_size]; exact hb μ h' hh) (ha μ l hl) (fun e => by cases e) q1 (by rw [bstr_size]; exact q2) (Nat.le_refl _)
    simp [Instr.sliceAt, Instr.slice, run_underlying ht, hbs, bstr_extract]
  · obtain ⟨hj, h1⟩ := inv_if h1
    have hj := beq_iff.1 hj
    subst hj
    have h1 : lenK (exList e) (fun len => bndK hi' len fun b => bndK lo 0 fun a => Bool.rec (motive := fun _ => Ans) Ans.no (strK (ldrop (ltake (exList e) b) a) kk) (and_ (Nat.ble a b) (Nat.ble b len))) = .yes := h1
    rw [lenK_eq] at h1
    obtain ⟨b, h3, hb⟩ := bnd_yes h1
    obtain ⟨a, h4, ha⟩ := bnd_yes h3
    obtain ⟨h4, h5⟩ := inv_if h4
    obtain ⟨q1, q2⟩ := and_eq.1 h4
    have q1 := ble_iff.1 q1
    have q2 := ble_iff.1 q2
    rw [ltake_eq, ldrop_eq] at h5
    obtain ⟨v, h6, h7⟩ := strK_yes h5
    refine ⟨v, h6, fun μ x' l h' hx hl hh => ?_⟩
    rw [hx.y9_inv]
    refine ⟨_, h7 μ, fun w => ?_⟩
    generalize hs : dl (exList e) = s
    have hlen : s.length = (exList e).length := by rw [← hs, dl_len]
    have hcut : dl (((exList e).take b).drop a) = (s.take b).drop a := by rw [← hs]; simp [dl, List.map_drop, List.map_take]
    rw [hcut]
    have hbs := fun w => run_bounds (P := P) (isS := false) (w := w) (len := (bstr s).size) (cap := (bstr s).size) (c := (bstr s).size) (mx := none) rfl (by rw [bstr_size, hlen]; exact hb μ h' hh) (ha μ l hl) (fun e => by cases e) q1 (by rw [bstr_size, hlen]; exact q2) (Nat.le_refl _)
    simp [Instr.sliceAt, Instr.slice, run_underlying ht, hbs, bstr_extract]
end
end
end Go.Proofs.YteefpemaeecicaaGreatDoor.Ev
end
section
open Go
namespace Go.Proofs.YteefpemaeecicaaGreatDoor.Ev
set_option linter.unusedVariables false
set_option linter.unusedSimpArgs false
set_option linter.constructorNameAsVariable false
noncomputable section
theorem bstr_of (s : ByteArray) : bstr (s.data.toList.map UInt8.toNat) = s := by
  apply ByteArray.ext
  apply Array.toList_inj.1
  simp [bstr, Function.comp_def]
theorem wrD_get (k : Nat) : ∀ (l : List AV) (i : Nat) (t : Tr AV k) (j : Nat), j < 8 ^ k → i + l.length ≤ 8 ^ k →
    Tr.get (α := AV) k (paK k j) (aggV.wrD k l i t) = if i ≤ j ∧ j < i + l.length then l.getD (j - i) .u else Tr.get (α := AV) k (paK k j) t
  | [], i, t, j, hj, hl => by rw [if_neg (by intro h; simp only [List.length_nil] at h; omega)]; rfl
  | a :: l, i, t, j, hj, hl => by
    simp only [List.length_cons] at hl ⊢
    show Tr.get (α := AV) k (paK k j) (aggV.wrD k l (i + 1) (tset k (paK k i) t a)) = _
    rw [wrD_get k l (i + 1) _ j hj (by omega), tset_eq, Tr.get_set k t a hj (by omega)]
    by_cases h1 : i + 1 ≤ j ∧ j < i + 1 + l.length
    · rw [if_pos h1, if_pos (by omega), show j - i = (j - (i + 1)) + 1 by omega]; rfl
    · rw [if_neg h1]
      by_cases h2 : j = i
      · subst h2; rw [if_pos rfl, if_pos (by omega), Nat.sub_self]; rfl
      · rw [if_neg h2, if_neg (by omega)]
theorem dep_eq (n : Nat) : dep n = if n ≤ 1 then 0 else if n ≤ 8 then 1 else if n ≤ 64 then 2 else if n ≤ 512 then 3 else if n ≤ 4096 then 4 else if n ≤ 32768 then 5 else 6 := by
  unfold dep
  simp only [bif_eq, ble_iff]
theorem aggV_isE {n : Nat} (l : List AV) (h : n ≤ 512) : isE (dep n + 1) n (aggV (dep n) n l) := by
  rw [dep_eq]
  split
  · rfl
  split
  · rfl
  split
  · rfl
  · rfl
theorem top_dep {n : Nat} (h : n ≤ 512) : n ≤ top (dep n + 1) := by
  rw [dep_eq]
  split
  · assumption
  split
  · assumption
  split
  · assumption
  · exact h
theorem aggV_cell {n : Nat} (l : List AV) (h : n ≤ 512) (hl : l.length = n) {i : Nat} (hi : i < n) : cellOf (dep n + 1) (aggV (dep n) n l) i = l.getD i .u := by
  have e := dep_eq n
  by_cases h1 : n ≤ 1
  · rw [if_pos h1] at e; rw [e]
    have : i = 0 := by omega
    subst this
    show l.headD .u = _
    cases l with
    | nil => rfl
    | cons a l => rfl
  rw [if_neg h1] at e
  by_cases h2 : n ≤ 8
  · rw [if_pos h2] at e; rw [e]
    show Tr.get (α := AV) 1 (paK 1 i) (aggV.wrD 1 l 0 (fillT .u 1)) = _
    rw [wrD_get 1 l 0 _ i (by omega) (by omega), if_pos (by omega), Nat.sub_zero]
  rw [if_neg h2] at e
  by_cases h3 : n ≤ 64
  · rw [if_pos h3] at e; rw [e]
    show Tr.get (α := AV) 2 (paK 2 i) (aggV.wrD 2 l 0 (fillT .u 2)) = _
    rw [wrD_get 2 l 0 _ i (by omega) (by omega), if_pos (by omega), Nat.sub_zero]
  rw [if_neg h3, if_pos h] at e
  rw [e]
  show Tr.get (α := AV) 3 (paK 3 i) (aggV.wrD 3 l 0 (fillT .u 3)) = _
  rw [wrD_get 3 l 0 _ i (by omega) (by omega), if_pos (by omega), Nat.sub_zero]
/-- A constant's value belongs to the constant. -/
theorem ofV_ok [Rho] (μ : Mp) : ∀ (n : Nat) (v : Value), VR μ (ofV n v) v
  | 0, v => .u v
  | n + 1, v => by
    have arr : ∀ (cs : Array Value) (i : Nat) u c, (cs.toList.map (ofV n))[i]? = some u → cs[i]? = some c → VR μ u c := fun cs i u c hu hc => by
      rw [List.getElem?_map, Array.getElem?_toList, hc] at hu
      cases hu
      exact ofV_ok μ n c
    cases v with
    | bool b => exact .b b
    | int k z =>
      show VR μ (if k.wrap z = z then .n (kc k) (z % (km k : Int)).toNat else .u) _
      split
      · rename_i h
        have hp : (0 : Int) < km k := by have := km_pos k; omega
        have h1 := Int.emod_nonneg z (Int.ne_of_gt hp)
        have h2 := Int.emod_lt_of_pos z hp
        have := VR.n_mk (μ := μ) k (u := (z % (km k : Int)).toNat) (z := z) (by omega) (by rw [Int.toNat_of_nonneg h1, Int.emod_emod])
        rwa [h] at this
      · exact .u _
    | float k x =>
      cases k with
      | f32 => exact .u _
      | f64 =>
        show VR μ (match flOf x with | some z => .f z | none => .u) _
        cases h : flOf x with
        | none => exact .u _
        | some z => exact .f z x (fl_const h)
    | complex k x y =>
      cases k with
      | f32 => exact .u _
      | f64 =>
        show VR μ (match flOf x, flOf y with | some a, some b => .c a b | _, _ => .u) _
        cases h : flOf x with
        | none => exact .u _
        | some z => cases h2 : flOf y with
          | none => exact .u _
          | some z2 => exact .c z z2 x y (fl_const h) (fl_const h2)
    | string s =>
      have := VR.s (μ := μ) (s.data.toList.map UInt8.toNat) (fun n hn => by
        obtain ⟨b, _, rfl⟩ := List.mem_map.1 hn
        exact b.toNat_lt)
      rw [bstr_of] at this
      exact this
    | pointer p => cases p with | none => exact .p0 | some a => exact .u _
    | slice p l c =>
      cases p with
      | some a => exact .u _
      | none => cases l with
        | zero => cases c with | zero => exact .sl0 | succ c => exact .u _
        | succ l => exact .u _
    | map p => cases p with | none => exact .m0 | some a => exact .u _
    | nilFunc => exact .fn0
    | nilIface => exact .if0
    | tuple cs => exact .tu _ cs (by simp) (arr cs)
    | func f a b =>
      cases f with
      | func f => exact .fn f _ _ a b (by simp) (by simp) (arr a) (arr b)
      | _ => exact .u _
    | agg cs =>
      show VR μ (if (decide (cs.size ≤ 512) && cs.toList.all oneC) = true then aggV (dep cs.size) cs.size (cs.toList.map (ofV n)) else .u) _
      split
      · rename_i h
        simp only [Bool.and_eq_true, decide_eq_true_eq, List.all_eq_true] at h
        refine VR.agg_mk (form := dep cs.size + 1) (by omega) (aggV_isE _ h.1) rfl (top_dep h.1) (fun i c hc => h.2 c (by rw [← Array.getElem?_toList] at hc; exact List.mem_of_getElem? hc)) (fun i c hc => ?_)
        have hi : i < cs.size := by
          rcases Nat.lt_or_ge i cs.size with hl | hl
          · exact hl
          · rw [Array.getElem?_eq_none hl] at hc; cases hc
        rw [aggV_cell _ h.1 (by simp) hi, List.getD_eq_getElem?_getD, List.getElem?_map, Array.getElem?_toList, hc]
        exact ofV_ok μ n c
      · exact .u _
    | _ => exact .u _
section
variable {P : Program} {T : Ty}
/-- A zero value of a type has the type's shape. -/
theorem zero_spec [Rho] (hT : TyOk P T) {t s f : Nat} {z : AV} (hz : zeroA T t = some z) (hs : shp T t = some (s, f)) :
    ∃ i v, P.info? t = some i ∧ i.zero = some v ∧ i.size = s ∧ isE f s z ∧ (∀ μ, VR μ z v) ∧ (f = 0 → oneC v = true) := by
  unfold zeroA at hz
  rw [hs] at hz
  obtain ⟨⟨j, hj, hsz⟩, s0, s1, sf4, sff, _⟩ := shp_spec (w := default) hT hs
  cases hi : inf T t with
  | none => rw [hi] at hz; rcases f with _ | f <;> cases hz
  | some i =>
    have hI := hT.info t i hi
    rw [hj] at hI; cases hI
    rw [hi] at hz
    simp only [Option.bind_some] at hz
    cases hv : j.zero with
    | none => rw [hv] at hz; rcases f with _ | f <;> cases hz
    | some v =>
      rw [hv] at hz
      rcases f with _ | f
      · simp only at hz
        split at hz
        · rename_i h1
          cases hz
          exact ⟨j, v, hj, hv, hsz, sff rfl, fun μ => ofV_ok μ 4 v, fun _ => h1⟩
        · cases hz
      · cases v with
        | agg cs =>
          simp only at hz
          split at hz
          · rename_i h1
            simp only [Bool.and_eq_true, decide_eq_true_eq, List.all_eq_true] at h1
            cases hz
            refine ⟨j, .agg cs, hj, hv, hsz, ?_, fun μ => ofV_ok μ 4 _, fun e => by cases e⟩
            have hf : f = dep s := by
              unfold shp at hs
              rw [hi] at hs
              cases hu : und T t with
              | none => rw [hu] at hs; cases hs
              | some u =>
                rw [hu] at hs
                cases u <;> simp only at hs <;> split at hs <;> first | (cases hs; rfl) | cases hs
            have hs5 : cs.size ≤ 512 := by
              have : s ≤ 512 := by
                have ht : ∀ f, top f ≤ 512 := fun f => by rcases f with _ | _ | _ | _ | f <;> first | decide | exact Nat.le_refl 512
                exact Nat.le_trans s1 (ht _)
              omega
            have : ofV 4 (.agg cs) = aggV (dep cs.size) cs.size (cs.toList.map (ofV 3)) := by
              show (if (decide (cs.size ≤ 512) && cs.toList.all oneC) = true then _ else _) = _
              rw [if_pos (by simp only [Bool.and_eq_true, decide_eq_true_eq, List.all_eq_true]; exact ⟨hs5, h1.2⟩)]
            rw [this, hf, ← h1.1]
            exact aggV_isE _ hs5
          · cases hz
        | _ => cases hz
end
end
end Go.Proofs.YteefpemaeecicaaGreatDoor.Ev
end
