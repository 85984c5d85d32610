/- Go's contract on the machine that sorts: bytes are put in order, pair by pair. No condition. -/
import Derived.Test.YteefpemaeecicaaGreatDoorExSoA
import Derived.Test.YteefpemaeecicaaGreatDoorExSoE0
import Derived.Test.YteefpemaeecicaaGreatDoorExSoE1
import Derived.Test.YteefpemaeecicaaGreatDoorExSoE2
import Derived.Test.YteefpemaeecicaaGreatDoorExSoE3
open Go Go.RowKit Go.Proofs
namespace Go.Proofs.YteefpemaeecicaaGreatDoor.Ev
set_option linter.unusedVariables false
set_option linter.unusedSimpArgs false
set_option linter.constructorNameAsVariable false
noncomputable section
/-! ### The sort in plain words -/
def swp (f : Nat → Nat) (j : Nat) : Nat → Nat := fun k => if k = j then f (j + 1) else if k = j + 1 then f j else f k
def stp (f : Nat → Nat) (j : Nat) : Nat → Nat := if f (j + 1) < f j then swp f j else f
def inn (f : Nat → Nat) (j : Nat) : Nat → Nat → Nat
  | 0 => f
  | k + 1 => inn (stp f j) (j + 1) k
def srt (f : Nat → Nat) (n : Nat) : Nat → Nat → Nat
  | 0 => f
  | k + 1 => srt (inn f 0 (n - 1)) n k
/-! ### Numbers -/
theorem getE_eq (l : List Ex) (i : Nat) : getE l i = (l[i]?).getD (.var i) := by
  have key : ∀ (l : List Ex) (j : Nat), (lrec l (fun _ => Ex.var i) (fun a _ ih j => Nat.rec (motive := fun _ => Ex) a (fun j _ => ih j) j) : Nat → Ex) j = (l[j]?).getD (.var i) := by
    intro l
    induction l with
    | nil => intro j; rfl
    | cons a l ih =>
      intro j
      cases j with
      | zero => rfl
      | succ j => exact (ih j).trans (by rw [List.getElem?_cons_succ])
  exact key l i
theorem so_27_4 [Rho] (e : Ex) : den (.op 27 4 e (.lit 0)) = den e % 256 := rfl
theorem so_8_7 [Rho] (e : Ex) : den (.op 8 7 e (.lit 0)) = den e % 18446744073709551616 := by
  show den e % 18446744073709551616 / 2 ^ (0 % 18446744073709551616) = _
  rw [Nat.zero_mod, Nat.pow_zero, Nat.div_one]
theorem so_4_7 [Rho] (e : Ex) : den (.op 4 7 (.lit 0) e) = den e % 18446744073709551616 := by
  show Nat.lor (0 % 18446744073709551616) (den e % 18446744073709551616) = _
  rw [Nat.zero_mod]
  exact Nat.zero_or _
theorem so_23_2 [Rho] (e : Ex) : den (.op 23 2 e (.lit 0)) = sExt 2147483648 4294967296 18446744073709551616 (den e % 4294967296) := rfl
theorem ex1_den [Rho] {e : Ex} {n : Nat} (h : den e % 18446744073709551616 = n) (hn : n < 2147483648) : den (ex1 e) = n := by
  have a1 : den (.op 22 3 e (.lit 0)) = den e % 18446744073709551616 := rfl
  unfold ex1
  rw [so_23_2, a1, h, Nat.mod_eq_of_lt (show n < 4294967296 by omega), sExt_lo hn]
theorem ldE_den [R : Rho] {k : Nat} (h : R.n (10 + k) < 256) : den (ldE k) = R.n (10 + k) := by
  unfold ldE
  refine ex1_den ?_ (by omega)
  have a1 : ∀ e, den (.op 23 7 e (.lit 0)) = den e % 18446744073709551616 := fun e => rfl
  have a2 : den (.var (Nat.add 10 k)) = R.n (10 + k) := rfl
  rw [a1, so_4_7, so_27_4, a2]
  omega
theorem stE_den [R : Rho] {k : Nat} (h : R.n (10 + k) < 256) : den (stE k) = R.n (10 + k) := by
  unfold stE
  have a1 : ∀ e, den (.op 24 7 e (.lit 0)) = den e % 18446744073709551616 := fun e => rfl
  have a2 : ∀ e, den (.op 27 3 e (.lit 0)) = den e % 18446744073709551616 := fun e => rfl
  rw [a1, so_8_7, a2, ldE_den h]
  omega
theorem cmE_den [R : Rho] {k : Nat} (h : R.n (10 + k) < 256) : den (cmE k) = R.n (10 + k) := by
  unfold cmE
  have a1 : ∀ e, den (.op 27 6 e (.lit 0)) = den e % 4294967296 := fun e => rfl
  have a2 : ∀ e, den (.op 26 3 e (.lit 0)) = den e % 18446744073709551616 := fun e => rfl
  rw [a1, a2, ldE_den h]
  omega
/-! ### What is taken -/
def upE (i q : Nat) : Ex := nrec q (.var i) fun _ e => .op 0 7 e (.lit 1)
def dnE (i q : Nat) : Ex := nrec q (.var i) fun _ e => .op 1 3 e (.lit 1)
def tkQ (k m : Nat) : List As :=
  [⟨0, 7, .op 3 7 (.var 0) (.lit 18446744073709551600), .lit 0, true⟩, ⟨0, 7, .op 3 7 (.var 1) (.lit 18446744073709551600), .lit 0, true⟩] ++
  ((List.range (m + 1)).map fun q => ⟨2, 7, upE 8 q, .lit 9007199254740992, true⟩) ++
  ((List.range k).flatMap fun q => [⟨4, 3, dnE 3 q, .lit 0, true⟩, ⟨2, 7, upE 2 q, .lit 9007199254740992, true⟩, ⟨4, 3, upE 2 (q + 1), .lit 1000000, false⟩]) ++
  [⟨2, 7, upE 2 k, .lit 9007199254740992, true⟩]
theorem tkA_eq : tkA = tkQ 10 0 := by kernel_rfl
theorem tkZ_eq : tkZ = tkQ 8 0 := by kernel_rfl
theorem tkB_eq : tkB = tkQ 8 0 := by kernel_rfl
theorem tkQ_eq : tkQ_ = tkQ 6 0 := by kernel_rfl
theorem tkN_eq : tkN = tkQ 17 2 := by kernel_rfl
theorem tkS_eq : tkS = tkQ 28 6 := by kernel_rfl
theorem tkX_eq : tkX = tkQ 11 0 := by kernel_rfl
theorem upE_den [R : Rho] {i t : Nat} (h : R.n i % 18446744073709551616 = t) : ∀ q, t + q ≤ 1000000 → den (upE i q) % 18446744073709551616 = t + q
  | 0, _ => h
  | q + 1, hq => by
    have ih := upE_den h q (by omega)
    show (den (upE i q) % 18446744073709551616 + 1 % 18446744073709551616) % 18446744073709551616 = _
    omega
theorem dnE_den [R : Rho] {i c : Nat} (h : R.n i % 18446744073709551616 = c) : ∀ q, q ≤ c → den (dnE i q) % 18446744073709551616 = c - q
  | 0, _ => h
  | q + 1, hq => by
    have ih := dnE_den h q (by omega)
    show (den (dnE i q) % 18446744073709551616 + (18446744073709551616 - 1 % 18446744073709551616)) % 18446744073709551616 = _
    omega
theorem hold_mask [R : Rho] (i b q : Nat) {m : Nat} (hq : q = 2 ^ b) (hb : b ≤ 64) (hm : m + q = 18446744073709551616) (h : R.n i % 18446744073709551616 < q) : cmpD 0 7 (den (.op 3 7 (.var i) (.lit m)) % kmN 7) (den (.lit 0) % kmN 7) = true := by
  have e1 : den (.op 3 7 (.var i) (.lit m)) = (R.n i % 2 ^ 64) &&& (m % 2 ^ 64) := rfl
  have hq0 : 0 < q := by rw [hq]; exact Nat.two_pow_pos b
  have e2 : m = 2 ^ 64 - 2 ^ b := by rw [← hq]; omega
  have e3 : (R.n i % 2 ^ 64) &&& (m % 2 ^ 64) = 0 := by
    rw [Nat.mod_eq_of_lt (show m < 2 ^ 64 by omega), e2]
    refine Nat.eq_of_testBit_eq fun t => ?_
    rw [Nat.testBit_and, pow_sub_bit hb, Nat.zero_testBit]
    by_cases h1 : b ≤ t
    · have : (R.n i % 2 ^ 64).testBit t = false := Nat.testBit_lt_two_pow (Nat.lt_of_lt_of_le (show R.n i % 2 ^ 64 < 2 ^ b by rw [← hq]; exact h) (Nat.pow_le_pow_right (by omega) h1))
      rw [this]; rfl
    · rw [decide_eq_false h1]; simp
  exact take_eq (by rw [e1, e3]; symm; exact decide_eq_true rfl)
theorem holds_tk [R : Rho] {t c m : Nat} (k mm : Nat) (h0 : R.n 0 % 18446744073709551616 < 16) (h1 : R.n 1 % 18446744073709551616 < 16) (ht : R.n 2 % 18446744073709551616 = t) (hc : R.n 3 % 18446744073709551616 = c) (hm : R.n 8 % 18446744073709551616 = m) (q1 : t + k ≤ 900000) (q2 : k ≤ c) (q3 : c ≤ 900000) (q4 : m + mm ≤ 900000) : Holds (tkQ k mm) := by
  intro a ha
  unfold tkQ at ha
  rcases List.mem_append.1 ha with ha | ha
  · rcases List.mem_append.1 ha with ha | ha
    · rcases List.mem_append.1 ha with ha | ha
      · rcases List.mem_cons.1 ha with rfl | ha
        · exact hold_mask 0 4 16 rfl (by omega) rfl h0
        · rcases List.mem_cons.1 ha with rfl | ha
          · exact hold_mask 1 4 16 rfl (by omega) rfl h1
          · cases ha
      · obtain ⟨q, hq, rfl⟩ := List.mem_map.1 ha
        have hq := List.mem_range.1 hq
        exact take_lim (e := upE 8 q) (by rw [upE_den hm q (by omega)]; omega)
    · obtain ⟨q, hq, ha⟩ := List.mem_flatMap.1 ha
      have hq := List.mem_range.1 hq
      rcases List.mem_cons.1 ha with rfl | ha
      · have e := dnE_den hc q (by omega)
        exact take_gt (e := dnE 3 q) (n := 0) (b := true) (by rw [e]; omega) (by omega) (by rw [e]; symm; exact decide_eq_true (by omega))
      rcases List.mem_cons.1 ha with rfl | ha
      · exact take_lim (e := upE 2 q) (by rw [upE_den ht q (by omega)]; omega)
      rcases List.mem_cons.1 ha with rfl | ha
      · have e := upE_den ht (q + 1) (by omega)
        exact take_gt (e := upE 2 (q + 1)) (n := 1000000) (b := false) (by rw [e]; omega) (by omega) (by rw [e]; symm; exact decide_eq_false (by omega))
      · cases ha
  · rcases List.mem_cons.1 ha with rfl | ha
    · exact take_lim (e := upE 2 k) (by rw [upE_den ht k (by omega)]; omega)
    · cases ha
/-- Not less, of whole numbers from nought. -/
theorem take_ge [Rho] {x y : Ex} {a c : Nat} {b : Bool} (hx : den x % 18446744073709551616 = a) (hy : den y % 18446744073709551616 = c) (ha : a < 9223372036854775808) (hc : c < 9223372036854775808) (hb : b = decide (c ≤ a)) : cmpD 5 3 (den x % kmN 3) (den y % kmN 3) = b := by
  have e1 : den x % kmN 3 = a := hx
  have e2 : den y % kmN 3 = c := hy
  rw [e1, e2]
  show not_ (ltN 3 a c) = b
  rw [not_eq, ltN3, hb, Bool.eq_iff_iff, Bool.not_eq_true', decide_eq_true_eq, decide_eq_false_iff_not]
  omega
/-- Greater, of numbers without a sign. -/
theorem take_gtU [Rho] {x y : Ex} {a c : Nat} {b : Bool} (hx : den x = a) (hy : den y = c) (ha : a < 18446744073709551616) (hc : c < 18446744073709551616) (hb : b = decide (c < a)) : cmpD 4 7 (den x % kmN 7) (den y % kmN 7) = b := by
  have e1 : den x % kmN 7 = a := by rw [hx]; exact Nat.mod_eq_of_lt ha
  have e2 : den y % kmN 7 = c := by rw [hy]; exact Nat.mod_eq_of_lt hc
  rw [e1, e2, hb]
  show Nat.ble (c + 1) a = _
  rw [Bool.eq_iff_iff, decide_eq_true_eq]
  exact ble_iff
/-! ### How the machine stands -/
structure SSt where
  (p : Nat) (w : Bool) (j i n t m : Nat) (f : Nat → Nat)
structure Rel (R : Rho) (x : SSt) : Prop where
  i : R.n 0 % 18446744073709551616 = x.i
  n : R.n 1 % 18446744073709551616 = x.n
  t : R.n 2 % 18446744073709551616 = x.t
  c : R.n 3 % 18446744073709551616 = 30000 - x.t
  m : R.n 8 % 18446744073709551616 = x.m
  b : ∀ k, k < 12 → R.n (10 + k) = x.f k
/-- What stays so from head to head; g: the bytes in the end. -/
structure SInv (g : Nat → Nat) (x : SSt) : Prop where
  n : x.n ≤ 12
  m : x.m ≤ x.t
  b : ∀ k, k < 12 → x.f k < 256
  ph : (x.p = 0 ∧ x.w = false ∧ x.j = 0 ∧ x.i = 0 ∧ x.t = 0 ∧ g = srt x.f x.n x.n) ∨ (x.p = 50 ∧ x.j = 0 ∧ x.i ≤ x.n ∧ x.t ≤ 20 + 330 * x.i ∧ g = srt x.f x.n (x.n - x.i)) ∨
    (x.p = 10 ∧ x.i < x.n ∧ x.j + 1 ≤ x.n ∧ x.t ≤ 30 + 330 * x.i + 28 * x.j ∧ g = srt (inn x.f x.j (x.n - 1 - x.j)) x.n (x.n - x.i - 1)) ∨ (x.p = 54 ∧ x.w = false ∧ x.j = 0 ∧ x.t ≤ 20000 ∧ g = x.f)
def soM_ (x : SSt) : Nat := if x.p = 0 then 100000 else if x.p = 50 then (x.n - x.i) * 20 + 1 else if x.p = 10 then (x.n - x.i - 1) * 20 + 2 + (x.n - 1 - x.j) else 0
def soN : List Nm := [⟨.d0, .d0, .d0⟩, ⟨.d0, .d0, .d1⟩, ⟨.d0, .d0, .d8⟩, ⟨.d0, .d0, .d17⟩]
theorem lt512 : ∀ t ∈ [0, 1, 4], t < 512 := by decide
theorem lt512' : ∀ t ∈ [0, 1], t < 512 := by decide
structure SoAt (R0 : Rho) (Kp : Kp) (μ0 : Mp) (g : Nat → Nat) (x : SSt) (a : Act) (w : World) : Prop where
  inv : SInv g x
  ex : ∃ (R : Rho) (μ : Mp), Rel R x ∧ (∀ i, 22 ≤ i → R.n i = R0.n i) ∧ R.v = R0.v ∧ R.inp = R0.inp ∧ @At R goE [0, 1, 4] [avP, avN, avQ] Kp μ (hpT (soT x.p x.w x.j) c40) a w ∧ ∀ y ∈ soN, μ y = μ0 y
theorem sg_22 {i t c x jj m : Ex} {l : List Ex} (hl : l.length = 12) (q : Nat) (hq : 22 ≤ q) : getE (sg i t c x jj m l) q = .var q := by
  rw [getE_eq, List.getElem?_eq_none]
  · rfl
  · show l.length + 1 + 1 + 1 + 1 + 1 + 1 + 1 + 1 + 1 + 1 ≤ q
    omega
theorem sg_b {i t c x jj m : Ex} {l : List Ex} (hl : l.length = 12) (k : Nat) (hk : k < 12) : getE (sg i t c x jj m l) (10 + k) = getE l k := by
  obtain ⟨e, he⟩ : ∃ e, l[k]? = some e := ⟨_, List.getElem?_eq_getElem (by omega)⟩
  rw [getE_eq, getE_eq, he, show 10 + k = k + 10 by omega]
  show ((l[k]?).getD _) = _
  rw [he]
  rfl
theorem soBs_at (k : Nat) (hk : k < 12) : getE soBs k = .var (10 + k) := by
  match k, hk with
  | 0, _ => rfl
  | 1, _ => rfl
  | 2, _ => rfl
  | 3, _ => rfl
  | 4, _ => rfl
  | 5, _ => rfl
  | 6, _ => rfl
  | 7, _ => rfl
  | 8, _ => rfl
  | 9, _ => rfl
  | 10, _ => rfl
  | 11, _ => rfl
  | n + 12, h => omega
theorem putE_at : ∀ (l : List Ex) (k : Nat) (e : Ex) (q : Nat), k < l.length → getE (putE l k e) q = if q = k then e else getE l q := by
  have key : ∀ (l : List Ex) (k : Nat) (e : Ex) (q : Nat), k < l.length → (putE l k e)[q]? = if q = k then some e else l[q]? := by
    intro l
    induction l with
    | nil => intro k e q h; cases h
    | cons a l ih =>
      intro k e q h
      cases k with
      | zero =>
        show (e :: l)[q]? = _
        cases q with
        | zero => rfl
        | succ q => rw [if_neg (by omega)]; rfl
      | succ k =>
        show (a :: putE l k e)[q]? = _
        cases q with
        | zero => rw [if_neg (by omega)]; rfl
        | succ q =>
          have := ih k e q (Nat.lt_of_succ_lt_succ h)
          show (putE l k e)[q]? = _
          rw [this]
          by_cases hq : q = k
          · rw [if_pos hq, if_pos (by omega)]
          · rw [if_neg hq, if_neg (by omega)]; rfl
  intro l k e q h
  rw [getE_eq, getE_eq, key l k e q h]
  split <;> rfl
theorem putE_len : ∀ (l : List Ex) (k : Nat) (e : Ex), (putE l k e).length = l.length
  | [], 0, _ => rfl
  | [], k + 1, _ => rfl
  | a :: l, 0, _ => rfl
  | a :: l, k + 1, e => by
    show (a :: putE l k e).length = _
    rw [List.length_cons, List.length_cons, putE_len l k e]
theorem swE_len (j : Nat) : (swE j).length = 12 := by unfold swE; rw [putE_len, putE_len]; rfl
theorem swE_at (j : Nat) (hj : j + 1 < 12) (k : Nat) (hk : k < 12) : getE (swE j) k = if k = j + 1 then stE j else if k = j then stE (j + 1) else .var (10 + k) := by
  unfold swE
  rw [putE_at _ _ _ _ (by rw [putE_len]; exact hj), putE_at _ _ _ _ (by show j < 12; omega), soBs_at k hk]
/-- From a head to the next one. -/
theorem so_step {R0 : Rho} {Kp : Kp} (hN : ∀ nm, ¬ Kp.N nm) {μ0 : Mp} (h0 : ∀ n ∈ soN, ∃ bk, μ0 n = some bk) {g : Nat → Nat} {x y : SSt} {R : Rho} {μ : Mp} (h22 : ∀ i, 22 ≤ i → R.n i = R0.n i) (hv : R.v = R0.v) (hi : R.inp = R0.inp) {a : Act} {w : World} (hA : @At R goE [0, 1, 4] [avP, avN, avQ] Kp μ (hpT (soT x.p x.w x.j) c40) a w) (hst : ∀ n ∈ soN, μ n = μ0 n)
    {tk : List As} {k : Nat} {ps : List (Nm × Nm)} {i t c xx jj m : Ex} {l : List Ex} (hl : l.length = 12) (hf : FI tk x.p x.w x.j y.p y.w y.j k ps (sg i t c xx jj m l) = .yes) (hh : @Holds R tk) (hps : (soN.all fun n => (lk (sbP ps (soT y.p y.w y.j)) n).any fun m => Nm.beq m n) = true) (inv : SInv g y)
    (ri : @den R i % 18446744073709551616 = y.i) (rn : R.n 1 % 18446744073709551616 = y.n) (rt : @den R t % 18446744073709551616 = y.t) (rc : @den R c % 18446744073709551616 = 30000 - y.t) (rm : @den R m % 18446744073709551616 = y.m) (rb : ∀ k, k < 12 → @den R (getE l k) = y.f k) :
    Iter Tryz.prog goB (SoAt R0 Kp μ0 g y) (k + 1) a w := by
  have hd : ∀ n ∈ soN, ∃ bk, μ n = some bk := fun n hn => by rw [hst n hn]; exact h0 n hn
  unfold FI at hf
  refine @fragI_ok Tryz.prog _ 1 goE Tryz.f14 _ _ R (@progOk R _ hh) _ (@soR_ok R _ hh [] (@LOk.nil R)) goE_ok goB _ lt512 _ _ _ _ _ _ hf Kp hN μ a w hA _ fun a' w' he => ?_
  obtain ⟨μ2, q1, q2⟩ := Ends.next hN he (Rho.Same.rfl' _) soN hps hd
  refine ⟨inv, @Rho.sub R (sg i t c xx jj m l), μ2, ⟨ri, rn, rt, rc, rm, fun k hk => ?_⟩, fun q hq => ?_, hv, hi, q1, fun n hn => (q2 n hn).trans (hst n hn)⟩
  · show @den R (getE (sg i t c xx jj m l) (10 + k)) = _
    rw [sg_b hl k hk]
    exact rb k hk
  · show @den R (getE (sg i t c xx jj m l) q) = R0.n q
    rw [sg_22 hl q hq]
    exact h22 q hq
theorem allD {f : Nat → Ans} {n k : Nat} (h : allA f n = .yes) (hk : k < n) {g : Ans} (e : f k = g) : g = .yes := by rw [← e]; exact allA_yes h k hk
theorem u6_eq : u6 = upE 2 6 := by kernel_rfl
theorem d6_eq : d6 = dnE 3 6 := by kernel_rfl
theorem u8_eq : u8 = upE 2 8 := by kernel_rfl
theorem d8_eq : d8 = dnE 3 8 := by kernel_rfl
theorem u10_eq : u10 = upE 2 10 := by kernel_rfl
theorem d10_eq : d10 = dnE 3 10 := by kernel_rfl
theorem u11_eq : u11 = upE 2 11 := by kernel_rfl
theorem d11_eq : d11 = dnE 3 11 := by kernel_rfl
theorem u17_eq : u17 = upE 2 17 := by kernel_rfl
theorem d17_eq : d17 = dnE 3 17 := by kernel_rfl
theorem u28_eq : u28 = upE 2 28 := by kernel_rfl
theorem d28_eq : d28 = dnE 3 28 := by kernel_rfl
theorem m0_eq : m0 = upE 8 0 := by kernel_rfl
theorem m2_eq : m2 = upE 8 2 := by kernel_rfl
theorem m6_eq : m6 = upE 8 6 := by kernel_rfl
theorem st_a0 (j : Nat) : (soN.all fun n => (lk (sbP ps_a0 (soT 10 false j)) n).any fun m => Nm.beq m n) = true := by kernel_rfl
theorem st_z0 (j : Nat) : (soN.all fun n => (lk (sbP ps_z0 (soT 54 false j)) n).any fun m => Nm.beq m n) = true := by kernel_rfl
theorem st_b0 (j : Nat) : (soN.all fun n => (lk (sbP ps_b0 (soT 10 false j)) n).any fun m => Nm.beq m n) = true := by kernel_rfl
theorem st_b1 (j : Nat) : (soN.all fun n => (lk (sbP ps_b1 (soT 10 true j)) n).any fun m => Nm.beq m n) = true := by kernel_rfl
theorem st_q0 (j : Nat) : (soN.all fun n => (lk (sbP ps_q0 (soT 54 false j)) n).any fun m => Nm.beq m n) = true := by kernel_rfl
theorem st_q1 (j : Nat) : (soN.all fun n => (lk (sbP ps_q1 (soT 54 false j)) n).any fun m => Nm.beq m n) = true := by kernel_rfl
theorem st_n0 (j : Nat) : (soN.all fun n => (lk (sbP ps_n0 (soT 10 false j)) n).any fun m => Nm.beq m n) = true := by kernel_rfl
theorem st_n1 (j : Nat) : (soN.all fun n => (lk (sbP ps_n1 (soT 10 true j)) n).any fun m => Nm.beq m n) = true := by kernel_rfl
theorem st_s0 (j : Nat) : (soN.all fun n => (lk (sbP ps_s0 (soT 10 true j)) n).any fun m => Nm.beq m n) = true := by kernel_rfl
theorem st_s1 (j : Nat) : (soN.all fun n => (lk (sbP ps_s1 (soT 10 true j)) n).any fun m => Nm.beq m n) = true := by kernel_rfl
theorem st_x0 (j : Nat) : (soN.all fun n => (lk (sbP ps_x0 (soT 50 false j)) n).any fun m => Nm.beq m n) = true := by kernel_rfl
theorem st_x1 (j : Nat) : (soN.all fun n => (lk (sbP ps_x1 (soT 50 true j)) n).any fun m => Nm.beq m n) = true := by kernel_rfl
theorem st_id : (soN.all fun n => (lk (sbP [] (soT 54 false 0)) n).any fun m => Nm.beq m n) = true := by kernel_rfl
/-- What a round comes to: the end, or a head that is nearer to it. -/
def SoNext (R0 : Rho) (Kp : Kp) (μ0 : Mp) (g : Nat → Nat) (y : SSt) (a : Act) (w : World) : Prop :=
  goB.wp Tryz.prog (fun ex a' w' => ex = .exit 0 ∧ ∃ z : SSt, z.p = 54 ∧ SoAt R0 Kp μ0 g z a' w') a w ∨ ∃ n, Iter Tryz.prog goB (fun a' w' => ∃ z, soM_ z < soM_ y ∧ SoAt R0 Kp μ0 g z a' w') n a w
theorem so_body {R0 : Rho} {Kp : Kp} (hN : ∀ nm, ¬ Kp.N nm) {μ0 : Mp} (h0 : ∀ n ∈ soN, ∃ bk, μ0 n = some bk) {g : Nat → Nat} (y : SSt) (a : Act) (w : World) (h : SoAt R0 Kp μ0 g y a w) :
    SoNext R0 Kp μ0 g y a w := by
  obtain ⟨inv, R, μ, rel, h22, rv, ri, hA, hst⟩ := h
  have hd : ∀ n ∈ soN, ∃ bk, μ n = some bk := fun n hn => by rw [hst n hn]; exact h0 n hn
  obtain ⟨p, ww, j, i, n, t, m, f⟩ := y
  obtain ⟨i1, i2, i3, i4⟩ := inv
  have i1 : n ≤ 12 := i1
  have i2 : m ≤ t := i2
  have i3 : ∀ k, k < 12 → f k < 256 := i3
  have rI : R.n 0 % 18446744073709551616 = i := rel.i
  have rN : R.n 1 % 18446744073709551616 = n := rel.n
  have rT : R.n 2 % 18446744073709551616 = t := rel.t
  have rC : R.n 3 % 18446744073709551616 = 30000 - t := rel.c
  have rM : R.n 8 % 18446744073709551616 = m := rel.m
  have rB : ∀ k, k < 12 → R.n (10 + k) = f k := rel.b
  have rb0 : ∀ k, k < 12 → @den R (getE soBs k) = f k := fun k hk => by rw [soBs_at k hk]; exact rB k hk
  have hT : ∀ k mm, k ≤ 28 → mm ≤ 6 → t ≤ 20000 → i ≤ 12 → @Holds R (tkQ k mm) := fun k mm h1 h2 h3 h4 => @holds_tk R t (30000 - t) m k mm (by rw [rI]; omega) (by rw [rN]; omega) rT rC rM (by omega) (by omega) (by omega) (by omega)
  have hI : ∀ {b : Bool} {l : List As}, i ≤ 12 → b = decide (n ≤ i) → @Holds R l → @Holds R (tkI b l) := fun h4 hb hl => @holds_cons R _ _ (@take_ge R (.var 0) (.var 1) i n _ rI rN (by omega) (by omega) hb) hl
  have hJ : ∀ {b : Bool} {l : List As}, 1 ≤ n → j ≤ 12 → b = decide (n - 1 ≤ j) → @Holds R l → @Holds R (tkJ j b l) := fun hn hj hb hl => @holds_cons R _ _ (@take_ge R (.lit j) n1E j (n - 1) _ (Nat.mod_eq_of_lt (show j < 18446744073709551616 by omega)) (by
    have e : @den R (.op 1 3 (.var 1) (.lit 1)) % 18446744073709551616 = n - 1 := by
      show (R.n 1 % 18446744073709551616 + (18446744073709551616 - 1 % 18446744073709551616)) % 18446744073709551616 = n - 1
      omega
    show @den R (ex1 (.op 1 3 (.var 1) (.lit 1))) % 18446744073709551616 = _
    rw [@ex1_den R _ _ e (by omega)]
    omega) (by omega) (by omega) hb) hl
  have hC : ∀ {b : Bool} {l : List As}, j + 1 < 12 → b = decide (f (j + 1) < f j) → @Holds R l → @Holds R (tkC j b l) := fun hj hb hl => by
    have b0 := i3 j (by omega)
    have b1 := i3 (j + 1) hj
    have c0 := rB j (by omega)
    have c1 := rB (j + 1) hj
    exact @holds_cons R _ _ (@take_gtU R (cmE j) (cmE (Nat.succ j)) (f j) (f (j + 1)) _ ((@cmE_den R j (by omega)).trans c0) ((@cmE_den R (j + 1) (by omega)).trans c1) (by omega) (by omega) hb) hl
  have up : ∀ (e : Ex) (k : Nat), e = upE 2 k → k ≤ 28 → t ≤ 20000 → @den R e % 18446744073709551616 = t + k := fun e k he hk ht => by rw [he]; exact @upE_den R 2 t rT k (by omega)
  have dn : ∀ (e : Ex) (k : Nat), e = dnE 3 k → k ≤ 28 → t ≤ 20000 → @den R e % 18446744073709551616 = 30000 - (t + k) := fun e k he hk ht => by rw [he, @dnE_den R 3 (30000 - t) rC k (by omega)]; omega
  have mm : ∀ (e : Ex) (k : Nat), e = upE 8 k → k ≤ 6 → t ≤ 20000 → @den R e % 18446744073709551616 = m + k := fun e k he hk ht => by rw [he]; exact @upE_den R 8 m rM k (by omega)
  have go : ∀ (z : SSt), soM_ z < soM_ ⟨p, ww, j, i, n, t, m, f⟩ → ∀ {k}, Iter Tryz.prog goB (SoAt R0 Kp μ0 g z) k a w → SoNext R0 Kp μ0 g ⟨p, ww, j, i, n, t, m, f⟩ a w := fun z hz k hk => .inr ⟨k, Iter.mono (fun a w h => ⟨z, hz, h⟩) hk⟩
  have i4 : (p = 0 ∧ ww = false ∧ j = 0 ∧ i = 0 ∧ t = 0 ∧ g = srt f n n) ∨ (p = 50 ∧ j = 0 ∧ i ≤ n ∧ t ≤ 20 + 330 * i ∧ g = srt f n (n - i)) ∨ (p = 10 ∧ i < n ∧ j + 1 ≤ n ∧ t ≤ 30 + 330 * i + 28 * j ∧ g = srt (inn f j (n - 1 - j)) n (n - i - 1)) ∨ (p = 54 ∧ ww = false ∧ j = 0 ∧ t ≤ 20000 ∧ g = f) := i4
  rcases i4 with ⟨rfl, rfl, rfl, rfl, rfl, hg⟩ | ⟨rfl, rfl, h1, h2, hg⟩ | ⟨rfl, h1, h2, h3, hg⟩ | ⟨rfl, rfl, rfl, h1, hg⟩
  · -- the start
    by_cases hn : n = 0
    · subst hn
      refine go ⟨54, false, 0, 0, 0, 0 + 8, m + 0, f⟩ (by show (0 : Nat) < 100000; omega) (so_step hN h0 h22 rv ri hA hst (y := ⟨54, false, 0, 0, 0, 0 + 8, m + 0, f⟩) (l := soBs) rfl (allA_yes so_z0 0 (by omega)) (hI (by omega) (by rfl) (by rw [tkZ_eq]; exact hT 8 0 (by omega) (by omega) (by omega) (by omega))) (st_z0 0) ?_ rI rN (up u8 8 u8_eq (by omega) (by omega)) (dn d8 8 d8_eq (by omega) (by omega)) (mm m0 0 m0_eq (by omega) (by omega)) rb0)
      exact ⟨by show (0 : Nat) ≤ 12; omega, by show m + 0 ≤ 0 + 8; omega, i3, .inr (.inr (.inr ⟨rfl, rfl, rfl, by show 0 + 8 ≤ 20000; omega, hg⟩))⟩
    · refine go ⟨10, false, 0, 0, n, 0 + 10, m + 0, f⟩ ?_ (so_step hN h0 h22 rv ri hA hst (y := ⟨10, false, 0, 0, n, 0 + 10, m + 0, f⟩) (l := soBs) rfl (allA_yes so_a0 0 (by omega)) (hI (by omega) (by symm; exact decide_eq_false (by omega)) (by rw [tkA_eq]; exact hT 10 0 (by omega) (by omega) (by omega) (by omega))) (st_a0 0) ?_ rI rN (up u10 10 u10_eq (by omega) (by omega)) (dn d10 10 d10_eq (by omega) (by omega)) (mm m0 0 m0_eq (by omega) (by omega)) rb0)
      · show (n - 0 - 1) * 20 + 2 + (n - 1 - 0) < 100000
        omega
      · refine ⟨i1, by show m + 0 ≤ 0 + 10; omega, i3, .inr (.inr (.inl ⟨rfl, by show 0 < n; omega, by show 0 + 1 ≤ n; omega, by show 0 + 10 ≤ 30 + 330 * 0 + 28 * 0; omega, ?_⟩))⟩
        show g = srt (inn f 0 (n - 1 - 0)) n (n - 0 - 1)
        obtain ⟨k, rfl⟩ : ∃ k, n = k + 1 := ⟨n - 1, by omega⟩
        exact hg
  · -- the rounds' head
    by_cases hn : n ≤ i
    · have go2 : ∀ {ps : List (Nm × Nm)}, FI (tkI true tkQ_) 50 ww 0 54 false 0 5 ps (sg (.var 0) u6 d6 (.var 6) (.var 7) m0 soBs) = .yes → (soN.all fun n => (lk (sbP ps (soT 54 false 0)) n).any fun m => Nm.beq m n) = true → SoNext R0 Kp μ0 g _ a w := fun hf hs => go ⟨54, false, 0, i, n, t + 6, m + 0, f⟩ (by show 0 < (n - i) * 20 + 1; omega) (so_step hN h0 h22 rv ri hA hst (y := ⟨54, false, 0, i, n, t + 6, m + 0, f⟩) (l := soBs) rfl hf (hI (by omega) (by symm; exact decide_eq_true hn) (by rw [tkQ_eq]; exact hT 6 0 (by omega) (by omega) (by omega) (by omega))) hs
          ⟨i1, by show m + 0 ≤ t + 6; omega, i3, .inr (.inr (.inr ⟨rfl, rfl, rfl, by show t + 6 ≤ 20000; omega, by rw [show n - i = 0 by omega] at hg; exact hg⟩))⟩ rI rN (up u6 6 u6_eq (by omega) (by omega)) (dn d6 6 d6_eq (by omega) (by omega)) (mm m0 0 m0_eq (by omega) (by omega)) rb0)
      cases ww with
      | false => exact go2 (allA_yes so_q0 0 (by omega)) (st_q0 0)
      | true => exact go2 (allA_yes so_q1 0 (by omega)) (st_q1 0)
    · have go2 : ∀ {ps : List (Nm × Nm)}, FI (tkI false tkB) 50 ww 0 10 ww 0 7 ps (sg (.var 0) u8 d8 (.var 6) (.var 7) m0 soBs) = .yes → (soN.all fun n => (lk (sbP ps (soT 10 ww 0)) n).any fun m => Nm.beq m n) = true → SoNext R0 Kp μ0 g _ a w := fun hf hs => go ⟨10, ww, 0, i, n, t + 8, m + 0, f⟩ (by show (n - i - 1) * 20 + 2 + (n - 1 - 0) < (n - i) * 20 + 1; omega) (so_step hN h0 h22 rv ri hA hst (y := ⟨10, ww, 0, i, n, t + 8, m + 0, f⟩) (l := soBs) rfl hf (hI (by omega) (by symm; exact decide_eq_false hn) (by rw [tkB_eq]; exact hT 8 0 (by omega) (by omega) (by omega) (by omega))) hs
          ⟨i1, by show m + 0 ≤ t + 8; omega, i3, .inr (.inr (.inl ⟨rfl, by show i < n; omega, by show 0 + 1 ≤ n; omega, by show t + 8 ≤ 30 + 330 * i + 28 * 0; omega, by
            show g = srt (inn f 0 (n - 1 - 0)) n (n - i - 1)
            obtain ⟨k, hk⟩ : ∃ k, n - i = k + 1 := ⟨n - i - 1, by omega⟩
            rw [hk] at hg
            rw [show n - i - 1 = k by omega]
            exact hg⟩))⟩ rI rN (up u8 8 u8_eq (by omega) (by omega)) (dn d8 8 d8_eq (by omega) (by omega)) (mm m0 0 m0_eq (by omega) (by omega)) rb0)
      cases ww with
      | false => exact go2 (allA_yes so_b0 0 (by omega)) (st_b0 0)
      | true => exact go2 (allA_yes so_b1 0 (by omega)) (st_b1 0)
  · -- a pair's head
    by_cases hj : n - 1 ≤ j
    · have go2 : ∀ {ps : List (Nm × Nm)}, FI (tkJ j true tkX) 10 ww j 50 ww 0 10 ps (sg (ex1 (.op 0 3 (.var 0) (.lit 1))) u11 d11 (.var 6) (.lit j) m0 soBs) = .yes → (soN.all fun n => (lk (sbP ps (soT 50 ww 0)) n).any fun m => Nm.beq m n) = true → SoNext R0 Kp μ0 g _ a w := fun hf hs => go ⟨50, ww, 0, i + 1, n, t + 11, m + 0, f⟩ (by show (n - (i + 1)) * 20 + 1 < (n - i - 1) * 20 + 2 + (n - 1 - j); omega) (so_step hN h0 h22 rv ri hA hst (y := ⟨50, ww, 0, i + 1, n, t + 11, m + 0, f⟩) (l := soBs) rfl hf (hJ (by omega) (by omega) (by symm; exact decide_eq_true hj) (by rw [tkX_eq]; exact hT 11 0 (by omega) (by omega) (by omega) (by omega))) hs
          ⟨i1, by show m + 0 ≤ t + 11; omega, i3, .inr (.inl ⟨rfl, rfl, by show i + 1 ≤ n; omega, by show t + 11 ≤ 20 + 330 * (i + 1); omega, by
            show g = srt f n (n - (i + 1))
            rw [show n - 1 - j = 0 by omega, show n - i - 1 = n - (i + 1) by omega] at hg
            exact hg⟩)⟩ (by
            have e : @den R (.op 0 3 (.var 0) (.lit 1)) % 18446744073709551616 = i + 1 := by
              show (R.n 0 % 18446744073709551616 + 1 % 18446744073709551616) % 18446744073709551616 = i + 1
              omega
            rw [@ex1_den R _ _ e (by omega)]
            show (i + 1) % 18446744073709551616 = i + 1
            omega) rN (up u11 11 u11_eq (by omega) (by omega)) (dn d11 11 d11_eq (by omega) (by omega)) (mm m0 0 m0_eq (by omega) (by omega)) rb0)
      cases ww with
      | false => exact go2 (allA_yes so_x0 j (by omega)) (st_x0 0)
      | true => exact go2 (allA_yes so_x1 j (by omega)) (st_x1 0)
    · have hinn : inn f j (n - 1 - j) = inn (stp f j) (j + 1) (n - 1 - (j + 1)) := by
        obtain ⟨k, hk⟩ : ∃ k, n - 1 - j = k + 1 := ⟨n - 1 - j - 1, by omega⟩
        rw [hk, show n - 1 - (j + 1) = k by omega]
        rfl
      rw [hinn] at hg
      by_cases hs : f (j + 1) < f j
      · have hstp : stp f j = swp f j := if_pos hs
        rw [hstp] at hg
        have go2 : ∀ {ps : List (Nm × Nm)}, FI (tkJ j false (tkC j true tkS)) 10 ww j 10 true (Nat.succ j) 27 ps (sg (.var 0) u28 d28 (ldE j) (.var 7) m6 (swE j)) = .yes → (soN.all fun n => (lk (sbP ps (soT 10 true (j + 1))) n).any fun m => Nm.beq m n) = true → SoNext R0 Kp μ0 g _ a w := fun hf hst2 => go ⟨10, true, j + 1, i, n, t + 28, m + 6, swp f j⟩ (by show (n - i - 1) * 20 + 2 + (n - 1 - (j + 1)) < (n - i - 1) * 20 + 2 + (n - 1 - j); omega) (so_step hN h0 h22 rv ri hA hst (y := ⟨10, true, j + 1, i, n, t + 28, m + 6, swp f j⟩) (l := swE j) (swE_len j) hf (hJ (by omega) (by omega) (by symm; exact decide_eq_false hj) (hC (by omega) (by symm; exact decide_eq_true hs) (by rw [tkS_eq]; exact hT 28 6 (by omega) (by omega) (by omega) (by omega)))) hst2
          ⟨i1, by show m + 6 ≤ t + 28; omega, fun k hk => by
            show swp f j k < 256
            unfold swp
            split
            · exact i3 _ (by omega)
            · split
              · exact i3 _ (by omega)
              · exact i3 k hk, .inr (.inr (.inl ⟨rfl, h1, by show j + 1 + 1 ≤ n; omega, by show t + 28 ≤ 30 + 330 * i + 28 * (j + 1); omega, hg⟩))⟩ rI rN (up u28 28 u28_eq (by omega) (by omega)) (dn d28 28 d28_eq (by omega) (by omega)) (mm m6 6 m6_eq (by omega) (by omega)) (fun k hk => by
            have b0 := i3 j (by omega)
            have b1 := i3 (j + 1) (by omega)
            have c0 := rB j (by omega)
            have c1 := rB (j + 1) (by omega)
            rw [swE_at j (by omega) k hk]
            show _ = swp f j k
            unfold swp
            by_cases e1 : k = j + 1
            · rw [if_pos e1, if_neg (by omega), if_pos e1, @stE_den R j (by rw [c0]; exact b0)]
              exact c0
            · rw [if_neg e1]
              by_cases e2 : k = j
              · rw [if_pos e2, if_pos e2, @stE_den R (j + 1) (by rw [c1]; exact b1)]
                exact c1
              · rw [if_neg e2, if_neg e2, if_neg e1]
                exact rB k hk))
        by_cases h6 : j < 6
        · cases ww with
          | false => exact go2 (allA_yes so_s0 j h6) (st_s0 (j + 1))
          | true => exact go2 (allA_yes so_s1 j h6) (st_s1 (j + 1))
        · have e6 : Nat.add 6 (j - 6) = j := by show 6 + (j - 6) = j; omega
          cases ww with
          | false =>
            have hf := allA_yes so_r0 (j - 6) (by omega)
            simp only [e6] at hf
            exact go2 hf (st_s0 (j + 1))
          | true =>
            have hf := allA_yes so_r1 (j - 6) (by omega)
            simp only [e6] at hf
            exact go2 hf (st_s1 (j + 1))
      · have hstp : stp f j = f := if_neg hs
        rw [hstp] at hg
        have go2 : ∀ {ps : List (Nm × Nm)}, FI (tkJ j false (tkC j false tkN)) 10 ww j 10 ww (Nat.succ j) 16 ps (sg (.var 0) u17 d17 (.var 6) (.var 7) m2 soBs) = .yes → (soN.all fun n => (lk (sbP ps (soT 10 ww (j + 1))) n).any fun m => Nm.beq m n) = true → SoNext R0 Kp μ0 g _ a w := fun hf hst2 => go ⟨10, ww, j + 1, i, n, t + 17, m + 2, f⟩ (by show (n - i - 1) * 20 + 2 + (n - 1 - (j + 1)) < (n - i - 1) * 20 + 2 + (n - 1 - j); omega) (so_step hN h0 h22 rv ri hA hst (y := ⟨10, ww, j + 1, i, n, t + 17, m + 2, f⟩) (l := soBs) rfl hf (hJ (by omega) (by omega) (by symm; exact decide_eq_false hj) (hC (by omega) (by symm; exact decide_eq_false hs) (by rw [tkN_eq]; exact hT 17 2 (by omega) (by omega) (by omega) (by omega)))) hst2
          ⟨i1, by show m + 2 ≤ t + 17; omega, i3, .inr (.inr (.inl ⟨rfl, h1, by show j + 1 + 1 ≤ n; omega, by show t + 17 ≤ 30 + 330 * i + 28 * (j + 1); omega, hg⟩))⟩ rI rN (up u17 17 u17_eq (by omega) (by omega)) (dn d17 17 d17_eq (by omega) (by omega)) (mm m2 2 m2_eq (by omega) (by omega)) rb0)
        cases ww with
        | false => exact go2 (allA_yes so_n0 j (by omega)) (st_n0 (j + 1))
        | true => exact go2 (allA_yes so_n1 j (by omega)) (st_n1 (j + 1))
  · -- the end
    refine .inl ?_
    have hh : @Holds R tkYe := @holds_cons R _ _ (@take_gt R (.var 3) 0 true (by show R.n 3 % 18446744073709551616 < _; omega) (by omega) (by show true = decide (0 < R.n 3 % 18446744073709551616); symm; exact decide_eq_true (by omega))) (@holds_nil R)
    refine @fragX_ok Tryz.prog _ 1 goE Tryz.f14 (sbP [] (soT 54 false 0)) [] R (@progOk R _ hh) _ (@soR_ok R _ hh [] (@LOk.nil R)) goE_ok goB _ lt512 _ _ _ _ _ _ so_x Kp hN μ a w hA _ fun a' w' he => ?_
    obtain ⟨μ2, q1, q2⟩ := Ends.next hN he (sub_nil R) soN st_id hd
    exact ⟨rfl, ⟨54, false, 0, i, n, t, m, f⟩, rfl, ⟨i1, i2, i3, .inr (.inr (.inr ⟨rfl, rfl, rfl, h1, hg⟩))⟩, R, μ2, rel, h22, rv, ri, q1, fun n hn => (q2 n hn).trans (hst n hn)⟩
/-! ### Go -/
noncomputable def comB (S F : List (Nm × Blk)) (N : List Nm) : Bool := S.all fun x => F.all fun y => !(Nm.beq x.1 y.1) || N.any fun n => Nm.beq n x.1
theorem com_of {S F : List (Nm × Blk)} {N : List Nm} (h : comB S F N = true) : ∀ n b b', (n, b) ∈ S → (n, b') ∈ F → n ∈ N := by
  intro n b b' h1 h2
  have := List.all_eq_true.1 (List.all_eq_true.1 h _ h1) _ h2
  rw [show Nm.beq (n, b).1 (n, b').1 = true from nm_beq.2 rfl, Bool.not_true, Bool.false_or] at this
  obtain ⟨m, hm, e⟩ := List.any_eq_true.1 this
  rw [show n = m from (nm_beq.1 e).symm]
  exact hm
theorem so_com : comB (soS 0 false 0) soFi soN = true := by kernel_rfl
theorem so_good : goodT (soS 0 false 0) c40 = true := by kernel_rfl
theorem so_names : namesT soFi (sbP [] soFi) = true := by kernel_rfl
theorem so_stc : (soN.all fun n => (lk ps0 n).any fun m => Nm.beq m n) = true := by kernel_rfl
theorem so_std : (soN.all fun n => (lk (sbP [] (soT 0 false 0)) n).any fun m => Nm.beq m n) = true := by kernel_rfl
theorem so_stf : (soN.all fun n => (lk (sbP [] soFi) n).any fun m => Nm.beq m n) = true := by kernel_rfl
theorem so_hasB : (soN.all fun n => (soS 0 false 0).any fun x => Nm.beq x.1 n) = true := by kernel_rfl
theorem so_has : ∀ n ∈ soN, ∃ b, (n, b) ∈ soS 0 false 0 := by
  intro n hn
  obtain ⟨y, hy, e⟩ := List.any_eq_true.1 (List.all_eq_true.1 so_hasB n hn)
  have e : y.1 = n := nm_beq.1 e
  exact ⟨y.2, by rw [← e]; exact hy⟩
theorem so_go [R : Rho] {g : Nat → Nat} {x : SSt} (hp : x.p = 0) (rel : Rel R x) (inv : SInv g x) (same : ∀ (R3 : Rho) (z : SSt), Rel R3 z → (∀ k, k < 12 → z.f k = g k) → (∀ i, 22 ≤ i → R3.n i = R.n i) → ∀ i, @den R3 (getE soO i) % 18446744073709551616 = R.n i % 18446744073709551616) :
    Ctr Tryz.prog 14 [avP, avN] (soS 0 false 0) c40 soVv soFi c40 := by
  obtain ⟨p, ww, j, i, n, t, m, f⟩ := x
  have hp : p = 0 := hp
  subst hp
  have h0 : ww = false ∧ j = 0 := by
    rcases inv.ph with ⟨_, h1, h2, _⟩ | ⟨h, _⟩ | ⟨h, _⟩ | ⟨h, _⟩
    · exact ⟨h1, h2⟩
    · cases h
    · cases h
    · cases h
  obtain ⟨rfl, rfl⟩ := h0
  intro Kp μ w args hN hr0 hv
  have hd' : ∀ n ∈ soN, ∃ bk, μ n = some bk := fun n hn => by
    obtain ⟨b, hb⟩ := so_has n hn
    exact hr0.names so_good hb
  have hP := progOk (tk := []) holds_nil
  have hS := soR_ok (tk := []) holds_nil (L := []) LOk.nil
  refine calls_of_wp Tryz.func14 go_eq (wp_seq ?_)
  have hA := at_start (E := goE) (fn := Tryz.f14) (by show (53 : Nat) ≤ 53; omega) hr0 hv
  refine fragN_ok (fn := Tryz.f14) hP hS goE_ok lt512' so_c hN hA fun a1 w1 he1 => ?_
  obtain ⟨μ1, hA1, hs1⟩ := Ends.next hN he1 (sub_nil R) soN so_stc hd'
  have hd1 : ∀ n ∈ soN, ∃ bk, μ1 n = some bk := fun n hn => by rw [hs1 n hn]; exact hd' n hn
  refine wp_seq ?_
  refine fragN_ok (fn := Tryz.f14) hP hS goE_ok lt512 so_d hN hA1 fun a2 w2 he2 => ?_
  obtain ⟨μ2, hA2, hs2⟩ := Ends.next hN he2 (sub_nil R) soN so_std hd1
  have start : SoAt R Kp μ g ⟨0, false, 0, i, n, t, m, f⟩ a2 w2 := ⟨inv, R, μ2, rel, fun _ _ => rfl, rfl, rfl, hA2, fun n hn => (hs2 n hn).trans (hs1 n hn)⟩
  refine wp_seq (wp_mono (loop_measI soM_ (fun y a w => SoAt R Kp μ g y a w) (fun a w => ∃ z : SSt, z.p = 54 ∧ SoAt R Kp μ g z a w) (fun y a w h => so_body hN hd' y a w h) _ a2 w2 start) fun ex a3 w3 hq => ?_)
  obtain ⟨rfl, z, hz, inv3, R3, μ3, rel3, r22, rv, ri, hA3, hs3⟩ := hq
  have hzf : z.w = false ∧ z.j = 0 ∧ g = z.f := by
    rcases inv3.ph with ⟨h, _⟩ | ⟨h, _⟩ | ⟨h, _⟩ | ⟨_, h1, h2, _, h3⟩
    · rw [hz] at h; cases h
    · rw [hz] at h; cases h
    · rw [hz] at h; cases h
    · exact ⟨h1, h2, h3⟩
  rw [hz, hzf.1, hzf.2.1] at hA3
  have hd3 : ∀ n ∈ soN, ∃ bk, μ3 n = some bk := fun n hn => by rw [hs3 n hn]; exact hd' n hn
  have sm : Rho.Same (@Rho.sub R3 soO) R := ⟨same R3 z rel3 (fun k _ => congrFun hzf.2.2.symm k) r22, rv, ri⟩
  have hP3 := @progOk R3 [] (@holds_nil R3)
  have hS3 := @soR_ok R3 [] (@holds_nil R3) [] (@LOk.nil R3)
  refine @fragR_ok Tryz.prog _ 1 goE Tryz.f14 (sbP [] soFi) soO R3 hP3 _ hS3 goE_ok go9 _ lt512 _ _ _ _ _ so_r Kp hN μ3 a3 w3 hA3 _ ?_
  intro a' w' v' μ' hx hdf hres hv2 hr2
  refine ⟨hdf, v', hres, mpS (sbP [] soFi) μ', v', rfl, hv2.cong sm, back_to sm hN hr2, fun n b b' hb hb' => ?_, fun n bk hb => mpS_dom so_names hb⟩
  have hn := com_of so_com n b b' hb hb'
  rw [mpS_stay hx so_stf hd3 n hn]
  exact hs3 n hn
end
end Go.Proofs.YteefpemaeecicaaGreatDoor.Ev
