/- The plain mathematics of the CRC: the round 'rnd' is linear over exclusive or and injective below 2^32; a whole text's sum is a power of the round on one number. No program here. -/
namespace Go.Proofs.YteefpemaeecicaaGreatDoor.Crc

def poly : Nat := 3988292384
def full : Nat := 4294967295

/-- One round. -/
def rnd (x : Nat) : Nat := (x >>> 1) ^^^ (if x % 2 = 1 then poly else 0)

def rnds : Nat → Nat → Nat
  | 0, x => x
  | n + 1, x => rnds n (rnd x)

theorem rnds_add (m n x : Nat) : rnds (m + n) x = rnds n (rnds m x) := by
  induction m generalizing x with
  | zero => simp [rnds]
  | succ m ih => rw [show m + 1 + n = (m + n) + 1 from by omega]; exact ih (rnd x)

theorem rnds_succ' (n x : Nat) : rnds (n + 1) x = rnd (rnds n x) := rnds_add n 1 x

theorem mod2_xor (x y : Nat) : (x ^^^ y) % 2 = (x % 2 + y % 2) % 2 := by
  have h := Nat.testBit_xor x y 0
  simp only [Nat.testBit_zero] at h
  rcases Nat.mod_two_eq_zero_or_one x with hx | hx <;> rcases Nat.mod_two_eq_zero_or_one y with hy | hy <;> rw [hx, hy] at h ⊢ <;> rcases Nat.mod_two_eq_zero_or_one (x ^^^ y) with hz | hz <;> rw [hz] at h ⊢ <;> revert h <;> decide

theorem rnd_xor (x y : Nat) : rnd (x ^^^ y) = rnd x ^^^ rnd y := by
  unfold rnd
  rw [Nat.shiftRight_xor_distrib, mod2_xor]
  rcases Nat.mod_two_eq_zero_or_one x with hx | hx <;> rcases Nat.mod_two_eq_zero_or_one y with hy | hy <;> simp [hx, hy]
  · rw [Nat.xor_assoc]
  · rw [Nat.xor_assoc, Nat.xor_comm (y >>> 1) poly, Nat.xor_assoc]
  · rw [Nat.xor_assoc, Nat.xor_comm poly, Nat.xor_assoc, Nat.xor_self, Nat.xor_zero]

theorem rnd_zero : rnd 0 = 0 := by decide

theorem rnds_xor (n x y : Nat) : rnds n (x ^^^ y) = rnds n x ^^^ rnds n y := by
  induction n generalizing x y with
  | zero => rfl
  | succ n ih => simp only [rnds]; rw [rnd_xor, ih]

theorem rnds_zero (n : Nat) : rnds n 0 = 0 := by
  induction n with
  | zero => rfl
  | succ n ih => simp only [rnds, rnd_zero]; exact ih

theorem poly_lt : poly < 2 ^ 32 := by decide
theorem full_lt : full < 2 ^ 32 := by decide

theorem rnd_lt {x : Nat} (h : x < 2 ^ 32) : rnd x < 2 ^ 32 := by
  unfold rnd
  apply Nat.xor_lt_two_pow
  · rw [Nat.shiftRight_eq_div_pow]; omega
  · split
    · exact poly_lt
    · decide

theorem rnds_lt (n : Nat) {x : Nat} (h : x < 2 ^ 32) : rnds n x < 2 ^ 32 := by
  induction n generalizing x with
  | zero => exact h
  | succ n ih => exact ih (rnd_lt h)

theorem rnd_even (x : Nat) : rnd (2 * x) = x := by
  unfold rnd
  rw [Nat.shiftRight_eq_div_pow]
  have h : 2 * x % 2 = 0 := by omega
  simp [h]

theorem rnd_ne {x : Nat} (h : x < 2 ^ 32) (h0 : x ≠ 0) : rnd x ≠ 0 := by
  intro e
  unfold rnd at e
  rw [Nat.shiftRight_eq_div_pow] at e
  split at e
  · have e2 : x / 2 ^ 1 = poly := by
      have := congrArg (· ^^^ poly) e
      simpa [Nat.xor_assoc] using this
    unfold poly at e2
    omega
  · rw [Nat.xor_zero] at e
    omega

theorem rnds_ne (n : Nat) {x : Nat} (h : x < 2 ^ 32) (h0 : x ≠ 0) : rnds n x ≠ 0 := by
  induction n generalizing x with
  | zero => exact h0
  | succ n ih => exact ih (rnd_lt h) (rnd_ne h h0)

theorem rnds_pow (p n v : Nat) (h : p ≤ n) : rnds n (2 ^ p * v) = rnds (n - p) v := by
  induction p generalizing n with
  | zero => simp
  | succ p ih =>
    obtain ⟨m, rfl⟩ : ∃ m, n = m + 1 := ⟨n - 1, by omega⟩
    have e : 2 ^ (p + 1) * v = 2 * (2 ^ p * v) := by rw [Nat.pow_succ, Nat.mul_comm (2 ^ p) 2, Nat.mul_assoc]
    rw [e]
    simp only [rnds, rnd_even]
    rw [ih m (by omega)]
    congr 1; omega

theorem rnds_pow_ge (p n v : Nat) (h : n ≤ p) : rnds n (2 ^ p * v) = 2 ^ (p - n) * v := by
  have e : 2 ^ p * v = 2 ^ n * (2 ^ (p - n) * v) := by
    rw [← Nat.mul_assoc, ← Nat.pow_add]; congr 2; omega
  rw [e, rnds_pow n n _ (Nat.le_refl n), Nat.sub_self]; rfl

/-! ### Bytes. 'num l': the number whose bytes are l, the lowest first. -/

def num : List Nat → Nat
  | [] => 0
  | b :: l => b + 256 * num l

def Bytes (l : List Nat) : Prop := ∀ b ∈ l, b < 256

theorem num_lt (l : List Nat) (h : Bytes l) : num l < 2 ^ (8 * l.length) := by
  induction l with
  | nil => simp [num]
  | cons b l ih =>
    have h1 := h b (by simp)
    have h2 := ih fun x hx => h x (by simp [hx])
    have e : 2 ^ (8 * (b :: l).length) = 256 * 2 ^ (8 * l.length) := by
      rw [List.length_cons, Nat.mul_add, Nat.pow_add]; simp [Nat.mul_comm]
    rw [e]; simp only [num]
    have : 256 * (num l + 1) ≤ 256 * 2 ^ (8 * l.length) := Nat.mul_le_mul_left _ h2
    omega

/-- A byte goes in: eight rounds. -/
def byte (x b : Nat) : Nat := rnds 8 (x ^^^ b)

/-- The state behind a text. -/
def run (x : Nat) (l : List Nat) : Nat := l.foldl byte x

theorem xor_add_of_lt (i a b : Nat) (h : a < 2 ^ i) : a + 2 ^ i * b = a ^^^ (2 ^ i * b) := by
  have h2 := Nat.two_pow_add_eq_or_of_lt h b
  apply Nat.eq_of_testBit_eq
  intro j
  rw [Nat.testBit_xor, Nat.add_comm, Nat.testBit_two_pow_mul_add _ h, Nat.testBit_two_pow_mul]
  by_cases hj : j < i
  · have : ¬ i ≤ j := by omega
    simp [hj, this]
  · have hij : i ≤ j := by omega
    have : a.testBit j = false := Nat.testBit_lt_two_pow (Nat.lt_of_lt_of_le h (Nat.pow_le_pow_right (by decide) hij))
    simp [hj, hij, this]

theorem run_eq (l : List Nat) (h : Bytes l) (x : Nat) : run x l = rnds (8 * l.length) (x ^^^ num l) := by
  induction l generalizing x with
  | nil => simp [run, num, rnds]
  | cons b l ih =>
    have h1 := h b (by simp)
    have e : run x (b :: l) = run (byte x b) l := rfl
    rw [e, ih (fun y hy => h y (by simp [hy]))]
    have e1 : byte x b ^^^ num l = rnds 8 (x ^^^ (b + 256 * num l)) := by
      unfold byte
      have := xor_add_of_lt 8 b (num l) (by omega)
      rw [show (256 : Nat) = 2 ^ 8 from rfl, this, ← Nat.xor_assoc, rnds_xor, rnds_xor, rnds_pow 8 8 _ (Nat.le_refl 8), rnds_xor]
      rfl
    rw [e1, ← rnds_add]
    simp only [num, List.length_cons]
    congr 1; omega

theorem run_append (x : Nat) (a b : List Nat) : run x (a ++ b) = run (run x a) b := by simp [run]

theorem byte_lt {x b : Nat} (hx : x < 2 ^ 32) (hb : b < 256) : byte x b < 2 ^ 32 :=
  rnds_lt 8 (Nat.xor_lt_two_pow hx (by omega))

theorem run_lt {x : Nat} (l : List Nat) (h : Bytes l) (hx : x < 2 ^ 32) : run x l < 2 ^ 32 := by
  induction l generalizing x with
  | nil => exact hx
  | cons b l ih => exact ih (fun y hy => h y (by simp [hy])) (byte_lt hx (h b (by simp)))

/-- The sum goes on. -/
def more (s : Nat) (l : List Nat) : Nat := run (s ^^^ full) l ^^^ full
def sum (l : List Nat) : Nat := more 0 l

theorem more_lt {s : Nat} (l : List Nat) (h : Bytes l) (hs : s < 2 ^ 32) : more s l < 2 ^ 32 :=
  Nat.xor_lt_two_pow (run_lt l h (Nat.xor_lt_two_pow hs full_lt)) full_lt

theorem sum_lt (l : List Nat) (h : Bytes l) : sum l < 2 ^ 32 := more_lt l h (by decide)

theorem xor_full_full (x : Nat) : x ^^^ full ^^^ full = x := by rw [Nat.xor_assoc, Nat.xor_self, Nat.xor_zero]

theorem more_append (s : Nat) (a b : List Nat) : more s (a ++ b) = more (more s a) b := by
  unfold more
  rw [xor_full_full, run_append]

theorem more_sum (a b : List Nat) : more (sum a) b = sum (a ++ b) := (more_append 0 a b).symm

theorem more_nil (s : Nat) : more s [] = s := xor_full_full s

/-! ### When two sums differ -/

theorem xor_cancel_right (a b c : Nat) : a ^^^ c = b ^^^ c ↔ a = b :=
  ⟨fun h => by
    have := congrArg (· ^^^ c) h
    simpa [Nat.xor_assoc] using this, fun h => by rw [h]⟩

theorem xor_eq_zero {a b : Nat} (h : a ^^^ b = 0) : a = b := by
  have := congrArg (· ^^^ b) h
  simpa [Nat.xor_assoc] using this

theorem xor_mid (s a b : Nat) : s ^^^ a ^^^ (s ^^^ b) = a ^^^ b := by
  rw [Nat.xor_comm s a, Nat.xor_assoc, ← Nat.xor_assoc s s b, Nat.xor_self, Nat.zero_xor]

/-- The exclusive or of two sums of texts of one length. -/
theorem sum_xor (a b : List Nat) (ha : Bytes a) (hb : Bytes b) (hl : a.length = b.length) :
    sum a ^^^ sum b = rnds (8 * a.length) (num a ^^^ num b) := by
  unfold sum more
  rw [run_eq a ha, run_eq b hb, ← hl]
  rw [Nat.xor_comm (rnds _ _) full, Nat.xor_comm (rnds _ (0 ^^^ full ^^^ num b)) full, xor_mid, ← rnds_xor, xor_mid]

theorem sum_ne (a b : List Nat) (ha : Bytes a) (hb : Bytes b) (hl : a.length = b.length) (p v : Nat) (hv : v < 2 ^ 32) (hv0 : v ≠ 0) (hp : p ≤ 8 * a.length)
    (hd : num a ^^^ num b = 2 ^ p * v) : sum a ≠ sum b := by
  intro e
  have h := sum_xor a b ha hb hl
  rw [e, Nat.xor_self, hd, rnds_pow p _ v hp] at h
  exact rnds_ne _ hv hv0 h.symm

theorem sum_three (a b c d : List Nat) (ha : Bytes a) (hb : Bytes b) (hc : Bytes c) (hd : Bytes d) (h1 : b.length = a.length) (h2 : c.length = a.length) (h3 : d.length = a.length)
    (hx : num d = num a ^^^ num b ^^^ num c) : sum d = sum a ^^^ sum b ^^^ sum c := by
  have e1 := sum_xor a b ha hb h1.symm
  have e2 := sum_xor c d hc hd (by omega)
  have e3 : sum a ^^^ sum b = sum c ^^^ sum d := by
    rw [e1, e2, h2, hx]
    congr 1
    rw [Nat.xor_comm (num a ^^^ num b) (num c), ← Nat.xor_assoc, Nat.xor_self, Nat.zero_xor]
  rw [e3, Nat.xor_comm (sum c), Nat.xor_assoc, Nat.xor_self, Nat.xor_zero]

/-! ### Numbers of lists that are the exclusive or, place by place -/

theorem num_append (a b : List Nat) : num (a ++ b) = num a + 2 ^ (8 * a.length) * num b := by
  induction a with
  | nil => simp [num]
  | cons x a ih =>
    have e : 2 ^ (8 * (x :: a).length) = 256 * 2 ^ (8 * a.length) := by
      rw [List.length_cons, Nat.mul_add, Nat.pow_add]; simp [Nat.mul_comm]
    simp only [List.cons_append, num, ih, e]
    rw [Nat.mul_add, Nat.mul_assoc, Nat.add_assoc]

theorem num_append_xor (a b : List Nat) (h : Bytes a) : num (a ++ b) = num a ^^^ 2 ^ (8 * a.length) * num b := by
  rw [num_append, xor_add_of_lt _ _ _ (num_lt a h)]

theorem num_cons_xor (b : Nat) (l : List Nat) (h : b < 256) : num (b :: l) = b ^^^ 256 * num l := by
  simp only [num]
  exact xor_add_of_lt 8 b (num l) h

theorem mul_xor (i a b : Nat) : 2 ^ i * a ^^^ 2 ^ i * b = 2 ^ i * (a ^^^ b) := by
  rw [Nat.mul_comm _ a, Nat.mul_comm _ b, Nat.mul_comm _ (a ^^^ b), ← Nat.shiftLeft_eq, ← Nat.shiftLeft_eq, ← Nat.shiftLeft_eq, Nat.shiftLeft_xor_distrib]

theorem num_zip (a b : List Nat) (ha : Bytes a) (hb : Bytes b) (hl : a.length = b.length) : num (List.zipWith (· ^^^ ·) a b) = num a ^^^ num b := by
  induction a generalizing b with
  | nil => cases b with
    | nil => rfl
    | cons y b => simp at hl
  | cons x a ih => cases b with
    | nil => simp at hl
    | cons y b =>
      have hx := ha x (by simp)
      have hy := hb y (by simp)
      have hxy : x ^^^ y < 256 := Nat.xor_lt_two_pow (n := 8) hx hy
      rw [List.zipWith_cons_cons, num_cons_xor _ _ hxy, num_cons_xor _ _ hx, num_cons_xor _ _ hy, ih b (fun z hz => ha z (by simp [hz])) (fun z hz => hb z (by simp [hz])) (by simpa using hl)]
      have := mul_xor 8 (num a) (num b)
      rw [show (2 : Nat) ^ 8 = 256 from rfl] at this
      rw [← this]
      rw [Nat.xor_assoc, Nat.xor_assoc]
      congr 1
      rw [← Nat.xor_assoc, ← Nat.xor_assoc, Nat.xor_comm y]

end Go.Proofs.YteefpemaeecicaaGreatDoor.Crc
