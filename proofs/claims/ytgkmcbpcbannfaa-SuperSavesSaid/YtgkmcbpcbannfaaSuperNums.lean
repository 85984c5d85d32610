/- The contracts of super's numbers as bytes: get, put. -/
import Derived.Test.YtgkmcbpcbannfaaDevBegun
import Derived.Test.YtgkmcbpcbannfaaCrcWalks
namespace Go.Proofs.Ytgkmcbpcbannfaa
open Go.RowKit Crc
set_option linter.unusedVariables false
set_option maxHeartbeats 2000000

/-- The number whose bytes stand one behind the other, the highest one first. -/
def be (l : List Nat) : Nat := l.foldl (fun n c => n * 256 + c) 0
theorem be_snoc (l : List Nat) (x : Nat) : be (l ++ [x]) = be l * 256 + x := by simp [be]
theorem be_take (l : List Nat) (k : Nat) (h : k < l.length) : be (l.take (k + 1)) = be (l.take k) * 256 + l.getD k 0 := by
  rw [List.take_succ_eq_append_getElem h, be_snoc]
  simp [List.getElem?_eq_getElem h]
theorem be_lt : ∀ (k : Nat) (l : List Nat), Bytes l → k ≤ l.length → be (l.take k) < 256 ^ k
  | 0, l, h, hk => by simp [be]
  | k + 1, l, h, hk => by
    have ih := be_lt k l h (by omega)
    have hb := bytes_getD h k
    rw [be_take l k (by omega), Nat.pow_succ]
    omega
theorem or_byte (N c : Nat) (hN : N < 72057594037927936) (hc : c < 256) : bits .or .u64 ((N : Int) * 256) (c : Int) = ((N * 256 + c : Nat) : Int) := by
  have e : (BitVec.ofInt 64 ((N : Int) * 256) ||| BitVec.ofInt 64 (c : Int)).toNat = N * 256 + c := by
    rw [BitVec.toNat_or, BitVec.toNat_ofInt, BitVec.toNat_ofInt]
    have e1 : ((N : Int) * 256 % ((2 ^ 64 : Nat) : Int)).toNat = 2 ^ 8 * N := by omega
    have e2 : ((c : Int) % ((2 ^ 64 : Nat) : Int)).toNat = c := by omega
    rw [e1, e2, ← Nat.two_pow_add_eq_or_of_lt (by omega)]
    omega
  show IntKind.u64.wrap ((BitVec.ofInt 64 ((N : Int) * 256) ||| BitVec.ofInt 64 (c : Int)).toNat : Int) = _
  rw [e]
  simp [IntKind.wrap, IntKind.bits, IntKind.signed]
  omega
/-- What the loop of 'get' has read. -/
structure GetAt (l : List Nat) (k N : Nat) : Prop where
  n : N = be (l.take k)
theorem get_any (a : Option Addr) (l : List Nat) (n c : Nat) (w : World) (B : Nat) (hn : n = l.length) (hr : Rd w B a l) (hl : n ≤ 8) :
    Calls Try.prog 35 #[.slice a n c] w fun e w' => e = .returned (.int .u64 (be l : Nat)) ∧ w = w' := by
  have hB := hr.1
  have HR : Rd w B a l := hr
  go_enter Try.func35, Try.ntmps35
  go_wp2_with fail
  go_loopw [3, 8] (fun x i wr => ∃ k N : Nat, k ≤ n ∧ i = .int .i64 k ∧ x = .int .u64 N ∧ GetAt l k N ∧ wr = w) (fun _ i _ => n - (intOf i).toNat)
  case atStart => exact ⟨0, 0, Nat.zero_le _, rfl, rfl, ⟨by simp [be]⟩, rfl⟩
  case round =>
    obtain ⟨k, N, hk, rfl, rfl, hg, rfl⟩ := hrel
    by_cases hlt : k < n
    · obtain ⟨b, off, rfl, hb, hc⟩ : ∃ b off, a = some ⟨b, off, none⟩ ∧ b < B ∧ ∀ i, i < l.length → wr.cell? ⟨b, off + i, none⟩ = some (.int .u8 (l.getD i 0 : Nat)) := by
        rcases HR.2 with h | h
        · subst h; simp at hn; omega
        · exact h
      have ck := hc k (by omega)
      have hN : N < 72057594037927936 := by
        have h1 := be_lt k l hB (by omega)
        rw [← hg.n] at h1
        have h2 : (256 : Nat) ^ k ≤ 256 ^ 7 := Nat.pow_le_pow_right (by decide) (by omega)
        have h3 : (256 : Nat) ^ 7 = 72057594037927936 := by decide
        omega
      have hx := bytes_getD hB k
      have hg2 : GetAt l (k + 1) (N * 256 + l.getD k 0) := ⟨by rw [be_take l k (by omega), ← hg.n]⟩
      obtain ⟨x, hx0⟩ : ∃ x, l.getD k 0 = x := ⟨_, rfl⟩
      rw [hx0] at ck hx hg2
      have hor := or_byte N x hN hx
      clear hx0 hc HR hB hr
      go_wp2_with fail
      go_roundw
      case rel => exact ⟨k + 1, _, by omega, by go_num, rfl, hg2, by first | trivial | rfl⟩
      case measure => simp [intOf]; omega
    · have : k = n := by omega
      subst this
      have hN : N = be l := by rw [hg.n, hn, List.take_length]
      subst hN
      go_wp2_with fail
      go_ret
      exact ⟨rfl, rfl⟩
/-- What 'put' has laid of a number of k bytes at off, from its last byte on: j of them. -/
def putTo (X : List Nat) (off k N j : Nat) : List Nat := (List.range X.length).map fun p => if off + k - j ≤ p ∧ p < off + k then N / 256 ^ (off + k - 1 - p) % 256 else X.getD p 0
theorem putTo_len (X : List Nat) (off k N j : Nat) : (putTo X off k N j).length = X.length := by simp [putTo]
theorem putTo_get (X : List Nat) (off k N j p : Nat) (h : p < X.length) : (putTo X off k N j)[p]? = some (if off + k - j ≤ p ∧ p < off + k then N / 256 ^ (off + k - 1 - p) % 256 else X.getD p 0) := by simp [putTo, h]
theorem putTo_zero (X : List Nat) (off k N : Nat) : putTo X off k N 0 = X := by
  apply List.ext_getElem?
  intro p
  by_cases h : p < X.length
  · rw [putTo_get X off k N 0 p h, if_neg (by omega)]
    simp [List.getElem?_eq_getElem h]
  · rw [List.getElem?_eq_none (by rw [putTo_len]; omega), List.getElem?_eq_none (by omega)]
theorem putTo_next (X : List Nat) (off k N j : Nat) (hj : j < k) (hk : off + k ≤ X.length) : (putTo X off k N j).set (off + (k - 1 - j)) (N / 256 ^ j % 256) = putTo X off k N (j + 1) := by
  apply List.ext_getElem?
  intro p
  by_cases h : p < X.length
  · rw [putTo_get X off k N (j + 1) p h, List.getElem?_set]
    by_cases he : off + (k - 1 - j) = p
    · rw [if_pos he, if_pos (by rw [putTo_len]; omega), if_pos (by omega)]
      congr 3
      congr 1
      omega
    · rw [if_neg he, putTo_get X off k N j p h]
      by_cases h1 : off + k - j ≤ p ∧ p < off + k
      · rw [if_pos h1, if_pos (by omega)]
      · rw [if_neg h1, if_neg (by omega)]
  · rw [List.getElem?_eq_none (by rw [List.length_set, putTo_len]; omega), List.getElem?_eq_none (by rw [putTo_len]; omega)]
theorem Only.set {g : Nat} {a w : World} (h : Only g a w) {p : Addr} (hp : p.block = g) (u : Value) : Only g a (w.setCell p u) :=
  ⟨h.os, h.tape, h.output, by simpa [World.setCell] using h.size, fun k hk => (Below.heap_setCell w p u k (by rw [hp]; exact hk)).trans (h.block k hk)⟩
theorem put_any (g off k c c0 base E N : Nat) (X : List Nat) (w : World) (hX : X.length = 64) (h : Own w base E (.slice (some ⟨g, 0, none⟩) 64 c0) X) (hk : off + k ≤ 64) (hk8 : k ≤ 8) (hkc : k ≤ c) (hN : N < 18446744073709551616) :
    Calls Try.prog 37 #[.slice (some ⟨g, off, none⟩) k c, .int .u64 N] w fun e w' => e = .returned (.tuple #[]) ∧ Own w' base E (.slice (some ⟨g, 0, none⟩) 64 c0) (putTo X off k N k) ∧ Only g w w' := by
  go_enter Try.func37, Try.ntmps37
  go_wp2_with fail
  go_loopw [7] (fun i wr => ∃ j : Nat, j ≤ k ∧ i = .int .i64 j ∧ Own wr base E (.slice (some ⟨g, 0, none⟩) 64 c0) (putTo X off k N j) ∧ Only g w wr) (fun i _ => k - (intOf i).toNat)
  case atStart => exact ⟨0, Nat.zero_le _, rfl, by rw [putTo_zero]; exact h, ⟨rfl, rfl, rfl, rfl, fun _ _ => rfl⟩⟩
  case round =>
    obtain ⟨j, hj, rfl, hown, hon⟩ := hrel
    by_cases hlt : j < k
    · have hlen : 64 = (putTo X off k N j).length := by rw [putTo_len, hX]
      have cc := hown.cell hlen (j := off + (k - 1 - j)) (by omega)
      have ff := hown.free hlen (off + (k - 1 - j))
      have hset := hown.set_ hlen (off + (k - 1 - j)) (N / 256 ^ j % 256) (Nat.mod_lt _ (by decide))
      rw [putTo_next X off k N j hlt (by omega)] at hset
      clear hown hlen
      have hon2 := hon.set (p := ⟨g, off + (k - 1 - j), none⟩) rfl (.int .u8 ((N / 256 ^ j % 256 : Nat) : Int))
      go_wp2_with fail
      have e : ((N : Int) / 2 ^ (8 * j) % 256) = ((N / 256 ^ j % 256 : Nat) : Int) := by
        rw [show (256 : Nat) ^ j = 2 ^ (8 * j) by rw [Nat.pow_mul]]
        simp
      rw [e]
      go_roundw
      case rel => exact ⟨j + 1, by omega, by go_num, hset, hon2⟩
      case measure => simp [intOf]; omega
    · have : j = k := by omega
      subst this
      go_wp2_with fail
      go_end0
      exact ⟨rfl, hown, hon⟩
end Go.Proofs.Ytgkmcbpcbannfaa
