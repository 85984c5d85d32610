/- The contracts of the frame's functions: put, Clone, Equal, Seal, Open, and the reference's four, Seal. Conditions: the slices read as bytes. -/
import Derived.Test.YtfeddkldnmgncaaCrcBase
import Derived.Test.YtfeddkldnmgncaaFrameMath
import Derived.Lib.SliceRun
import Derived.Lib.Strings
import Derived.BigQuiet
import Derived.Deep.DeepCutAuto
import Derived.Deep.LoopGhost
import Derived.Outline
namespace Go.Proofs.Ytfeddkldnmgncaa
open Go.RowKit Crc
set_option linter.unusedVariables false

theorem Try.infoF : (Try.prog.info? 5).map (fun i => (i.zero, i.size, i.bytes)) = some (some (.int .u8 0), 1, 1) := by kernel_rfl

theorem le4_get (n k : Nat) (h : k < 4) : (le4 n).take (k + 1) = (le4 n).take k ++ [n / 2 ^ (8 * k) % 256] := by
  rcases (show k = 0 ∨ k = 1 ∨ k = 2 ∨ k = 3 by omega) with h | h | h | h <;> subst h <;> simp [le4]
theorem byte_lit (n k : Nat) : (#[Value.int .u8 ((n : Int) / 2 ^ (8 * k) % 256)] : Array Value) = (vals [n / 2 ^ (8 * k) % 256]).toArray := by
  have e : ((n / 2 ^ (8 * k) % 256 : Nat) : Int) = (n : Int) / 2 ^ (8 * k) % 256 := by
    rw [Int.natCast_emod, Int.natCast_ediv, Int.natCast_pow]; rfl
  simp [vals, e]
theorem byte_one (x : Nat) : Bytes [x % 256] := by
  intro b hb
  rw [List.mem_singleton.1 hb]
  exact Nat.mod_lt _ (by decide)

set_option maxHeartbeats 1000000 in
theorem put_any (v : Value) (l : List Nat) (n : Nat) (w : World) (base : Nat) (hn : n < 4294967296) (ho : Own w base 5 v l) (hl : l.length ≤ 70000) (hB : base ≤ w.heap.size) :
    Calls Try.prog 24 #[v, .int .u32 n] w fun e w' => ∃ v', e = .returned v' ∧ Own w' base 5 v' (l ++ le4 n) ∧ Below base w w' := by
  obtain ⟨i0, hi, hz0, hz1, hz2⟩ := info_parts Try.infoF
  go_enter Try.func24, Try.ntmps24
  go_wp2
  go_loopg [0, 6] 4 (fun m b i wr => ∃ k : Nat, m = 4 - k ∧ k ≤ 4 ∧ i = .int .i64 k ∧ Own wr base 5 b (l ++ (le4 n).take k) ∧ Below base w wr)
  case atStart => exact ⟨0, rfl, by omega, rfl, by simpa using ho, Below.refl _ _⟩
  case round =>
    obtain ⟨k, hgk, hk, rfl, hown, hb⟩ := hrel
    have HG := Lib.hid hgk; clear hgk ho
    by_cases hlt : k < 4
    · have hg := le4_get n k hlt
      have hlk : ((le4 n).take k).length ≤ 4 := by simp; omega
      have hbs : base ≤ wr.heap.size := Nat.le_trans hB hb.size
      have hgo : l ++ (le4 n).take k ++ [n / 2 ^ (8 * k) % 256] = l ++ (le4 n).take (k + 1) := by rw [hg, List.append_assoc]
      have hgl : (l ++ (le4 n).take (k + 1)).length ≤ 80000 := by rw [List.length_append]; simp; omega
      have Hgo := Lib.hid hgo; clear hgo hg
      go_wp2_with (first
        | (at_builtin; refine wpList_app _ rfl (.tmp 9) (.tmp 15) _ rfl base 5 i0 Try.underlying24 hi hz0 hz1 hz2 _ _ rfl (hown.alloc _) _ _ [n / 2 ^ (8 * k) % 256] _ 1 rfl rfl (Rd.lit wr _ (byte_one _) _ (byte_lit n k) _ _) _ Hgo.out (by omega) (by simp; omega) ?_; intro v1 w2 hown1 hb2 hg1 hat1)
        | fail)
      go_roundg (4 - (k + 1))
      case measure => have := HG.out; omega
      case rel => exact ⟨k + 1, rfl, hlt, by go_num, hown1, (hb.alloc hbs _).trans hb2⟩
    · have hk4 : Hid (k = 4) := by show k = 4; omega
      have ht : (le4 n).take k = le4 n := by rw [hk4.out]; rfl
      rw [ht] at hown
      clear ht
      go_wp2
      go_ret
      exact ⟨_, rfl, hown, hb⟩

theorem own_empty (w : World) (E : Nat) : Own (w.alloc (.cells #[] E)) w.heap.size E (.slice (some ⟨w.heap.size, 0, none⟩) 0 0) [] :=
  ⟨World.ownsRow_lit (size := 1) w #[] 0 (Nat.le_refl _) (by simp [maxLen]) rfl, bytes_nil⟩

set_option maxHeartbeats 1000000 in
theorem clone_any (a : Option Addr) (l : List Nat) (n c : Nat) (w : World) (B : Nat) (hn : Hid (n = l.length)) (hr : Rd w B a l) (hl : n ≤ 70000) (hB : B ≤ w.heap.size) :
    Calls Try.prog 25 #[.slice a n c] w fun e w' => ∃ v', e = .returned v' ∧ Own w' w.heap.size 5 v' l ∧ Below w.heap.size w w' := by
  obtain ⟨i0, hi, hz0, hz1, hz2⟩ := info_parts Try.infoF
  have hnil := fun (w : World) (a : Option Addr) (n c n' c' : Nat) => Lib.run_eql_slice_nil (P := Try.prog) w 24 5 a n c n' c' Try.underlying24
  cases a with
  | none =>
    have h0 : Hid (l = []) := by
      rcases hr.2 with h | ⟨_, _, e, _⟩
      · exact h
      · cases e
    go_enter Try.func25, Try.ntmps25
    go_wp2
    go_ret
    exact ⟨_, rfl, by rw [h0.out]; exact Own.nil _ _ _, Below.refl _ _⟩
  | some a =>
    have hl2 : l.length ≤ 70000 := by have := hn.out; omega
    go_enter Try.func25, Try.ntmps25
    go_wp2_with (first
      | (at_builtin; refine wpList_app _ rfl (.tmp 5) (.tmp 6) _ rfl w.heap.size 5 i0 Try.underlying24 hi hz0 hz1 hz2 _ [] rfl (own_empty w _) B (some a) l n c hn.out rfl (hr.alloc hB _) l (by simp) (by omega) (by simp) ?_; intro v1 w2 hown1 hb2 hg1 hat1)
      | fail)
    go_ret
    exact ⟨_, rfl, hown1, ((Below.refl _ _).alloc (Nat.le_refl _) _).trans hb2⟩

theorem equal_any (a : Option Addr) (l : List Nat) (n c : Nat) (a' : Option Addr) (l' : List Nat) (n' c' : Nat) (w : World) (B B' : Nat) (hn : Hid (n = l.length)) (hr : Rd w B a l) (hn' : Hid (n' = l'.length)) (hr' : Rd w B' a' l') :
    Calls Try.prog 26 #[.slice a n c, .slice a' n' c'] w fun e w' => e = .returned (.bool (decide (l = l'))) ∧ w = w' := by
  have h1 := run_str (P := Try.prog) hr n c hn.out 24 5 9 Try.underlying24 Try.underlying5 Try.underlying9
  have h2 := run_str (P := Try.prog) hr' n' c' hn'.out 24 5 9 Try.underlying24 Try.underlying5 Try.underlying9
  go_enter Try.func26, Try.ntmps26
  go_wp2
  go_ret
  exact ⟨congrArg (fun b => Ending.returned (.bool b)) (by rw [Lib.toList_data, Lib.toList_data, str_beq hr.1 hr'.1]), rfl⟩

set_option maxHeartbeats 1000000 in
theorem seal_yes (a : Option Addr) (l : List Nat) (n c : Nat) (w : World) (B : Nat) (hn : Hid (n = l.length)) (hr : Rd w B a l) (hl : n ≤ 60000) (hB : B ≤ w.heap.size) :
    Calls Try.prog 21 #[.slice a n c] w fun e w' => ∃ v', e = .returned v' ∧ Own w' w.heap.size 5 v' (seal1 l) ∧ Below w.heap.size w w' := by
  obtain ⟨i0, hi, hz0, hz1, hz2⟩ := info_parts Try.infoF
  have hl2 : l.length ≤ 60000 := by have := hn.out; omega
  go_enter Try.func21, Try.ntmps21
  go_wp2_with fail
  (with_reducible refine (put_any _ [] n w w.heap.size (by omega) (Own.nil _ _ _) (by simp) (Nat.le_refl _)).mono ?_)
  rintro e w1 ⟨v1, rfl, hown1, hb1⟩
  rw [List.nil_append] at hown1
  have hhd : le4 n ++ l = head l := by rw [hn.out]; rfl
  have hhl : (head l).length ≤ 60004 := by rw [head_length]; omega
  have hss := sum_lt (head l) (head_bytes hr.1)
  have hs1 : Hid (head l ++ le4 (sum (head l)) = seal1 l) := rfl
  have Hhd := Lib.hid hhd; clear hhd
  generalize head l = T at Hhd hhl hss hs1
  generalize hS : seal1 l = S at hs1
  have HS := Lib.hid hS; clear hS
  go_wp2_with (first
    | (at_builtin; refine wpList_app _ rfl (.tmp 10) (.tmp 11) _ rfl w.heap.size 5 i0 Try.underlying24 hi hz0 hz1 hz2 v1 _ rfl hown1 B a l n c hn.out rfl (hr.below (hb1.mono hB)) T Hhd.out (by omega) hb1.size ?_; intro v2 w2 hown2 hb2 hg1 hat1)
    | fail)
  obtain ⟨a2, c2, rfl, _, _, hr2, _⟩ := hown2.form
  have hb2' := hb1.trans hb2
  clear hg1 hat1 hown1 hb1 hb2
  (with_reducible refine (sum_any a2 T c2 w2 _ hr2 (by omega)).mono ?_)
  rintro e w3 ⟨rfl, rfl⟩
  go_wp2_with fail
  (with_reducible refine (put_any _ T _ w2 w.heap.size hss hown2 (by omega) hb2'.size).mono ?_)
  rintro e w3 ⟨v3, rfl, hown3, hb3⟩
  rw [hs1.out] at hown3
  go_wp2_with fail
  go_ret
  exact ⟨_, rfl, by rw [HS.out]; exact hown3, hb2'.trans hb3⟩

theorem seal_no (a : Option Addr) (n c : Nat) (w : World) (hl : 60000 < n) :
    Calls Try.prog 21 #[.slice a n c] w fun e w' => e = .returned (.slice none 0 0) ∧ w = w' := by
  go_enter Try.func21, Try.ntmps21
  go_wp2
  go_ret
  exact ⟨rfl, rfl⟩

set_option maxHeartbeats 1000000 in
theorem four_any (n : Nat) (w : World) (hn : n < 4294967296) :
    Calls Try.prog 27 #[.int .u32 n] w fun e w' => ∃ v', e = .returned v' ∧ Own w' w.heap.size 5 v' (le4 n) ∧ Below w.heap.size w w' := by
  go_enter Try.func27, Try.ntmps27
  go_wp2
  go_ret
  refine ⟨_, rfl, ?_, (Below.refl _ _).alloc (Nat.le_refl _) _⟩
  have e : (#[Value.int .u8 ((n : Int) % 256), Value.int .u8 ((n : Int) / 256 % 256), Value.int .u8 ((n : Int) / 65536 % 256), Value.int .u8 ((n : Int) / 16777216)] : Array Value) = (vals (le4 n)).toArray := by
    have h3 : (n : Int) / 16777216 = ((n / 16777216 % 256 : Nat) : Int) := by omega
    rw [h3]
    simp [vals, le4]
  have h := World.ownsRow_lit (base := w.heap.size) (e := 5) (size := 1) w (vals (le4 n)).toArray 4 (Nat.le_refl _) (by simp [maxLen]) (by simp [vals, le4])
  rw [← e] at h
  refine ⟨?_, le4_bytes n⟩
  have h2 := h
  rw [e] at h2
  rw [e]
  exact h2

set_option maxHeartbeats 1000000 in
theorem refseal_yes (a : Option Addr) (l : List Nat) (n c : Nat) (w : World) (B : Nat) (hn : Hid (n = l.length)) (hr : Rd w B a l) (hl : n ≤ 60000) (hB : B ≤ w.heap.size) :
    Calls Try.prog 23 #[.slice a n c] w fun e w' => ∃ v', e = .returned v' ∧ Own w' w.heap.size 5 v' (seal1 l) ∧ Below w.heap.size w w' := by
  obtain ⟨i0, hi, hz0, hz1, hz2⟩ := info_parts Try.infoF
  have hl2 : l.length ≤ 60000 := by have := hn.out; omega
  go_enter Try.func23, Try.ntmps23
  go_wp2_with fail
  (with_reducible refine (four_any n w (by omega)).mono ?_)
  rintro e w1 ⟨v1, rfl, hown1, hb1⟩
  have hhd : le4 n ++ l = head l := by rw [hn.out]; rfl
  have hhl : (head l).length ≤ 60004 := by rw [head_length]; omega
  have hss := sum_lt (head l) (head_bytes hr.1)
  have hs1 : Hid (head l ++ le4 (sum (head l)) = seal1 l) := rfl
  have hsl : (seal1 l).length ≤ 60008 := by rw [seal1_length]; omega
  have Hhd := Lib.hid hhd; clear hhd
  generalize head l = T at Hhd hhl hss hs1
  generalize hS : seal1 l = S at hs1 hsl
  have HS := Lib.hid hS; clear hS
  go_wp2_with (first
    | (at_builtin; refine wpList_app _ rfl (.tmp 10) (.tmp 11) _ rfl w.heap.size 5 i0 Try.underlying24 hi hz0 hz1 hz2 v1 _ rfl hown1 B a l n c hn.out rfl (hr.below (hb1.mono hB)) T Hhd.out (by omega) hb1.size ?_; intro v2 w2 hown2 hb2 hg1 hat1)
    | fail)
  obtain ⟨a2, c2, rfl, _, _, hr2, _⟩ := hown2.form
  have hb2' := hb1.trans hb2
  clear hg1 hat1 hown1 hb1 hb2
  (with_reducible refine (refsum_any a2 T c2 w2 _ hr2 (by omega)).mono ?_)
  rintro e w3 ⟨rfl, rfl⟩
  go_wp2_with fail
  (with_reducible refine (four_any _ w2 hss).mono ?_)
  rintro e w3 ⟨v3, rfl, hown3, hb3⟩
  obtain ⟨a4, c4, rfl, _, _, hr4, _⟩ := hown3.form
  have hown2' := hown2.below' hb3
  have hb3' := hb2'.trans (hb3.mono hb2'.size)
  go_wp2_with (first
    | (at_builtin; refine wpList_app _ rfl (.tmp 13) (.tmp 16) _ rfl w.heap.size 5 i0 Try.underlying24 hi hz0 hz1 hz2 _ _ rfl hown2' _ a4 _ _ c4 rfl rfl hr4 S hs1.out (by omega) hb3'.size ?_; intro v5 w5 hown5 hb5 hg5 hat5)
    | fail)
  go_ret
  exact ⟨_, rfl, by rw [HS.out]; exact hown5, hb3'.trans hb5⟩

end Go.Proofs.Ytfeddkldnmgncaa
