/- The contract of the frame laws' first check 'begun'. No condition. -/
import Derived.Test.YtfeddkldnmgncaaFrameOpen
namespace Go.Proofs.Ytfeddkldnmgncaa
open Go.RowKit Crc
set_option linter.unusedVariables false

theorem seal_ab_len : (seal1 [97, 98]).length = 10 := rfl
theorem seal_ab_opens : opens (seal1 [97, 98]) = true ∧ inner (seal1 [97, 98]) = [97, 98] := opens_sealed (l := [97, 98]) (by decide)
theorem ab_bytes : Bytes [97, 98] := by unfold Bytes; decide
theorem str_ab : str [97, 98] = ⟨#[97, 98]⟩ := rfl

set_option maxRecDepth 100000 in
set_option maxHeartbeats 2000000 in
theorem fbegun_any (w : World) :
    Calls Try.prog 20 #[] w fun e w' => e = .returned (.bool true) ∧ Below w.heap.size w w' := by
  have kc := fun (w : World) (C : Array Value) (n c : Nat) => Lib.run_convert_bytes_const (P := Try.prog) w 24 5 C n c Try.underlying24 Try.underlying5
  go_enter Try.func20, Try.ntmps20
  go_wp2_with fail
  (with_reducible refine (seal_yes _ [97, 98] 2 2 _ _ (hidr _) (Rd.lit w [97, 98] ab_bytes #[Value.int .u8 97, Value.int .u8 98] rfl 5 (2, 3)) (by decide) (by simp)).mono ?_)
  rintro e w1 ⟨v1, rfl, hown1, hb1⟩
  clear kc
  have hb1' := ((Below.refl w.heap.size w).alloc (Nat.le_refl _) _).trans (hb1.mono (by simp))
  obtain ⟨g1, c1, rfl, hnc1, _, _, hgs1⟩ := hown1.form1 (by decide)
  obtain ⟨a1, _, hv1, _, _, hr1, _⟩ := hown1.form
  simp only [Value.slice.injEq] at hv1
  obtain ⟨rfl, -, rfl⟩ := hv1
  have hc0 := hown1.cell rfl (j := 0) (by decide)
  obtain ⟨hop, hin⟩ := seal_ab_opens
  have hlen := seal_ab_len
  have hb0 : (seal1 [97, 98]).getD 0 0 = 2 := rfl
  generalize seal1 [97, 98] = S at *
  rw [hlen] at hnc1 ⊢
  have Hlen' : Hid (10 = S.length) := hlen.symm
  clear hlen
  rw [hb0] at hc0
  have Hin := Lib.hid hin; clear hin
  have Hop := Lib.hid hop; clear hop
  have Hb0 := Lib.hid hb0; clear hb0
  go_wp2_with fail
  (with_reducible refine (open_long _ S 10 c1 w1 _ Hlen' hr1 (by decide) (by decide) hnc1 (Nat.le_refl _)).mono ?_)
  rintro e w2 ⟨⟨v2, hv⟩, hb2⟩
  rcases hv with ⟨_, rfl, hown2⟩ | ⟨hf, _⟩
  · rw [Hin.out] at hown2
    obtain ⟨a2, c2, rfl, hnc2, _, hr2, _⟩ := hown2.form
    have hb := hb1'.trans (hb2.mono hb1'.size)
    have hr1' := hr1.below hb2
    go_wp2_with fail
    (with_reducible refine (open_short none 0 0 w2 (by decide)).mono ?_)
    rintro e w3 ⟨rfl, rfl⟩
    have hst := run_str (P := Try.prog) hr2 2 c2 rfl 24 5 9 Try.underlying24 Try.underlying5 Try.underlying9
    rw [str_ab] at hst
    have hc0' := (hb2.cell (p := ⟨g1, 0, none⟩) hgs1).trans hc0
    go_wp2
    go_ret
    exact ⟨rfl, hb⟩
  · rw [Hop.out] at hf; cases hf

end Go.Proofs.Ytfeddkldnmgncaa
