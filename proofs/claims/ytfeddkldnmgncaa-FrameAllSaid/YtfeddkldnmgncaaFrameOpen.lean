/- The contract of the frame's Open: it gives what lies between just where sealing that gives the bytes again. Condition: the slice reads as at most 70000 bytes. -/
import Derived.Test.YtfeddkldnmgncaaFrameWalks
namespace Go.Proofs.Ytfeddkldnmgncaa
open Go.RowKit Crc
set_option linter.unusedVariables false

theorem hidr {α : Type} (x : α) : Hid (x = x) := rfl
theorem opens_short {t : List Nat} (h : t.length < 8) : opens t = false := by
  unfold opens
  rw [decide_eq_false (by omega)]
  rfl
theorem opens_long {t : List Nat} (h : 8 ≤ t.length) : opens t = decide (sealed (inner t) = t) := by
  unfold opens
  rw [decide_eq_true h, Bool.true_and]

theorem rd_cut4 {w : World} {B : Nat} {a : Option Addr} {l : List Nat} (h : Rd w B a l) {m : Nat} (hp : 4 + m ≤ l.length) : Rd w B (a.map fun x => { block := x.block, off := x.off + 4 }) ((l.drop 4).take m) := by
  have h1 := h.cut (p := 4) hp
  rcases h1.2 with h0 | ⟨b, off, e, hb, hc⟩
  · exact ⟨h1.1, .inl h0⟩
  · rcases h.2 with h0 | ⟨b', off', rfl, hb', hc'⟩
    · rw [h0] at hp; simp at hp
    · refine ⟨h1.1, .inr ⟨b', off' + 4, rfl, hb', ?_⟩⟩
      have e' : (⟨b, off, none⟩ : Addr) = ⟨b', off' + 4, none⟩ := by
        have : (⟨b', off', none⟩ : Addr).add 4 = ⟨b', off' + 4, none⟩ := by simp [Addr.add]
        rw [← this]
        injection e with e
        exact e.symm
      injection e' with e1 e2
      subst e1 e2
      exact hc

set_option maxHeartbeats 2000000 in
theorem open_short (a : Option Addr) (n c : Nat) (w : World) (hs : n < 8) :
    Calls Try.prog 22 #[.slice a n c] w fun e w' => e = .returned (.tuple #[.slice none 0 0, .int .i64 11]) ∧ w = w' := by
  go_enter Try.func22, Try.ntmps22
  go_wp2
  go_ret2
  exact ⟨rfl, rfl⟩

set_option maxHeartbeats 2000000 in
theorem open_long (a : Option Addr) (t : List Nat) (n c : Nat) (w : World) (B : Nat) (hn : Hid (n = t.length)) (hr : Rd w B a t) (h8 : 8 ≤ n) (hl : n ≤ 60008) (hnc : n ≤ c) (hB : B ≤ w.heap.size) :
    Calls Try.prog 22 #[.slice a n c] w fun e w' => (∃ v, (opens t = true ∧ e = .returned (.tuple #[v, .int .i64 0]) ∧ Own w' w.heap.size 5 v (inner t) ∨ opens t = false ∧ e = .returned (.tuple #[.slice none 0 0, .int .i64 11]))) ∧ Below w.heap.size w w' := by
  have hcut : Rd w B (a.map fun x => { block := x.block, off := x.off + 4 }) (inner t) := rd_cut4 hr (m := t.length - 8) (by have := hn.out; omega)
  have hil : n - 4 - 4 = (inner t).length := by rw [inner_length t (by have := hn.out; omega), hn.out]; omega
  have Hil := Lib.hid hil
  have hil2 : (inner t).length ≤ 60000 := by omega
  clear hil
  have hop : Hid (opens t = decide (seal1 (inner t) = t)) := by
    show _ = _
    rw [opens_long (by have := hn.out; omega)]
    unfold sealed
    rw [if_pos hil2]
  have hc4 : ¬ c = 4 := by omega
  generalize hI : inner t = I at hcut Hil hil2 hop
  have HI := Lib.hid hI; clear hI
  go_enter Try.func22, Try.ntmps22
  go_wp2_with fail
  (with_reducible refine (clone_any _ I _ _ w B Hil hcut (by omega) hB).mono ?_)
  rintro e w1 ⟨v1, rfl, hown1, hb1⟩
  obtain ⟨a1, c1, rfl, _, _, hr1, _⟩ := hown1.form
  go_wp2_with fail
  (with_reducible refine (seal_yes _ I _ _ w1 _ (hidr _) hr1 hil2 (Nat.le_refl _)).mono ?_)
  rintro e w2 ⟨v2, rfl, hown2, hb2⟩
  obtain ⟨a2, c2, rfl, _, _, hr2, _⟩ := hown2.form
  have hown1' := hown1.below' hb2
  have hb := hb1.trans (hb2.mono hb1.size)
  have hrw := hr.below (hb.mono hB)
  go_wp2_with fail
  (with_reducible refine (equal_any _ _ _ _ _ t _ _ w2 _ B (hidr _) hr2 hn hrw).mono ?_)
  rintro e w3 ⟨rfl, rfl⟩
  by_cases hd : seal1 I = t
  · rw [decide_eq_true hd]
    have ho : Hid (opens t = true) := by show _ = _; rw [hop.out, decide_eq_true hd]
    clear hop hd
    go_wp2_with fail
    go_ret2
    exact ⟨⟨_, .inl ⟨ho.out, rfl, hown1'⟩⟩, hb⟩
  · rw [decide_eq_false hd]
    have ho : Hid (opens t = false) := by show _ = _; rw [hop.out, decide_eq_false hd]
    clear hop hd
    go_wp2_with fail
    go_ret2
    exact ⟨⟨.nilIface, .inr ⟨ho.out, rfl⟩⟩, hb⟩

end Go.Proofs.Ytfeddkldnmgncaa
