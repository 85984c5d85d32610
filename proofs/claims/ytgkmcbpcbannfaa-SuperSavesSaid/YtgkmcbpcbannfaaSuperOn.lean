/- A Super on its device, as a law has it in hand. -/
import Derived.Test.YtgkmcbpcbannfaaSuperDev
namespace Go.Proofs.Ytgkmcbpcbannfaa
open Go.RowKit Crc
set_option linter.unusedVariables false
set_option maxHeartbeats 2000000

structure SOn (w : World) (p q s at_ k t : Nat) (M : DevM) (l : List (List Nat)) (txt : List Nat) (a : Option Addr) (c : Nat) : Prop where
  dev : DevAt w p q M
  live : Live M
  clean : Clean M l
  two : Sup2 l at_ k t txt
  sup : SupAt w s p at_ (k : Nat) (t : Nat) txt a c
  apart : s ≠ p ∧ s ≠ q ∧ ∀ x, a = some x → x.block ≠ p ∧ x.block ≠ q
section
variable {w w' : World} {p q s at_ k t : Nat} {M : DevM} {l : List (List Nat)} {txt : List Nat} {a : Option Addr} {c : Nat}
theorem SOn.below' (h : SOn w p q s at_ k t M l txt a c) (hb : Below w.heap.size w w') : SOn w' p q s at_ k t M l txt a c :=
  ⟨h.dev.below' hb, h.live, h.clean, h.two, h.sup.below' hb, h.apart⟩
theorem make_on {nb cb : Nat} {b : List Nat} {ab : Option Addr} {B : Nat} (w : World) (hd : DevAt w p q M) (hlv : Live M) (hl : M.secs.map (·.now) = l) (hat : at_ + 1 < l.length)
    (hrd : Rd w B ab b) (hB : B ≤ w.heap.size) (hbx : ∀ x, ab = some x → b = [] ∨ (x.block ≠ p ∧ x.block ≠ q)) (hb : nb = b.length) (hb40 : nb ≤ 40) (hroom : M.calls + 4 ≤ 1000000000) :
    Calls Try.prog 24 #[.pointer (some ⟨p, 0, none⟩), .int .i64 at_, .slice ab nb cb] w fun e w' => ∃ s a c M', e = .returned (.tuple #[.pointer (some ⟨s, 0, none⟩), .int .i64 0]) ∧ SOn w' p q s at_ 0 1 M' (((l.set at_ zeros).set (at_ + 1) zeros).set at_ (slotBytes 1 b)) b a c ∧ Kept p q w w' ∧ w.heap.size ≤ s ∧ (∀ x, a = some x → w.heap.size ≤ x.block) ∧ M'.calls = M.calls + 4 := by
  have ltp := hd.ltp
  have ltq := hd.ltq
  refine (make_sup w hd hlv hl hat hrd hB hbx hb hb40 hroom).mono ?_
  rintro e w' ⟨s, a, c, M', rfl, hm, hlv', hc, hcl, hs⟩
  have hn := hm.new
  refine ⟨s, a, c, M', rfl, ⟨hm.dev, hlv', hcl, hs, hm.sup, by omega, by omega, fun x hx => ?_⟩, hm.kept, hm.new, hm.far, hc⟩
  have := hm.far x hx
  omega
theorem save_on {nb cb : Nat} {b : List Nat} {ab : Option Addr} {B : Nat} (w : World) (h : SOn w p q s at_ k t M l txt a c)
    (hrd : Rd w B ab b) (hB : B ≤ w.heap.size) (hbx : ∀ x, ab = some x → b = [] ∨ (x.block ≠ p ∧ x.block ≠ q)) (hb : nb = b.length) (hb40 : nb ≤ 40) (ht : t < 1000000000) (hroom : M.calls + 2 ≤ 1000000000) :
    Calls Try.prog 27 #[.pointer (some ⟨s, 0, none⟩), .slice ab nb cb] w fun e w' => ∃ a' c' M', e = .returned (.int .i64 0) ∧ SOn w' p q s at_ (1 - k) (t + 1) M' (l.set (at_ + (1 - k)) (slotBytes (t + 1) b)) b a' c' ∧ Kept3 p q s w w' ∧ (∀ x, a' = some x → w.heap.size ≤ x.block) ∧ M'.calls = M.calls + 2 := by
  have ltp := h.dev.ltp
  have ltq := h.dev.ltq
  refine (save_sup w h.dev h.live h.clean h.two h.sup h.apart hrd hB hbx hb hb40 ht hroom).mono ?_
  rintro e w' ⟨a', c', M', rfl, hw, hlv', hc, hcl⟩
  refine ⟨a', c', M', rfl, ⟨hw.dev, hlv', hcl, h.two.next hrd.1 (by omega) (by omega), hw.sup, h.apart.1, h.apart.2.1, fun x hx => ?_⟩, hw.kept, hw.new, hc⟩
  have := hw.new x hx
  omega
/-- What a law reads of a slice of bytes of its own. -/
theorem own_str {w : World} {base : Nat} {v : Value} {txt : List Nat} (h : Own w base 5 v txt) : ∃ a n c, v = .slice a n c ∧ n = txt.length ∧ (convert 22 9 (.slice a n c)).run Try.prog w = .ok (.string (str txt)) w ∧ n ≤ c := by
  obtain ⟨a, c, rfl, hc, _, hr, _⟩ := h.form
  exact ⟨a, _, c, rfl, rfl, run_str (P := Try.prog) hr _ c rfl 22 5 9 Try.underlying22 Try.underlying5 Try.underlying9, hc⟩
theorem rd_str {w : World} {B n c : Nat} {a : Option Addr} {txt : List Nat} (h : Rd w B a txt) (hn : n = txt.length) : (convert 22 9 (.slice a n c)).run Try.prog w = .ok (.string (str txt)) w :=
  run_str (P := Try.prog) h n c hn 22 5 9 Try.underlying22 Try.underlying5 Try.underlying9
end
end Go.Proofs.Ytgkmcbpcbannfaa
