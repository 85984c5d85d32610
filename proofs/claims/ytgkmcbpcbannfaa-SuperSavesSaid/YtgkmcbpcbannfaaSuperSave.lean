/- The contract of super's Save. -/
import Derived.Test.YtgkmcbpcbannfaaSuperMath
namespace Go.Proofs.Ytgkmcbpcbannfaa
open Go.RowKit Crc
set_option linter.unusedVariables false
set_option maxHeartbeats 2000000
set_option maxRecDepth 100000

theorem Below.undrew {B : Nat} {w w' : World} (h : Below B w.drew w') : Below B w w' := ⟨h.os, h.tape, h.output, h.size, h.block⟩
section
variable {w w' : World} {p q s : Nat} {at_ slot turn0 : Int} {M : DevM} {txt : List Nat} {a : Option Addr} {c0 : Nat}
theorem WroteNone.undrew (h : WroteNone w.drew w' p q s at_ slot turn0 M txt a c0) : WroteNone w w' p q s at_ slot turn0 M txt a c0 := ⟨h.dev, h.sup, Below.undrew h.below⟩
theorem WroteHalf.undrew (h : WroteHalf w.drew w' p q s at_ slot turn0 M txt a c0) : WroteHalf w w' p q s at_ slot turn0 M txt a c0 := ⟨h.dev, h.sup, ⟨h.kept.os, h.kept.tape, h.kept.output, h.kept.size, h.kept.block⟩⟩
theorem WroteAll.undrew (h : WroteAll w.drew w' p q s at_ slot turn0 M txt a c0) : WroteAll w w' p q s at_ slot turn0 M txt a c0 := ⟨h.dev, h.sup, ⟨h.kept.os, h.kept.tape, h.kept.output, h.kept.size, h.kept.block⟩, h.new⟩
end
theorem save_core (s p q c0 nb cb : Nat) (at_ : Int) (slot slot' t : Nat) (M : DevM) (txt b : List Nat) (a ab : Option Addr) (w : World) (B : Nat) (hd : DevAt w p q M) (hs : SupAt w s p at_ slot t txt a c0) (hsp : s ≠ p ∧ s ≠ q ∧ ∀ x, a = some x → x.block ≠ p ∧ x.block ≠ q) (hrd : Rd w B ab b) (hB : B ≤ w.heap.size) (hbx : ∀ x, ab = some x → b = [] ∨ (x.block ≠ p ∧ x.block ≠ q)) (hb : nb = b.length) (hb40 : nb ≤ 40) (hn : t < 1000000000) (hsl : slot + slot' = 1) (ix : Nat) (sc : Sec) (hix : at_ + slot' = ix) (hsc : M.secs[ix]? = some sc) (hroom : M.calls + 2 ≤ 1000000000) (ha : 0 ≤ at_ ∧ at_ ≤ 100000)
    (R : Ending → World → Prop)
    (h0 : M.isDead = true → ∀ w', WroteNone w w' p q s at_ slot t M txt a c0 → R (.returned (.int .i64 10)) w')
    (h1 : M.isDead = false → (M.write ix sc (slotBytes (t + 1) b)).isDead = true → ∀ w', WroteHalf w w' p q s at_ slot t (M.write ix sc (slotBytes (t + 1) b)) txt a c0 → R (.returned (.int .i64 10)) w')
    (h2 : M.isDead = false → (M.write ix sc (slotBytes (t + 1) b)).isDead = false → ∀ w' a' c', WroteAll w w' p q s at_ slot' (t + 1 : Nat) (M.write ix sc (slotBytes (t + 1) b)).flush b a' c' → R (.returned (.int .i64 0)) w') :
    Calls Try.prog 27 #[.pointer (some ⟨s, 0, none⟩), .slice ab nb cb] w R := by
  subst hb
  have c2 := hs.c2
  have c3 := hs.c3
  have d : decide (40 < (b.length : Int)) = false := decide_eq_false (by omega)
  have W := fun (R' : Ending → World → Prop) g0 g1 g2 => write_core s p q c0 b.length cb at_ slot' slot t M txt b a ab (t + 1) w.drew B (hd.keep rfl rfl) (hs.below' (Below.refl _ _).drew) hsp hrd hB hbx rfl hb40 (by omega) ix sc hix hsc hroom (by unfold wrap64; omega) (hd.keep rfl rfl) R' g0 g1 g2
  have e1 : IntKind.i64.wrap ((1 : Int) - (slot : Int)) = (slot' : Int) := by simp [IntKind.wrap, IntKind.bits, IntKind.signed]; omega
  have e2 : IntKind.i64.wrap ((t : Int) + 1) = ((t + 1 : Nat) : Int) := by simp [IntKind.wrap, IntKind.bits, IntKind.signed]; omega
  have e2' : ((t : Int) + 1) = ((t + 1 : Nat) : Int) := by omega
  obtain ⟨T, hT⟩ : ∃ T, t + 1 = T := ⟨_, rfl⟩
  rw [hT] at W h1 h2 e2 e2'
  have hW := Lib.hid W
  have H0 := Lib.hid h0
  have H1 := Lib.hid h1
  have H2 := Lib.hid h2
  clear W h0 h1 h2 hd hs hrd hT
  go_enter Try.func27, Try.ntmps27
  go_wp2_with fail
  go_still_tail 12, (by kernel_rfl)
  change wpList _ _ _ _ _ w.drew
  go_wp2_with fail
  refine hW.out _ ?_ ?_ ?_
  · intro hx w' hw
    have HW := Lib.hid (H0.out hx w' hw.undrew)
    clear hw H0 H1 H2 hW
    go_wp2_with fail
    exact HW.out
  · intro hx hy w' hw
    have HW := Lib.hid (H1.out hx hy w' hw.undrew)
    clear hw H0 H1 H2 hW
    go_wp2_with fail
    exact HW.out
  · intro hx hy w' a' c' hw
    have HW := Lib.hid (H2.out hx hy w' a' c' hw.undrew)
    clear hw H0 H1 H2 hW
    go_wp2_with fail
    exact HW.out
end Go.Proofs.Ytgkmcbpcbannfaa
