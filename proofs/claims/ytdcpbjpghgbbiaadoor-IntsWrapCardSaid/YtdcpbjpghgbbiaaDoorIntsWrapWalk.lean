/- The walk of IntsWrap: it returns true and writes nothing that was there. No condition but the kinds' own ranges. -/
import Derived.Test.YtdcpbjpghgbbiaaDoorIntsBegun
namespace Go.Proofs.YtdcpbjpghgbbiaaDoor
open Go.RowKit
set_option linter.unusedVariables false
set_option maxHeartbeats 1000000

theorem wrap_round (n : Int) : wk 1 (wrap64 (n + 4294967296)) = wk 1 n := by
  unfold wk s32 wrap64
  simp [IntKind.wrap, IntKind.bits, IntKind.signed]
  omega

/-- What both Wraps make, of whatever kind. -/
def wkk (k n : Int) : Int × Int := if k = 1 then (1, wk 1 n) else if k = 2 then (2, n) else (0, 0)
theorem wrap_w (k n : Int) (w : World) : Calls Tryd.prog 25 #[.int .i64 k, .int .i64 n] w fun e w' => e = .returned (.agg #[.int .i64 (wkk k n).1, .int .i64 (wkk k n).2]) ∧ Below w.heap.size w w' := by
  refine (wrap_any k n w).mono fun _ _ h => ⟨h.1.trans ?_, h.2⟩
  unfold V wrapV wkk wk
  by_cases h1 : k = 1
  · subst h1; rfl
  · by_cases h2 : k = 2
    · subst h2; rfl
    · simp [h1, h2]
theorem refwrap_w (k n : Int) (w : World) : Calls Tryd.prog 24 #[.int .i64 k, .int .i64 n] w fun e w' => e = .returned (.agg #[.int .i64 (wkk k n).1, .int .i64 (wkk k n).2]) ∧ Below w.heap.size w w' := by
  by_cases h1 : k = 1
  · subst h1; exact refwrap_1 n w
  · by_cases h2 : k = 2
    · subst h2; exact refwrap_2 n w
    · have e : wkk k n = (0, 0) := by simp [wkk, h1, h2]
      rw [e]; exact refwrap_0 k n h1 h2 w
theorem eq_yes (k n : Int) (w : World) : Calls Tryd.prog 23 #[.agg #[.int .i64 k, .int .i64 n], .agg #[.int .i64 k, .int .i64 n]] w fun e w' => e = .returned (.bool true) ∧ Below w.heap.size w w' :=
  (eq_any k n k n w).mono fun _ _ h => ⟨h.1.trans (by simp), h.2⟩

theorem intsWrap_walk (a0 a1 : Int) (w0 : (Lit.int .i64 a0).wf = true) (w1 : (Lit.int .i64 a1).wf = true) (w : World) :
    Calls Tryd.prog 5 #[.int .i64 a0, .int .i64 a1] w fun e w' => e = .returned (.bool true) ∧ Below w.heap.size w w' := by
  clear w0 w1
  go_enter Tryd.func5, Tryd.ntmps5
  go_wp2_with fail
  refine (begun_any w).mono ?_
  rintro e w1 ⟨rfl, hb⟩
  go_wp2_with fail
  refine (wrap_w a0 a1 w1).mono ?_
  rintro e w2 ⟨rfl, hb2⟩
  replace hb := hb.trans (hb2.mono hb.size)
  go_wp2_with fail
  refine (refwrap_w a0 a1 w2).mono ?_
  rintro e w3 ⟨rfl, hb3⟩
  replace hb := hb.trans (hb3.mono hb.size)
  go_wp2_with fail
  refine (eq_yes _ _ w3).mono ?_
  rintro e w4 ⟨rfl, hb4⟩
  replace hb := hb.trans (hb4.mono hb.size)
  clear hb2 hb3 hb4
  go_wp2_with fail
  refine (wrap_1 _ w4).mono ?_
  rintro e w5 ⟨rfl, hb5⟩
  replace hb := hb.trans (hb5.mono hb.size)
  rw [wrap_round]
  go_wp2_with fail
  refine (wrap_1 _ w5).mono ?_
  rintro e w6 ⟨rfl, hb6⟩
  replace hb := hb.trans (hb6.mono hb.size)
  go_wp2_with fail
  refine (eq_yes _ _ w6).mono ?_
  rintro e w7 ⟨rfl, hb7⟩
  replace hb := hb.trans (hb7.mono hb.size)
  go_wp2_with fail
  go_ret
  exact ⟨rfl, hb⟩

end Go.Proofs.YtdcpbjpghgbbiaaDoor
