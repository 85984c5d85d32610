/- Laws of one whole number of which only the rest is asked: the reckoning of each rest. No condition. -/
import Derived.Test.YtdgigppkpkpaeaaGreatDoorEvB6
import Derived.Test.YtdgigppkpkpaeaaGreatDoorEvSmall
open Go Go.RowKit Go.Proofs
namespace Go.Proofs.YtdgigppkpkpaeaaGreatDoor.Ev
set_option linter.unusedVariables false
set_option linter.unusedSimpArgs false
set_option linter.constructorNameAsVariable false
noncomputable section
theorem small8 : Small Tryz.prog 8 where
  enter := ⟨Tryz.f8, Tryz.func8, by kernel_rfl, by decide⟩
  calls := fun z k w h0 h1 => (small_walk z k w h0 h1).mono fun e w' ⟨e1, e2⟩ => ⟨e1, by rw [← e2]; exact Below.refl _ w⟩
def LT : List (Nat × Fc) := [(23, yesF), (8, smallF)]
theorem LT_ok : LOk LT := LOk.cons (yesF_ok begun27) (LOk.cons (smallF_ok small8) LOk.nil)
/-- One call after the other, each from an empty memory. -/
def runsK (L : List (Nat × Fc)) (f : Nat) (ls : List (List AV)) : Ans := lrec ls .yes fun l _ ih => (callsN (runL L) 60).run f l hp0 (fun v h => (AV.rec (motive_1 := fun _ => Ans) (motive_2 := fun _ => PUnit.{1}) (motive_3 := fun _ => PUnit.{1}) (motive_4 := fun _ => PUnit.{1}) (motive_5 := fun _ => PUnit.{1}) Ans.no (fun _ _ => Ans.no) (fun _ => Ans.no) (fun _ _ => Ans.no) Ans.no (fun _ => Ans.no) Ans.no (fun _ _ _ _ _ => Ans.no) Ans.no (fun _ _ => Ans.no) (fun _ => Ans.no) Ans.no Ans.no Ans.no (fun _ _ _ => Ans.no) (fun _ _ _ => Ans.no) (fun _ _ _ => Ans.no) (fun _ _ _ => Ans.no) (fun _ _ _ _ => Ans.no) (fun _ _ _ => Ans.no) (fun b => (Bool.rec (motive := fun _ => Ans) (Ans.no) (ih) (b))) (fun _ _ => Ans.no) (fun _ _ => Ans.no) PUnit.unit (fun _ _ _ _ => PUnit.unit) (fun _ _ _ _ _ _ _ _ _ _ _ _ _ _ _ _ => PUnit.unit) (fun _ _ _ _ _ _ _ _ _ _ _ _ _ _ _ _ => PUnit.unit) (fun _ _ _ _ _ _ _ _ _ _ _ _ _ _ _ _ => PUnit.unit) (v)))
theorem runs_all {L : List (Nat × Fc)} (hL : LOk L) {f : Nat} : ∀ {ls : List (List AV)}, runsK L f ls = .yes → ∀ l ∈ ls, ∀ w (args : Array Value), VRs mp0 l args.toList → Calls Tryz.prog f args w (fun e w' => e = .returned (.bool true) ∧ Below w.heap.size w w')
  | [], _, l, hl, _, _, _ => by cases hl
  | l0 :: ls, hy, l, hl, w, args, hv => by
    have hy' : (callsN (runL L) 60).run f l0 hp0 (fun v h => (fun v => (fun ih => (AV.rec (motive_1 := fun _ => Ans) (motive_2 := fun _ => PUnit.{1}) (motive_3 := fun _ => PUnit.{1}) (motive_4 := fun _ => PUnit.{1}) (motive_5 := fun _ => PUnit.{1}) Ans.no (fun _ _ => Ans.no) (fun _ => Ans.no) (fun _ _ => Ans.no) Ans.no (fun _ => Ans.no) Ans.no (fun _ _ _ _ _ => Ans.no) Ans.no (fun _ _ => Ans.no) (fun _ => Ans.no) Ans.no Ans.no Ans.no (fun _ _ _ => Ans.no) (fun _ _ _ => Ans.no) (fun _ _ _ => Ans.no) (fun _ _ _ => Ans.no) (fun _ _ _ _ => Ans.no) (fun _ _ _ => Ans.no) (fun b => (Bool.rec (motive := fun _ => Ans) (Ans.no) (ih) (b))) (fun _ _ => Ans.no) (fun _ _ => Ans.no) PUnit.unit (fun _ _ _ _ => PUnit.unit) (fun _ _ _ _ _ _ _ _ _ _ _ _ _ _ _ _ => PUnit.unit) (fun _ _ _ _ _ _ _ _ _ _ _ _ _ _ _ _ => PUnit.unit) (fun _ _ _ _ _ _ _ _ _ _ _ _ _ _ _ _ => PUnit.unit) (v))) (runsK L f ls)) v) = .yes := hy
    obtain ⟨he, v, h', h1, h2⟩ := callsN_ok (runL_ok hL) 60 f l0 hp0 _ hy'
    obtain ⟨b, rfl, h3⟩ := inv_b h1
    obtain ⟨h4, h5⟩ := inv_if h3
    rcases List.mem_cons.1 hl with rfl | hl
    · refine (h2 _ mp0 w args (MR.start w) hv).mono fun e w' ⟨μ', v', e1, _, e3, e4⟩ => ?_
      rw [e3.b_inv, h4] at e1
      exact ⟨e1, e4.below⟩
    · exact runs_all hL h5 l hl w args hv
/-- The calls of a law of one number: only the rest is asked. -/
theorem law_calls {L : List (Nat × Fc)} (hL : LOk L) {f k : Nat} (hr : ∀ r, r < k → ∃ ls, runsK L f ls = .yes ∧ [AV.x k r] ∈ ls) (hk : 0 < k) (n : Int) (w : World) :
    Calls Tryz.prog f #[.int .i64 n] w (fun e w' => e = .returned (.bool true) ∧ Below w.heap.size w w') := by
  have hlt : (n.tmod (k : Int)).natAbs < k := by
    rw [Int.natAbs_tmod]
    exact Nat.mod_lt _ (by omega)
  obtain ⟨ls, h1, h2⟩ := hr _ hlt
  exact runs_all hL h1 _ h2 w _ (VRs.cons (.x k _ n rfl) (VRs.nil _))
end
end Go.Proofs.YtdgigppkpkpaeaaGreatDoor.Ev
