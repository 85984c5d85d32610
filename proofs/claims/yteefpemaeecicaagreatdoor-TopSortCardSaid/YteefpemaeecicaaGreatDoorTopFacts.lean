/- What the four rows ask of the whole program, each a theorem of its own. No condition. -/
import Derived.Test.YteefpemaeecicaaGreatDoorRows
import Derived.Test.YteefpemaeecicaaGreatDoorCards
import Derived.JoinedOf
import Derived.KernelRfl
namespace Go.Proofs.YteefpemaeecicaaGreatDoor
set_option maxRecDepth 100000
theorem and2 {a b : Bool} (h : a = true) (k : b = true) : (a && b) = true := by rw [h, k]; rfl
theorem laidOut : laidOutB Tryz.pinned.checked.prog = true := by kernel_rfl
theorem rowed : mapsRowed Tryz.pinned.checked.prog = true := by kernel_rfl
theorem heard : Tryz.pinned.checked.prog.stopsHeard = true := by kernel_rfl
theorem enters : Tryz.pinned.checked.prog.mayEnter = true := by kernel_rfl
theorem final : Tryz.pinned.checked.prog.liftsFinal = false := by kernel_rfl
theorem looking : true = Tryz.pinned.checked.prog.looks [] := by kernel_rfl
theorem noneGoes : Tryz.pinned.checked.prog.funcs.any Func.goes = false := by kernel_rfl
theorem goes_none {P : Program} (h : P.funcs.any Func.goes = false) (f : FuncId) : P.goes f = false := by
  unfold Program.goes
  have h1 : ∀ g : FuncId, (P.funcs[g]?).any Func.goes = false := fun g => by
    cases hg : P.funcs[g]? with
    | none => rfl
    | some fn =>
      obtain ⟨hlt, rfl⟩ := Array.getElem?_eq_some_iff.1 hg
      have := Array.any_eq_false.1 h g hlt
      simpa using this
  have h2 : ((P.closure f).any fun g => (P.funcs[g]?).any Func.goes) = false := by
    rw [List.any_eq_false]
    intro g _
    rw [h1 g]
    exact Bool.false_ne_true
  rw [h2, h, Bool.and_false, Bool.or_false]
end Go.Proofs.YteefpemaeecicaaGreatDoor
