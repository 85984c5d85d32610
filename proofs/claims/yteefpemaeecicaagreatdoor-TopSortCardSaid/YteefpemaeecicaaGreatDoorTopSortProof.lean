/- 'Rows.TopSortCardSaid' is proved: for every input that can be read the law returns true, and what was there reads as before; the one listed variable, a table of the library's, starts as the program's text lays it (the tie is given). No condition of ours. -/
import Derived.Test.YteefpemaeecicaaGreatDoorRows
import Derived.Test.YteefpemaeecicaaGreatDoorCards
import Derived.Test.YteefpemaeecicaaGreatDoorTie
import Derived.Test.YteefpemaeecicaaGreatDoorTopSortWalk
import Derived.Test.YteefpemaeecicaaGreatDoorTopLaid
import Derived.Test.YteefpemaeecicaaGreatDoorTopSortFacts
import Derived.WalkKit
import Derived.ProofKit
import Derived.OpenShut
import Derived.ShutString
import Derived.LaidLaws
import Derived.SevenTiedAt
namespace Go.Proofs.YteefpemaeecicaaGreatDoor.topSort
open Go.ChangeShapes Go.WideShapes Go.ChangeAt Go.RowKit
open Go.ChangeMaps (open_string shut_string)
set_option linter.unusedVariables false

theorem own : ownKnob Tryz.prog.godebug = none := by kernel_rfl

set_option maxRecDepth 100000 in
theorem lifted (os : Os) (started : os.Started) (H : Type) (enc : TypeId × Value → H) :
    ReturnsInHanded {} Tryz.checked os 5 .any (fun w args => (Rows.topSortSpec.pre enc Tryz.prog Tryz.f5 [] false w args ∧ laidMet Tryz.prog [("math/bits.deBruijn64tab", Rows.laid_math_bits_deBruijn64tab)] w) ∧ sizedMet enc Tryz.prog Tryz.f5 (OpenSpec.ofChange Rows.topSortSpec) false w args)
      (Rows.topSortSpec.post enc Tryz.prog Tryz.f5 false true false false) := by
  refine returnsInHanded_of_change_and (C := Tryz.checked) (X := fun w _ => laidMet Tryz.prog [("math/bits.deBruijn64tab", Rows.laid_math_bits_deBruijn64tab)] w) (fun _ _ _ hh h => h.of_heap hh) own started (by kernel_rfl) Tryz.func5
    (ChangeSpec.witness_at (enc := enc) (C := Tryz.checked) (os := os) (X := fun w _ => laidMet Tryz.prog [("math/bits.deBruijn64tab", Rows.laid_math_bits_deBruijn64tab)] w) false (laidWorld os) #[.slice none 0 0] 8 rfl (by kernel_rfl) (by kernel_rfl) (by kernel_rfl) (by kernel_rfl) (by kernel_rfl) (laid_met os _)) ?_
  intro W base args ds gs before hval0 hW _ _ hL _
  have hval : ∀ (j : Nat) t v, Tryz.f5.params[j]? = some t → args[j]? = some v → Value.okWide Tryz.prog W .any base t v := hval0
  have hW' := hW
  obtain ⟨p, q, hA0, hV0, rfl, hfz, hnd⟩ := hW
  have hA : DataW.TrodAll enc Tryz.prog W 0 (fun _ => true) true Tryz.f5.params.toList args.toList ds p := hA0
  have hV : DataW.TrodVars enc Tryz.prog W (fun _ => true) [] gs q := hV0
  rw [Tryz.params5] at hA hval
  obtain ⟨v0, vs0, d0, ds0, p0, q0, hargs, rfl, rfl, h0, r0⟩ := trodAll_cons hA
  obtain ⟨rfl, rfl, rfl⟩ := trodAll_nil r0
  obtain rfl : args = #[v0] := by cases args; simp_all
  obtain ⟨a0, len0, cap0, rfl⟩ := okWide_slice Tryz.underlying64 (hval 0 64 v0 rfl rfl)
  have k0 := h0
  have lt0 : ∀ x ∈ p0, x.block < W.heap.size := by obtain ⟨m, hm⟩ := k0; exact DataW.trod_lt m _ _ _ hm
  obtain ⟨z0, w0⟩ : ∃ zs, IsRow .u8 W a0 len0 cap0 zs := by
    obtain ⟨fuel, hf⟩ := h0
    rcases open_ints Tryz.underlying64 Tryz.underlying5 (by kernel_rfl) hf with ⟨hcs, _⟩ | ⟨x, l, c, zs, hcs, _, hl, hm, hz, _, hcell, hwz⟩
    · simp [Value.cells] at hcs
      obtain ⟨rfl, rfl, rfl⟩ := hcs
      exact ⟨[], .inl ⟨rfl, rfl, rfl, rfl⟩⟩
    · simp [Value.cells] at hcs
      obtain ⟨rfl, rfl, rfl⟩ := hcs
      exact ⟨zs, .inr ⟨_, rfl, hl, hm, by simpa using hz, hcell, hwz⟩⟩
  obtain ⟨rfl, rfl⟩ : gs = [] ∧ q = [] := by
    cases gs with
    | nil => exact ⟨rfl, hV⟩
    | cons g r => exact absurd hV (by intro h; cases h)
  clear hA0 hval0
  refine (topSort_walk a0 len0 cap0 z0 W w0).mono fun e W' ⟨he, bel⟩ => ?_
  subst he
  exact ⟨_, rfl, _, _, _, [], _, [], hW', (trodAll_cons_mk (shut_bool Tryz.underlying4 _) trodAll_mk0), (trodAll_cons_mk (Below.trod laidOut (by kernel_rfl) (of_decide_eq_true (by kernel_rfl)) k0 bel lt0) trodAll_mk0), rfl, bel.frame _, fun h => by cases h⟩

theorem joined : joinedFacts Tryz.pinned.checked.prog 5 Tryz.f5 Rows.topSortSpec Rows.topSortRow = true := by
  unfold joinedFacts
  with_reducible repeat' apply and2
  all_goals first
    | with_reducible exact laidOut
    | with_reducible exact rowed
    | with_reducible exact heard
    | with_reducible exact enters
    | with_reducible exact inPlaces
    | with_reducible exact unfolds
    | with_reducible exact recurs
    | with_reducible exact varsNamed
    | (rw [final]; rfl)
    | kernel_rfl

theorem instOk : Tryz.f5.isInstance Tryz.pinned.checked.prog Rows.topSortRow.origin Rows.topSortRow.targs := of_decide_eq_true (by kernel_rfl)

theorem wrapOk : Tryz.f5.isWrapper Tryz.pinned.checked.prog Rows.topSortRow.wrapper Rows.topSortRow.mainSum := by
  unfold Func.isWrapper
  first | (rw [if_pos (by decide +kernel)]; kernel_rfl) | (rw [if_neg (by decide +kernel)]; exact ⟨rfl, rfl⟩)

theorem over : Rows.topSortRow.holds Tryz.pinned (OpenSpec.ofChange Rows.topSortSpec) :=
  OpenClaim.holds_of_wide 5 Tryz.f5 rfl rfl rfl rfl rfl rfl rfl ⟨rfl, rfl, rfl, rfl, rfl⟩ rfl rfl rfl rfl rfl named Tryz.func5 joined instOk wrapOk
    (fun os started H enc _ => lifted os started H enc)

theorem mainOk : Tryz.pinned.checked.prog.mainIs = some (true, "4f0b13d228ab72ffb323d979a2ae5f77d801fe1e6f4cb37519243f26a54b483b".toList) := by kernel_rfl

theorem worded : Rows.topSortRow.wfByText (OpenSpec.ofChange Rows.topSortSpec) = true := by kernel_rfl

theorem noStandIn0 : Tryz.prog.wantsStandIn 64 = false := by kernel_rfl

/-- THE TIED CARD. -/
theorem proved : Rows.TopSortCardSaid :=
  Claim7.holds_tied_plain_at .later [] [.data] true (true, "4f0b13d228ab72ffb323d979a2ae5f77d801fe1e6f4cb37519243f26a54b483b") true
    over (fun _ h => by cases h) worded (fun _ h => by cases h) topSort_row_tie rfl ⟨rfl, rfl⟩ mainOk rfl
    (fun f fn hf hfn => by
      obtain rfl : f = 5 := Option.some.inj (named.symm.trans hf) |>.symm
      obtain rfl : fn = Tryz.f5 := (Option.some.inj (Tryz.func5.symm.trans hfn)).symm
      exact ⟨looking, fun j t ht => by
        rw [Tryz.params5] at ht
        rcases j with _ | j
        · obtain rfl : t = 64 := by simpa using ht.symm
          exact noStandIn0
        simp at ht⟩)
    nowhere
#print axioms proved
end Go.Proofs.YteefpemaeecicaaGreatDoor.topSort
