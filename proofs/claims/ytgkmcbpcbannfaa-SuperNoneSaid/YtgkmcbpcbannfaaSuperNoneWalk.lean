/- The walk of SuperNone: a closed sentence: it returns true and writes nothing that was there. -/
import Derived.Test.YtgkmcbpcbannfaaSuperBegun
namespace Go.Proofs.Ytgkmcbpcbannfaa
open Go.RowKit Crc
set_option linter.unusedVariables false
set_option maxHeartbeats 2000000

theorem superNone_walk (w : World) : Calls Try.prog 8 #[] w fun e w' => e = .returned (.bool true) ∧ Below w.heap.size w w' := by
  have hmk : ∀ w, (Instr.makeSlice 22 (.int .i64 41) (.int .i64 41)).run Try.prog w = .ok (.slice (some ⟨w.heap.size, 0, none⟩) 41 41) (w.alloc (.cells (vals (List.replicate 41 0)).toArray 5)) := fun w => make_bytes 41 (by omega) w
  obtain ⟨z, hz⟩ : ∃ z, (vals (List.replicate 41 0)).toArray = z := ⟨_, rfl⟩
  rw [hz] at hmk
  clear hz
  go_enter Try.func8, Try.ntmps8
  go_wp2_with fail
  refine (new_any 2 2 w (by omega) (.inr (.inl rfl))).mono ?_
  rintro e w1 ⟨p, q, rfl, hd1, hp, hq, hb1⟩
  clear hd1
  go_wp2_with fail
  refine (make_long _ 0 _ 41 41 _ (by omega)).mono ?_
  rintro e w2 ⟨rfl, rfl⟩
  go_wp2_with fail
  refine (open_nil 0 _).mono ?_
  rintro e w3 ⟨rfl, rfl⟩
  have hb3 := hb1.alloc hb1.size (.cells z 5)
  clear hmk hb1
  go_wp2_with fail
  refine (begun18 _).mono ?_
  rintro e w4 ⟨rfl, hb4⟩
  have hb5 := hb3.trans (hb4.mono hb3.size)
  clear hb3 hb4
  go_wp2_with fail
  refine (save_nil _ _).mono ?_
  rintro e w5 ⟨rfl, rfl⟩
  go_wp2_with fail
  refine (text_nil _).mono ?_
  rintro e w6 ⟨rfl, rfl⟩
  go_wp2_with fail
  refine (turn_nil _).mono ?_
  rintro e w7 ⟨rfl, rfl⟩
  go_wp2_with fail
  go_ret
  exact ⟨rfl, hb5⟩
end Go.Proofs.Ytgkmcbpcbannfaa
