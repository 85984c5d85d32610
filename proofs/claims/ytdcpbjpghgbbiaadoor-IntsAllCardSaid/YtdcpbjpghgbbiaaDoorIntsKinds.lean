/- The contract of ints.Kinds. -/
import Derived.Test.YtdcpbjpghgbbiaaDoorIntsWalks
namespace Go.Proofs.YtdcpbjpghgbbiaaDoor
open Go.RowKit
set_option linter.unusedVariables false

/-- What Kinds hands back: the slice reads as the kinds. -/
def KindsRet (r : List Int × Int × Bool) (w : World) (e : Ending) (w' : World) : Prop :=
  ∃ a c, e = .returned (.tuple #[.slice a r.1.length c, .int .i64 r.2.1, .bool r.2.2]) ∧ RdV w' w'.heap.size a (r.1.map (Value.int .i64)) ∧ Below w.heap.size w w'

theorem one1_ints (l : List Int) : One1 (l.map (Value.int .i64)) := by
  intro u hu
  simp only [List.mem_map] at hu
  obtain ⟨n, _, rfl⟩ := hu
  rfl
theorem kr_none (w : World) : KindsRet ([], 0, false) w (.returned (.tuple #[.slice none 0 0, .int .i64 0, .bool false])) w := ⟨none, 0, rfl, RdV.nil _ _ _, Below.refl _ _⟩
theorem kr_one (k t : Int) (w : World) : KindsRet ([k], t, true) w (.returned (.tuple #[.slice (some ⟨w.heap.size, 0, none⟩) 1 1, .int .i64 t, .bool true])) (w.alloc (.cells #[.int .i64 k] 3)) :=
  ⟨_, 1, rfl, by simpa using RdV.lit w ([k].map (Value.int .i64)) (one1_ints _) #[.int .i64 k] rfl 3 (0, 0), one_block _ _⟩
theorem kr_two (k t : Int) (w : World) : KindsRet ([k, k], t, true) w (.returned (.tuple #[.slice (some ⟨w.heap.size, 0, none⟩) 2 2, .int .i64 t, .bool true])) (w.alloc (.cells #[.int .i64 k, .int .i64 k] 3)) :=
  ⟨_, 2, rfl, by simpa using RdV.lit w ([k, k].map (Value.int .i64)) (one1_ints _) #[.int .i64 k, .int .i64 k] rfl 3 (0, 0), one_block _ _⟩

theorem kinds_any (op : Int) (w : World) :
    Calls Tryd.prog 19 #[.int .i64 op] w fun e w' => KindsRet (kindsV op) w e w' := by
  by_cases h1 : op = 167
  · subst h1
    have ho : kindsV 167 = ([2], 1, true) := by decide
    rw [ho]
    clear ho
    go_enter Tryd.func19, Tryd.ntmps19
    go_wp2
    go_ret3
    exact kr_one _ _ _
  · have d1 : (op == 167) = false := beq_eq_false_iff_ne.2 h1
    by_cases h2 : op = 172
    · subst h2
      have ho : kindsV 172 = ([1], 2, true) := by decide
      rw [ho]
      clear ho
      go_enter Tryd.func19, Tryd.ntmps19
      go_wp2
      go_ret3
      exact kr_one _ _ _
    · have d2 : (op == 172) = false := beq_eq_false_iff_ne.2 h2
      by_cases h3 : op = 173
      · subst h3
        have ho : kindsV 173 = ([1], 2, true) := by decide
        rw [ho]
        clear ho
        go_enter Tryd.func19, Tryd.ntmps19
        go_wp2
        go_ret3
        exact kr_one _ _ _
      · have d3 : (op == 173) = false := beq_eq_false_iff_ne.2 h3
        have ho : kindsV op = (if (ofV op).1 = 0 then ([], 0, false) else if (ofV op).2 = 69 then ([(ofV op).1], 1, true) else if inB (ofV op).2 70 79 then ([(ofV op).1, (ofV op).1], 1, true) else if inB (ofV op).2 103 105 then ([(ofV op).1], (ofV op).1, true) else ([(ofV op).1, (ofV op).1], (ofV op).1, true)) := by
          unfold kindsV
          rw [if_neg h1, if_neg (by omega)]
        rw [ho]
        clear ho
        have hof := of_any op
        generalize (ofV op).1 = k at hof ⊢
        generalize (ofV op).2 = l at hof ⊢
        have Hof := Lib.hid hof; clear hof
        by_cases k0 : k = 0
        · rw [if_pos k0]
          have e1 : (k == 0) = true := by rw [k0]; rfl
          clear k0
          go_enter Tryd.func19, Tryd.ntmps19
          go_wp2_with (go_at_call 29; refine (Hof.out _).mono ?_; rintro e w1 ⟨rfl, rfl⟩)
          go_ret3
          exact kr_none _
        · rw [if_neg k0]
          have e1 : (k == 0) = false := beq_eq_false_iff_ne.2 k0
          by_cases l0 : l = 69
          · rw [if_pos l0]
            have e2 : (l == 69) = true := by rw [l0]; rfl
            clear l0 k0
            go_enter Tryd.func19, Tryd.ntmps19
            go_wp2_with (go_at_call 29; refine (Hof.out _).mono ?_; rintro e w1 ⟨rfl, rfl⟩)
            go_ret3
            exact kr_one _ _ _
          · rw [if_neg l0]
            have e2 : (l == 69) = false := beq_eq_false_iff_ne.2 l0
            clear l0 k0
            cases b1 : inB l 70 79
            · rw [if_neg Bool.false_ne_true]
              cases b2 : inB l 103 105
              · rw [if_neg Bool.false_ne_true]
                go_enter Tryd.func19, Tryd.ntmps19
                go_wp2_with (first | (go_at_call 29; refine (Hof.out _).mono ?_; rintro e w1 ⟨rfl, rfl⟩) | (go_at_call 40; refine (between_any _ _ _ _).mono ?_; rintro e w1 ⟨rfl, rfl⟩))
                go_ret3
                exact kr_two _ _ _
              · rw [if_pos rfl]
                go_enter Tryd.func19, Tryd.ntmps19
                go_wp2_with (first | (go_at_call 29; refine (Hof.out _).mono ?_; rintro e w1 ⟨rfl, rfl⟩) | (go_at_call 40; refine (between_any _ _ _ _).mono ?_; rintro e w1 ⟨rfl, rfl⟩))
                go_ret3
                exact kr_one _ _ _
            · rw [if_pos rfl]
              go_enter Tryd.func19, Tryd.ntmps19
              go_wp2_with (first | (go_at_call 29; refine (Hof.out _).mono ?_; rintro e w1 ⟨rfl, rfl⟩) | (go_at_call 40; refine (between_any _ _ _ _).mono ?_; rintro e w1 ⟨rfl, rfl⟩))
              go_ret3
              exact kr_two _ _ _

end Go.Proofs.YtdcpbjpghgbbiaaDoor
