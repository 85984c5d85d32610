/- The walk of MeterAll: it returns true and writes nothing that was there. Conditions: the slices read as rows of ints. -/
import Derived.Test.YtdnfncbinhbioaaMeterWalks
import Derived.Deep.QuietTactic
import Derived.BigQuiet
namespace Go.Proofs.Ytdnfncbinhbioaa
open Go.RowKit
set_option linter.unusedVariables false
attribute [local irreducible] floatOfInt

theorem mod_em (n m : Int) (h : 0 < m) : ((n.tmod m + m).tmod m = n % m ∧ (n.tmod m + m) % m = n % m ∧ n.tmod m % m = n % m) ∧ (-m < n.tmod m ∧ n.tmod m < m) ∧ 0 ≤ n % m ∧ n % m < m := by
  have e := mod_of n m h
  have e' := e
  rw [Int.tmod_eq_emod_of_nonneg (by have := Int.lt_tmod_of_pos n h; omega)] at e'
  exact ⟨⟨e, e', by rw [← e', Int.add_emod_right]⟩, ⟨Int.lt_tmod_of_pos n h, Int.tmod_lt_of_pos n h⟩, Int.emod_nonneg n (by omega), Int.emod_lt_of_pos n h⟩

/-- All parts lie below 2^30. -/
def Parts (zs : List (Int × Int)) : Prop := ∀ p ∈ zs, (-1073741824 < p.1 ∧ p.1 < 1073741824) ∧ (-1073741824 < p.2 ∧ p.2 < 1073741824)
theorem parts_nil : Parts [] := fun p hp => by cases hp
theorem parts_snoc {zs : List (Int × Int)} (h : Parts zs) {a b : Int} (h1 : -1073741824 < a) (h2 : a < 1073741824) (h3 : -1073741824 < b) (h4 : b < 1073741824) : Parts (zs ++ [(a, b)]) := by
  intro p hp
  rcases List.mem_append.1 hp with hp | hp
  · exact h p hp
  · rw [List.mem_singleton.1 hp]; exact ⟨⟨h1, h2⟩, h3, h4⟩
theorem parts_sum : ∀ {zs : List (Int × Int)}, Parts zs → (-(1073741824 * (zs.length : Int)) ≤ s1 zs ∧ s1 zs ≤ 1073741824 * (zs.length : Int)) ∧ (-(1073741824 * (zs.length : Int)) ≤ s2 zs ∧ s2 zs ≤ 1073741824 * (zs.length : Int))
  | [], _ => by simp [s1, s2]
  | p :: zs, h => by
    obtain ⟨⟨h1, h2⟩, h3, h4⟩ := parts_sum (zs := zs) fun q hq => h q (List.mem_cons_of_mem _ hq)
    obtain ⟨⟨g1, g2⟩, g3, g4⟩ := h p (List.mem_cons_self ..)
    have e1 : s1 (p :: zs) = p.1 + s1 zs := by simp [s1]
    have e2 : s2 (p :: zs) = p.2 + s2 zs := by simp [s2]
    rw [e1, e2, List.length_cons]
    have e3 : ((zs.length + 1 : Nat) : Int) = zs.length + 1 := by omega
    rw [e3]
    omega
theorem parts_small {zs : List (Int × Int)} (h : Parts zs) (hl : zs.length ≤ 40) : Small zs := by
  intro j
  have hp : Parts (zs.take j) := fun p hp => h p (List.mem_of_mem_take hp)
  obtain ⟨⟨h1, h2⟩, h3, h4⟩ := parts_sum hp
  have : (zs.take j).length ≤ 40 := by rw [List.length_take]; omega
  have e : (2 : Nat) ^ 53 = 9007199254740992 := by decide
  rw [e]
  omega
theorem parts_cxs {zs : List (Int × Int)} (h : Parts zs) : Cxs (zs.map cxv) zs := by
  refine cxs_map fun p hp => ?_
  obtain ⟨⟨h1, h2⟩, h3, h4⟩ := h p hp
  have e : (2 : Nat) ^ 53 = 9007199254740992 := by decide
  rw [e]
  omega

theorem Try.infoC : (Try.prog.info? 26).map (fun i => (i.zero, i.size, i.bytes)) = some (some (.complex .f64 0 0), 1, 16) := by kernel_rfl

set_option maxRecDepth 100000 in
set_option maxHeartbeats 2000000 in
theorem meterAll_walk (a0 : Option Addr) (len0 cap0 : Nat) (z0 : List Int) (a1 : Option Addr) (len1 cap1 : Nat) (z1 : List Int) (k : Int) (w : World) (w0 : IsRow .i64 w a0 len0 cap0 z0) (w1 : IsRow .i64 w a1 len1 cap1 z1) (w2 : (Lit.int .i64 k).wf = true) :
    Calls Try.prog 3 #[.slice a0 len0 cap0, .slice a1 len1 cap1, .int .i64 k] w fun e w' => e = .returned (.bool true) ∧ Below w.heap.size w w' := by
  obtain ⟨l, rfl, hl1, hl2, _, hr⟩ := isrow_list w0
  obtain ⟨m, rfl, hm1, hm2, _, hq⟩ := isrow_list w1
  clear w0 w1 w2
  obtain ⟨i0, hi, hz0, hz1, hz2⟩ := info_parts Try.infoC
  go_enter Try.func3, Try.ntmps3
  go_wp2_with fail
  refine (begun_any w).mono ?_
  rintro e w1 ⟨rfl, hb1⟩
  go_wp2_with fail
  go_loopw [8, 9, 10, 11] (fun cs x y i wr => ∃ (j : Nat) (zs : List (Int × Int)) (X Y : Int), j ≤ 40 ∧ j ≤ l.length ∧ zs.length = j ∧ i = .int .i64 j ∧ x = .int .i64 X ∧ y = .int .i64 Y ∧ Hid (X = s1 zs ∧ Y = s2 zs) ∧ Parts zs ∧ OwnV wr w.heap.size 26 cs (zs.map cxv) ∧ Below w.heap.size w wr) (fun _ _ _ i _ => l.length - (intOf i).toNat)
  case atStart => exact ⟨0, [], 0, 0, by omega, by omega, rfl, rfl, rfl, rfl, ⟨rfl, rfl⟩, parts_nil, OwnV.nil _ _ _, hb1⟩
  case round =>
    obtain ⟨j, zs, X, Y, hj40, hjl, hzl, rfl, rfl, rfl, hXY, hP, hown, hbw⟩ := hrel
    have Hzl := Lib.hid hzl; clear hzl
    obtain ⟨⟨x1, x2⟩, y1, y2⟩ := parts_sum hP
    rw [Hzl.out, ← hXY.out.1] at x1 x2
    rw [Hzl.out, ← hXY.out.2] at y1 y2
    by_cases hgo : j < l.length ∧ j < m.length ∧ j < 40
    · obtain ⟨g1, g2, g3⟩ := hgo
      have d1 : decide (j < l.length) = true := decide_eq_true g1
      have d2 : decide (j < m.length) = true := decide_eq_true g2
      have d3 : decide ((j : Int) < 40) = true := decide_eq_true (by omega)
      obtain ⟨bb, off, rfl, _, hcell⟩ := (hr.below hbw).at (i := j) (by simpa using g1)
      obtain ⟨bb', off', rfl, _, hcell'⟩ := (hq.below hbw).at (i := j) (by simpa using g2)
      obtain ⟨n, hn⟩ : ∃ n, n = l.getD j 0 := ⟨_, rfl⟩
      obtain ⟨n', hn'⟩ : ∃ n, n = m.getD j 0 := ⟨_, rfl⟩
      have hc : wr.cell? ⟨bb, off + j, none⟩ = some (.int .i64 n) := by
        rw [hcell, hn]; simp [List.getElem?_eq_getElem g1]
      have hc' : wr.cell? ⟨bb', off' + j, none⟩ = some (.int .i64 n') := by
        rw [hcell', hn']; simp [List.getElem?_eq_getElem g2]
      clear hcell hcell' hn hn'
      have n1 := Int.lt_tmod_of_pos n (show (0:Int) < 1073741824 by decide)
      have n2 := Int.tmod_lt_of_pos n (show (0:Int) < 1073741824 by decide)
      have n3 := Int.lt_tmod_of_pos n' (show (0:Int) < 1073741824 by decide)
      have n4 := Int.tmod_lt_of_pos n' (show (0:Int) < 1073741824 by decide)
      go_wp2_with fail
      go_quiet (exact quiet_left (part_any _ _))
      generalize n.tmod 1073741824 = A at n1 n2 ⊢
      generalize n'.tmod 1073741824 = B at n3 n4 ⊢
      have hA := fl_of_int (n := A) (by omega)
      have hB := fl_of_int (n := B) (by omega)
      have o1 := order_yes hA hA rfl
      have o2 := order_yes hB hB rfl
      have hown' := hown.drewN nq
      have hbw' := below_drewN hbw nq
      clear hc hc' hown hbw
      generalize wr.drewN nq = w2 at hown' hbw' ⊢
      go_wp2_with fail
      refine (of_any A B w2).mono ?_
      rintro e w3 ⟨rfl, rfl⟩
      go_wp2_with fail
      refine (steps_any _ _ A w2 hA (by omega) (by omega)).mono ?_
      rintro e w3 ⟨rfl, rfl⟩
      go_wp2_with fail
      refine (bytes_any _ _ B w2 hB (by omega) (by omega)).mono ?_
      rintro e w3 ⟨rfl, rfl⟩
      have hsn : zs.map cxv ++ [cxv (A, B)] = (zs ++ [(A, B)]).map cxv := by simp
      have hlen : ((zs ++ [(A, B)]).map cxv).length ≤ 41 := by
        rw [List.length_map, List.length_append, Hzl.out]; simp; omega
      have Hsn := Lib.hid hsn; clear hsn
      have one : One1 [cxv (A, B)] := one1_cxv [(A, B)]
      go_wp2_with (first
        | (at_builtin; refine wpList_appV _ rfl (.tmp 75) (.tmp 77) _ rfl w.heap.size 26 i0 _ 16 Try.underlying24 hi hz0 rfl hz1 hz2 _ _ rfl (hown'.alloc _) _ _ [cxv (A, B)] 1 1 rfl rfl (RdV.lit w2 _ one _ rfl _ _) _ Hsn.out (by unfold maxLen; omega) (by omega) (by have := hbw'.size; simp; omega) ?_; intro v4 w4 hown4 hb4 hg4 hat4)
        | fail)
      go_roundw
      case rel =>
        refine ⟨j + 1, zs ++ [(A, B)], X + A, Y + B, by omega, by omega, by simp [Hzl.out], by go_num, rfl, rfl, ⟨?_, ?_⟩, parts_snoc hP n1 n2 n3 n4, hown4, (hbw'.alloc hbw'.size _).trans hb4⟩
        · rw [s1_snoc, s1_one, hXY.out.1]
        · rw [s2_snoc, s2_one, hXY.out.2]
      case measure => simp [intOf]; omega
    · obtain ⟨vs, hvs⟩ : ∃ vs, vs = zs.map cxv := ⟨_, rfl⟩
      have hend : ((decide (j < l.length) = false) ∨ (decide (j < l.length) = true ∧ decide (j < m.length) = false)) ∨ (decide (j < l.length) = true ∧ decide (j < m.length) = true ∧ decide ((j : Int) < 40) = false) := by
        by_cases g1 : j < l.length
        · by_cases g2 : j < m.length
          · exact .inr ⟨decide_eq_true g1, decide_eq_true g2, decide_eq_false (by omega)⟩
          · exact .inl (.inr ⟨decide_eq_true g1, decide_eq_false g2⟩)
        · exact .inl (.inl (decide_eq_false g1))
      rw [← hvs] at hown
      obtain ⟨vA, vc, rfl, hvc, hvm, hrz, _⟩ := hown.form
      have hcx := parts_cxs hP
      rw [← hvs] at hcx
      have hsm := parts_small hP (by rw [Hzl.out]; omega)
      have hll : vs.length ≤ 40 := by rw [hvs, List.length_map, Hzl.out]; omega
      clear hown hgo hr hq hvs
      rcases hend with (d1 | ⟨d1, d2⟩) | ⟨d1, d2, d3⟩
      all_goals
        go_wp2_with fail
        (with_reducible refine (add_any vA vs zs _ vc wr _ (hidr _) (by omega) hrz hcx hsm).mono ?_)
        rintro e w2 ⟨xs, ys, rfl, hxs, hys, rfl⟩
        rw [← hXY.out.1] at hxs
        rw [← hXY.out.2] at hys
        go_wp2_with fail
        refine (steps_any xs ys X wr hxs (by omega) (by omega)).mono ?_
        rintro e w3 ⟨rfl, rfl⟩
        go_wp2_with fail
        refine (bytes_any xs ys Y wr hys (by omega) (by omega)).mono ?_
        rintro e w3 ⟨rfl, rfl⟩
        obtain ⟨⟨ek1, ek2, ek3⟩, ⟨k1, k2⟩, K1, K2⟩ := mod_em k 4 (by decide)
        obtain ⟨K, hK⟩ : ∃ K : Nat, K = (k % 4).toNat := ⟨_, rfl⟩
        have hKi : k % 4 = (K : Int) := by omega
        have hK4 : K ≤ 3 := by omega
        rw [hKi] at ek1 ek2 ek3
        clear hKi K1 K2
        have HK := Lib.hid hK; clear hK
        go_wp2_with fail
        have xb : -42949672960 ≤ X ∧ X ≤ 42949672960 := by omega
        have yb : -42949672960 ≤ Y ∧ Y ≤ 42949672960 := by omega
        clear ek1 ek2 ek3 k1 k2 x1 x2 y1 y2 d1 hXY hP hrz hcx hsm hll
        go_loop [9, 10, 17] (fun x y i => ∃ (j : Nat) (x' y' : Int), j ≤ K ∧ i = .int .i64 j ∧ x = .int .i64 x' ∧ y = .int .i64 y' ∧ Hid ((x', y') = rot j (X, Y)) ∧ (-42949672960 ≤ x' ∧ x' ≤ 42949672960) ∧ -42949672960 ≤ y' ∧ y' ≤ 42949672960) (fun _ _ i => K - (intOf i).toNat)
        case atStart => exact ⟨0, X, Y, Nat.zero_le _, rfl, rfl, rfl, rfl, xb, yb⟩
        case round =>
          obtain ⟨jj, x', y', hj, rfl, rfl, rfl, hrot, xb', yb'⟩ := hrel
          by_cases hlt : jj < K
          · go_wp2_with fail
            go_round
            case rel =>
              refine ⟨jj + 1, -y', x', by omega, by go_num, rfl, rfl, ?_, by omega, by omega⟩
              show (-y', x') = (-(rot jj (X, Y)).2, (rot jj (X, Y)).1)
              rw [← hrot.out]
            case measure => simp [intOf]; omega
          · have hjK : jj = K := by omega
            rw [hjK, HK.out] at hrot
            clear hjK
            go_wp2_with fail
            refine (turn_any xs ys X Y k wr hxs hys).mono ?_
            rintro e w3 ⟨xt, yt, rfl, hxt, hyt, rfl⟩
            rw [← hrot.out] at hxt hyt
            go_wp2_with fail
            refine (steps_any xt yt x' wr hxt (by omega) (by omega)).mono ?_
            rintro e w3 ⟨rfl, rfl⟩
            go_wp2_with fail
            refine (bytes_any xt yt y' wr hyt (by omega) (by omega)).mono ?_
            rintro e w3 ⟨rfl, rfl⟩
            go_wp2_with fail
            go_ret
            exact ⟨rfl, hbw⟩

end Go.Proofs.Ytdnfncbinhbioaa
