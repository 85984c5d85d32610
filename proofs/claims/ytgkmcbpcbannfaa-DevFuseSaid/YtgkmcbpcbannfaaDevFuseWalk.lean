/- The walk of DevFuse: it returns true and writes nothing that was there. Printed by gen_devlaws.py. -/
import Derived.Test.YtgkmcbpcbannfaaDevBegun
namespace Go.Proofs.Ytgkmcbpcbannfaa
open Go.RowKit Crc
set_option linter.unusedVariables false
set_option maxHeartbeats 4000000
set_option maxRecDepth 100000

/-- What the device is like behind k calls of the law, of a fuse F. -/
structure FuseAt (M : DevM) (k F : Nat) : Prop where
  len : M.secs.length = 4
  calls : M.calls = (min k F : Nat)
  lit : M.lit = true
  fuse : M.fuse = (F : Int) - (min k F : Nat)
  dead : M.dead = decide (F = 0)
theorem FuseAt.isDead {M : DevM} {k F : Nat} (h : FuseAt M k F) : M.isDead = decide (F ≤ k) := by
  unfold DevM.isDead
  rw [h.lit, h.fuse, h.dead, Bool.true_and, Bool.eq_iff_iff]
  simp
  omega
theorem fuseAt_new (F : Nat) : FuseAt ((freshM 4).fused F) 0 F := by
  refine ⟨rfl, by show (0 : Int) = _; simp, ?_, ?_, ?_⟩
  · show decide (0 ≤ (F : Int)) = true; exact decide_eq_true (by omega)
  · show (if 0 ≤ (F : Int) then (F : Int) else 0) = _; rw [if_pos (by omega)]; simp
  · show ((freshM 4).isDead || ((F : Int) == 0)) = decide (F = 0)
    have e : (freshM 4).isDead = false := rfl
    rw [e, Bool.false_or, Bool.eq_iff_iff]
    simp
theorem FuseAt.burn {M M' : DevM} {k F : Nat} (h : FuseAt M k F) (hk : k < F) (h1 : M'.secs.length = 4) (h2 : M'.calls = M.calls + 1) (h3 : M'.lit = M.lit) (h4 : M'.fuse = M.fuse - 1) (h5 : M'.dead = M.dead) : FuseAt M' (k + 1) F :=
  ⟨h1, by rw [h2, h.calls]; omega, by rw [h3, h.lit], by rw [h4, h.fuse]; omega, by rw [h5, h.dead]⟩
theorem FuseAt.stay {M : DevM} {k F : Nat} (h : FuseAt M k F) (hk : F ≤ k) : FuseAt M (k + 1) F :=
  ⟨h.len, by rw [h.calls]; omega, h.lit, by rw [h.fuse]; omega, h.dead⟩
theorem FuseAt.write {M : DevM} {k F i : Nat} {s : Sec} {b : List Nat} (h : FuseAt M k F) (hk : k < F) : FuseAt (M.write i s b) (k + 1) F :=
  h.burn hk (by show (M.secs.set i _).length = 4; rw [List.length_set, h.len]) rfl rfl (by show (if M.lit then M.fuse - 1 else M.fuse) = _; rw [h.lit]; rfl) rfl
theorem FuseAt.flush {M : DevM} {k F : Nat} (h : FuseAt M k F) (hk : k < F) : FuseAt M.flush (k + 1) F :=
  h.burn hk (by show (flushK M.secs.length M.burn).secs.length = 4; rw [flushK_len]; exact h.len) rfl rfl (by show (if M.lit then M.fuse - 1 else M.fuse) = _; rw [h.lit]; rfl) rfl
theorem FuseAt.room {M : DevM} {k F : Nat} (h : FuseAt M k F) (hk : k < F) (hF : F ≤ 40) : M.Room := ⟨by rw [h.calls]; omega, by rw [h.isDead]; exact decide_eq_false (by omega)⟩
theorem fuse_main (N F : Nat) (hN : N ≤ 30) (hF : F ≤ 40) (w : World) : Calls Try.prog 6 #[.int .i64 N, .int .i64 F] w fun e w' => e = .returned (.bool true) ∧ Below w.heap.size w w' := by
  go_enter Try.func6, Try.ntmps6
  go_wp2_with fail
  refine (begun17 w).mono ?_
  rintro e w0 ⟨rfl, hb0⟩
  go_wp2_with fail
  refine (new_any 4 4 _ (by omega) (.inr (.inl rfl))).mono ?_
  rintro e w1 ⟨p, q, rfl, hd1, hp, hq, hb1⟩
  replace hp : w.heap.size ≤ p := by have := hb0.size; omega
  replace hq : w.heap.size ≤ q := by have := hb0.size; omega
  replace hb0 := hb0.trans (hb1.mono hb0.size)
  clear hb1
  have HD := Lib.hid hd1
  clear hd1
  go_wp2_with fail
  refine (fuse_any F _ HD.out (by omega)).mono ?_
  rintro e w2 ⟨rfl, hd2, hk2⟩
  have hA0 := fuseAt_new F
  obtain ⟨M0, hM0⟩ : ∃ M0, (freshM 4).fused F = M0 := ⟨_, rfl⟩
  rw [hM0] at hd2 hA0
  replace hb0 := below_kept hb0 hk2 hp hq hb0.size
  have HD0 := Lib.hid hd2
  have HA0 := Lib.hid hA0
  clear HD hd2 hk2 hA0 hM0
  go_wp2_with fail
  go_loopw [7] (fun i wr => ∃ (k : Nat) (M : DevM), k ≤ N ∧ i = .int .i64 k ∧ DevAt wr p q M ∧ FuseAt M k F ∧ Below w.heap.size w wr) (fun i _ => N - (intOf i).toNat)
  case atStart => exact ⟨0, M0, Nat.zero_le _, rfl, HD0.out, HA0.out, hb0⟩
  case round =>
    obtain ⟨k, M, hk, rfl, hd, hA, hb⟩ := hrel
    have HD := Lib.hid hd
    have HA := Lib.hid hA
    have hbase := hb.size
    have ltp := hd.ltp
    have ltq := hd.ltq
    clear hd hA
    by_cases hlt : k < N
    · by_cases hf : k < F
      · have hroom := Lib.hid (HA.out.room hf hF)
        by_cases h3 : k % 3 = 2
        · have e3 : ((k : Int).tmod 3 == 2) = true := by rw [Int.tmod_eq_emod_of_nonneg (by omega)]; exact beq_iff_eq.2 (by omega)
          have e3' : ((k : Int) % 3 == 2) = true := beq_iff_eq.2 (by omega)
          go_wp2_with fail
          refine (flush_any _ HD.out hroom.out).mono ?_
          rintro e w3 ⟨rfl, hd3, hk3⟩
          have HD3 := Lib.hid hd3
          have HA3 := Lib.hid (HA.out.flush hf)
          have hb3 := below_kept hb hk3 hp hq hb.size
          clear hd3 hk3
          go_wp2_with fail
          go_roundw
          case rel => exact ⟨k + 1, _, by omega, by go_num, HD3.out, HA3.out, hb3⟩
          case measure => simp [intOf]; omega
        · have e3 : ((k : Int).tmod 3 == 2) = false := by rw [Int.tmod_eq_emod_of_nonneg (by omega)]; exact beq_eq_false_iff_ne.2 (by omega)
          have e3' : ((k : Int) % 3 == 2) = false := beq_eq_false_iff_ne.2 (by omega)
          obtain ⟨s, hs⟩ : ∃ s, M.secs[k % 4]? = some s := ⟨_, List.getElem?_eq_getElem (by rw [HA.out.len]; omega)⟩
          have HS := Lib.hid hs
          clear hs
          go_wp2_with fail
          refine (write_any _ (k % 4) s [k + 1] _ 1 1 (wr.heap.size + 1) _ (HD.out.alloc _) (by first | omega | (rw [Int.tmod_eq_emod_of_nonneg (by omega)]; omega)) HS.out hroom.out (Lib.hid rfl) (Rd.lit wr [k + 1] (fun b hb => by simp at hb; omega) #[.int .u8 ((k : Int) + 1)] rfl 5 (0, 0)) (by simp) (fun x hx => by cases hx; exact ⟨by simp; omega, by simp; omega⟩) (by omega)).mono ?_
          rintro e w3 ⟨rfl, hd3, hk3⟩
          have HD3 := Lib.hid hd3
          have HA3 := Lib.hid (HA.out.write (i := k % 4) (s := s) (b := [k + 1]) hf)
          have hb3 := below_kept (hb.alloc hb.size _) hk3 hp hq (hb.alloc hb.size _).size
          clear hd3 hk3
          go_wp2_with fail
          go_roundw
          case rel => exact ⟨k + 1, _, by omega, by go_num, HD3.out, HA3.out, hb3⟩
          case measure => simp [intOf]; omega
      · have hdead : M.isDead = true := by rw [HA.out.isDead]; exact decide_eq_true (by omega)
        have HDE := Lib.hid hdead
        have HA3 := Lib.hid (HA.out.stay (by omega))
        clear hdead
        by_cases h3 : k % 3 = 2
        · have e3 : ((k : Int).tmod 3 == 2) = true := by rw [Int.tmod_eq_emod_of_nonneg (by omega)]; exact beq_iff_eq.2 (by omega)
          have e3' : ((k : Int) % 3 == 2) = true := beq_iff_eq.2 (by omega)
          go_wp2_with fail
          refine (flush_dead _ HD.out HDE.out).mono ?_
          rintro e w3 ⟨rfl, rfl⟩
          go_wp2_with fail
          go_roundw
          case rel => exact ⟨k + 1, _, by omega, by go_num, HD.out, HA3.out, hb⟩
          case measure => simp [intOf]; omega
        · have e3 : ((k : Int).tmod 3 == 2) = false := by rw [Int.tmod_eq_emod_of_nonneg (by omega)]; exact beq_eq_false_iff_ne.2 (by omega)
          have e3' : ((k : Int) % 3 == 2) = false := beq_eq_false_iff_ne.2 (by omega)
          go_wp2_with fail
          refine (write_dead _ _ _ (HD.out.alloc _) HDE.out).mono ?_
          rintro e w3 ⟨rfl, rfl⟩
          go_wp2_with fail
          go_roundw
          case rel => exact ⟨k + 1, _, by omega, by go_num, HD.out.alloc _, HA3.out, hb.alloc hb.size _⟩
          case measure => simp [intOf]; omega
    · have : k = N := by omega
      subst this
      have hc := HA.out.calls
      have hdd := HA.out.isDead
      have HC := Lib.hid hc
      have HDD := Lib.hid hdd
      clear hc hdd
      go_wp2_with fail
      refine (calls_any _ HD.out).mono ?_
      rintro e w3 ⟨rfl, rfl⟩
      rw [HC.out]
      have em : ((min k F : Nat) : Int) = min (k : Int) (F : Int) := by omega
      rw [em]
      by_cases hf : F ≤ k
      · have ht : Hid (M.isDead = true) := by show M.isDead = true; rw [HDD.out]; exact decide_eq_true hf
        go_wp2_with fail
        all_goals (refine (dead_T _ HD.out true ht).mono ?_; rintro e w3 ⟨rfl, rfl⟩; go_wp2_with fail; go_ret; exact ⟨rfl, hb⟩)
      · have ht : Hid (M.isDead = false) := by show M.isDead = false; rw [HDD.out]; exact decide_eq_false hf
        go_wp2_with fail
        all_goals (refine (dead_T _ HD.out false ht).mono ?_; rintro e w3 ⟨rfl, rfl⟩; go_wp2_with fail; go_ret; exact ⟨rfl, hb⟩)
theorem devFuse_walk (n f : Int) (w0 : (Lit.int .i64 n).wf = true) (w1 : (Lit.int .i64 f).wf = true) (w : World) : Calls Try.prog 6 #[.int .i64 n, .int .i64 f] w fun e w' => e = .returned (.bool true) ∧ Below w.heap.size w w' := by
  clear w0 w1
  by_cases h0 : n < 0
  · have d0 : decide (n < 0) = true := decide_eq_true h0
    clear h0
    go_enter Try.func6, Try.ntmps6
    go_wp2_with fail
    refine (begun17 w).mono ?_
    rintro e w0 ⟨rfl, hb0⟩
    go_wp2_with fail
    go_ret
    exact ⟨rfl, hb0⟩
  · have d0 : decide (n < 0) = false := decide_eq_false h0
    by_cases h1 : 30 < n
    · have d1 : decide (30 < n) = true := decide_eq_true h1
      clear h0 h1
      go_enter Try.func6, Try.ntmps6
      go_wp2_with fail
      refine (begun17 w).mono ?_
      rintro e w0 ⟨rfl, hb0⟩
      go_wp2_with fail
      go_ret
      exact ⟨rfl, hb0⟩
    · have d1 : decide (30 < n) = false := decide_eq_false h1
      by_cases h2 : f < 0
      · have d2 : decide (f < 0) = true := decide_eq_true h2
        clear h0 h1 h2
        go_enter Try.func6, Try.ntmps6
        go_wp2_with fail
        refine (begun17 w).mono ?_
        rintro e w0 ⟨rfl, hb0⟩
        go_wp2_with fail
        go_ret
        exact ⟨rfl, hb0⟩
      · have d2 : decide (f < 0) = false := decide_eq_false h2
        by_cases h3 : 40 < f
        · have d3 : decide (40 < f) = true := decide_eq_true h3
          clear h0 h1 h2 h3
          go_enter Try.func6, Try.ntmps6
          go_wp2_with fail
          refine (begun17 w).mono ?_
          rintro e w0 ⟨rfl, hb0⟩
          go_wp2_with fail
          go_ret
          exact ⟨rfl, hb0⟩
        · have d3 : decide (40 < f) = false := decide_eq_false h3
          clear d0 d1 d2 d3
          obtain ⟨N, rfl⟩ := Int.eq_ofNat_of_zero_le (show 0 ≤ n by omega)
          obtain ⟨F, rfl⟩ := Int.eq_ofNat_of_zero_le (show 0 ≤ f by omega)
          exact fuse_main N F (by omega) (by omega) w
end Go.Proofs.Ytgkmcbpcbannfaa
