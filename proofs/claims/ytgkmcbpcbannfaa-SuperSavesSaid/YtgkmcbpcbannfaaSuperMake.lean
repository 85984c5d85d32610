/- The contract of super's Make. -/
import Derived.Test.YtgkmcbpcbannfaaSuperSave
namespace Go.Proofs.Ytgkmcbpcbannfaa
open Go.RowKit Crc
set_option linter.unusedVariables false
set_option maxHeartbeats 2000000
set_option maxRecDepth 100000

theorem heap_new (w : World) (o : Obj) : (w.alloc o).heap[w.heap.size]? = some o := by
  show (w.heap.push o)[w.heap.size]? = _
  exact Array.getElem?_push_size
def zeros : List Nat := List.replicate 64 0
structure Live (M : DevM) : Prop where
  lit : M.lit = false
  dead : M.dead = false
theorem Live.isDead {M : DevM} (h : Live M) : M.isDead = false := by unfold DevM.isDead; rw [h.lit, h.dead]; rfl
theorem Live.write {M : DevM} (h : Live M) (i : Nat) (s : Sec) (b : List Nat) : Live (M.write i s b) := ⟨h.lit, h.dead⟩
theorem Live.flush {M : DevM} (h : Live M) : Live M.flush := ⟨h.lit, h.dead⟩
def makeTo (M : DevM) (at_ : Nat) (s0 s1 : Sec) : Nat → DevM
  | 0 => M
  | 1 => M.write at_ s0 zeros
  | _ => (M.write at_ s0 zeros).write (at_ + 1) s1 zeros
def makeM (M : DevM) (at_ : Nat) (s0 s1 : Sec) (b : List Nat) : DevM := ((makeTo M at_ s0 s1 2).write at_ (s0.write zeros) (slotBytes 1 b)).flush
structure MadeAt (w w' : World) (p q s : Nat) (at_ slot turn : Int) (b : List Nat) (a : Option Addr) (c : Nat) (M : DevM) : Prop where
  dev : DevAt w' p q M
  sup : SupAt w' s p at_ slot turn b a c
  kept : Kept p q w w'
  new : w.heap.size ≤ s
  far : ∀ x, a = some x → w.heap.size ≤ x.block
theorem makeTo_next {M : DevM} {at_ : Nat} {s0 s1 : Sec} (h0 : M.secs[at_]? = some s0) (h1 : M.secs[at_ + 1]? = some s1) (k : Nat) (hk : k < 2) :
    ∃ sc, (makeTo M at_ s0 s1 k).secs[at_ + k]? = some sc ∧ (makeTo M at_ s0 s1 k).write (at_ + k) sc zeros = makeTo M at_ s0 s1 (k + 1) ∧ (makeTo M at_ s0 s1 k).calls = M.calls + k := by
  match k, hk with
  | 0, _ => exact ⟨s0, h0, rfl, by simp [makeTo]⟩
  | 1, _ => exact ⟨s1, by show (M.secs.set at_ (s0.write zeros))[at_ + 1]? = _; rw [List.getElem?_set_ne (by omega)]; exact h1, rfl, by show M.calls + 1 = _; omega⟩
theorem makeTo_live {M : DevM} {at_ : Nat} {s0 s1 : Sec} (h : Live M) (k : Nat) : Live (makeTo M at_ s0 s1 k) := by
  match k with
  | 0 => exact h
  | 1 => exact h.write _ _ _
  | k + 2 => exact (h.write _ _ _).write _ _ _
theorem makeTo_at {M : DevM} {at_ : Nat} {s0 s1 : Sec} (h0 : M.secs[at_]? = some s0) : (makeTo M at_ s0 s1 2).secs[at_]? = some (s0.write zeros) ∧ (makeTo M at_ s0 s1 2).calls = M.calls + 2 := by
  have hlt : at_ < M.secs.length := (List.getElem?_eq_some_iff.1 h0).1
  refine ⟨?_, by show M.calls + 1 + 1 = _; omega⟩
  show ((M.secs.set at_ (s0.write zeros)).set (at_ + 1) (s1.write zeros))[at_]? = _
  rw [List.getElem?_set_ne (by omega), List.getElem?_set_self hlt]
theorem make_core (p q nb cb at_ : Nat) (M : DevM) (b : List Nat) (ab : Option Addr) (w : World) (B : Nat) (hd : DevAt w p q M) (hrd : Rd w B ab b) (hB : B ≤ w.heap.size) (hbx : ∀ x, ab = some x → b = [] ∨ (x.block ≠ p ∧ x.block ≠ q)) (hb : nb = b.length) (hb40 : nb ≤ 40) (s0 s1 : Sec) (h0 : M.secs[at_]? = some s0) (h1 : M.secs[at_ + 1]? = some s1) (hroom : M.calls + 4 ≤ 1000000000) (hl : Live M) :
    Calls Try.prog 24 #[.pointer (some ⟨p, 0, none⟩), .int .i64 at_, .slice ab nb cb] w fun e w' => ∃ s a c, e = .returned (.tuple #[.pointer (some ⟨s, 0, none⟩), .int .i64 0]) ∧ MadeAt w w' p q s at_ 0 1 b a c (makeM M at_ s0 s1 b) := by
  subst hb
  have hlen : at_ + 1 < M.secs.length := (List.getElem?_eq_some_iff.1 h1).1
  have hmost := hd.ok.most
  have d : decide (40 < (b.length : Int)) = false := decide_eq_false (by omega)
  have hmk : ∀ w, (Instr.makeSlice 22 (.int .i64 64) (.int .i64 64)).run Try.prog w = .ok (.slice (some ⟨w.heap.size, 0, none⟩) 64 64) (w.alloc (.cells (vals zeros).toArray 5)) := fun w => make_bytes 64 (by omega) w
  have ht := Lib.hid (there_any (at_ : Int) w hd true (decide_eq_true ⟨by omega, by omega⟩).symm)
  have HN := Lib.hid (fun k hk => makeTo_next (M := M) (s0 := s0) (s1 := s1) h0 h1 k hk)
  have HA := Lib.hid (makeTo_at (s1 := s1) h0)
  have HL := Lib.hid (fun k => makeTo_live (at_ := at_) (s0 := s0) (s1 := s1) hl k)
  have HD := Lib.hid hd
  have HRD := Lib.hid hrd
  have ltp := hd.ltp
  have ltq := hd.ltq
  clear hd hrd h0 h1 hl
  go_enter Try.func24, Try.ntmps24
  go_wp2_with fail
  refine ht.out.mono ?_
  rintro e w0 ⟨rfl, rfl⟩
  clear ht
  go_wp2_with fail
  go_loopw [21] (fun i wr => ∃ k : Nat, k ≤ 2 ∧ i = .int .i64 k ∧ DevAt wr p q (makeTo M at_ s0 s1 k) ∧ Kept p q w wr) (fun i _ => 2 - (intOf i).toNat)
  case atStart => exact ⟨0, by omega, rfl, HD.out, Kept.refl _ _ _⟩
  case round =>
    obtain ⟨k, hk, rfl, hdr, hkr⟩ := hrel
    have HDR := Lib.hid hdr
    have HKR := Lib.hid hkr
    clear hdr hkr
    by_cases hlt : k < 2
    · obtain ⟨sc, hsc, hnx, hcl⟩ := HN.out k hlt
      have HSC := Lib.hid hsc
      have HNX := Lib.hid hnx
      have hdk := (HL.out k).isDead
      clear hsc hnx
      go_wp2_with fail
      refine (write_any _ (at_ + k) sc zeros _ 64 64 (wr.heap.size + 1) _ (HDR.out.alloc _) (by omega) HSC.out ⟨by omega, hdk⟩ (Lib.hid rfl) (Rd.lit wr zeros (zero_bytes 64) _ rfl 5 (0, 0)) (by simp) (fun x hx => by cases hx; have := HDR.out.ltp; have := HDR.out.ltq; exact ⟨by simp; omega, by simp; omega⟩) (by omega)).mono ?_
      rintro e w3 ⟨rfl, hd3, hk3⟩
      rw [HNX.out] at hd3
      have HD3 := Lib.hid hd3
      have HK3 := Lib.hid ((HKR.out.alloc _).trans hk3)
      clear hd3 hk3
      go_wp2_with fail
      go_roundw
      case rel => exact ⟨k + 1, by omega, by go_num, HD3.out, HK3.out⟩
      case measure => simp [intOf]; omega
    · have : k = 2 := by omega
      subst this
      obtain ⟨hsc, hcl⟩ := HA.out
      have hlv := (HL.out 2)
      obtain ⟨M2, hM2⟩ : ∃ M2, makeTo M at_ s0 s1 2 = M2 := ⟨_, rfl⟩
      rw [hM2] at HDR hsc hcl hlv
      have HSC := Lib.hid hsc
      have HLV := Lib.hid hlv
      have HM2 := Lib.hid hM2
      have hszr := HKR.out.size
      clear hsc hlv hM2
      go_wp2_with fail
      have hsw : SupAt (wr.alloc (.cells #[.pointer (some ⟨p, 0, none⟩), .int .i64 at_, .int .i64 0, .int .i64 0, .slice none 0 0] 63 (0, 0))) wr.heap.size p at_ 0 0 [] none 0 :=
        ⟨heap_new wr _, Rd.nil _ _ _, Nat.zero_le _, (fun x hx => by cases hx), fun x hx => by cases hx⟩
      refine write_core wr.heap.size p q 0 b.length cb at_ 0 0 0 M2 [] b none ab 1 _ B (HDR.out.alloc _) hsw ⟨?_, ?_, fun x hx => by cases hx⟩ ((HRD.out.kept_or HKR.out hB hbx).alloc (by omega) _) (by simp; omega) hbx rfl hb40 (by omega) at_ (s0.write zeros) (by omega) HSC.out (by omega) (by unfold wrap64; omega) (HDR.out.alloc _) _ ?_ ?_ ?_
      · have := HDR.out.ltp; omega
      · have := HDR.out.ltq; omega
      · intro hx; rw [HLV.out.isDead] at hx; cases hx
      · intro hx hy; rw [(HLV.out.write _ _ _).isDead] at hy; cases hy
      · intro _ _ w4 a4 c4 hw4
        have HW4 := Lib.hid hw4
        clear hw4 hsw
        go_wp2_with fail
        go_ret2
        refine ⟨_, a4, c4, rfl, ?_, HW4.out.sup, ?_, by omega, fun x hx => ?_⟩
        · have := HW4.out.dev
          rw [← HM2.out] at this
          exact this
        · have hk := HW4.out.kept
          have hal := HKR.out.alloc (.cells #[.pointer (some ⟨p, 0, none⟩), .int .i64 at_, .int .i64 0, .int .i64 0, .slice none 0 0] 63 (0, 0))
          exact ⟨hk.os.trans hal.os, hk.tape.trans hal.tape, hk.output.trans hal.output, Nat.le_trans hal.size hk.size, fun i hi h1 h2 => (hk.block i (by have := hal.size; omega) h1 h2 (by omega)).trans (hal.block i hi h1 h2)⟩
        · have := HW4.out.new x hx
          simp at this
          omega
theorem make_long (v : Value) (i : Int) (a : Option Addr) (n c : Nat) (w : World) (h : 40 < n) :
    Calls Try.prog 24 #[v, .int .i64 i, .slice a n c] w fun e w' => e = .returned (.tuple #[.pointer none, .int .i64 1]) ∧ w = w' := by
  have d : decide (40 < (n : Int)) = true := decide_eq_true (by omega)
  go_enter Try.func24, Try.ntmps24
  go_wp2_with fail
  go_ret2
  exact ⟨rfl, rfl⟩
theorem make_no {p q : Nat} {M : DevM} (i : Int) (a : Option Addr) (n c : Nat) (w : World) (hd : DevAt w p q M) (h : n ≤ 40) (hi : ¬ (0 ≤ i ∧ i < (M.secs.length : Int) - 1)) :
    Calls Try.prog 24 #[.pointer (some ⟨p, 0, none⟩), .int .i64 i, .slice a n c] w fun e w' => e = .returned (.tuple #[.pointer none, .int .i64 3]) ∧ w = w' := by
  have d : decide (40 < (n : Int)) = false := decide_eq_false (by omega)
  have ht := Lib.hid (there_any i w hd false (decide_eq_false hi).symm)
  clear hd hi
  go_enter Try.func24, Try.ntmps24
  go_wp2_with fail
  refine ht.out.mono ?_
  rintro e w0 ⟨rfl, rfl⟩
  go_wp2_with fail
  go_ret2
  exact ⟨rfl, rfl⟩
end Go.Proofs.Ytgkmcbpcbannfaa
