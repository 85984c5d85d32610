/- The contracts of the device's small functions: New, Len, at, burns, Dead, Calls, Fuse; Clone. -/
import Derived.Test.YtgkmcbpcbannfaaDevWords
import Derived.Test.YtgkmcbpcbannfaaChecked
import Derived.Laws.MakeOwn
namespace Go.Proofs.Ytgkmcbpcbannfaa
open Go.RowKit Crc
set_option linter.unusedVariables false
set_option maxHeartbeats 1000000

def zsec : Sec := ⟨List.replicate 64 0, List.replicate 64 0, false⟩
theorem zsec_ok : zsec.Ok := ⟨by simp [zsec], by simp [zsec], fun b hb => by rw [(List.mem_replicate.1 hb).2]; decide, fun b hb => by rw [(List.mem_replicate.1 hb).2]; decide⟩
theorem Try.infoSec : (Try.prog.info? 59).map (fun i => (i.zero, i.size, i.bytes)) = some (some (.agg zsec.cells.toArray), 129, 129) := by kernel_rfl
theorem made_rows (z : List Value) (s : Nat) (hs : z.length = s) (h0 : 0 < s) : ∀ c, (madeCells z.toArray (c * s)).toList = (List.replicate c z).flatten
  | 0 => by simp [madeCells]
  | c + 1 => by
    have ih := made_rows z s hs h0 c
    rw [List.replicate_succ', List.flatten_append, ← ih]
    simp only [madeCells, Array.toList_map, Array.toList_range, List.flatten_cons, List.flatten_nil, List.append_nil]
    rw [Nat.add_mul, Nat.one_mul, List.range_add, List.map_append, List.map_map]
    congr 1
    apply List.ext_getElem
    · simp [hs]
    · intro i h1 h2
      simp only [List.getElem_map, List.getElem_range, Function.comp]
      have hi : i < s := by simpa using h1
      have : (c * s + i) % s = i := by rw [Nat.add_comm, Nat.add_mul_mod_self_right, Nat.mod_eq_of_lt hi]
      simp only [List.size_toArray, hs, this]
      rw [List.getElem!_toArray, getElem!_pos z i h2]
def freshM (n : Nat) : DevM := ⟨List.replicate n zsec, 0, false, 0, false⟩
theorem fresh_ok (n : Nat) (h : 1 ≤ n ∧ n ≤ 2048) : (freshM n).Ok :=
  ⟨fun s hs => by rw [(List.mem_replicate.1 hs).2]; exact zsec_ok, by simp [freshM]; omega, by simp [freshM]; omega, by simp [freshM], by simp [freshM]⟩
theorem fresh_flat (n : Nat) : madeCells zsec.cells.toArray (n * 129) = (flat (freshM n).secs).toArray := by
  apply Array.ext'
  rw [made_rows zsec.cells 129 (Sec.cells_length zsec_ok) (by decide)]
  simp [flat, freshM]
/-- The sector row of a new device. -/
def secRow (n : Nat) : Array Value := madeCells zsec.cells.toArray (n * 129)
theorem make_run (n : Nat) (h : 1 ≤ n ∧ n ≤ 2048) (w : World) : (Instr.makeSlice 53 (.int .i64 (n : Int)) (.int .i64 (n : Int))).run Try.prog w = .ok (.slice (some ⟨w.heap.size, 0, none⟩) n n) (w.alloc (.cells (secRow n) 59)) := by
  obtain ⟨i0, hi, hz0, hz1, hz2⟩ := info_parts Try.infoSec
  have hr := run_makeSlice (P := Try.prog) w 53 59 i0 _ Try.underlying53 hi hz0 .i64 .i64 n n (by omega) (by omega) (by rw [hz1]; omega) (by rw [hz2]; omega) (by omega)
  rw [hz1] at hr
  exact hr
theorem new_at (w : World) (n : Nat) (h : 1 ≤ n ∧ n ≤ 2048) : DevAt ((w.alloc (.cells (secRow n) 59)).alloc (.cells #[.slice (some ⟨w.heap.size, 0, none⟩) n n, .int .i64 0, .bool false, .int .i64 0, .bool false] 55)) (w.heap.size + 1) w.heap.size (freshM n) := by
  refine ⟨fresh_ok n h, by omega, ?_, ?_⟩
  · have := heap_alloc2_new w (.cells (secRow n) 59) (.cells #[.slice (some ⟨w.heap.size, 0, none⟩) n n, .int .i64 0, .bool false, .int .i64 0, .bool false] 55)
    rw [this]
    simp [DevM.head, freshM]
  · have := heap_alloc2_old w (.cells (secRow n) 59) (.cells #[.slice (some ⟨w.heap.size, 0, none⟩) n n, .int .i64 0, .bool false, .int .i64 0, .bool false] 55)
    rw [this, secRow, fresh_flat]
theorem new_any (a : Int) (n : Nat) (w : World) (h : 1 ≤ n ∧ n ≤ 2048) (hn : (a < 1 ∧ n = 1) ∨ a = n ∨ (2048 < a ∧ n = 2048)) : Calls Try.prog 14 #[.int .i64 a] w fun e w' => ∃ p q, e = .returned (.pointer (some ⟨p, 0, none⟩)) ∧ DevAt w' p q (freshM n) ∧ w.heap.size ≤ p ∧ w.heap.size ≤ q ∧ Below w.heap.size w w' := by
  have hat := new_at w n h
  have hb : Below w.heap.size w ((w.alloc (.cells (secRow n) 59)).alloc (.cells #[.slice (some ⟨w.heap.size, 0, none⟩) n n, .int .i64 0, .bool false, .int .i64 0, .bool false] 55)) := ((Below.refl _ _).alloc (Nat.le_refl _) _).alloc (by simp) _
  have hfin := (⟨_, _, rfl, hat, by omega, Nat.le_refl _, hb⟩ : ∃ p q, Ending.returned (.pointer (some ⟨w.heap.size + 1, 0, none⟩)) = Ending.returned (.pointer (some ⟨p, 0, none⟩)) ∧ DevAt _ p q (freshM n) ∧ w.heap.size ≤ p ∧ w.heap.size ≤ q ∧ Below w.heap.size w _)
  have Hfin := Lib.hid hfin
  have hmk := make_run n h
  clear hfin hat hb
  rcases hn with ⟨h1, rfl⟩ | rfl | ⟨h1, rfl⟩
  · have hmk' : ∀ w, (Instr.makeSlice 53 (.int .i64 1) (.int .i64 1)).run Try.prog w = .ok (.slice (some ⟨w.heap.size, 0, none⟩) 1 1) (w.alloc (.cells (secRow 1) 59)) := make_run 1 h
    clear hmk h
    go_enter Try.func14, Try.ntmps14
    go_wp2_with fail
    go_ret
    exact Hfin.out
  · go_enter Try.func14, Try.ntmps14
    go_wp2_with fail
    go_ret
    exact Hfin.out
  · have hmk' : ∀ w, (Instr.makeSlice 53 (.int .i64 2048) (.int .i64 2048)).run Try.prog w = .ok (.slice (some ⟨w.heap.size, 0, none⟩) 2048 2048) (w.alloc (.cells (secRow 2048) 59)) := make_run 2048 h
    clear hmk h
    go_enter Try.func14, Try.ntmps14
    go_wp2_with fail
    go_ret
    exact Hfin.out

def DevM.isDead (M : DevM) : Bool := M.dead || (M.lit && M.fuse == 0)
theorem dead_nil (w : World) : Calls Try.prog 23 #[.pointer none] w fun e w' => e = .returned (.bool true) ∧ w = w' := by
  go_enter Try.func23, Try.ntmps23
  go_wp2_with fail
  go_ret
  exact ⟨rfl, rfl⟩
theorem dead_any {p q : Nat} {M : DevM} (w : World) (h : DevAt w p q M) : Calls Try.prog 23 #[.pointer (some ⟨p, 0, none⟩)] w fun e w' => e = .returned (.bool M.isDead) ∧ w = w' := by
  have c2 := h.c2
  have c3 := h.c3
  have c4 := h.c4
  unfold DevM.isDead
  clear h
  obtain ⟨secs, calls, lit, fuse, dead⟩ := M
  dsimp only at *
  cases dead
  · cases lit
    · go_enter Try.func23, Try.ntmps23
      go_wp2_with fail
      go_ret
      exact ⟨rfl, rfl⟩
    · go_enter Try.func23, Try.ntmps23
      go_wp2_with fail
      go_ret
      exact ⟨rfl, rfl⟩
  · go_enter Try.func23, Try.ntmps23
    go_wp2_with fail
    go_ret
    exact ⟨rfl, rfl⟩
theorem dead_T {p q : Nat} {M : DevM} (w : World) (h : DevAt w p q M) (b : Bool) (hb : Hid (M.isDead = b)) : Calls Try.prog 23 #[.pointer (some ⟨p, 0, none⟩)] w fun e w' => e = .returned (.bool b) ∧ w = w' :=
  (dead_any w h).mono fun _ _ hh => ⟨by rw [hh.1, hb.out], hh.2⟩

def DevM.burn (M : DevM) : DevM := { M with calls := M.calls + 1, fuse := if M.lit then M.fuse - 1 else M.fuse }
/-- Room for a call more. -/
def DevM.Room (M : DevM) : Prop := M.calls < 1000000000 ∧ M.isDead = false
theorem head_calls (M : DevM) (q : Nat) (x : Int) : (M.head q).setIfInBounds 1 (.int .i64 x) = ({ M with calls := x } : DevM).head q := rfl
theorem head_lit (M : DevM) (q : Nat) (x : Bool) : (M.head q).setIfInBounds 2 (.bool x) = ({ M with lit := x } : DevM).head q := rfl
theorem head_fuse (M : DevM) (q : Nat) (x : Int) : (M.head q).setIfInBounds 3 (.int .i64 x) = ({ M with fuse := x } : DevM).head q := rfl
theorem head_dead (M : DevM) (q : Nat) (x : Bool) : (M.head q).setIfInBounds 4 (.bool x) = ({ M with dead := x } : DevM).head q := rfl
theorem DevAt.set_ {w : World} {p q : Nat} {M M' : DevM} (h : DevAt w p q M) (i : Nat) (v : Value) (hv : (M.head q).setIfInBounds i v = M'.head q) (hok : M'.Ok) (hs : M'.secs = M.secs) : DevAt (w.setCell ⟨p, i, none⟩ v) p q M' :=
  ⟨hok, h.ne, by rw [← hv]; exact heap_setCell_same w p i _ _ v h.top, by rw [hs]; exact (heap_setCell_other w ⟨p, i, none⟩ q v h.ne.symm).trans h.row⟩

theorem burns_any {p q : Nat} {M : DevM} (w : World) (h : DevAt w p q M) (hr : M.Room) : Calls Try.prog 31 #[.pointer (some ⟨p, 0, none⟩)] w fun e w' => e = .returned (.tuple #[]) ∧ DevAt w' p q M.burn ∧ Kept p q w w' := by
  have c1 := h.c1
  have c2 := h.c2
  have c3 := h.c3
  have f1 := h.free 1
  have f3 := h.free 3
  have hok := h.ok
  have ha := hok.calls0
  have hf := hok.fuse0
  have H := Lib.hid h
  obtain ⟨r1, r2⟩ := hr
  clear h
  cases hl : M.lit
  · have e : M.burn = { M with calls := M.calls + 1 } := by unfold DevM.burn; rw [hl]; rfl
    have hfin : DevAt (w.setCell ⟨p, 1, none⟩ (.int .i64 (M.calls + 1))) p q M.burn := by
      rw [e]
      exact H.out.set_ 1 _ (head_calls M q _) ⟨hok.1, hok.2, hok.3, hok.4, by show 0 ≤ M.calls + 1 ∧ M.calls + 1 ≤ 1000000000; omega⟩ rfl
    have Hfin := Lib.hid hfin
    rw [hl] at c2
    clear hfin e hl H hok hf r2
    generalize M.calls = calls at *
    generalize M.fuse = fuse at *
    go_enter Try.func31, Try.ntmps31
    go_wp2_with fail
    go_end0
    exact ⟨rfl, Hfin.out, (Kept.refl p q w).setp _ _⟩
  · have hf1 : 1 ≤ M.fuse := by
      unfold DevM.isDead at r2
      rw [hl] at r2
      simp at r2
      omega
    have e : M.burn = { ({ M with fuse := M.fuse - 1 } : DevM) with calls := M.calls + 1 } := by unfold DevM.burn; rw [hl]; rfl
    have hfin : DevAt ((w.setCell ⟨p, 3, none⟩ (.int .i64 (M.fuse - 1))).setCell ⟨p, 1, none⟩ (.int .i64 (M.calls + 1))) p q M.burn := by
      rw [e]
      have h1 := H.out.set_ 3 _ (head_fuse M q (M.fuse - 1)) ⟨hok.1, hok.2, hok.3, by show 0 ≤ M.fuse - 1 ∧ M.fuse - 1 ≤ 9223372036854775807; omega, hok.5⟩ rfl
      exact h1.set_ 1 _ (head_calls _ q _) ⟨hok.1, hok.2, hok.3, by show 0 ≤ M.fuse - 1 ∧ M.fuse - 1 ≤ 9223372036854775807; omega, by show 0 ≤ M.calls + 1 ∧ M.calls + 1 ≤ 1000000000; omega⟩ rfl
    have Hfin := Lib.hid hfin
    rw [hl] at c2
    clear hfin e hl H hok r2
    generalize M.calls = calls at *
    generalize M.fuse = fuse at *
    go_enter Try.func31, Try.ntmps31
    go_wp2_with fail
    go_end0
    exact ⟨rfl, Hfin.out, ((Kept.refl p q w).setp _ _).setp _ _⟩

theorem len_nil (w : World) : Calls Try.prog 20 #[.pointer none] w fun e w' => e = .returned (.int .i64 0) ∧ w = w' := by
  go_enter Try.func20, Try.ntmps20
  go_wp2_with fail
  go_ret
  exact ⟨rfl, rfl⟩
theorem len_any {p q : Nat} {M : DevM} (w : World) (h : DevAt w p q M) : Calls Try.prog 20 #[.pointer (some ⟨p, 0, none⟩)] w fun e w' => e = .returned (.int .i64 M.secs.length) ∧ w = w' := by
  have c0 := h.c0
  clear h
  go_enter Try.func20, Try.ntmps20
  go_wp2_with fail
  go_ret
  exact ⟨rfl, rfl⟩
theorem calls_nil (w : World) : Calls Try.prog 22 #[.pointer none] w fun e w' => e = .returned (.int .i64 0) ∧ w = w' := by
  go_enter Try.func22, Try.ntmps22
  go_wp2_with fail
  go_ret
  exact ⟨rfl, rfl⟩
theorem calls_any {p q : Nat} {M : DevM} (w : World) (h : DevAt w p q M) : Calls Try.prog 22 #[.pointer (some ⟨p, 0, none⟩)] w fun e w' => e = .returned (.int .i64 M.calls) ∧ w = w' := by
  have c1 := h.c1
  clear h
  go_enter Try.func22, Try.ntmps22
  go_wp2_with fail
  go_ret
  exact ⟨rfl, rfl⟩
theorem at_nil (i : Int) (w : World) : Calls Try.prog 30 #[.pointer none, .int .i64 i] w fun e w' => e = .returned (.int .i64 10) ∧ w = w' := by
  go_enter Try.func30, Try.ntmps30
  go_wp2_with fail
  go_ret
  exact ⟨rfl, rfl⟩
theorem at_yes {p q : Nat} {M : DevM} (i : Int) (w : World) (h : DevAt w p q M) (h0 : 0 ≤ i) (h1 : i < M.secs.length) : Calls Try.prog 30 #[.pointer (some ⟨p, 0, none⟩), .int .i64 i] w fun e w' => e = .returned (.int .i64 0) ∧ w = w' := by
  have c0 := h.c0
  clear h
  have d0 : decide (i < 0) = false := decide_eq_false (by omega)
  go_enter Try.func30, Try.ntmps30
  go_wp2_with fail
  go_ret
  exact ⟨rfl, rfl⟩
theorem at_no {p q : Nat} {M : DevM} (i : Int) (w : World) (h : DevAt w p q M) (h1 : i < 0 ∨ M.secs.length ≤ i) : Calls Try.prog 30 #[.pointer (some ⟨p, 0, none⟩), .int .i64 i] w fun e w' => e = .returned (.int .i64 3) ∧ w = w' := by
  have c0 := h.c0
  clear h
  by_cases d : i < 0
  · have d0 : decide (i < 0) = true := decide_eq_true (by omega)
    go_enter Try.func30, Try.ntmps30
    go_wp2_with fail
    go_ret
    exact ⟨rfl, rfl⟩
  · have d0 : decide (i < 0) = false := decide_eq_false (by omega)
    have d1 : (M.secs.length : Int) ≤ i := by omega
    go_enter Try.func30, Try.ntmps30
    go_wp2_with fail
    go_ret
    exact ⟨rfl, rfl⟩

/-- What Fuse makes. -/
def DevM.fused (M : DevM) (n : Int) : DevM := { M with dead := M.isDead || n == 0, lit := decide (0 ≤ n), fuse := if 0 ≤ n then n else 0 }
theorem fuse_nil (n : Int) (w : World) : Calls Try.prog 19 #[.pointer none, .int .i64 n] w fun e w' => e = .returned (.tuple #[]) ∧ w = w' := by
  go_enter Try.func19, Try.ntmps19
  go_wp2_with fail
  go_end0
  exact ⟨rfl, rfl⟩
theorem fuse_any {p q : Nat} {M : DevM} (n : Int) (w : World) (h : DevAt w p q M) (hn : n ≤ 9223372036854775807) : Calls Try.prog 19 #[.pointer (some ⟨p, 0, none⟩), .int .i64 n] w fun e w' => e = .returned (.tuple #[]) ∧ DevAt w' p q (M.fused n) ∧ Kept p q w w' := by
  have c2 := h.c2
  have c3 := h.c3
  have c4 := h.c4
  have f2 := h.free 2
  have f3 := h.free 3
  have f4 := h.free 4
  have hok := h.ok
  have hf := hok.fuse0
  have H := Lib.hid h
  have hd := dead_any w h
  have HD := Lib.hid hd
  have key : ∀ (b : Bool) (x : Int) (c : Bool), M.isDead = b → (b || n == 0) = c → (x = if 0 ≤ n then n else 0) → DevAt (((w.setCell ⟨p, 4, none⟩ (.bool c)).setCell ⟨p, 2, none⟩ (.bool (decide (0 ≤ n)))).setCell ⟨p, 3, none⟩ (.int .i64 x)) p q (M.fused n) ∧ Kept p q w (((w.setCell ⟨p, 4, none⟩ (.bool c)).setCell ⟨p, 2, none⟩ (.bool (decide (0 ≤ n)))).setCell ⟨p, 3, none⟩ (.int .i64 x)) := by
    intro b x c e1 e2 e3
    have g1 := H.out.set_ 4 _ (head_dead M q c) ⟨hok.1, hok.2, hok.3, hok.4, hok.5⟩ rfl
    have g2 := g1.set_ 2 _ (head_lit _ q (decide (0 ≤ n))) ⟨hok.1, hok.2, hok.3, hok.4, hok.5⟩ rfl
    have g3 := g2.set_ 3 _ (head_fuse _ q x) ⟨hok.1, hok.2, hok.3, by show 0 ≤ x ∧ x ≤ 9223372036854775807; rw [e3]; split <;> omega, hok.5⟩ rfl
    refine ⟨?_, (((Kept.refl p q w).setp _ _).setp _ _).setp _ _⟩
    have e : M.fused n = { ({ ({ M with dead := c } : DevM) with lit := decide (0 ≤ n) } : DevM) with fuse := x } := by
      unfold DevM.fused; rw [e1, e2, e3]
    rw [e]
    exact g3
  have KEY := Lib.hid key
  clear h hd key hok
  cases hD : M.isDead
  · have K1 := fun x c => KEY.out false x c hD
    have K2 := Lib.hid K1
    rw [hD] at HD
    clear K1 KEY hD
    rcases Int.lt_trichotomy n 0 with h0 | h0 | h0
    · have d0 : (n == 0) = false := beq_eq_false_iff_ne.2 (by omega)
      have d1 : decide (0 ≤ n) = false := decide_eq_false (by omega)
      have k := Lib.hid (K2.out 0 false (by rw [d0]; rfl) (by rw [if_neg (by omega)]))
      rw [d1] at k
      clear K2
      go_enter Try.func19, Try.ntmps19
      go_wp2_with fail
      refine HD.out.mono ?_
      rintro e w' ⟨rfl, rfl⟩
      go_wp2_with fail
      go_end0
      exact ⟨rfl, k.out⟩
    · subst h0
      have k := Lib.hid (K2.out 0 true rfl rfl)
      clear K2
      go_enter Try.func19, Try.ntmps19
      go_wp2_with fail
      refine HD.out.mono ?_
      rintro e w' ⟨rfl, rfl⟩
      go_wp2_with fail
      go_end0
      exact ⟨rfl, k.out⟩
    · have d0 : (n == 0) = false := beq_eq_false_iff_ne.2 (by omega)
      have d1 : decide (0 ≤ n) = true := decide_eq_true (by omega)
      have k := Lib.hid (K2.out n false (by rw [d0]; rfl) (by rw [if_pos (by omega)]))
      rw [d1] at k
      clear K2
      go_enter Try.func19, Try.ntmps19
      go_wp2_with fail
      refine HD.out.mono ?_
      rintro e w' ⟨rfl, rfl⟩
      go_wp2_with fail
      go_end0
      exact ⟨rfl, k.out⟩
  · have K1 := fun x => KEY.out true x true hD rfl
    have K2 := Lib.hid K1
    rw [hD] at HD
    clear K1 KEY hD
    by_cases h0 : n < 0
    · have d1 : decide (0 ≤ n) = false := decide_eq_false (by omega)
      have k := Lib.hid (K2.out 0 (by rw [if_neg (by omega)]))
      rw [d1] at k
      clear K2
      go_enter Try.func19, Try.ntmps19
      go_wp2_with fail
      refine HD.out.mono ?_
      rintro e w' ⟨rfl, rfl⟩
      go_wp2_with fail
      go_end0
      exact ⟨rfl, k.out⟩
    · have d1 : decide (0 ≤ n) = true := decide_eq_true (by omega)
      have k := Lib.hid (K2.out n (by rw [if_pos (by omega)]))
      rw [d1] at k
      clear K2
      go_enter Try.func19, Try.ntmps19
      go_wp2_with fail
      refine HD.out.mono ?_
      rintro e w' ⟨rfl, rfl⟩
      go_wp2_with fail
      go_end0
      exact ⟨rfl, k.out⟩
end Go.Proofs.Ytgkmcbpcbannfaa
