/- The contract of the device's Flush. -/
import Derived.Test.YtgkmcbpcbannfaaDevFlushReg
namespace Go.Proofs.Ytgkmcbpcbannfaa
open Go.RowKit Crc
set_option linter.unusedVariables false
set_option maxHeartbeats 1000000

def Sec.flushed (s : Sec) : Sec := ⟨s.now, s.now, false⟩
theorem Sec.flushed_ok {s : Sec} (h : s.Ok) : s.flushed.Ok := ⟨h.n, h.n, h.bn, h.bn⟩
def flushK (k : Nat) (M : DevM) : DevM := { M with secs := (M.secs.take k).map Sec.flushed ++ M.secs.drop k }
theorem flushK_at {M : DevM} {k : Nat} {s : Sec} (hs : M.secs[k]? = some s) : (flushK k M).secs[k]? = some s := by
  have hlt : k < M.secs.length := (List.getElem?_eq_some_iff.1 hs).1
  have e : ((M.secs.take k).map Sec.flushed).length = k := by simp; omega
  unfold flushK
  rw [List.getElem?_append_right (by omega), e, Nat.sub_self, List.getElem?_drop, Nat.add_zero, hs]
theorem flushK_next {M : DevM} {k : Nat} {s : Sec} (hs : M.secs[k]? = some s) : (flushK k M).secs.set k s.flushed = (flushK (k + 1) M).secs := by
  have hlt : k < M.secs.length := (List.getElem?_eq_some_iff.1 hs).1
  have hk : M.secs[k] = s := (List.getElem?_eq_some_iff.1 hs).2
  have e : ((M.secs.take k).map Sec.flushed).length = k := by simp; omega
  unfold flushK
  dsimp only
  rw [List.set_append_right _ _ (by omega), e, Nat.sub_self, ← List.getElem_cons_drop hlt, List.set_cons_zero, List.take_succ_eq_append_getElem hlt, List.map_append, List.append_assoc, hk]
  rfl
theorem flushK_len (k : Nat) (M : DevM) : (flushK k M).secs.length = M.secs.length := by simp [flushK]; omega
/-- What the region of a round leaves. -/
theorem flush_done {wr : World} {p q k : Nat} {M : DevM} {s : Sec} (h : DevAt wr p q (flushK k M)) (hs : M.secs[k]? = some s) :
    DevAt ((wr.drew.setRow q (splice (flat (flushK k M).secs) (k * 129 + 64) (vals s.now)).toArray).setCell ⟨q, k * 129 + 128, none⟩ (.bool false)) p q (flushK (k + 1) M) ∧
    Kept p q wr ((wr.drew.setRow q (splice (flat (flushK k M).secs) (k * 129 + 64) (vals s.now)).toArray).setCell ⟨q, k * 129 + 128, none⟩ (.bool false)) := by
  have hs' := flushK_at hs
  have hlt : k < M.secs.length := (List.getElem?_eq_some_iff.1 hs).1
  have hsok : s.Ok := h.ok.secs s (List.mem_of_getElem? hs')
  have hfl : (flat (flushK k M).secs).length = 129 * M.secs.length := by rw [flat_length h.ok.secs, flushK_len]
  have hrow : wr.drew.heap[q]? = some (.cells (flat (flushK k M).secs).toArray 59 (0, 0)) := h.row
  have hl64 : (vals s.now).length = 64 := by rw [vals_length, hsok.n]
  have hfit : k * 129 + 64 + (vals s.now).length ≤ (flat (flushK k M).secs).length := by rw [hl64, hfl]; omega
  refine ⟨?_, (((Kept.refl p q wr).drew).rowq _).setq _ _⟩
  have hok1 : (⟨s.now, s.now, s.loose⟩ : Sec).Ok := ⟨hsok.n, hsok.n, hsok.bn, hsok.bn⟩
  have f1 := flat_splice h.ok.secs hs' (s' := ⟨s.now, s.now, s.loose⟩) 64 (vals s.now) (by omega) (sec_lasts hsok s.now hsok.n).symm
  have hok2 : ∀ x ∈ (flushK k M).secs.set k ⟨s.now, s.now, s.loose⟩, x.Ok := fun x hx => by
    rcases List.mem_or_eq_of_mem_set hx with h1 | h1
    · exact h.ok.secs x h1
    · rw [h1]; exact hok1
  have hi2 : ((flushK k M).secs.set k ⟨s.now, s.now, s.loose⟩)[k]? = some ⟨s.now, s.now, s.loose⟩ := by simp [flushK_len, hlt]
  have f2 := flat_splice hok2 hi2 (s' := s.flushed) 128 [.bool false] (by simp) (sec_loose hok1 false).symm
  rw [List.set_set, flushK_next hs] at f2
  rw [Nat.mul_comm] at f1 f2
  have hL : flat ((flushK k M).secs.set k s.flushed) = (splice (flat (flushK k M).secs) (k * 129 + 64) (vals s.now)).set (k * 129 + 128) (.bool false) := by
    rw [flushK_next hs, ← f2, ← f1, set_splice _ _ _ (by rw [length_splice _ _ _ hfit, hfl]; omega)]
  have hD := h.write_row (w' := (wr.drew.setRow q (splice (flat (flushK k M).secs) (k * 129 + 64) (vals s.now)).toArray).setCell ⟨q, k * 129 + 128, none⟩ (.bool false)) hs' (Sec.flushed_ok hsok) hL (by
    rw [heap_setCell_other _ _ _ _ (show p ≠ q from h.ne), setRow_other _ _ _ _ h.ne]; rfl) (by
    rw [heap_setCell_same _ q _ _ _ _ (setRow_heap wr.drew q _ _ _ _ hrow)]; simp)
  have e : ({ (flushK k M) with secs := (flushK k M).secs.set k s.flushed } : DevM) = flushK (k + 1) M := by
    rw [flushK_next hs]; rfl
  rw [e] at hD
  exact hD
theorem flush_part {wr : World} {p q k : Nat} {M : DevM} {s : Sec} (h : DevAt wr p q (flushK k M)) (hs : M.secs[k]? = some s) : ∀ j v, (vals s.now)[j]? = some v → (flat (flushK k M).secs)[k * 129 + j]? = some v := by
  intro j v hv
  have hs' := flushK_at hs
  have hsok : s.Ok := h.ok.secs s (List.mem_of_getElem? hs')
  have hj : j < 64 := by
    rcases Nat.lt_or_ge j 64 with h1 | h1
    · exact h1
    · rw [List.getElem?_eq_none (by rw [vals_length, hsok.n]; omega)] at hv; cases hv
  rw [vals_get _ _ (by rw [hsok.n]; exact hj)] at hv
  rw [Nat.mul_comm, flat_get h.ok.secs hs' (by omega), cells_now hsok hj]
  exact hv
set_option maxRecDepth 100000 in
theorem flush_at {p q N : Nat} {M B : DevM} (w : World) (h : DevAt w p q M) (hr : M.Room) (HB : Hid (M.burn = B)) (HN : Hid (B.secs.length = N)) :
    Calls Try.prog 21 #[.pointer (some ⟨p, 0, none⟩)] w fun e w' => e = .returned (.int .i64 0) ∧ DevAt w' p q (flushK N B) ∧ Kept p q w w' := by
  have H := Lib.hid h
  clear h
  go_enter Try.func21, Try.ntmps21
  go_wp2_with fail
  refine (dead_T _ H.out false hr.2).mono ?_
  rintro e w' ⟨rfl, rfl⟩
  go_wp2_with fail
  refine (burns_any _ H.out hr).mono ?_
  rintro e w1 ⟨rfl, h1, k1⟩
  rw [HB.out] at h1
  have c0 := h1.c0
  have h2048 := h1.ok.most
  rw [HN.out] at c0 h2048
  have H1 := Lib.hid h1
  clear h1
  go_wp2_with fail
  go_loopw [13] (fun i wr => ∃ k : Nat, k ≤ N ∧ i = .int .i64 k ∧ DevAt wr p q (flushK k B) ∧ Kept p q w wr) (fun i _ => N - (intOf i).toNat)
  case atStart => exact ⟨0, Nat.zero_le _, rfl, by simpa [flushK] using H1.out, k1⟩
  case round =>
    obtain ⟨k, hk, rfl, hd, hkept⟩ := hrel
    clear c0
    have HD := Lib.hid hd
    have c0 := hd.c0
    rw [flushK_len, HN.out] at c0
    clear hd
    by_cases hlt : k < N
    · obtain ⟨s, hs⟩ : ∃ s, B.secs[k]? = some s := ⟨_, List.getElem?_eq_getElem (by rw [HN.out]; exact hlt)⟩
      have hsok : s.Ok := HD.out.ok.secs s (List.mem_of_getElem? (flushK_at hs))
      have hlen : Hid ((vals s.now).length = 64) := by show (vals s.now).length = 64; rw [vals_length, hsok.n]
      have hfl : Hid ((flat (flushK k B).secs).length = 129 * N) := by show (flat (flushK k B).secs).length = 129 * N; rw [flat_length HD.out.ok.secs, flushK_len, HN.out]
      have hg := Lib.hid HD.out.row
      have hpart := Lib.hid (flush_part HD.out hs)
      have h1 := Lib.hid (vals_one s.now)
      obtain ⟨hD, hK⟩ := flush_done HD.out hs
      have HDD := Lib.hid hD
      have hne := HD.out.ne
      clear hD hs
      go_wp2_with fail
      refine wp_region_noPanic (flush_region p q k N _ _ wr hlt h2048 hne c0 hg hlen hfl hpart h1 _ _ _ _ _ _ _ _ _ _ _ _ _ _ _ _ _ _ _ _ _ _ _ _ _ _ _ _ _ _ _ _ _ _ _ _ _ _ (fun _ _ _ h => h) ?_)
      intro v16 v17 v18 v19 v20 v21 v22 v23 v24 v25 v26 v27 v28 v29 v30 v31 v32 v33 v34 v35 v36 v37
      refine NoPanic.normal ?_
      go_wp2_with fail
      go_roundw
      case rel => exact ⟨k + 1, by omega, by go_num, HDD.out, hkept.trans hK⟩
      case measure => simp [intOf]; omega
    · have : k = N := by omega
      subst this
      go_wp2_with fail
      go_ret
      exact ⟨rfl, HD.out, hkept⟩
def DevM.flush (M : DevM) : DevM := flushK M.secs.length M.burn
theorem flush_any {p q : Nat} {M : DevM} (w : World) (h : DevAt w p q M) (hr : M.Room) :
    Calls Try.prog 21 #[.pointer (some ⟨p, 0, none⟩)] w fun e w' => e = .returned (.int .i64 0) ∧ DevAt w' p q M.flush ∧ Kept p q w w' :=
  flush_at w h hr (Lib.hid rfl) (Lib.hid rfl)
theorem flush_dead {p q : Nat} {M : DevM} (w : World) (h : DevAt w p q M) (hd : M.isDead = true) :
    Calls Try.prog 21 #[.pointer (some ⟨p, 0, none⟩)] w fun e w' => e = .returned (.int .i64 10) ∧ w = w' := by
  have HD := Lib.hid hd; clear hd
  go_enter Try.func21, Try.ntmps21
  go_wp2_with fail
  refine (dead_T _ h true HD).mono ?_
  rintro e w' ⟨rfl, rfl⟩
  go_wp2_with fail
  go_ret
  exact ⟨rfl, rfl⟩
theorem flush_nil (w : World) : Calls Try.prog 21 #[.pointer none] w fun e w' => e = .returned (.int .i64 10) ∧ w = w' := by
  go_enter Try.func21, Try.ntmps21
  go_wp2_with fail
  refine (dead_nil _).mono ?_
  rintro e w' ⟨rfl, rfl⟩
  go_wp2_with fail
  go_ret
  exact ⟨rfl, rfl⟩
end Go.Proofs.Ytgkmcbpcbannfaa
