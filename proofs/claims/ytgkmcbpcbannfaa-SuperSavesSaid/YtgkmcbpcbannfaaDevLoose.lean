/- The contract of the device's Loose. -/
import Derived.Test.YtgkmcbpcbannfaaDevFlush
import Derived.Test.YtgkmcbpcbannfaaCellsW
namespace Go.Proofs.Ytgkmcbpcbannfaa
open Go.RowKit Crc
set_option linter.unusedVariables false
set_option maxHeartbeats 1000000

theorem Try.infoI : (Try.prog.info? 3).map (fun i => (i.zero, i.size, i.bytes)) = some (some (.int .i64 0), 1, 8) := by kernel_rfl
/-- The sectors that do not last, up to one. -/
def looseTo (l : List Sec) (k : Nat) : List Nat := (List.range k).filter fun i => (l.getD i zsec).loose
def looseIdx (l : List Sec) : List Nat := looseTo l l.length
def ints (l : List Nat) : List Value := l.map fun (n : Nat) => Value.int .i64 (n : Int)
theorem looseTo_len (l : List Sec) (k : Nat) : (looseTo l k).length ≤ k := by
  have := List.length_filter_le (fun i => (l.getD i zsec).loose) (List.range k)
  simpa [looseTo] using this
theorem looseTo_succ (l : List Sec) (k : Nat) (s : Sec) (hs : l[k]? = some s) : ints (looseTo l (k + 1)) = ints (looseTo l k) ++ (if s.loose then [.int .i64 (k : Int)] else []) := by
  unfold looseTo
  rw [List.range_succ, List.filter_append]
  have e : (l.getD k zsec) = s := by rw [List.getD_eq_getElem?_getD, hs]; rfl
  simp only [List.filter_cons, List.filter_nil, e]
  cases s.loose <;> simp [ints]
theorem ints_one (l : List Nat) : One1 (ints l) := by
  intro u hu
  simp only [ints, List.mem_map] at hu
  obtain ⟨n, _, rfl⟩ := hu
  rfl
theorem loose_nil (w : World) : Calls Try.prog 18 #[.pointer none] w fun e w' => e = .returned (.slice none 0 0) ∧ w = w' := by
  go_enter Try.func18, Try.ntmps18
  go_wp2_with fail
  go_ret
  exact ⟨rfl, rfl⟩
theorem loose_at {p q N : Nat} {M : DevM} (w : World) (h : DevAt w p q M) (HN : Hid (M.secs.length = N)) :
    Calls Try.prog 18 #[.pointer (some ⟨p, 0, none⟩)] w fun e w' => ∃ v, e = .returned v ∧ OwnV w' w.heap.size 3 v (ints (looseTo M.secs N)) ∧ Below w.heap.size w w' := by
  obtain ⟨i0, hi, hz0, hz1, hz2⟩ := info_parts Try.infoI
  have h2048 := h.ok.most
  have c0 := h.c0
  rw [HN.out] at h2048 c0
  have H := Lib.hid h
  clear h
  go_enter Try.func18, Try.ntmps18
  go_wp2_with fail
  go_loopw [3, 12] (fun v i wr => ∃ k : Nat, k ≤ N ∧ i = .int .i64 k ∧ OwnV wr w.heap.size 3 v (ints (looseTo M.secs k)) ∧ Below w.heap.size w wr) (fun _ i _ => N - (intOf i).toNat)
  case atStart => exact ⟨0, Nat.zero_le _, rfl, OwnV.nil _ _ _, Below.refl _ _⟩
  case round =>
    obtain ⟨k, hk, rfl, hown, hb⟩ := hrel
    have hd := H.out.below' hb
    have c0' := hd.c0
    rw [HN.out] at c0'
    clear c0
    by_cases hlt : k < N
    · obtain ⟨s, hs⟩ : ∃ s, M.secs[k]? = some s := ⟨_, List.getElem?_eq_getElem (by rw [HN.out]; exact hlt)⟩
      have hsok : s.Ok := hd.ok.secs s (List.mem_of_getElem? hs)
      have cl : wr.cell? ⟨q, k * 129 + 128, none⟩ = some (.bool s.loose) := by rw [hd.cq, Nat.mul_comm, flat_get hd.ok.secs hs (by omega), cells_loose hsok]
      have hsucc := looseTo_succ M.secs k s hs
      have hle := looseTo_len M.secs (k + 1)
      clear hd hs hsok
      cases hl : s.loose
      · rw [hl] at cl hsucc
        rw [if_neg (by simp), List.append_nil] at hsucc
        rw [← hsucc] at hown
        have HO := Lib.hid hown
        clear hl hown hsucc
        go_wp2_with fail
        go_roundw
        case rel => exact ⟨k + 1, by omega, by go_num, HO.out, hb⟩
        case measure => simp [intOf]; omega
      · rw [hl] at cl hsucc
        rw [if_pos rfl] at hsucc
        have HS := Lib.hid hsucc.symm
        have hlen : (ints (looseTo M.secs (k + 1))).length ≤ 2048 := by simp [ints]; omega
        have HO := Lib.hid hown
        clear hl hsucc hown
        go_wp2_with (first
          | (at_builtin; refine wpList_appV (P := Try.prog) _ rfl (.tmp 23) (.tmp 25) _ rfl w.heap.size 3 i0 (.int .i64 0) 8 Try.underlying32 hi hz0 rfl hz1 hz2 _ _ rfl (HO.out.alloc _) (wr.heap.size + 1) (some ⟨wr.heap.size, 0, none⟩) [.int .i64 (k : Int)] 1 1 rfl rfl (RdV.lit _ _ (fun u hu => by simp at hu; subst hu; rfl) _ rfl _ _) _ HS.out (by simp only [maxLen]; omega) (by omega) (by have := hb.size; simp; omega) ?_; intro v2 w2 hown2 hb2 hg2 hat2)
          | fail)
        go_roundw
        case rel => exact ⟨k + 1, by omega, by go_num, hown2, (hb.alloc hb.size _).trans hb2⟩
        case measure => simp [intOf]; omega
    · have : k = N := by omega
      subst this
      have HO := Lib.hid hown
      clear hown
      go_wp2_with fail
      go_ret
      exact ⟨_, rfl, HO.out, hb⟩
theorem loose_any {p q : Nat} {M : DevM} (w : World) (h : DevAt w p q M) :
    Calls Try.prog 18 #[.pointer (some ⟨p, 0, none⟩)] w fun e w' => ∃ v, e = .returned v ∧ OwnV w' w.heap.size 3 v (ints (looseIdx M.secs)) ∧ Below w.heap.size w w' :=
  loose_at w h (Lib.hid rfl)
end Go.Proofs.Ytgkmcbpcbannfaa
