/- The contracts of the device's Read and Write, and of bytes.Clone. -/
import Derived.Test.YtgkmcbpcbannfaaDevWalks
import Derived.WalkSpells
namespace Go.Proofs.Ytgkmcbpcbannfaa
open Go.RowKit Crc
set_option linter.unusedVariables false
set_option maxHeartbeats 1000000

theorem Try.infoF : (Try.prog.info? 5).map (fun i => (i.zero, i.size, i.bytes)) = some (some (.int .u8 0), 1, 1) := by kernel_rfl
theorem own_empty (w : World) (E : Nat) : Own (w.alloc (.cells #[] E)) w.heap.size E (.slice (some ⟨w.heap.size, 0, none⟩) 0 0) [] :=
  ⟨World.ownsRow_lit (size := 1) w #[] 0 (Nat.le_refl _) (by simp [maxLen]) rfl, bytes_nil⟩

set_option maxHeartbeats 1000000 in
theorem clone_any (a : Option Addr) (l : List Nat) (n c : Nat) (w : World) (B : Nat) (hn : Hid (n = l.length)) (hr : Rd w B a l) (hl : n ≤ 70000) (hB : B ≤ w.heap.size) :
    Calls Try.prog 32 #[.slice a n c] w fun e w' => ∃ v', e = .returned v' ∧ Own w' w.heap.size 5 v' l ∧ Below w.heap.size w w' := by
  obtain ⟨i0, hi, hz0, hz1, hz2⟩ := info_parts Try.infoF
  have hnil := fun (w : World) (a : Option Addr) (n c n' c' : Nat) => Lib.run_eql_slice_nil (P := Try.prog) w 22 5 a n c n' c' Try.underlying22
  cases a with
  | none =>
    have h0 : Hid (l = []) := by
      rcases hr.2 with h | ⟨_, _, e, _⟩
      · exact h
      · cases e
    go_enter Try.func32, Try.ntmps32
    go_wp2
    go_ret
    exact ⟨_, rfl, by rw [h0.out]; exact Own.nil _ _ _, Below.refl _ _⟩
  | some a =>
    have hl2 : l.length ≤ 70000 := by have := hn.out; omega
    go_enter Try.func32, Try.ntmps32
    go_wp2_with (first
      | (at_builtin; refine wpList_app _ rfl (.tmp 5) (.tmp 6) _ rfl w.heap.size 5 i0 Try.underlying22 hi hz0 hz1 hz2 _ [] rfl (own_empty w _) B (some a) l n c hn.out rfl (hr.alloc hB _) l (by simp) (by omega) (by simp) ?_; intro v1 w2 hown1 hb2 hg1 hat1)
      | fail)
    go_ret
    exact ⟨_, rfl, hown1, ((Below.refl _ _).alloc (Nat.le_refl _) _).trans hb2⟩


/-- copy into a row that is known whole: that block alone turns. -/
theorem wpList_copy_only {P : Program} {w : World} {ops : Array Oper} {rest : List Oper} {o : Oper} {a : Act} {Q : Exit → Act → World → Prop} (hgd : o.guard = none) (d s : Operand) (dT sT : TypeId)
    (ho : o.op = .call { callee := .builtin .copy, args := #[d, s], argTypes := #[dT, sT] }) (elem : TypeId) (hu : P.underlying dT = some (.slice elem)) (hsz : (P.info? elem).map (·.size) = some 1)
    (dp sp : Option Addr) (dLen dCap sLen sCap : Nat) (hd : a.eval d = .slice dp dLen dCap) (hs : a.eval s = .slice sp sLen sCap)
    (g off : Nat) (cur : List Value) (t : TypeId) (hg : w.heap[g]? = some (.cells cur.toArray t (0, 0))) (cs : List Value) (hn : cs.length = Nat.min sLen dLen)
    (hpos : 0 < cs.length → dp = some ⟨g, off, none⟩ ∧ ∃ ad, sp = some ad ∧ ∀ j v, cs[j]? = some v → w.cell? (ad.add j) = some v)
    (hfit : off + cs.length ≤ cur.length) (h1 : ∀ v ∈ cs, v.oneCell' = true)
    (h : ∀ w', Hid (w'.heap[g]? = some (.cells (splice cur off cs).toArray t (0, 0))) → Only g w w' → wpList P ops Q rest (a.put o.dst (goInt cs.length)) w') :
    wpList P ops Q (o :: rest) a w := by
  by_cases h0 : cs.length = 0
  · obtain rfl : cs = [] := List.eq_nil_of_length_eq_zero h0
    refine wpList_copy_nothing hgd d s dT sT ho elem hu hsz dp sp dLen dCap sLen sCap hd hs (by simpa using hn.symm) ?_
    exact h w (show _ = _ by simpa [splice] using hg) ⟨rfl, rfl, rfl, rfl, fun _ _ => rfl⟩
  · obtain ⟨rfl, ad, rfl, hsrc⟩ := hpos (by omega)
    refine wpList_copy_own hgd d s dT sT ho elem hu hsz g off dLen dCap ad sLen sCap hd hs cur.toArray t hg cs hn hsrc (by simpa using hfit) h1 ?_
    exact h _ (show _ = _ by simpa [splice] using setRow_heap w g _ _ t _ hg) (Only.row _ _ _)

theorem rd_cells {w : World} {B : Nat} {a : Option Addr} {l : List Nat} (hr : Rd w B a l) (h0 : 0 < l.length) : ∃ ad, a = some ad ∧ ∀ j v, (vals l)[j]? = some v → w.cell? (ad.add j) = some v := by
  rcases hr.2 with h | ⟨b, off, e, _, hc⟩
  · subst h; simp at h0
  · refine ⟨_, e, fun j v hv => ?_⟩
    have hj : j < l.length := by
      rcases Nat.lt_or_ge j l.length with h1 | h1
      · exact h1
      · rw [List.getElem?_eq_none (by rw [vals_length]; exact h1)] at hv; cases hv
    rw [vals_get l j hj] at hv
    rw [← hv, ← hc j hj]
    by_cases hj0 : j = 0 <;> simp [Addr.add, hj0]
/-- What is read elsewhere is read still. -/
theorem Rd.kept {w w' : World} {B p q : Nat} {a : Option Addr} {l : List Nat} (hr : Rd w B a l) (hk : Kept p q w w') (hB : B ≤ w.heap.size) (hne : ∀ x, a = some x → x.block ≠ p ∧ x.block ≠ q) : Rd w' B a l := by
  refine ⟨hr.1, hr.2.imp id fun ⟨b, off, e, hb, hc⟩ => ⟨b, off, e, hb, fun i hi => ?_⟩⟩
  obtain ⟨h1, h2⟩ := hne _ e
  exact (hk.cell (a := ⟨b, off + i, none⟩) (show b < w.heap.size by omega) h1 h2).trans (hc i hi)
def Sec.write (s : Sec) (b : List Nat) : Sec := ⟨b ++ s.now.drop b.length, s.lasts, true⟩
theorem Sec.write_ok {s : Sec} (h : s.Ok) {b : List Nat} (hb : Bytes b) (hl : b.length ≤ 64) : (s.write b).Ok :=
  ⟨by simp [Sec.write, h.n]; omega, h.l, bytes_append hb (bytes_drop h.bn _), h.bl⟩
def DevM.write (M : DevM) (i : Nat) (s : Sec) (b : List Nat) : DevM := { M.burn with secs := M.secs.set i (s.write b) }

theorem read_any {p q : Nat} {M : DevM} (x : Int) (i : Nat) (s : Sec) (w : World) (h : DevAt w p q M) (hx : x = i) (hi : M.secs[i]? = some s) : Calls Try.prog 16 #[.pointer (some ⟨p, 0, none⟩), .int .i64 x] w fun e w' => ∃ v, e = .returned (.tuple #[v, .int .i64 0]) ∧ Own w' w.heap.size 5 v s.now ∧ Below w.heap.size w w' := by
  subst hx
  have hlt : i < M.secs.length := (List.getElem?_eq_some_iff.1 hi).1
  have h2048 := h.ok.most
  have c0 := h.c0
  have hs : s.Ok := h.ok.secs s (List.mem_of_getElem? hi)
  have hrd : Rd w w.heap.size (some ⟨q, i * 129, none⟩) s.now := by
    refine ⟨hs.bn, .inr ⟨q, _, rfl, h.ltq, fun j hj => ?_⟩⟩
    rw [hs.n] at hj
    rw [h.cq, Nat.mul_comm, flat_get h.ok.secs hi (by omega), cells_now hs hj]
  have hn : Hid (64 = s.now.length) := hs.n.symm
  have H := Lib.hid h
  have HI := Lib.hid hi
  clear h hi hs
  go_enter Try.func16, Try.ntmps16
  go_wp2_with fail
  refine (at_yes _ _ H.out (by omega) (by omega)).mono ?_
  rintro e w' ⟨rfl, rfl⟩
  go_wp2_with fail
  refine (clone_any _ s.now _ _ w _ hn hrd (by omega) (Nat.le_refl _)).mono ?_
  rintro e w1 ⟨v, rfl, hown, hb⟩
  go_wp2_with fail
  go_ret2
  exact ⟨_, rfl, hown, hb⟩
theorem read_no {p q : Nat} {M : DevM} (i : Int) (w : World) (h : DevAt w p q M) (h1 : i < 0 ∨ M.secs.length ≤ i) : Calls Try.prog 16 #[.pointer (some ⟨p, 0, none⟩), .int .i64 i] w fun e w' => e = .returned (.tuple #[.slice none 0 0, .int .i64 3]) ∧ w = w' := by
  go_enter Try.func16, Try.ntmps16
  go_wp2_with fail
  refine (at_no _ _ h h1).mono ?_
  rintro e w' ⟨rfl, rfl⟩
  go_wp2_with fail
  go_ret2
  exact ⟨rfl, rfl⟩
theorem read_nil (i : Int) (w : World) : Calls Try.prog 16 #[.pointer none, .int .i64 i] w fun e w' => e = .returned (.tuple #[.slice none 0 0, .int .i64 10]) ∧ w = w' := by
  go_enter Try.func16, Try.ntmps16
  go_wp2_with fail
  refine (at_nil _ _).mono ?_
  rintro e w' ⟨rfl, rfl⟩
  go_wp2_with fail
  go_ret2
  exact ⟨rfl, rfl⟩

theorem after_copy {w1 w2 : World} {p q i n : Nat} {F cs : List Value} {v0 : Value} (hne : p ≠ q) (c0 : w1.cell? ⟨p, 0, none⟩ = some v0) (hg : Hid (w2.heap[q]? = some (.cells (splice F (i * 129) cs).toArray 59 (0, 0)))) (ho : Only q w1 w2)
    (hfit : i * 129 + cs.length ≤ F.length) (hlast : F.length = 129 * n) (hi : i < n) :
    w2.cell? ⟨p, 0, none⟩ = some v0 ∧ (∃ v, w2.cell? ⟨q, i * 129 + 128, none⟩ = some v) ∧ w2.frozen? ⟨q, i * 129 + 128, none⟩ = false := by
  refine ⟨(World.cell?_of_block (w := w1) (ho.block p hne)).trans c0, ?_, frozen_of_row w2 q _ _ _ hg.out⟩
  rw [cell_of_row w2 q _ _ _ _ hg.out, List.getElem?_toArray, List.getElem?_eq_getElem (by rw [length_splice _ _ _ hfit, hlast]; omega)]
  exact ⟨_, rfl⟩
theorem write_any {p q : Nat} {M : DevM} (x : Int) (i : Nat) (s : Sec) (b : List Nat) (a : Option Addr) (n c : Nat) (B : Nat) (w : World) (h : DevAt w p q M) (hx : x = i) (hi : M.secs[i]? = some s) (hr : M.Room) (hn : Hid (n = b.length)) (hrd : Rd w B a b) (hB : B ≤ w.heap.size) (hne : ∀ x, a = some x → x.block ≠ p ∧ x.block ≠ q) (h64 : n ≤ 64) :
    Calls Try.prog 15 #[.pointer (some ⟨p, 0, none⟩), .int .i64 x, .slice a n c] w fun e w' => e = .returned (.int .i64 0) ∧ DevAt w' p q (M.write i s b) ∧ Kept p q w w' := by
  subst hx
  have hlt : i < M.secs.length := (List.getElem?_eq_some_iff.1 hi).1
  have h2048 := h.ok.most
  have c0 := h.c0
  have H := Lib.hid h
  have HI := Lib.hid hi
  have hs : s.Ok := h.ok.secs s (List.mem_of_getElem? hi)
  clear h hi
  have hsz : (Try.prog.info? 5).map (·.size) = some 1 := by kernel_rfl
  have HS := Lib.hid hsz
  clear hsz
  go_enter Try.func15, Try.ntmps15
  go_wp2_with fail
  refine (dead_T _ H.out false hr.2).mono ?_
  rintro e w' ⟨rfl, rfl⟩
  go_wp2_with fail
  refine (at_yes _ _ H.out (by omega) (by omega)).mono ?_
  rintro e w' ⟨rfl, rfl⟩
  go_wp2_with fail
  refine (burns_any _ H.out hr).mono ?_
  rintro e w1 ⟨rfl, h1, k1⟩
  have c0' := h1.c0
  have e1 : M.burn.secs = M.secs := rfl
  rw [e1] at c0'
  have hne' := h1.ne
  have H1 := Lib.hid h1
  have hrow := h1.row
  rw [e1] at hrow
  have HROW := Lib.hid hrow
  have hrd1 := hrd.kept k1 hB hne
  have HRD := Lib.hid hrd1
  have hcs : Hid ((vals b).length = Nat.min n 64) := by show (vals b).length = Nat.min n 64; rw [vals_length, hn.out]; exact (Nat.min_eq_left (by have := hn.out; omega)).symm
  have hfit : i * 129 + (vals b).length ≤ (flat M.secs).length := by rw [flat_length H.out.ok.secs, vals_length]; have := hn.out; omega
  have hb64 : b.length ≤ 64 := by have := hn.out; omega
  have hlast := flat_length H.out.ok.secs
  have hwsec := Sec.write_ok hs HRD.out.1 hb64
  clear h1 c0 e1 hrow hrd1 hrd
  go_wp2_with (first
    | (refine wpList_copy_only (o := ⟨some 30, _, _, _, _, _⟩) (by rfl) (.tmp 28) (.tmp 29) _ _ (by rfl) 5 Try.underlying22 HS.out (some ⟨q, i * 129, none⟩) a 64 64 n c (by rfl) (by rfl) q (i * 129) (flat M.secs) 59 HROW.out (vals b) hcs.out (fun hh => ⟨rfl, rd_cells HRD.out (by rw [vals_length] at hh; exact hh)⟩) hfit (vals_one b) ?_; intro w2 hg2 ho2; obtain ⟨c0'', ⟨vl, cl⟩, fl⟩ := after_copy hne' c0' hg2 ho2 hfit hlast hlt; clear c0' hfit hlast)
    | fail)
  go_ret
  refine ⟨rfl, ?_, (Only.keptq k1 ho2).setq _ _⟩
  have hfit : i * 129 + (vals b).length ≤ (flat M.secs).length := by rw [flat_length H.out.ok.secs, vals_length]; omega
  have hlast := flat_length H.out.ok.secs
  have hL : flat (M.burn.secs.set i (s.write b)) = (splice (flat M.secs) (i * 129) (vals b)).set (i * 129 + 128) (.bool true) := by
    have f1 := flat_splice H.out.ok.secs HI.out (s' := ⟨b ++ s.now.drop b.length, s.lasts, s.loose⟩) 0 (vals b) (by rw [vals_length]; omega) (sec_now hs b hb64).symm
    have hok1 : (⟨b ++ s.now.drop b.length, s.lasts, s.loose⟩ : Sec).Ok := ⟨hwsec.n, hwsec.l, hwsec.bn, hwsec.bl⟩
    have hok2 : ∀ x ∈ M.secs.set i ⟨b ++ s.now.drop b.length, s.lasts, s.loose⟩, x.Ok := fun x hx => by
      rcases List.mem_or_eq_of_mem_set hx with h1 | h1
      · exact H.out.ok.secs x h1
      · rw [h1]; exact hok1
    have hi2 : (M.secs.set i ⟨b ++ s.now.drop b.length, s.lasts, s.loose⟩)[i]? = some ⟨b ++ s.now.drop b.length, s.lasts, s.loose⟩ := by simp [hlt]
    have f2 := flat_splice hok2 hi2 (s' := s.write b) 128 [.bool true] (by simp) (sec_loose hok1 true).symm
    rw [List.set_set] at f2
    rw [Nat.add_zero, Nat.mul_comm] at f1
    rw [Nat.mul_comm 129 i] at f2
    show flat (M.secs.set i (s.write b)) = _
    rw [← f2, ← f1, set_splice _ _ _ (by rw [length_splice _ _ _ hfit, hlast]; omega)]
  refine H1.out.write_row (i := i) (s := s) (L := (splice (flat M.secs) (i * 129) (vals b)).set (i * 129 + 128) (.bool true)) HI.out hwsec hL ?_ ?_
  · rw [heap_setCell_other _ _ _ _ (show p ≠ q from hne')]
    exact ho2.block p hne'
  · rw [heap_setCell_same w2 q (i * 129 + 128) _ _ _ hg2.out]
    simp
theorem write_dead {p q : Nat} {M : DevM} (i : Int) (v : Value) (w : World) (h : DevAt w p q M) (hd : M.isDead = true) :
    Calls Try.prog 15 #[.pointer (some ⟨p, 0, none⟩), .int .i64 i, v] w fun e w' => e = .returned (.int .i64 10) ∧ w = w' := by
  have HD := Lib.hid hd; clear hd
  go_enter Try.func15, Try.ntmps15
  go_wp2_with fail
  refine (dead_T _ h true HD).mono ?_
  rintro e w' ⟨rfl, rfl⟩
  go_wp2_with fail
  go_ret
  exact ⟨rfl, rfl⟩
theorem write_nil (i : Int) (v : Value) (w : World) :
    Calls Try.prog 15 #[.pointer none, .int .i64 i, v] w fun e w' => e = .returned (.int .i64 10) ∧ w = w' := by
  go_enter Try.func15, Try.ntmps15
  go_wp2_with fail
  refine (dead_nil _).mono ?_
  rintro e w' ⟨rfl, rfl⟩
  go_wp2_with fail
  go_ret
  exact ⟨rfl, rfl⟩
end Go.Proofs.Ytgkmcbpcbannfaa
