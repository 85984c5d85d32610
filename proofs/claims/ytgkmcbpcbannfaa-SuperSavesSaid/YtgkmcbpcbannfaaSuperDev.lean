/- Devices all of whose sectors last; a text in two slots; Make, Save and Open over them. -/
import Derived.Test.YtgkmcbpcbannfaaSuperOpen
import Derived.Test.YtgkmcbpcbannfaaDevBegun
namespace Go.Proofs.Ytgkmcbpcbannfaa
open Go.RowKit Crc
set_option linter.unusedVariables false
set_option maxHeartbeats 2000000

/-- A sector that lasts. -/
def fs (X : List Nat) : Sec := ⟨X, X, false⟩
def Clean (M : DevM) (l : List (List Nat)) : Prop := M.secs = l.map fs
section
variable {M : DevM} {l : List (List Nat)}
theorem Clean.get (h : Clean M l) {i : Nat} {X : List Nat} (hi : l[i]? = some X) : M.secs[i]? = some (fs X) := by rw [h, List.getElem?_map, hi]; rfl
theorem Clean.len (h : Clean M l) : M.secs.length = l.length := by rw [h, List.length_map]
theorem Clean.now (h : Clean M l) : M.secs.map (·.now) = l := by rw [h, List.map_map]; exact List.map_id' l
theorem clean_fresh (n : Nat) : Clean (freshM n) (List.replicate n zeros) := by
  show List.replicate n zsec = (List.replicate n zeros).map fs
  rw [List.map_replicate]; rfl
theorem flush_secs (M : DevM) : M.flush.secs = M.secs.map Sec.flushed := by
  show (M.burn.secs.take M.secs.length).map Sec.flushed ++ M.burn.secs.drop M.secs.length = _
  show (M.secs.take M.secs.length).map Sec.flushed ++ M.secs.drop M.secs.length = _
  rw [List.take_length, List.drop_length, List.append_nil]
theorem clean_flush (M : DevM) : Clean M.flush (M.secs.map (·.now)) := by
  show M.flush.secs = _
  rw [flush_secs, List.map_map]; rfl
theorem write_now {i : Nat} {s : Sec} {X : List Nat} (hs : s.now.length = 64) (hX : X.length = 64) : ((M.write i s X).secs.map (·.now)) = (M.secs.map (·.now)).set i X := by
  show (M.secs.set i (s.write X)).map (·.now) = _
  rw [List.map_set]
  have : (s.write X).now = X := by
    show X ++ s.now.drop X.length = X
    rw [List.drop_eq_nil_of_le (by omega), List.append_nil]
  rw [this]
theorem Clean.crash (h : Clean M l) (keep : List Bool) : Clean (M.crash keep) l := by
  show (M.crash keep).secs = _
  apply List.ext_getElem?
  intro i
  by_cases hi : i < l.length
  · have hm : i < M.secs.length := by rw [h.len]; exact hi
    rw [crash_get' M keep i hm, List.getElem?_map, List.getElem?_eq_getElem hi]
    unfold crashSec crashPick
    have e : M.secs.getD i zsec = fs l[i] := by rw [List.getD_eq_getElem?_getD, h.get (List.getElem?_eq_getElem hi)]; rfl
    rw [e]; rfl
  · have hm : ¬ i < M.secs.length := by rw [h.len]; exact hi
    have hl : (M.crash keep).secs.length = M.secs.length := crashTo_len M.secs keep M.secs.length (Nat.le_refl _)
    rw [List.getElem?_eq_none (by omega), List.getElem?_eq_none (by rw [List.length_map]; omega)]
theorem crash_live (M : DevM) (keep : List Bool) : Live (M.crash keep) ∧ (M.crash keep).calls = 0 := ⟨⟨rfl, rfl⟩, rfl⟩
theorem fresh_live (n : Nat) : Live (freshM n) ∧ (freshM n).calls = 0 := ⟨⟨rfl, rfl⟩, rfl⟩
theorem Clean.loose (h : Clean M l) : looseIdx M.secs = [] := by
  unfold looseIdx looseTo
  rw [List.filter_eq_nil_iff]
  intro i hi
  rw [List.mem_range] at hi
  have hm : i < l.length := by rw [← h.len]; exact hi
  rw [List.getD_eq_getElem?_getD, h.get (List.getElem?_eq_getElem hm)]
  simp [fs]
/-- A write that did not last: behind a fall it is there, or is not. -/
theorem Clean.half (h : Clean M l) {i : Nat} {Y X : List Nat} (hi : l[i]? = some Y) (hY : Y.length = 64) (hX : X.length = 64) (keep : List Bool) : Clean ((M.write i (fs Y) X).crash keep) (l.set i X) ∨ Clean ((M.write i (fs Y) X).crash keep) l := by
  have hil : i < l.length := (List.getElem?_eq_some_iff.1 hi).1
  have hw : (M.write i (fs Y) X).secs = (l.map fs).set i ⟨X, Y, true⟩ := by
    show M.secs.set i ((fs Y).write X) = _
    rw [h]
    congr 1
    show (⟨X ++ Y.drop X.length, Y, true⟩ : Sec) = _
    rw [List.drop_eq_nil_of_le (by omega), List.append_nil]
  have hwl : (M.write i (fs Y) X).secs.length = l.length := by rw [hw, List.length_set, List.length_map]
  have hat : (M.write i (fs Y) X).secs.getD i zsec = ⟨X, Y, true⟩ := by rw [hw, List.getD_eq_getElem?_getD, List.getElem?_set_self (by rw [List.length_map]; exact hil)]; rfl
  have hoth : ∀ j, j ≠ i → ∀ h2 : j < l.length, (M.write i (fs Y) X).secs.getD j zsec = fs l[j] := fun j hj h2 => by
    rw [hw, List.getD_eq_getElem?_getD, List.getElem?_set_ne hj.symm, List.getElem?_map, List.getElem?_eq_getElem h2]; rfl
  have key : ∀ Z, crashPick (M.write i (fs Y) X).secs keep i = Z → Clean ((M.write i (fs Y) X).crash keep) (l.set i Z) := fun Z hZ => by
    show ((M.write i (fs Y) X).crash keep).secs = _
    apply List.ext_getElem?
    intro j
    by_cases hj : j < l.length
    · rw [crash_get' _ keep j (by omega), List.getElem?_map, List.getElem?_set]
      by_cases e : i = j
      · subst e
        rw [if_pos rfl, if_pos hil]
        unfold crashSec
        rw [hZ]; rfl
      · rw [if_neg e, List.getElem?_eq_getElem hj]
        unfold crashSec crashPick
        rw [hoth j (Ne.symm e) hj]; rfl
    · have hl : ((M.write i (fs Y) X).crash keep).secs.length = (M.write i (fs Y) X).secs.length := crashTo_len _ keep _ (Nat.le_refl _)
      rw [List.getElem?_eq_none (by omega), List.getElem?_eq_none (by rw [List.length_map, List.length_set]; omega)]
  by_cases hk : keep.getD (looseTo (M.write i (fs Y) X).secs i).length false = true
  · exact .inl (key X (by unfold crashPick; rw [hat, hk]; rfl))
  · refine .inr ?_
    have := key Y (by unfold crashPick; rw [hat, Bool.eq_false_iff.2 hk]; rfl)
    have e : l.set i Y = l := by
      obtain ⟨h1, h2⟩ := List.getElem?_eq_some_iff.1 hi
      rw [← h2, List.set_getElem_self]
    rw [e] at this
    exact this
end
/-- A text in two slots. -/
structure Sup2 (l : List (List Nat)) (at_ k t : Nat) (txt : List Nat) : Prop where
  k1 : k ≤ 1
  t0 : 0 < t
  t9 : t < 9223372036854775808
  b : Bytes txt
  l40 : txt.length ≤ 40
  here : l[at_ + k]? = some (slotBytes t txt)
  other : ∃ x : Slot, x.Ok ∧ x.turn < t ∧ l[at_ + (1 - k)]? = some x.now
section
variable {l : List (List Nat)} {at_ k t : Nat} {txt : List Nat}
theorem Sup2.slots (h : Sup2 l at_ k t txt) : ∃ x0 x1 : Slot, x0.Ok ∧ x1.Ok ∧ l[at_]? = some x0.now ∧ l[at_ + 1]? = some x1.now ∧ Slot.upto x0 x1 2 = (k, t, txt) := by
  obtain ⟨x, hx, hxt, hxl⟩ := h.other
  have hok : Slot.Ok (some (t, txt)) := ⟨h.t9, h.b, h.l40⟩
  have hk := h.k1
  have ht := h.t0
  rcases (by omega : k = 0 ∨ k = 1) with rfl | rfl
  · refine ⟨some (t, txt), x, hok, hx, h.here, hxl, ?_⟩
    show Slot.pick (Slot.pick (0, 0, []) 0 (some (t, txt))) 1 x = _
    have e : Slot.pick (0, 0, []) 0 (some (t, txt)) = (0, t, txt) := if_pos ht
    rw [e]
    exact if_neg (Nat.lt_asymm hxt)
  · refine ⟨x, some (t, txt), hx, hok, hxl, h.here, ?_⟩
    show Slot.pick (Slot.pick (0, 0, []) 0 x) 1 (some (t, txt)) = _
    have e : (Slot.pick (0, 0, []) 0 x).2.1 < t := by
      unfold Slot.pick
      split
      · exact hxt
      · exact ht
    generalize Slot.pick (0, 0, []) 0 x = st at *
    exact if_pos e
theorem Sup2.next (h : Sup2 l at_ k t txt) {b : List Nat} (hb : Bytes b) (hl : b.length ≤ 40) (ht : t + 1 < 9223372036854775808) : Sup2 (l.set (at_ + (1 - k)) (slotBytes (t + 1) b)) at_ (1 - k) (t + 1) b := by
  have hk := h.k1
  obtain ⟨x, hx, hxt, hxl⟩ := h.other
  refine ⟨by omega, by omega, ht, hb, hl, ?_, ⟨some (t, txt), ⟨h.t9, h.b, h.l40⟩, Nat.lt_succ_self t, ?_⟩⟩
  · rw [List.getElem?_set_self (List.getElem?_eq_some_iff.1 hxl).1]
  · rw [List.getElem?_set_ne (by omega), show 1 - (1 - k) = k by omega]
    exact h.here
theorem Sup2.apart (h : Sup2 l at_ k t txt) {i : Nat} (X : List Nat) (h0 : i ≠ at_) (h1 : i ≠ at_ + 1) : Sup2 (l.set i X) at_ k t txt := by
  have hk := h.k1
  obtain ⟨x, hx, hxt, hxl⟩ := h.other
  exact ⟨h.k1, h.t0, h.t9, h.b, h.l40, by rw [List.getElem?_set_ne (by omega)]; exact h.here, x, hx, hxt, by rw [List.getElem?_set_ne (by omega)]; exact hxl⟩
theorem Sup2.other_at (h : Sup2 l at_ k t txt) : ∃ Y, l[at_ + (1 - k)]? = some Y ∧ Y.length = 64 := by
  obtain ⟨x, hx, hxt, hxl⟩ := h.other
  exact ⟨_, hxl, Slot.len hx⟩
theorem Sup2.lt (h : Sup2 l at_ k t txt) : at_ + 1 < l.length := by
  obtain ⟨x0, x1, _, _, _, h1, _⟩ := h.slots
  exact (List.getElem?_eq_some_iff.1 h1).1
end
theorem open_sup {p q at_ k t : Nat} {M : DevM} {l : List (List Nat)} {txt : List Nat} (w : World) (hd : DevAt w p q M) (hc : Clean M l) (h : Sup2 l at_ k t txt) :
    Calls Try.prog 25 #[.pointer (some ⟨p, 0, none⟩), .int .i64 at_] w fun e w' => ∃ s a c, e = .returned (.tuple #[.pointer (some ⟨s, 0, none⟩), .int .i64 0]) ∧ OpenSt w w' p at_ (k, t, txt) s a c := by
  obtain ⟨x0, x1, ok0, ok1, h0, h1, hu⟩ := h.slots
  refine open_core p q at_ M w hd (fs x0.now) (fs x1.now) x0 x1 (hc.get h0) (hc.get h1) rfl rfl ok0 ok1 _ (fun hz => ?_) (fun _ w' s a c ho => ⟨s, a, c, rfl, by rw [← hu]; exact ho⟩)
  rw [hu] at hz
  have ht : t = 0 := hz
  have := h.t0
  omega
theorem open_zero {p q at_ : Nat} {M : DevM} {l : List (List Nat)} (w : World) (hd : DevAt w p q M) (hc : Clean M l) (h0 : l[at_]? = some zeros) (h1 : l[at_ + 1]? = some zeros) :
    Calls Try.prog 25 #[.pointer (some ⟨p, 0, none⟩), .int .i64 at_] w fun e w' => e = .returned (.tuple #[.pointer none, .int .i64 11]) ∧ Below w.heap.size w w' :=
  open_core p q at_ M w hd (fs zeros) (fs zeros) none none (hc.get h0) (hc.get h1) rfl rfl ⟨by decide, bytes_nil, by decide⟩ ⟨by decide, bytes_nil, by decide⟩ _ (fun _ w' hb => ⟨rfl, hb⟩) (fun hz => absurd hz (by decide))
theorem save_sup {s p q at_ k t c0 nb cb : Nat} {M : DevM} {l : List (List Nat)} {txt b : List Nat} {a ab : Option Addr} {B : Nat} (w : World) (hd : DevAt w p q M) (hlv : Live M) (hc : Clean M l) (h : Sup2 l at_ k t txt)
    (hs : SupAt w s p at_ (k : Nat) (t : Nat) txt a c0) (hsp : s ≠ p ∧ s ≠ q ∧ ∀ x, a = some x → x.block ≠ p ∧ x.block ≠ q) (hrd : Rd w B ab b) (hB : B ≤ w.heap.size) (hbx : ∀ x, ab = some x → b = [] ∨ (x.block ≠ p ∧ x.block ≠ q)) (hb : nb = b.length) (hb40 : nb ≤ 40) (ht : t < 1000000000) (hroom : M.calls + 2 ≤ 1000000000) :
    Calls Try.prog 27 #[.pointer (some ⟨s, 0, none⟩), .slice ab nb cb] w fun e w' => ∃ a' c' M', e = .returned (.int .i64 0) ∧ WroteAll w w' p q s at_ (1 - k : Nat) (t + 1 : Nat) M' b a' c' ∧ Live M' ∧ M'.calls = M.calls + 2 ∧ Clean M' (l.set (at_ + (1 - k)) (slotBytes (t + 1) b)) := by
  have hk := h.k1
  have hm := hd.ok.most
  have hlt := h.lt
  have hcl := hc.len
  obtain ⟨Y, hY, hY64⟩ := h.other_at
  refine save_core s p q c0 nb cb at_ k (1 - k) t M txt b a ab w B hd hs hsp hrd hB hbx hb hb40 ht (by omega) (at_ + (1 - k)) (fs Y) (by omega) (hc.get hY) hroom (by omega) _ ?_ ?_ ?_
  · intro hx; rw [hlv.isDead] at hx; cases hx
  · intro _ hx; rw [(hlv.write _ _ _).isDead] at hx; cases hx
  · intro _ _ w' a' c' hw
    refine ⟨a', c', _, rfl, hw, (hlv.write _ _ _).flush, by show M.calls + 1 + 1 = _; omega, ?_⟩
    have := clean_flush (M.write (at_ + (1 - k)) (fs Y) (slotBytes (t + 1) b))
    rw [write_now (show (fs Y).now.length = 64 from hY64) (slot_len (by omega)), hc.now] at this
    exact this
theorem make_sup {p q at_ nb cb : Nat} {M : DevM} {l : List (List Nat)} {b : List Nat} {ab : Option Addr} {B : Nat} (w : World) (hd : DevAt w p q M) (hlv : Live M) (hl : M.secs.map (·.now) = l) (hat : at_ + 1 < l.length)
    (hrd : Rd w B ab b) (hB : B ≤ w.heap.size) (hbx : ∀ x, ab = some x → b = [] ∨ (x.block ≠ p ∧ x.block ≠ q)) (hb : nb = b.length) (hb40 : nb ≤ 40) (hroom : M.calls + 4 ≤ 1000000000) :
    Calls Try.prog 24 #[.pointer (some ⟨p, 0, none⟩), .int .i64 at_, .slice ab nb cb] w fun e w' => ∃ s a c M', e = .returned (.tuple #[.pointer (some ⟨s, 0, none⟩), .int .i64 0]) ∧ MadeAt w w' p q s at_ (0 : Nat) (1 : Nat) b a c M' ∧ Live M' ∧ M'.calls = M.calls + 4 ∧ Clean M' (((l.set at_ zeros).set (at_ + 1) zeros).set at_ (slotBytes 1 b)) ∧ Sup2 (((l.set at_ zeros).set (at_ + 1) zeros).set at_ (slotBytes 1 b)) at_ 0 1 b := by
  have hll : M.secs.length = l.length := by rw [← hl, List.length_map]
  have h0 := List.getElem?_eq_getElem (l := M.secs) (i := at_) (by omega)
  have h1 := List.getElem?_eq_getElem (l := M.secs) (i := at_ + 1) (by omega)
  have o0 := hd.ok.secs _ (List.mem_of_getElem? h0)
  have o1 := hd.ok.secs _ (List.mem_of_getElem? h1)
  refine (make_core p q nb cb at_ M b ab w B hd hrd hB hbx hb hb40 _ _ h0 h1 hroom hlv).mono ?_
  rintro e w' ⟨s, a, c, rfl, hm⟩
  refine ⟨s, a, c, _, rfl, hm, ((makeTo_live hlv 2).write _ _ _).flush, ?_, ?_, ?_⟩
  · show M.calls + 1 + 1 + 1 + 1 = _; omega
  · have hz : zeros.length = 64 := by simp [zeros]
    have := clean_flush ((makeTo M at_ M.secs[at_] M.secs[at_ + 1] 2).write at_ ((M.secs[at_]).write zeros) (slotBytes 1 b))
    rw [write_now (by show (zeros ++ _).length = 64; rw [List.drop_eq_nil_of_le (by rw [o0.n, hz]; omega), List.append_nil]; exact hz) (slot_len (by omega))] at this
    have e2 : (makeTo M at_ M.secs[at_] M.secs[at_ + 1] 2).secs.map (·.now) = (l.set at_ zeros).set (at_ + 1) zeros := by
      show (((M.write at_ M.secs[at_] zeros).write (at_ + 1) M.secs[at_ + 1] zeros).secs.map (·.now)) = _
      rw [write_now o1.n hz, write_now o0.n hz, hl]
    rw [e2] at this
    exact this
  · refine ⟨by omega, by omega, by omega, hrd.1, by omega, ?_, ⟨none, ⟨by decide, bytes_nil, by decide⟩, by decide, ?_⟩⟩
    · show (((l.set at_ zeros).set (at_ + 1) zeros).set at_ (slotBytes 1 b))[at_]? = _
      rw [List.getElem?_set_self (by rw [List.length_set, List.length_set]; omega)]
    · rw [List.getElem?_set_ne (by omega)]
      show ((l.set at_ zeros).set (at_ + 1) zeros)[at_ + 1]? = _
      rw [List.getElem?_set_self (by rw [List.length_set]; omega)]
      rfl
end Go.Proofs.Ytgkmcbpcbannfaa
