/- Add's contract with the very words that it gives, as a function of the values; sums in another order. -/
import Derived.Test.YtdnfncbinhbioaaMeterWalks
namespace Go.Proofs.Ytdnfncbinhbioaa
open Go.RowKit
set_option linter.unusedVariables false

/-- One step of the sum, on words. -/
def addS (p : Nat × Nat) (v : Value) : Nat × Nat :=
  match v with
  | .complex _ x y => ((floatBits .add .f64 p.1 x).getD 0, (floatBits .add .f64 p.2 y).getD 0)
  | _ => p
def addW (vs : List Value) : Nat × Nat := vs.foldl addS (0, 0)
theorem addW_snoc (vs : List Value) (v : Value) : addW (vs ++ [v]) = addS (addW vs) v := by simp [addW]

theorem addW_fl {vs : List Value} {zs : List (Int × Int)} (hz : Cxs vs zs) (hs : Small zs) : ∀ j, j ≤ vs.length → Fl (addW (vs.take j)).1 (s1 (zs.take j)) ∧ Fl (addW (vs.take j)).2 (s2 (zs.take j))
  | 0, _ => ⟨fl_zero, fl_zero⟩
  | j + 1, hj => by
    obtain ⟨f1, f2⟩ := addW_fl hz hs j (by omega)
    have hjz : j < zs.length := by rw [← hz.1]; omega
    obtain ⟨u, v, huv, hu, hv⟩ := hz.2 j hjz
    obtain ⟨h1, h2⟩ := hs (j + 1)
    have hsn := take_snoc' (0, 0) zs j hjz
    rw [hsn, s1_snoc, s1_one] at h1
    rw [hsn, s2_snoc, s2_one] at h2
    obtain ⟨re, e1, g1⟩ := fl_add f1 hu h1
    obtain ⟨im, e2, g2⟩ := fl_add f2 hv h2
    have hvs : vs.take (j + 1) = vs.take j ++ [.complex .f64 u v] := by
      rw [List.take_succ_eq_append_getElem (by omega)]
      have : vs[j]? = some vs[j] := List.getElem?_eq_getElem (by omega)
      rw [this] at huv
      injection huv with huv
      rw [huv]
    rw [hvs, addW_snoc, hsn, s1_snoc, s1_one, s2_snoc, s2_one]
    show Fl ((floatBits .add .f64 (addW (vs.take j)).1 u).getD 0) _ ∧ Fl ((floatBits .add .f64 (addW (vs.take j)).2 v).getD 0) _
    rw [e1, e2]
    exact ⟨g1, g2⟩

set_option maxHeartbeats 400000 in
theorem add_det (A : Option Addr) (vs : List Value) (zs : List (Int × Int)) (n c : Nat) (w : World) (B : Nat) (hn : Hid (n = vs.length)) (hl : n ≤ 9223372036854775807) (hr : RdV w B A vs) (hz : Cxs vs zs) (hs : Small zs) :
    Calls Try.prog 13 #[.slice A n c] w fun e w' => e = .returned (.complex .f64 (addW vs).1 (addW vs).2) ∧ w = w' := by
  have hnz : n = zs.length := by rw [hn.out]; exact hz.1
  have Hnz := Lib.hid hnz; clear hnz
  have hfl := Lib.hid (addW_fl hz hs)
  go_enter Try.func13, Try.ntmps13
  go_wp2
  go_loop [3, 8] (fun s i => ∃ (j : Nat) (x y : Nat), j ≤ n ∧ i = .int .i64 j ∧ s = .complex .f64 x y ∧ Hid (addW (vs.take j) = (x, y))) (fun _ i => n - (intOf i).toNat)
  case atStart => exact ⟨0, 0, 0, Nat.zero_le _, rfl, rfl, rfl⟩
  case round =>
    obtain ⟨j, x, y, hj, rfl, rfl, hxy⟩ := hrel
    by_cases hlt : j < n
    · obtain ⟨b, off, rfl, _, hcell⟩ := hr.at (i := j) (by rw [← hn.out]; exact hlt)
      obtain ⟨f1, f2⟩ := hfl.out j (by rw [← hn.out]; omega)
      rw [hxy.out] at f1 f2
      obtain ⟨u, v, huv, hu, hv⟩ := hz.2 j (by rw [← Hnz.out]; exact hlt)
      obtain ⟨h1, h2⟩ := hs (j + 1)
      have hsn := take_snoc' (0, 0) zs j (by rw [← Hnz.out]; exact hlt)
      rw [hsn, s1_snoc, s1_one] at h1
      rw [hsn, s2_snoc, s2_one] at h2
      obtain ⟨re, e1, g1⟩ := fl_add f1 hu h1
      obtain ⟨im, e2, g2⟩ := fl_add f2 hv h2
      have hvs : vs.take (j + 1) = vs.take j ++ [.complex .f64 u v] := by
        have hj' : j < vs.length := by rw [← hn.out]; exact hlt
        rw [List.take_succ_eq_append_getElem hj']
        have : vs[j]? = some vs[j] := List.getElem?_eq_getElem hj'
        rw [this] at huv
        injection huv with huv
        rw [huv]
      have hnext : Hid (addW (vs.take (j + 1)) = (re, im)) := by
        show addW (vs.take (j + 1)) = (re, im)
        rw [hvs, addW_snoc, hxy.out]
        show ((floatBits .add .f64 x u).getD 0, (floatBits .add .f64 y v).getD 0) = (re, im)
        rw [e1, e2]; rfl
      have hadd : ∀ (t : TypeId) (w : World), (binOp .add t (.complex .f64 x y) (.complex .f64 u v)).run Try.prog w = .ok (.complex .f64 re im) w := fun t w => run_complex_sum w .add (.inl rfl) t .f64 x y u v re im (by unfold cSumBits; rw [e1, e2]; rfl)
      rw [huv] at hcell
      clear hsn h1 h2 huv hu hv f1 f2 g1 g2 e1 e2 hvs
      go_wp2
      go_round
      case rel => exact ⟨j + 1, re, im, by omega, by go_num, rfl, hnext⟩
      case measure => simp [intOf]; omega
    · have e : vs.take j = vs := List.take_of_length_le (by rw [← hn.out]; omega)
      rw [e] at hxy
      clear e
      go_wp2
      go_ret
      have h := hxy.out
      exact ⟨congrArg (fun p : Nat × Nat => Ending.returned (.complex .f64 p.1 p.2)) h.symm, rfl⟩

end Go.Proofs.Ytdnfncbinhbioaa
