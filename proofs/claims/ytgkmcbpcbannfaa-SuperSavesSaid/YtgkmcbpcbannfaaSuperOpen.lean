/- The contract of super's Open. -/
import Derived.Test.YtgkmcbpcbannfaaSuperMake
import Derived.BigQuiet
namespace Go.Proofs.Ytgkmcbpcbannfaa
open Go.RowKit Crc
set_option linter.unusedVariables false
set_option maxHeartbeats 2000000
set_option maxRecDepth 100000

def Slot.upto (x0 x1 : Slot) : Nat → Nat × Nat × List Nat
  | 0 => (0, 0, [])
  | 1 => Slot.pick (0, 0, []) 0 x0
  | _ => Slot.pick (Slot.pick (0, 0, []) 0 x0) 1 x1
structure OpenSt (w wr : World) (p : Nat) (at_ : Int) (st : Nat × Nat × List Nat) (s : Nat) (a : Option Addr) (c : Nat) : Prop where
  sup : SupAt wr s p at_ (st.1 : Nat) (st.2.1 : Nat) st.2.2 a c
  below : Below w.heap.size w wr
  new : w.heap.size ≤ s
  far : ∀ x, a = some x → w.heap.size ≤ x.block
theorem open_core (p q at_ : Nat) (M : DevM) (w : World) (hd : DevAt w p q M) (s0 s1 : Sec) (x0 x1 : Slot) (h0 : M.secs[at_]? = some s0) (h1 : M.secs[at_ + 1]? = some s1) (e0 : s0.now = x0.now) (e1 : s1.now = x1.now) (ok0 : x0.Ok) (ok1 : x1.Ok)
    (R : Ending → World → Prop)
    (hno : (Slot.upto x0 x1 2).2.1 = 0 → ∀ w', Below w.heap.size w w' → R (.returned (.tuple #[.pointer none, .int .i64 11])) w')
    (hyes : 0 < (Slot.upto x0 x1 2).2.1 → ∀ w' s a c, OpenSt w w' p at_ (Slot.upto x0 x1 2) s a c → R (.returned (.tuple #[.pointer (some ⟨s, 0, none⟩), .int .i64 0])) w') :
    Calls Try.prog 25 #[.pointer (some ⟨p, 0, none⟩), .int .i64 at_] w R := by
  have hlen : at_ + 1 < M.secs.length := (List.getElem?_eq_some_iff.1 h1).1
  have hmost := hd.ok.most
  have ht := Lib.hid (there_any (at_ : Int) w hd true (decide_eq_true ⟨by omega, by omega⟩).symm)
  have HS0 := Lib.hid h0
  have HS1 := Lib.hid h1
  have HD := Lib.hid hd
  have HNO := Lib.hid hno
  have HYES := Lib.hid hyes
  have HE0 := Lib.hid e0
  have HE1 := Lib.hid e1
  have HO0 := Lib.hid ok0
  have HO1 := Lib.hid ok1
  have ltp := hd.ltp
  clear hd h0 h1 hno hyes e0 e1 ok0 ok1
  go_enter Try.func25, Try.ntmps25
  go_wp2_with fail
  refine ht.out.mono ?_
  rintro e w0 ⟨rfl, rfl⟩
  clear ht
  go_wp2_with fail
  have hsw : OpenSt w (w.alloc (.cells #[.pointer (some ⟨p, 0, none⟩), .int .i64 at_, .int .i64 0, .int .i64 0, .slice none 0 0] 63 (0, 0))) p at_ (0, 0, []) w.heap.size none 0 :=
    ⟨⟨heap_new w _, Rd.nil _ _ _, Nat.zero_le _, (fun x hx => by cases hx), fun x hx => by cases hx⟩, (Below.refl _ _).alloc (Nat.le_refl _) _, Nat.le_refl _, fun x hx => by cases hx⟩
  have HSW := Lib.hid hsw
  clear hsw
  go_loopw [19] (fun i wr => ∃ k a c, k ≤ 2 ∧ i = .int .i64 (k : Nat) ∧ OpenSt w wr p at_ (Slot.upto x0 x1 k) w.heap.size a c) (fun i _ => 2 - (intOf i).toNat)
  case atStart => exact ⟨0, none, 0, by omega, rfl, HSW.out⟩
  case round =>
    obtain ⟨k, a, c, hk, rfl, hst⟩ := hrel
    have HST := Lib.hid hst
    clear hst
    by_cases hlt : k < 2
    · have hx : ∃ sc x, M.secs[at_ + k]? = some sc ∧ sc.now = x.now ∧ Slot.Ok x ∧ Slot.upto x0 x1 (k + 1) = Slot.pick (Slot.upto x0 x1 k) k x := by
        rcases (by omega : k = 0 ∨ k = 1) with rfl | rfl
        · exact ⟨s0, x0, HS0.out, HE0.out, HO0.out, rfl⟩
        · exact ⟨s1, x1, HS1.out, HE1.out, HO1.out, rfl⟩
      obtain ⟨sc, x, hsc, hnow, hok, hnext⟩ := hx
      have HSC := Lib.hid hsc
      have HNOW := Lib.hid hnow
      have HOK := Lib.hid hok
      have HNX := Lib.hid hnext
      clear hsc hnow hok hnext
      go_wp2_with fail
      refine (read_any _ (at_ + k) sc _ (HD.out.below' HST.out.below) (by omega) HSC.out).mono ?_
      rintro e w2 ⟨v2, rfl, ho2, hb2⟩
      rw [HNOW.out] at ho2
      have hxl := Slot.len HOK.out
      obtain ⟨g, cap, rfl, hcap, hcap2, hg1, hg2⟩ := ho2.form1 (by omega)
      rw [hxl] at hcap ⊢
      have hx12 := ho2.cell rfl (j := 12) (by omega)
      have HO2 := Lib.hid ho2
      have HB2 := Lib.hid hb2
      clear hb2 ho2
      go_wp2_with fail
      have hX : Rd w2 w2.heap.size (some ⟨g, 0, none⟩) x.now := ⟨HO2.out.2, .inr ⟨g, 0, rfl, hg2, fun i hi => by rw [Nat.zero_add]; exact HO2.out.cell rfl hi⟩⟩
      have hr1 : Rd w2 w2.heap.size (some ⟨g, 4, none⟩) ((x.now.drop 4).take 8) := by simpa using (hX.drop 4).take 8
      have hr2 : Rd w2 w2.heap.size (some ⟨g, 0, none⟩) (x.now.take 4) := hX.take 4
      have hr3 : Rd w2 w2.heap.size (some ⟨g, 4, none⟩) (x.now.drop 4) := by simpa using hX.drop 4
      have hr4 : Rd w2 w2.heap.size (some ⟨g, 13, none⟩) (x.now.drop 13) := by simpa using hX.drop 13
      refine (get_any _ _ 8 _ w2 _ (by rw [List.length_take, List.length_drop, hxl]; rfl) hr1 (by omega)).mono ?_
      rintro e w3 ⟨rfl, rfl⟩
      rw [Slot.be_turn HOK.out]
      have hTn := HOK.out.n
      have hTl := HOK.out.l
      have hTf := Lib.hid (Slot.full HOK.out)
      obtain ⟨T, hT⟩ : ∃ T, x.turn = T := ⟨_, rfl⟩
      rw [hT] at hTn hTf
      have eT : IntKind.i64.wrap (T : Int) = (T : Int) := by simp [IntKind.wrap, IntKind.bits, IntKind.signed]; omega
      rw [hT]
      have HSUM := Lib.hid (fun j => sum_n _ (x.now.drop 4) 60 (cap - 4) (w2.drewN j) _ (by rw [List.length_drop, hxl]) (hr3.drewN j) (by omega))
      have HGET := Lib.hid (fun j => get_any _ (x.now.take 4) 4 cap (w2.drewN j) _ (by rw [List.length_take, hxl]; rfl) (hr2.drewN j) (by omega))
      have hsl : sum (x.now.drop 4) < 4294967296 := sum_lt _ hr3.1
      have hgl : be (x.now.take 4) < 4294967296 := be_lt 4 _ HO2.out.2 (by omega)
      have HPICK : Hid (Slot.upto x0 x1 (k + 1) = if (Slot.upto x0 x1 k).2.1 < T then (k, T, x.txt) else Slot.upto x0 x1 k) := by
        show _ = _
        rw [HNX.out, ← hT]; rfl
      have hsup := HST.out.sup
      obtain ⟨st, hst⟩ : ∃ st, Slot.upto x0 x1 k = st := ⟨_, rfl⟩
      rw [hst] at hsup HPICK HST
      have c3 := (hsup.below' HB2.out).c3
      have hf2 := (hsup.below' HB2.out).free 2
      have hf3 := (hsup.below' HB2.out).free 3
      have hf4 := (hsup.below' HB2.out).free 4
      by_cases htk : st.2.1 < T
      · have hfull := hTf.out (by omega)
        have d1 : decide ((st.2.1 : Int) < (T : Int)) = true := decide_eq_true (by omega)
        have d2 : decide ((x.txt.length : Int) ≤ 40) = true := decide_eq_true (by omega)
        rw [hfull.1] at HGET
        rw [hfull.2.1] at hx12
        have HRT : Hid (Rd w2 w2.heap.size (some ⟨g, 13, none⟩) x.txt) := by
          have := hr4.take x.txt.length
          rw [hfull.2.2] at this
          exact this
        obtain ⟨S, hS⟩ : ∃ S, sum (x.now.drop 4) = S := ⟨_, rfl⟩
        rw [hS] at HSUM HGET hsl
        obtain ⟨n, hn⟩ : ∃ n, x.txt.length = n := ⟨_, rfl⟩
        rw [hn] at d2 hx12 hTl
        have HN := Lib.hid hn
        clear hX hr1 hr2 hr3 hr4 hfull hTf hsup hst hT hS hgl HO2 HSW HS0 HS1 HE0 HE1 HO0 HO1 HNX HNOW HSC hn
        go_wp2_with fail
        go_quiet (first
          | (go_at_call 36; exact quiet_left (HSUM.out _))
          | (go_at_call 35; exact quiet_left (HGET.out _)))
        go_wp2_with fail
        refine (clone_any _ x.txt n _ (w2.drewN nq) w2.heap.size (Lib.hid HN.out.symm) (HRT.out.drewN nq) (by omega) (Nat.le_refl _)).mono ?_
        rintro e w8 ⟨v8, rfl, ho8, hb8⟩
        obtain ⟨a8, c8, rfl, hc8, hc8m, hrd8, hg8⟩ := ho8.form
        have hb2w : Below w.heap.size w w8 := (HST.out.below.trans (HB2.out.mono HST.out.below.size)).trans (((below_drewN (Below.refl _ w2) nq).trans hb8).mono (Nat.le_trans HST.out.below.size HB2.out.size))
        have hs8 : SupAt w8 w.heap.size p at_ (st.1 : Nat) (st.2.1 : Nat) st.2.2 a c := (HST.out.sup.below' HB2.out).below' ((below_drewN (Below.refl _ w2) nq).trans hb8)
        have f2 := hs8.free 2
        have f3 := hs8.free 3
        have f4 := hs8.free 4
        have k2 := hs8.c2
        have k3 := hs8.c3
        have k4 := hs8.c4
        have HS8 := Lib.hid hs8
        have HO8 := Lib.hid ho8
        have HB8 := Lib.hid hb2w
        have HG8 := Lib.hid hg8
        have hlt8 : w.heap.size < w2.heap.size := (HST.out.sup.below' HB2.out).lt
        clear hs8 ho8 hb8 hrd8 hg8 hc8 hc8m hb2w
        go_wp2_with fail
        go_roundw
        case rel =>
          refine ⟨k + 1, a8, c8, by omega, by go_num, ?_⟩
          rw [HPICK.out, if_pos htk]
          refine ⟨wrote_sup (w0 := w2.drewN nq) (n := T) (by rw [HN.out]; exact hTl) HS8.out HO8.out hlt8 HG8.out, ?_, Nat.le_refl _, fun y hy => ?_⟩
          · exact ((HB8.out.setCell (p := ⟨w.heap.size, 2, none⟩) (Nat.le_refl _) _).setCell (p := ⟨w.heap.size, 3, none⟩) (Nat.le_refl _) _).setCell (p := ⟨w.heap.size, 4, none⟩) (Nat.le_refl _) _
          · obtain ⟨yb, yo, ys⟩ := y
            have : w2.heap.size ≤ yb := (HG8.out yb yo ys hy).1
            show w.heap.size ≤ yb
            omega
        case measure => simp [intOf]; omega
      · have d1 : decide ((st.2.1 : Int) < (T : Int)) = false := decide_eq_false (by omega)
        obtain ⟨S, hS⟩ : ∃ S, sum (x.now.drop 4) = S := ⟨_, rfl⟩
        obtain ⟨G, hG⟩ : ∃ G, be (x.now.take 4) = G := ⟨_, rfl⟩
        rw [hS] at HSUM hsl
        rw [hG] at HGET hgl
        clear hX hr1 hr2 hr3 hr4 hTf hsup hst hT hS hG HO2 HSW HS0 HS1 HE0 HE1 HO0 HO1 HNX HNOW HSC hx12
        have hfin : ∀ nq, OpenSt w (w2.drewN nq) p at_ (Slot.upto x0 x1 (k + 1)) w.heap.size a c := fun nq => by
          rw [HPICK.out, if_neg htk]
          exact ⟨HST.out.sup.below' (below_drewN HB2.out nq), HST.out.below.trans ((below_drewN HB2.out nq).mono HST.out.below.size), HST.out.new, HST.out.far⟩
        have HFIN := Lib.hid hfin
        clear hfin
        by_cases hSG : (S : Int) = (G : Int)
        · have dS : decide ((S : Int) = (G : Int)) = true := decide_eq_true hSG
          have dB : ((S : Int) == (G : Int)) = true := beq_iff_eq.2 hSG
          go_wp2_with fail
          go_quiet (first
            | (go_at_call 36; exact quiet_left (HSUM.out _))
            | (go_at_call 35; exact quiet_left (HGET.out _)))
          go_wp2_with fail
          go_roundw
          case rel => exact ⟨k + 1, a, c, by omega, by go_num, HFIN.out _⟩
          case measure => simp [intOf]; omega
        · have dS : decide ((S : Int) = (G : Int)) = false := decide_eq_false hSG
          have dB : ((S : Int) == (G : Int)) = false := by simpa using hSG
          go_wp2_with fail
          go_quiet (first
            | (go_at_call 36; exact quiet_left (HSUM.out _))
            | (go_at_call 35; exact quiet_left (HGET.out _)))
          go_wp2_with fail
          go_roundw
          case rel => exact ⟨k + 1, a, c, by omega, by go_num, HFIN.out _⟩
          case measure => simp [intOf]; omega
    · have : k = 2 := by omega
      subst this
      have c3 := HST.out.sup.c3
      cases ht : (Slot.upto x0 x1 2).2.1 with
      | zero =>
        rw [ht] at c3
        go_wp2_with fail
        exact HNO.out ht _ HST.out.below
      | succ m =>
        rw [ht] at c3
        go_wp2_with fail
        exact HYES.out (by omega) _ _ _ _ HST.out
theorem open_no {p q : Nat} {M : DevM} (i : Int) (w : World) (hd : DevAt w p q M) (hi : ¬ (0 ≤ i ∧ i < (M.secs.length : Int) - 1)) :
    Calls Try.prog 25 #[.pointer (some ⟨p, 0, none⟩), .int .i64 i] w fun e w' => e = .returned (.tuple #[.pointer none, .int .i64 3]) ∧ w = w' := by
  have ht := Lib.hid (there_any i w hd false (decide_eq_false hi).symm)
  clear hd hi
  go_enter Try.func25, Try.ntmps25
  go_wp2_with fail
  refine ht.out.mono ?_
  rintro e w0 ⟨rfl, rfl⟩
  go_wp2_with fail
  go_ret2
  exact ⟨rfl, rfl⟩
end Go.Proofs.Ytgkmcbpcbannfaa
