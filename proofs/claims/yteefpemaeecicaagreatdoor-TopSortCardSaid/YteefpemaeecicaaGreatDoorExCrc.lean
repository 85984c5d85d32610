/- The program's sum of bytes, as an answer. No condition. -/
import Derived.Test.YteefpemaeecicaaGreatDoorExSeat
import Derived.Test.YteefpemaeecicaaGreatDoorCrcWalks
open Go Go.RowKit Go.Proofs
namespace Go.Proofs.YteefpemaeecicaaGreatDoor.Ev
set_option linter.unusedVariables false
set_option linter.unusedSimpArgs false
set_option linter.constructorNameAsVariable false
noncomputable section
def crc1 (x : Nat) (k : Nat → Ans) : Ans := natK (Nat.xor (Nat.div x 2) (Nat.mul (Nat.mod x 2) 3988292384)) k
def crc8 (x : Nat) (k : Nat → Ans) : Ans := crc1 x fun x => crc1 x fun x => crc1 x fun x => crc1 x fun x => crc1 x fun x => crc1 x fun x => crc1 x fun x => crc1 x k
def crcK (s : Nat) (l : List Nat) (k : Nat → Ans) : Ans := natK (Nat.xor s 4294967295) (lrec l (fun x => natK (Nat.xor x 4294967295) k) fun b _ ih x => natK (Nat.xor x b) fun x => crc8 x ih)
def crcF : Fc := ⟨fun _ args h kk => (List.rec (motive := fun _ => Ans) (Ans.no) (fun a t _ => (AVr Ans.no (fun _ _ => Ans.no) (fun _ => Ans.no) (fun _ _ => Ans.no) Ans.no (fun _ => Ans.no) Ans.no (fun _ _ _ _ _ => Ans.no) Ans.no (fun _ _ => Ans.no) (fun _ => Ans.no) Ans.no Ans.no Ans.no (fun _ _ _ => Ans.no) (fun _ _ _ => Ans.no) (fun _ _ _ => Ans.no) (fun _ _ _ => Ans.no) (fun _ _ _ _ => Ans.no) (fun _ _ _ => Ans.no) (fun _ => Ans.no) (fun _ _ => Ans.no) (fun j s => (Bool.rec (motive := fun _ => Ans) (Ans.no) ((List.rec (motive := fun _ => Ans) (Ans.no) (fun y t2 _ => (List.rec (motive := fun _ => Ans) ((AVr Ans.no (fun _ _ => Ans.no) (fun _ => Ans.no) (fun _ _ => Ans.no) Ans.no (fun _ => Ans.no) Ans.no (fun _ _ _ _ _ => Ans.no) Ans.no (fun _ _ => Ans.no) (fun _ => Ans.no) Ans.no (crcK s [] fun r => kk (.n 6 r) h) (crcK s [] fun r => kk (.n 6 r) h) (fun _ _ _ => Ans.no) (fun _ _ _ => Ans.no) (fun _ _ _ => Ans.no) (fun nm off len => Bool.rec (motive := fun _ => Ans) Ans.no (rdE 1 0 nm off len h fun l => bytesOf l fun bs => crcK s bs fun r => kk (.n 6 r) h) (Nat.ble len 1000000000)) (fun nm off len cap => Bool.rec (motive := fun _ => Ans) Ans.no (rdE 1 0 nm off len h fun l => bytesOf l fun bs => crcK s bs fun r => kk (.n 6 r) h) (Nat.ble len 1000000000)) (fun _ _ _ => Ans.no) (fun _ => Ans.no) (fun _ _ => Ans.no) (fun _ _ => Ans.no) (fun _ _ => Ans.no) (y))) (fun _a _t _ => Ans.no) (t2))) (t))) (Nat.beq j 6))) (fun _ _ => Ans.no) (a))) (args))⟩
theorem crc1_eq (x : Nat) (k : Nat → Ans) : crc1 x k = k (Crc.rnd x) := by
  unfold crc1
  rw [natK_eq]
  congr 1
  show x / 2 ^^^ (x % 2 * 3988292384) = (x >>> 1) ^^^ (if x % 2 = 1 then Crc.poly else 0)
  have e0 : x >>> 1 = x / 2 := by rw [Nat.shiftRight_eq_div_pow]
  rw [e0]
  rcases Nat.mod_two_eq_zero_or_one x with h | h <;> rw [h] <;> simp [Crc.poly]
theorem crc8_eq (x : Nat) (k : Nat → Ans) : crc8 x k = k (Crc.rnds 8 x) := by
  unfold crc8
  simp only [crc1_eq]
  rfl
theorem crcL_eq (k : Nat → Ans) : ∀ (l : List Nat) (x : Nat), (lrec l (fun x => natK (Nat.xor x 4294967295) k) (fun b _ ih x => natK (Nat.xor x b) fun x => crc8 x ih) : Nat → Ans) x = k (Crc.run x l ^^^ Crc.full)
  | [], x => by
    show natK (Nat.xor x 4294967295) k = _
    rw [natK_eq]
    rfl
  | b :: t, x => by
    show natK (Nat.xor x b) (fun x => crc8 x _) = _
    rw [natK_eq, crc8_eq]
    exact crcL_eq k t _
theorem crcK_eq (s : Nat) (l : List Nat) (k : Nat → Ans) : crcK s l k = k (Crc.more s l) := by
  unfold crcK
  rw [natK_eq, crcL_eq]
  rfl
theorem crc_more_lt {s : Nat} {l : List Nat} (hs : s < 4294967296) (hl : Crc.Bytes l) : Crc.more s l < 4294967296 :=
  Nat.xor_lt_two_pow (n := 32) (Crc.run_lt _ hl (Nat.xor_lt_two_pow (n := 32) hs Crc.full_lt)) Crc.full_lt
theorem crcF_ok [Rho] : FcOk Tryz.prog 498 crcF := by
  intro hn hS l h kk hy
  obtain ⟨a, t, rfl, h1⟩ := inv_cons hy
  obtain ⟨j, s, rfl, h2⟩ := inv_n h1
  obtain ⟨h3, h4⟩ := inv_if h2
  have h3 : j = 6 := beq_iff.1 h3
  subst h3
  obtain ⟨y, t2, rfl, h5⟩ := inv_cons h4
  obtain ⟨rfl, h6⟩ := inv_nil h5
  refine ⟨⟨Tryz.f498, Tryz.func498, by kernel_rfl, by decide⟩, ?_⟩
  have hS1 : Shp 1 0 := ⟨by omega, Nat.le_refl _, by omega, fun _ => rfl⟩
  -- the first argument
  have first : ∀ {μ : Mp} {args : Array Value}, VRs μ [.n 6 s, y] args.toList → ∃ y', VR μ y y' ∧ args = #[.int .u32 (s : Int), y'] ∧ s < 4294967296 := by
    intro μ args hv
    obtain ⟨x', ys, e1, hx, hv⟩ := hv.cons_inv
    obtain ⟨y', zs, e2, hy', hv⟩ := hv.cons_inv
    have := hv.nil_inv
    subst this
    subst e2
    have hx2 : VR μ (.n (kc .u32) s) x' := hx
    obtain ⟨g1, g2⟩ := hx2.kn_inv
    rw [wrap_un (k := .u32) rfl g1] at g2
    subst g2
    refine ⟨y', hy', ?_, g1⟩
    apply Array.toList_inj.1
    rw [e1]
  have ret : ∀ {K : Kp} {μ : Mp} {w : World} {a : Option Addr} {bs : List Nat} {c : Nat}, MR K μ h w → s < 4294967296 → Rd w w.heap.size a bs → bs.length ≤ 1000000000 →
      Calls Tryz.prog 498 #[.int .u32 (s : Int), .slice a bs.length c] w (fun e w' => ∃ μ' v', e = .returned v' ∧ Ext μ μ' ∧ VR μ' (.n 6 (Crc.more s bs)) v' ∧ MR K μ' h w') := by
    intro K μ w a bs c hr hs hrd hl
    refine (more_any s a bs c w w.heap.size hs hrd (by omega)).mono fun e w' ⟨e1, e2⟩ => ⟨μ, _, e1, Ext.refl μ, ?_, by rw [← e2]; exact hr⟩
    have hlt := crc_more_lt hs hrd.1
    have : VR μ (.n (kc .u32) (Crc.more s bs)) (.int .u32 (IntKind.u32.wrap (Crc.more s bs : Nat))) := .n .u32 _ hlt
    rw [wrap_un (k := .u32) rfl hlt] at this
    exact this
  have none_ : crcK s [] (fun r => kk (.n 6 r) h) = .yes → kk (.n 6 (Crc.more s [])) h = .yes := fun hh => by rwa [crcK_eq] at hh
  have go : ∀ (nm : Nm) (off len : Nat), (rdE 1 0 nm off len h fun l => bytesOf l fun bs => crcK s bs fun r => kk (.n 6 r) h) = .yes → len ≤ 1000000000 → ∃ bs : List Nat, bs.length = len ∧ kk (.n 6 (Crc.more s bs)) h = .yes ∧ ∀ K μ w bk, MR K μ h w → μ nm = some bk → Rd w w.heap.size (some ⟨bk.blk, off, none⟩) bs := by
    intro nm off len hg hle
    obtain ⟨l, g1, g2, g3⟩ := rdE_yes hS1 hg
    obtain ⟨bs, g4, rfl⟩ := bytesOf_yes g1
    rw [crcK_eq] at g4
    rw [List.length_map] at g2
    refine ⟨bs, g2, g4, fun K μ w bk hr hb => ?_⟩
    obtain ⟨cs, k1, k2⟩ := g3 K μ w bk hr hb
    have hsm : ∀ j, j < bs.length → cs[j]? = some (.int .u8 (((bs.getD j 0 : Nat)) : Int)) ∧ bs.getD j 0 < 256 := fun j hj => by
      obtain ⟨d, d1, d2, d3⟩ := k1.cell j (by rw [List.length_map, Nat.mul_one]; exact hj)
      rw [Nat.div_one, List.getD_eq_getElem?_getD, List.getElem?_map, List.getElem?_eq_getElem hj] at d3
      have d3 : VR μ (.n (kc .u8) bs[j]) d := d3
      obtain ⟨q1, q2⟩ := d3.kn_inv
      rw [wrap_un (k := .u8) rfl q1] at q2
      rw [List.getD_eq_getElem?_getD, List.getElem?_eq_getElem hj]
      exact ⟨by rw [d1, q2]; rfl, q1⟩
    refine ⟨fun b hb' => ?_, ?_⟩
    · obtain ⟨i, hi, rfl⟩ := List.getElem_of_mem hb'
      have := (hsm i hi).2
      rwa [List.getD_eq_getElem?_getD, List.getElem?_eq_getElem hi] at this
    · exact .inr ⟨bk.blk, off, rfl, (hr.dom nm bk hb).1, fun i hi => k2 i _ (hsm i hi).1⟩
  rcases inv_sl_ h6 with ⟨rfl, h7⟩ | ⟨nm, off, len, cap, rfl, h7⟩ | ⟨nm, off, len, rfl, h7⟩ | ⟨rfl, h7⟩
  · refine ⟨_, h, none_ h7, fun K μ w args hr hv => ?_⟩
    obtain ⟨y', e1, rfl, e3⟩ := first hv
    rw [e1.sl0_inv]
    exact ret (bs := []) hr e3 (Rd.nil _ _ _) (by simp)
  · obtain ⟨h8, h9⟩ := inv_if h7
    obtain ⟨bs, g1, g2, g3⟩ := go nm off len h9 (ble_iff.1 h8)
    refine ⟨_, h, g2, fun K μ w args hr hv => ?_⟩
    obtain ⟨y', e1, rfl, e3⟩ := first hv
    obtain ⟨bk, hb, _, _, rfl⟩ := e1.sl_inv
    rw [← g1]
    exact ret hr e3 (g3 K μ w bk hr hb) (by rw [g1]; exact ble_iff.1 h8)
  · obtain ⟨h8, h9⟩ := inv_if h7
    obtain ⟨bs, g1, g2, g3⟩ := go nm off len h9 (ble_iff.1 h8)
    refine ⟨_, h, g2, fun K μ w args hr hv => ?_⟩
    obtain ⟨y', e1, rfl, e3⟩ := first hv
    obtain ⟨bk, c, hb, _, _, _, rfl⟩ := e1.so_inv
    rw [← g1]
    exact ret hr e3 (g3 K μ w bk hr hb) (by rw [g1]; exact ble_iff.1 h8)
  · refine ⟨_, h, none_ h7, fun K μ w args hr hv => ?_⟩
    obtain ⟨y', e1, rfl, e3⟩ := first hv
    obtain ⟨a, c, rfl⟩ := e1.se_inv
    exact ret (bs := []) hr e3 (Rd.nil _ _ _) (by simp)
end
end Go.Proofs.YteefpemaeecicaaGreatDoor.Ev
