/- The law of sorted bytes: its calls. No condition. -/
import Derived.Test.YteefpemaeecicaaGreatDoorExSoSort
import Derived.Test.YteefpemaeecicaaGreatDoorExSoH
import Derived.Test.YteefpemaeecicaaGreatDoorExSoT
import Derived.Test.YteefpemaeecicaaGreatDoorExSoP0
import Derived.Test.YteefpemaeecicaaGreatDoorExSoP1
import Derived.Test.YteefpemaeecicaaGreatDoorExSoP2
import Derived.Test.YteefpemaeecicaaGreatDoorExSoP3
import Derived.Test.YteefpemaeecicaaGreatDoorExB6
import Derived.Test.YteefpemaeecicaaGreatDoorWords
open Go Go.RowKit Go.Proofs Go.IntWalk
namespace Go.Proofs.YteefpemaeecicaaGreatDoor.Ev
set_option linter.unusedVariables false
set_option linter.unusedSimpArgs false
/-- The block of a row that came in. -/
def inpOf (w : World) (a : Option Addr) (b : Nat) : Option Obj := match a with
  | some x => if b = x.block then w.heap[b]? else none
  | none => none
theorem inpOf_ok (w : World) (a : Option Addr) : ∀ b o, inpOf w a b = some o → w.heap[b]? = some o := by
  intro b o h
  unfold inpOf at h
  split at h
  · split at h
    · exact h
    · cases h
  · cases h
/-- What the unknowns of the law stand for. -/
@[reducible] def rhoS (w : World) (a : Option Addr) (len n : Nat) (f g : Nat → Nat) : Rho := ⟨fun i => if i = 100 then len else if i < 12 then f i else if i < 22 then 0 else if i < 34 then g (i - 22) else if i < 50 then 0 else if i = 51 then n else if i = 53 then 30000 else if i < 60 then 0 else if i < 72 then f (i - 60) else 0, fun _ => .bool false, fun _ => rfl, inpOf w a⟩
theorem avL_len : ∀ k, (avL k).length = k
  | 0 => rfl
  | k + 1 => by
    show (lapp (avL k) [Ex.var k]).length = k + 1
    rw [lapp_eq, List.length_append, avL_len k]; rfl
theorem avL_at : ∀ k i, i < k → (avL k)[i]? = some (.var i)
  | 0, i, h => by omega
  | k + 1, i, h => by
    show (lapp (avL k) [Ex.var k])[i]? = _
    rw [lapp_eq, List.getElem?_append, avL_len]
    by_cases hi : i < k
    · rw [if_pos hi]; exact avL_at k i hi
    · rw [if_neg hi, show i = k by omega, Nat.sub_self]; rfl
theorem lw_p_all : ∀ n, n ≤ 13 → ∃ ps, FP n ps = .yes := by
  intro n hn
  match n, hn with
  | 0, _ => exact ⟨_, lw_p0⟩
  | 1, _ => exact ⟨_, lw_p1⟩
  | 2, _ => exact ⟨_, lw_p2⟩
  | 3, _ => exact ⟨_, lw_p3⟩
  | 4, _ => exact ⟨_, lw_p4⟩
  | 5, _ => exact ⟨_, lw_p5⟩
  | 6, _ => exact ⟨_, lw_p6⟩
  | 7, _ => exact ⟨_, lw_p7⟩
  | 8, _ => exact ⟨_, lw_p8⟩
  | 9, _ => exact ⟨_, lw_p9⟩
  | 10, _ => exact ⟨_, lw_p10⟩
  | 11, _ => exact ⟨_, lw_p11⟩
  | 12, _ => exact ⟨_, lw_p12⟩
  | 13, _ => exact ⟨_, lw_p13⟩
  | n + 14, h => omega
section
variable {w : World} {a : Option Addr} {len n : Nat} {f g : Nat → Nat}
theorem soMk_hold (hb : ∀ k, k < 12 → f k < 256) : ∀ k, k ≤ 12 → @Holds (rhoS w a len n f g) (soMk k)
  | 0, _ => @holds_nil (rhoS w a len n f g)
  | k + 1, h => by
    have e : (rhoS w a len n f g).n k = f k := by
      show (if k = 100 then len else if k < 12 then f k else _) = _
      rw [if_neg (by omega), if_pos (by omega)]
    exact @holds_cons (rhoS w a len n f g) _ _ (@hold_mask (rhoS w a len n f g) k 8 256 _ rfl (by omega) rfl (by rw [e]; have := hb k (by omega); omega)) (soMk_hold hb k (by omega))
theorem sb_at (hf : ∀ k, n ≤ k → f k = 0) (k : Nat) (hk : k < 12) : @den (rhoS w a len n f g) (getE (soSs n) (10 + k)) = f k := by
  have key : ∀ k, k < 12 → getE (soSs n) (10 + k) = Bool.rec (motive := fun _ => Ex) (.lit 0) (.var k) (Nat.blt k n) := fun k hk => by
    match k, hk with
    | 0, _ => rfl
    | 1, _ => rfl
    | 2, _ => rfl
    | 3, _ => rfl
    | 4, _ => rfl
    | 5, _ => rfl
    | 6, _ => rfl
    | 7, _ => rfl
    | 8, _ => rfl
    | 9, _ => rfl
    | 10, _ => rfl
    | 11, _ => rfl
    | m + 12, h => omega
  rw [key k hk]
  cases hb : Nat.blt k n with
  | true =>
    show (if k = 100 then len else if k < 12 then f k else _) = _
    rw [if_neg (by omega), if_pos hk]
  | false =>
    have : n ≤ k := by
      rcases Nat.lt_or_ge k n with h | h
      · have : Nat.blt k n = true := ble_iff.2 h
        rw [hb] at this; cases this
      · exact h
    exact (hf k this).symm
theorem ss_22 (q : Nat) (hq : 22 ≤ q) : getE (soSs n) q = .var q := by
  rw [getE_eq, List.getElem?_eq_none]
  · rfl
  · have : (soSs n).length = 22 := rfl
    omega
theorem go_ctr (hn : n ≤ 12) (hb : ∀ k, k < 12 → f k < 256) (hf : ∀ k, n ≤ k → f k = 0) (hg : g = srt f n n) : @Ctr (@Rho.sub (rhoS w a len n f g) (soSs n)) Tryz.prog 14 [avP, avN] (soS 0 false 0) c40 soVv soFi c40 := by
  have lo : ∀ q, 22 ≤ q → (@Rho.sub (rhoS w a len n f g) (soSs n)).n q = (rhoS w a len n f g).n q := fun q hq => by
    show @den (rhoS w a len n f g) (getE (soSs n) q) = _
    rw [ss_22 q hq]
    rfl
  have rB : ∀ k, k < 12 → (@Rho.sub (rhoS w a len n f g) (soSs n)).n (10 + k) = f k := fun k hk => sb_at hf k hk
  refine @so_go (@Rho.sub (rhoS w a len n f g) (soSs n)) g ⟨0, false, 0, 0, n, 0, 0, f⟩ rfl ⟨rfl, ?_, rfl, rfl, rfl, rB⟩ ⟨hn, Nat.le_refl 0, hb, .inl ⟨rfl, rfl, rfl, rfl, rfl, hg⟩⟩ ?_
  · show n % 18446744073709551616 = n
    omega
  · intro R3 z rel3 hz r22 i
    by_cases h1 : i < 22
    · have e1 : getE soO i = .var (50 + i) := by
        match i, h1 with
        | 0, _ => rfl
        | 1, _ => rfl
        | 2, _ => rfl
        | 3, _ => rfl
        | 4, _ => rfl
        | 5, _ => rfl
        | 6, _ => rfl
        | 7, _ => rfl
        | 8, _ => rfl
        | 9, _ => rfl
        | 10, _ => rfl
        | 11, _ => rfl
        | 12, _ => rfl
        | 13, _ => rfl
        | 14, _ => rfl
        | 15, _ => rfl
        | 16, _ => rfl
        | 17, _ => rfl
        | 18, _ => rfl
        | 19, _ => rfl
        | 20, _ => rfl
        | 21, _ => rfl
        | m + 22, h => omega
      rw [e1]
      have e2 : @den R3 (.var (50 + i)) = (rhoS w a len n f g).n (50 + i) := (r22 (50 + i) (by omega)).trans (lo (50 + i) (by omega))
      rw [e2]
      by_cases h2 : i < 10
      · match i, h2 with
        | 0, _ => rfl
        | 1, _ => rfl
        | 2, _ => rfl
        | 3, _ => rfl
        | 4, _ => rfl
        | 5, _ => rfl
        | 6, _ => rfl
        | 7, _ => rfl
        | 8, _ => rfl
        | 9, _ => rfl
        | m + 10, h => omega
      · obtain ⟨k, rfl⟩ : ∃ k, i = 10 + k := ⟨i - 10, by omega⟩
        rw [rB k (by omega)]
        show (if 50 + (10 + k) = 100 then len else if 50 + (10 + k) < 12 then _ else if 50 + (10 + k) < 22 then 0 else if 50 + (10 + k) < 34 then _ else if 50 + (10 + k) < 50 then 0 else if 50 + (10 + k) = 51 then n else if 50 + (10 + k) = 53 then 30000 else if 50 + (10 + k) < 60 then 0 else if 50 + (10 + k) < 72 then f (50 + (10 + k) - 60) else 0) % _ = _
        rw [if_neg (by omega), if_neg (by omega), if_neg (by omega), if_neg (by omega), if_neg (by omega), if_neg (by omega), if_neg (by omega), if_neg (by omega), if_pos (by omega), show 50 + (10 + k) - 60 = k by omega]
    · by_cases h2 : i < 34
      · obtain ⟨k, rfl⟩ : ∃ k, i = 22 + k := ⟨i - 22, by omega⟩
        have e1 : getE soO (22 + k) = .var (10 + k) := by
          have hk : k < 12 := by omega
          match k, hk with
          | 0, _ => rfl
          | 1, _ => rfl
          | 2, _ => rfl
          | 3, _ => rfl
          | 4, _ => rfl
          | 5, _ => rfl
          | 6, _ => rfl
          | 7, _ => rfl
          | 8, _ => rfl
          | 9, _ => rfl
          | 10, _ => rfl
          | 11, _ => rfl
          | m + 12, h => omega
        rw [e1]
        have e2 : @den R3 (.var (10 + k)) = g k := (rel3.b k (by omega)).trans (hz k (by omega))
        rw [e2, lo (22 + k) (by omega)]
        show _ = (if 22 + k = 100 then len else if 22 + k < 12 then _ else if 22 + k < 22 then 0 else if 22 + k < 34 then g (22 + k - 22) else _) % _
        rw [if_neg (by omega), if_neg (by omega), if_neg (by omega), if_pos (by omega), show 22 + k - 22 = k by omega]
      · have e1 : getE soO i = .var i := by
          rw [getE_eq, List.getElem?_eq_none]
          · rfl
          · have : soO.length = 34 := rfl
            omega
        rw [e1]
        exact congrArg (· % _) (r22 i (by omega))
end
theorem so_enter : Enter Tryz.prog 14 := ⟨Tryz.f14, Tryz.func14, by kernel_rfl, by decide⟩
theorem so_inc : incT c40 soFi 0 = true := by kernel_rfl
theorem so_news : newsB (soS 0 false 0) soFi [] = true := by kernel_rfl
theorem so_atom : (soFi.all fun x => atomT x.2) = true := by kernel_rfl
/-! ### The loop of the law -/
structure LInv (ρ : Rho) (w0 : World) (n : Nat) (f g : Nat → Nat) (b1 b2 : Nat) (i : Nat) (a : Act) (w : World) : Prop where
  le : i ≤ n
  ex : ∃ (R : Rho) (K : Kp) (μ : Mp), (∀ q, q ≠ 41 → R.n q = ρ.n q) ∧ R.n 41 = (if i = 0 then 0 else g (i - 1)) ∧ R.v = ρ.v ∧ R.inp = ρ.inp ∧ (∀ nm, ¬ K.N nm) ∧ K.F b1 = some (arrO fun v => cnt g v i) ∧ K.F b2 = some (arrO fun v => cnt f v i) ∧
    (K.os = w0.os ∧ K.tape = w0.tape ∧ K.output = w0.output ∧ K.lo = w0.heap.size ∧ ∀ x, x < w0.heap.size → K.F x = w0.heap[x]?) ∧ @At R lwE tsT (avT n i) K μ (hpT soFi c40) a w
theorem lwE_n : lwE.n = 157 := rfl
theorem tsT_lt : ∀ t ∈ tsT, t < 512 := by decide
theorem cnt_inc (g : Nat → Nat) (i : Nat) : incF (fun v => cnt g v i) (g i) = fun v => cnt g v (i + 1) := by
  funext v
  show (if v = g i then cnt g v i + 1 else cnt g v i) = cnt g v i + (if g i = v then 1 else 0)
  by_cases h : v = g i
  · rw [if_pos h, if_pos h.symm]
  · rw [if_neg h, if_neg (fun e => h e.symm)]
    rfl
theorem cnt_le (g : Nat → Nat) (v : Nat) : ∀ i, cnt g v i ≤ i
  | 0 => Nat.le_refl 0
  | i + 1 => by
    have := cnt_le g v i
    show cnt g v i + _ ≤ _
    split <;> omega
theorem below_of {K : Kp} {R : Rho} {μ : Mp} {h : Hp} {w0 w : World} (r : @MR R K μ h w) (hk : K.os = w0.os ∧ K.tape = w0.tape ∧ K.output = w0.output ∧ K.lo = w0.heap.size ∧ ∀ x, x < w0.heap.size → K.F x = w0.heap[x]?) : Below w0.heap.size w0 w := by
  obtain ⟨ros, rtape, rout, rkeep, _, _, size, _, _⟩ := @MR.all R _ _ _ _ r
  obtain ⟨k1, k2, k3, k4, k5⟩ := hk
  refine ⟨ros.trans k1, rtape.trans k2, rout.trans k3, by rw [k4] at size; exact size, fun k hk => ?_⟩
  rw [Array.getElem?_eq_getElem hk]
  exact rkeep k _ ((k5 k hk).trans (Array.getElem?_eq_getElem hk))
theorem At.of_mem {R : Rho} {E : Em} {ts : List Nat} {avs : List AV} {K K' : Kp} {μ : Mp} {h : Hp} {a a' : Act} {w w' : World} (hA : @At R E ts avs K μ h a w) (hm : @MR R K' μ h w') (hs : ∀ t ∈ ts, a'.tmps.getD t undef = a.tmps.getD t undef) (hz : a'.tmps.size = a.tmps.size) (hd : a'.defers = a.defers) : @At R E ts avs K' μ h a' w' :=
  @At.mk R E ts avs K' μ h a' w' hm (fun j t v ht hv => by rw [hs t (List.mem_of_getElem? ht)]; exact hA.slot j t v ht hv) (by rw [hz]; exact hA.size) (hd.trans hA.defs)
theorem lw_body {ρ : Rho} {w0 : World} {n : Nat} {f g : Nat → Nat} {b1 b2 : Nat} (hn : n ≤ 12) (hb : ∀ k, k < 12 → f k < 256) (hgb : ∀ k, k < 12 → g k < 256) (sorted : ∀ p q, p < q → q < n → g p ≤ g q) (ρf : ∀ k, k < 12 → ρ.n k = f k) (ρg : ∀ k, k < 12 → ρ.n (22 + k) = g k) (v0 : ρ.v 0 = .pointer (some ⟨b1, 0, none⟩)) (v1 : ρ.v 1 = .pointer (some ⟨b2, 0, none⟩)) (h12 : b1 ≠ b2) (hl1 : w0.heap.size ≤ b1) (hl2 : w0.heap.size ≤ b2) (i : Nat) (a : Act) (w : World) (h : LInv ρ w0 n f g b1 b2 i a w) :
    lwB.wp Tryz.prog (fun ex a' w' => (ex = .exit 0 ∧ LInv ρ w0 n f g b1 b2 n a' w') ∨ (ex = .normal ∧ ∃ i', n - i' < n - i ∧ LInv ρ w0 n f g b1 b2 i' a' w')) a w := by
  obtain ⟨hi, R, K, μ, rn, r41, rv, ri, hN, k1, k2, hK, hA⟩ := h
  have nd : ∀ n' ∈ ([] : List Nm), ∃ bk, μ n' = some bk := fun n' hn' => by cases hn'
  have rF : ∀ k, k < 12 → R.n k = f k := fun k hk => (rn k (by omega)).trans (ρf k hk)
  have rG : ∀ k, k < 12 → R.n (22 + k) = g k := fun k hk => (rn (22 + k) (by omega)).trans (ρg k hk)
  have hP := @progOk R [] (@holds_nil R)
  have hS := @soR_ok R [] (@holds_nil R) [] (@LOk.nil R)
  rw [lwB_eq]
  by_cases hin : i = n
  · subst hin
    refine wp_seq ?_
    refine @fragX_ok Tryz.prog _ 1 lwE Tryz.f5 (fiN soFi) [] R hP _ hS lwE_ok lwH tsT tsT_lt _ _ _ _ _ _ (allA_yes lw_x i (by omega)) K hN μ a w hA _ fun a' w' he => ?_
    obtain ⟨μ2, q1, _⟩ := Ends.next hN he (sub_nil R) [] rfl nd
    exact .inl ⟨rfl, Nat.le_refl _, R, K, μ2, rn, r41, rv, ri, hN, k1, k2, hK, q1⟩
  have hlt : i < n := by omega
  refine wp_seq ?_
  refine @fragN_ok Tryz.prog _ 1 lwE Tryz.f5 (fiN soFi) [] R hP _ hS lwE_ok lwH tsT tsT_lt _ _ _ _ _ (allB_yes lw_h (by omega) hlt) K hN μ a w hA _ fun a1 w1 he => ?_
  obtain ⟨μ1, hA1, _⟩ := Ends.next hN he (sub_nil R) [] rfl nd
  have nd1 : ∀ n' ∈ ([] : List Nm), ∃ bk, μ1 n' = some bk := fun n' hn' => by cases hn'
  refine wp_seq (wp_block ?_)
  -- what is read
  have gi := hgb i (by omega)
  have ld : @den R (ldT i) = g i := by
    have e1 : @den R (.var (Nat.add 22 i)) = g i := rG i (by omega)
    unfold ldT
    rw [@so_4_7 R, @so_27_4 R, e1]
    omega
  have h41 : R.n 41 ≤ g i := by
    rw [r41]
    by_cases h0 : i = 0
    · rw [if_pos h0]; omega
    · rw [if_neg h0]; exact sorted (i - 1) i (by omega) hlt
  have hold : @Holds R (tkL i) := by
    refine @holds_cons R _ _ ?_ (@holds_nil R)
    show Nat.ble (@den R (ldT i) % 18446744073709551616 + 1) (R.n 41 % 18446744073709551616) = false
    rw [ld]
    cases hb : Nat.ble (g i % 18446744073709551616 + 1) (R.n 41 % 18446744073709551616) with
    | false => rfl
    | true => have := ble_iff.1 hb; omega
  have hP2 := @progOk R (tkL i) hold
  have hS2 := @soR_ok R (tkL i) hold [] (@LOk.nil R)
  refine @fragH_ok Tryz.prog _ 1 lwE Tryz.f5 (fiN soFi) (sgT i) R hP2 _ hS2 lwE_ok 2 lwN lwN_row tsT tsT_lt _ _ _ _ _ (allB_yes lw_l (by omega) hlt) K hN μ1 a1 w1 hA1 _ fun a2 w2 he2 => ?_
  obtain ⟨μ2, hA2, _⟩ := Ends.next hN he2 (Rho.Same.rfl' _) [] rfl nd1
  obtain ⟨R', hR'⟩ : ∃ R', R' = @Rho.sub R (sgT i) := ⟨_, rfl⟩
  rw [← hR'] at hA2
  have s41 : R'.n 41 = g i := by rw [hR']; exact ld
  have rv' : R'.v = ρ.v := by rw [hR']; exact rv
  have ri' : R'.inp = ρ.inp := by rw [hR']; exact ri
  have sq : ∀ q, q ≠ 41 → R'.n q = R.n q := fun q hq => by
    rw [hR']
    show @den R (getE (sgT i) q) = _
    have e : getE (sgT i) q = .var q := by
      rw [getE_eq]
      unfold sgT
      rw [lapp_eq, List.getElem?_append, avL_len]
      by_cases h1 : q < 41
      · rw [if_pos h1, avL_at 41 q h1]; rfl
      · rw [if_neg h1, List.getElem?_eq_none]
        · rfl
        · show 1 ≤ q - 41
          omega
    rw [e]
    rfl
  have hsz2 : 157 ≤ a2.tmps.size := hA2.size
  -- the machine's byte is counted
  have e14 : a2.tmps.getD 14 undef = .int .u64 (g i : Nat) := by
    have := @VR.yk_inv R' _ .u64 _ _ (hA2.slot 6 14 lsT rfl rfl)
    rw [this]
    have e : @den R' (.var 41) = g i := s41
    rw [e]
    have e2 : g i % km .u64 = g i := Nat.mod_eq_of_lt (by show g i < 18446744073709551616; omega)
    rw [e2, wrap_un (k := .u64) rfl (by show g i < 18446744073709551616; omega)]
  have yo : ∀ {j : Nat} {v : Value}, @VR R' μ2 (.y 8 (.var j)) v → v = R'.v j := fun {j v} hv => by
    generalize hq : AV.y 8 (.var j) = q at hv
    cases hv with
    | yo j' => cases hq; rfl
    | y k e => have := (AV.y.inj hq).1; have := kc_lt k; omega
    | ys l => have := (AV.y.inj hq).1; omega
    | yf e x hx => have := (AV.y.inj hq).1; omega
    | yl k le l a n cap => have := (AV.y.inj hq).1; omega
    | yp k e a => have := (AV.y.inj hq).1; omega
    | yc e1 e2 a b => have := (AV.y.inj hq).1; omega
    | _ => cases hq
  have e10 : a2.tmps.getD 10 undef = .pointer (some ⟨b1, 0, none⟩) := by
    rw [yo (hA2.slot 2 10 a1T rfl rfl), rv', v0]
  have e11 : a2.tmps.getD 11 undef = .pointer (some ⟨b2, 0, none⟩) := by
    rw [yo (hA2.slot 3 11 a2T rfl rfl), rv', v1]
  have hm2 := hA2.mem
  obtain ⟨_, _, _, keep2, _, _, _, inp2, _⟩ := @MR.all _ _ _ _ _ hm2
  have hb1 := keep2 _ _ k1
  have hb2 := keep2 _ _ k2
  have hinp : ∀ b, w0.heap.size ≤ b → R'.inp b = none := fun b hb => by
    cases ho : R'.inp b with
    | none => rfl
    | some o => have := (inp2 b o ho).1; rw [hK.2.2.2.1] at this; omega
  rw [lw2_eq]
  refine wp_seq ?_
  refine wp26 hsz2 e14 e10 hb1 gi (by have := cnt_le g (g i) i; omega) fun a3 q1 q2 q3 => ?_
  rw [cnt_inc]
  have hm3 := @MR.keptSet R' K μ2 _ w2 hm2 b1 _ (arrO fun v => cnt g v (i + 1)) k1 (hinp b1 hl1)
  -- the law's byte is counted
  obtain ⟨kk, ad, m, cap, ek, es, hrow, _, _, _, em⟩ := @VR.yl_inv R' _ _ _ _ _ _ _ (hA2.slot 0 0 (slT n) rfl rfl) (by omega) (by omega)
  have ek : kk = .u8 := by
    have h4 : kc kk = kc .u8 := by have : (20 : Nat) = 16 + kc kk := ek; show kc kk = 4; omega
    exact kc_inj h4
  subst ek
  have em : n % 18446744073709551616 = m := em
  have em : m = n := by omega
  subst em
  rw [exList_mkE] at hrow
  rcases hrow with hrow | ⟨bb, off, arr, ty, fr, ea, eo, ec⟩
  · have : (avL m).length = 0 := by
      have := congrArg List.length hrow
      rw [List.length_map] at this
      exact this
    rw [avL_len] at this
    omega
  have hci : arr[off + i]? = some (.int .u8 (IntKind.u8.wrap ((@den R' (.var i) % km .u8 : Nat) : Int))) := ec i _ (by rw [List.getElem?_map, avL_at m i hlt]; rfl)
  have efi : @den R' (.var i) = f i := (sq i (by omega)).trans (rF i (by omega))
  have hfi := hb i (by omega)
  have e2 : f i % km .u8 = f i := Nat.mod_eq_of_lt hfi
  rw [efi, e2, wrap_un (k := .u8) rfl hfi] at hci
  have hbb := keep2 _ _ (inp2 bb _ eo).2
  have nbb : bb ≠ b1 := fun e => by
    have := (inp2 bb _ eo).1
    rw [hK.2.2.2.1] at this
    omega
  have hbb3 : (setR w2 b1 (arrO fun v => cnt g v (i + 1))).heap[bb]? = some (.cells arr ty fr) := by rw [setR_ne nbb]; exact hbb
  have hb23 : (setR w2 b1 (arrO fun v => cnt g v (i + 1))).heap[b2]? = some (arrO fun v => cnt f v i) := by rw [setR_ne (fun e => h12 e.symm)]; exact hb2
  have e0 : a3.tmps.getD 0 undef = .slice (some ⟨bb, off, none⟩) m cap := by rw [q1 0 (by omega), es, ea]
  have e13 : a3.tmps.getD 13 undef = .int .i64 (i : Nat) := by
    rw [q1 13 (by omega)]
    obtain ⟨_, hv⟩ := @VR.kn_inv R' _ .i64 i _ (hA2.slot 5 13 (.n 3 i) rfl rfl)
    rw [hv, wrap_low (k := .i64) (by show i < 9223372036854775808; omega)]
  refine wp27 (by rw [q2]; exact hsz2) e0 e13 hlt hbb3 hci ((q1 11 (by omega)).trans e11) hb23 hfi (by have := cnt_le f (f i) i; omega) fun a4 p1 p2 p3 => ?_
  rw [cnt_inc]
  have hm4 := @MR.keptSet R' (K.upd b1 (arrO fun v => cnt g v (i + 1))) μ2 _ _ hm3 b2 (arrO fun v => cnt f v i) (arrO fun v => cnt f v (i + 1)) (by show (if b2 = b1 then _ else K.F b2) = _; rw [if_neg (fun e => h12 e.symm)]; exact k2) (hinp b2 hl2)
  -- on
  have hA2' : @At R' lwE tsT (avT m i) K μ2 (hpT soFi c40) a2 w2 := @At.mk _ _ _ _ _ _ _ _ _ hA2.mem (fun j t v ht hv => by
    have hj : j < 6 := (List.getElem?_eq_some_iff.1 ht).1
    refine hA2.slot j t v ?_ ?_
    · match j, hj with
      | 0, _ => exact ht
      | 1, _ => exact ht
      | 2, _ => exact ht
      | 3, _ => exact ht
      | 4, _ => exact ht
      | 5, _ => exact ht
      | q + 6, h => omega
    · match j, hj with
      | 0, _ => exact hv
      | 1, _ => exact hv
      | 2, _ => exact hv
      | 3, _ => exact hv
      | 4, _ => exact hv
      | 5, _ => exact hv
      | q + 6, h => omega) hA2.size hA2.defs
  have ts_lt : ∀ t ∈ tsT, t < 140 := by decide
  have hA4 := hA2'.of_mem hm4 (fun t ht => (p1 t (by have := ts_lt t ht; omega)).trans (q1 t (ts_lt t ht))) (p2.trans q2) (p3.trans q3)
  have hP4 := @progOk R' [] (@holds_nil _)
  have hS4 := @soR_ok R' [] (@holds_nil _) [] (@LOk.nil _)
  show lw21.wp Tryz.prog _ a4 _
  refine @fragN_ok Tryz.prog _ 1 lwE Tryz.f5 (fiN soFi) [] R' hP4 _ hS4 lwE_ok lw21 tsT tsT_lt _ _ _ _ _ (allB_yes lw_j (by omega) hlt) ((K.upd b1 (arrO fun v => cnt g v (i + 1))).upd b2 (arrO fun v => cnt f v (i + 1))) hN μ2 a4 _ hA4 _ fun a5 w5 he5 => ?_
  obtain ⟨μ5, hA5, _⟩ := Ends.next (R2 := R') (Kp := ((K.upd b1 (arrO fun v => cnt g v (i + 1))).upd b2 (arrO fun v => cnt f v (i + 1)))) hN he5 (sub_nil _) [] rfl (fun n' hn' => by cases hn')
  refine .inr ⟨rfl, i + 1, by omega, by omega, R', ((K.upd b1 (arrO fun v => cnt g v (i + 1))).upd b2 (arrO fun v => cnt f v (i + 1))), μ5, fun q hq => (sq q hq).trans (rn q hq), s41, rv', ri', hN, ?_, ?_, ⟨hK.1, hK.2.1, hK.2.2.1, hK.2.2.2.1, fun x hx => ?_⟩, hA5⟩
  · show (if b1 = b2 then _ else if b1 = b1 then _ else K.F b1) = _
    rw [if_neg h12, if_pos rfl]
  · show (if b2 = b2 then _ else _) = _
    rw [if_pos rfl]
  · show (if x = b2 then _ else if x = b1 then _ else K.F x) = _
    rw [if_neg (by omega), if_neg (by omega)]
    exact hK.2.2.2.2 x hx
/-! ### The law -/
theorem slot_atom (n : Nat) : atomB (slT n) = true := rfl
theorem rowS {w : World} {a : Option Addr} {l : List Nat} (n : Nat) (f g : Nat → Nat) (h : Rd w w.heap.size a l) (hn : n ≤ l.length) (hn2 : n ≤ 12) (hf : ∀ k, k < n → f k = l.getD k 0) : @RowI (rhoS w a l.length n f g) .u8 a ((avL n).map fun x => @den (rhoS w a l.length n f g) x % km .u8) := by
  rcases h with ⟨hb, h | ⟨b, off, rfl, hlt, hc⟩⟩
  · subst h
    obtain rfl : n = 0 := by simpa using hn
    exact .inl rfl
  · by_cases h0 : n = 0
    · subst h0; exact .inl rfl
    have h00 := hc 0 (by omega)
    have hobj : ∃ arr ty fr, w.heap[b]? = some (.cells arr ty fr) := by
      unfold World.cell? at h00
      split at h00
      · rename_i c ty fr heq; exact ⟨c, ty, fr, heq⟩
      · cases h00
    obtain ⟨arr, ty, fr, hobj⟩ := hobj
    refine .inr ⟨b, off, arr, ty, fr, rfl, ?_, fun i u hu => ?_⟩
    · show (if b = b then w.heap[b]? else none) = _
      rw [if_pos rfl]
      exact hobj
    · rw [List.getElem?_map, Option.map_eq_some_iff] at hu
      obtain ⟨x, hx, rfl⟩ := hu
      have hi : i < n := by
        have := (List.getElem?_eq_some_iff.1 hx).1
        rwa [avL_len] at this
      rw [avL_at n i hi] at hx
      obtain rfl := Option.some.inj hx
      have h1 := hc i (by omega)
      have h2 : @den (rhoS w (some ⟨b, off, none⟩) l.length n f g) (.var i) = l.getD i 0 := by
        show (if i = 100 then l.length else if i < 12 then f i else _) = _
        rw [if_neg (by omega), if_pos (by omega), hf i hi]
      have h3 : l.getD i 0 < 256 := by
        rw [List.getD_eq_getElem?_getD, List.getElem?_eq_getElem (by omega)]
        exact hb _ (List.getElem_mem _)
      rw [h2, show l.getD i 0 % km .u8 = l.getD i 0 from Nat.mod_eq_of_lt h3, wrap_un (k := .u8) rfl h3]
      unfold World.cell? at h1
      rw [hobj] at h1
      exact h1
theorem tkP_lo (m : Nat) (h : m ≤ 12) : tkP m = soMk m := by
  match m, h with
  | 0, _ => rfl
  | 1, _ => rfl
  | 2, _ => rfl
  | 3, _ => rfl
  | 4, _ => rfl
  | 5, _ => rfl
  | 6, _ => rfl
  | 7, _ => rfl
  | 8, _ => rfl
  | 9, _ => rfl
  | 10, _ => rfl
  | 11, _ => rfl
  | 12, _ => rfl
  | q + 13, h => omega
theorem soIn_lo (m : Nat) (h : m ≤ 12) : soIn m = .y 20 (.op 0 0 (.lit m) (mkE (avL m))) := by
  match m, h with
  | 0, _ => rfl
  | 1, _ => rfl
  | 2, _ => rfl
  | 3, _ => rfl
  | 4, _ => rfl
  | 5, _ => rfl
  | 6, _ => rfl
  | 7, _ => rfl
  | 8, _ => rfl
  | 9, _ => rfl
  | 10, _ => rfl
  | 11, _ => rfl
  | 12, _ => rfl
  | q + 13, h => omega
theorem soNn_lo (m : Nat) (h : m ≤ 12) : soNn m = m := by
  match m, h with
  | 0, _ => rfl
  | 1, _ => rfl
  | 2, _ => rfl
  | 3, _ => rfl
  | 4, _ => rfl
  | 5, _ => rfl
  | 6, _ => rfl
  | 7, _ => rfl
  | 8, _ => rfl
  | 9, _ => rfl
  | 10, _ => rfl
  | 11, _ => rfl
  | 12, _ => rfl
  | q + 13, h => omega
theorem sort_calls (a : Option Addr) (l : List Nat) (cap : Nat) (w : World) (hc : l.length ≤ cap) (hcap : cap ≤ 9223372036854775807) (h : Rd w w.heap.size a l) : Calls Tryz.prog 5 #[.slice a l.length cap] w (fun e w' => e = .returned (.bool true) ∧ Below w.heap.size w w') := by
  obtain ⟨n, m, hm, hmn, hn12, hnl, hin⟩ : ∃ n m, m ≤ 13 ∧ soNn m = n ∧ n ≤ 12 ∧ n ≤ l.length ∧ ((m = 13 ∧ n = 12 ∧ 12 < l.length) ∨ (m = n ∧ n = l.length)) := by
    by_cases h0 : l.length ≤ 12
    · refine ⟨l.length, l.length, by omega, ?_, h0, Nat.le_refl _, .inr ⟨rfl, rfl⟩⟩
      exact soNn_lo _ h0
    · exact ⟨12, 13, by omega, rfl, by omega, by omega, .inl ⟨rfl, rfl, by omega⟩⟩
  obtain ⟨f, hf⟩ : ∃ f : Nat → Nat, f = fun k => if k < n then l.getD k 0 else 0 := ⟨_, rfl⟩
  obtain ⟨g, hg⟩ : ∃ g, g = srt f n n := ⟨_, rfl⟩
  have lb : ∀ k, k < l.length → l.getD k 0 < 256 := fun k hk => by
    rw [List.getD_eq_getElem?_getD, List.getElem?_eq_getElem hk]
    rcases h with ⟨hb, _⟩
    exact hb _ (List.getElem_mem _)
  have hf0 : ∀ k, n ≤ k → f k = 0 := fun k hk => by rw [hf]; exact if_neg (by omega)
  have hf1 : ∀ k, k < n → f k = l.getD k 0 := fun k hk => by rw [hf]; exact if_pos hk
  have hb : ∀ k, k < 12 → f k < 256 := fun k _ => by
    by_cases hk : k < n
    · rw [hf1 k hk]; exact lb k (by omega)
    · rw [hf0 k (by omega)]; omega
  have hgb : ∀ k, k < 12 → g k < 256 := fun k hk => by rw [hg]; exact srt_b hn12 n f hb k hk
  have sorted : ∀ p q, p < q → q < n → g p ≤ g q := fun p q h1 h2 => by rw [hg]; exact srt_sorted f n p q h1 h2
  have cnts : (fun v => cnt g v n) = fun v => cnt f v n := by funext v; rw [hg]; exact cnt_srt v n n f
  obtain ⟨ρ, hρ⟩ : ∃ ρ, ρ = rhoS w a l.length n f g := ⟨_, rfl⟩
  have ctr := go_ctr (w := w) (a := a) (len := l.length) hn12 hb hf0 hg
  have mk := soMk_hold (w := w) (a := a) (len := l.length) (n := n) (g := g) hb n hn12
  have row := rowS n f g h hnl hn12 hf1
  have inp : ∀ b o, ρ.inp b = some o → w.heap[b]? = some o := by rw [hρ]; exact inpOf_ok w a
  have r100 : ρ.n 100 = l.length := by rw [hρ]; rfl
  have ρf : ∀ k, k < 12 → ρ.n k = f k := fun k hk => by
    rw [hρ]
    show (if k = 100 then l.length else if k < 12 then f k else _) = _
    rw [if_neg (by omega), if_pos hk]
  have ρg : ∀ k, k < 12 → ρ.n (22 + k) = g k := fun k hk => by
    rw [hρ]
    show (if 22 + k = 100 then l.length else if 22 + k < 12 then _ else if 22 + k < 22 then 0 else if 22 + k < 34 then g (22 + k - 22) else _) = _
    rw [if_neg (by omega), if_neg (by omega), if_neg (by omega), if_pos (by omega), show 22 + k - 22 = k by omega]
  have ρ41 : ρ.n 41 = 0 := by rw [hρ]; rfl
  rw [← hρ] at ctr mk row
  clear hρ
  have hold : @Holds ρ (tkP m) := by
    rcases hin with ⟨rfl, rfl, hl⟩ | ⟨rfl, _⟩
    · refine @holds_cons ρ _ _ ?_ mk
      exact @take_gt ρ (.var 100) 12 true (by show ρ.n 100 % _ < _; rw [r100]; omega) (by omega) (by show true = decide (12 < ρ.n 100 % _); rw [r100]; symm; exact decide_eq_true (by omega))
    · have : tkP m = soMk m := tkP_lo m hn12
      rw [this]; exact mk
  have hG : @FcOk ρ Tryz.prog 14 (soG m) := by
    unfold soG
    rw [hmn]
    exact @ctI_ok ρ _ hold _ _ _ _ _ _ _ _ _ _ so_enter ctr so_inc so_news
  have hL : @LOk ρ [(29, yesF), (14, soG m)] := @LOk.cons ρ _ _ _ (@yesF_ok Tryz.prog ρ _ begun27) (@LOk.cons ρ _ _ _ hG (@LOk.nil ρ))
  have hv : @VRs ρ mp0 [soIn m] #[Value.slice a l.length cap].toList := by
    refine @VRs.cons ρ _ _ _ _ _ ?_ (@VRs.nil ρ _)
    rcases hin with ⟨rfl, rfl, hl⟩ | ⟨rfl, hl⟩
    · exact @VR.yl ρ mp0 .u8 (.var 100) (avL 12) a l.length cap row (by rw [avL_len]; omega) hc (by omega) (by show ρ.n 100 % _ = _; rw [r100]; omega)
    · have : soIn m = .y 20 (.op 0 0 (.lit m) (mkE (avL m))) := soIn_lo m hn12
      rw [this]
      exact @VR.yl ρ mp0 .u8 (.lit m) (avL m) a l.length cap row (by rw [avL_len]; omega) hc (by omega) (by show m % _ = _; omega)
  obtain ⟨ps, hy⟩ := lw_p_all m hm
  refine calls_of_wp Tryz.func5 lw_eq ?_
  have hN : ∀ nm : Nm, ¬ (⟨w.os, w.tape, w.output, fun b => w.heap[b]?, fun _ => False, w.heap.size⟩ : Kp).N nm := fun _ h => h
  have hA0 := @at_start ρ lwE Tryz.f5 (by show (157 : Nat) ≤ 157; omega) [soIn m] _ mp0 hp0 w _ (@MR.start ρ w inp) hv
  have hP := @progOk ρ (tkP m) hold
  have hS := @soR_ok ρ (tkP m) hold _ hL
  refine @fragH_ok Tryz.prog _ 1 lwE Tryz.f5 ps [] ρ hP _ hS lwE_ok 11 lwC lw_row [0] (by decide) _ _ _ _ _ hy _ hN mp0 _ w hA0 _ fun a1 w1 he1 => ?_
  obtain ⟨μ1, hA1, _⟩ := Ends.next hN he1 (sub_nil ρ) [] rfl (fun _ h => by cases h)
  show lwT.wp Tryz.prog _ a1 w1
  rw [lwT_eq]
  have hm1 := hA1.mem
  have sv0' := hA1.slot 0 0 (soOut m) rfl rfl
  have sv7' := hA1.slot 1 7 avP rfl rfl
  have hz1 := hA1.size
  have hd1 := hA1.defs
  have hlo : w.heap.size ≤ w1.heap.size := by
    obtain ⟨_, _, _, _, _, _, size, _, _⟩ := @MR.all ρ _ _ _ _ hm1
    exact size
  refine wp_seq (wp17 hA1.size fun a2 v10 v11 k2 s2 f2 => ?_)
  -- the arrays are kept
  have hm2' := @MR.keptNew ρ _ μ1 _ _ (@MR.keptNew ρ _ μ1 _ w1 hm1 (arrO fun _ => 0)) (arrO fun _ => 0)
  obtain ⟨K2, hK2⟩ : ∃ K2, K2 = ((⟨w.os, w.tape, w.output, fun b => w.heap[b]?, fun _ => False, w.heap.size⟩ : Kp).upd w1.heap.size (arrO fun _ => 0)).upd (w1.heap.push (arrO fun _ => 0)).size (arrO fun _ => 0) := ⟨_, rfl⟩
  have hm2 : @MR ρ K2 μ1 (hpT soFi c40) { w1 with heap := (w1.heap.push (arrO fun _ => 0)).push (arrO fun _ => 0) } := by rw [hK2]; exact hm2'
  have hN2 : ∀ nm : Nm, ¬ K2.N nm := by rw [hK2]; exact fun _ h => h
  have hs2 : (w1.heap.push (arrO fun _ => 0)).size = w1.heap.size + 1 := Array.size_push ..
  obtain ⟨ρ2, hρ2⟩ : ∃ ρ2 : Rho, ρ2 = ⟨ρ.n, fun j => if j = 0 then .pointer (some ⟨w1.heap.size, 0, none⟩) else .pointer (some ⟨w1.heap.size + 1, 0, none⟩), fun j => by show oneC (if j = 0 then _ else _) = true; split <;> rfl, ρ.inp⟩ := ⟨_, rfl⟩
  have n2 : ρ.n = ρ2.n := by rw [hρ2]; rfl
  have i2 : ρ.inp = ρ2.inp := by rw [hρ2]; rfl
  have p0 : ρ2.v 0 = .pointer (some ⟨w1.heap.size, 0, none⟩) := by rw [hρ2]; rfl
  have p1 : ρ2.v 1 = .pointer (some ⟨w1.heap.size + 1, 0, none⟩) := by rw [hρ2]; rfl
  have hm3 := @MR.told ρ ρ2 n2 i2 soFi c40 so_atom K2 hN2 μ1 _ hm2
  have hout : soOut m = slT n := by unfold soOut slT; rw [hmn]
  have sv0 := @VR.told ρ ρ2 n2 i2 _ _ _ (by rw [hout]; rfl) sv0'
  have sv7 := @VR.told ρ ρ2 n2 i2 _ _ _ rfl sv7'
  rw [hout, ← k2 0 (by omega)] at sv0
  rw [← k2 7 (by omega)] at sv7
  have hA2 : @At ρ2 lwE [0, 7, 10, 11] [slT n, avP, a1T, a2T] K2 μ1 (hpT soFi c40) a2 _ := @At.mk ρ2 _ _ _ _ _ _ _ _ hm3 (fun j t v ht hv => by
    have hj : j < 4 := (List.getElem?_eq_some_iff.1 ht).1
    match j, hj with
    | 0, _ => cases ht; cases hv; exact sv0
    | 1, _ => cases ht; cases hv; exact sv7
    | 2, _ =>
      cases ht; cases hv
      have := @VR.yo ρ2 μ1 0
      rw [p0] at this
      rw [v10]; exact this
    | 3, _ =>
      cases ht; cases hv
      have := @VR.yo ρ2 μ1 1
      rw [p1] at this
      rw [v11]; exact this
    | q + 4, h => omega) (by rw [s2]; exact hz1) (f2.trans hd1)
  have hP2 := @progOk ρ2 [] (@holds_nil ρ2)
  have hS2 := @soR_ok ρ2 [] (@holds_nil ρ2) [] (@LOk.nil ρ2)
  refine wp_seq ?_
  refine @fragN_ok Tryz.prog _ 1 lwE Tryz.f5 (fiN soFi) [] ρ2 hP2 _ hS2 lwE_ok lw18 [0, 7, 10, 11] (by decide) _ _ _ _ _ (allA_yes lw_18 n (by omega)) K2 hN2 μ1 a2 _ hA2 _ fun a3 w3 he3 => ?_
  obtain ⟨μ3, hA3, _⟩ := Ends.next (R2 := ρ2) hN2 he3 (sub_nil ρ2) [] rfl (fun _ h => by cases h)
  refine wp_seq (wp_seq ?_)
  refine @fragN_ok Tryz.prog _ 1 lwE Tryz.f5 (fiN soFi) _ ρ2 hP2 _ hS2 lwE_ok lw19 [0, 7, 10, 11, 12] (by decide) _ _ _ _ _ (allA_yes lw_19 n (by omega)) K2 hN2 μ3 a3 w3 hA3 _ fun a4 w4 he4 => ?_
  obtain ⟨μ4, hA4, _⟩ := Ends.next hN2 he4 (Rho.Same.rfl' _) [] rfl (fun _ h => by cases h)
  obtain ⟨R4, hR4⟩ : ∃ R4, R4 = @Rho.sub ρ2 (lapp (avL 41) [.lit 0]) := ⟨_, rfl⟩
  rw [← hR4] at hA4
  have q4 : ∀ q, q ≠ 41 → R4.n q = ρ2.n q := fun q hq => by
    rw [hR4]
    show @den ρ2 (getE (lapp (avL 41) [.lit 0]) q) = _
    have e : getE (lapp (avL 41) [.lit 0]) q = .var q := by
      rw [getE_eq, lapp_eq, List.getElem?_append, avL_len]
      by_cases h1 : q < 41
      · rw [if_pos h1, avL_at 41 q h1]; rfl
      · rw [if_neg h1, List.getElem?_eq_none]
        · rfl
        · show 1 ≤ q - 41
          omega
    rw [e]
    rfl
  have q41 : R4.n 41 = 0 := by rw [hR4]; rfl
  have rv4 : R4.v = ρ2.v := by rw [hR4]; rfl
  have ri4 : R4.inp = ρ2.inp := by rw [hR4]; rfl
  have start : LInv ρ2 w n f g w1.heap.size (w1.heap.size + 1) 0 a4 w4 := by
    refine ⟨Nat.zero_le _, R4, K2, μ4, q4, q41, rv4, ri4, hN2, ?_, ?_, ⟨by rw [hK2]; rfl, by rw [hK2]; rfl, by rw [hK2]; rfl, by rw [hK2]; rfl, fun x hx => ?_⟩, hA4⟩
    · rw [hK2]
      show (if w1.heap.size = (w1.heap.push _).size then _ else if w1.heap.size = w1.heap.size then _ else _) = _
      rw [hs2, if_neg (by omega), if_pos rfl]
      rfl
    · rw [hK2]
      show (if w1.heap.size + 1 = (w1.heap.push _).size then _ else _) = _
      rw [hs2, if_pos rfl]
      rfl
    · rw [hK2]
      show (if x = (w1.heap.push _).size then _ else if x = w1.heap.size then _ else w.heap[x]?) = _
      rw [hs2, if_neg (by omega), if_neg (by omega)]
  refine wp_mono (loop_meas (fun i => n - i) (fun i a w' => LInv ρ2 w n f g w1.heap.size (w1.heap.size + 1) i a w') (fun a w' => LInv ρ2 w n f g w1.heap.size (w1.heap.size + 1) n a w') (fun i a w' hi => lw_body hn12 hb hgb sorted (fun k hk => by rw [← n2]; exact ρf k hk) (fun k hk => by rw [← n2]; exact ρg k hk) p0 p1 (by omega) hlo (by omega) i a w' hi) 0 a4 w4 start) fun ex a5 w5 hq => ?_
  obtain ⟨rfl, _, R5, K5, μ5, _, _, rv5, _, hN5, c1, c2, hK5, hA5⟩ := hq
  have hm5 := hA5.mem
  obtain ⟨_, _, _, keep5, _⟩ := @MR.all R5 _ _ _ _ hm5
  have yo : ∀ {j : Nat} {v : Value}, @VR R5 μ5 (.y 8 (.var j)) v → v = R5.v j := fun {j v} hv => by
    generalize hq : AV.y 8 (.var j) = q at hv
    cases hv with
    | yo j' => cases hq; rfl
    | y k e => have := (AV.y.inj hq).1; have := kc_lt k; omega
    | ys l => have := (AV.y.inj hq).1; omega
    | yf e x hx => have := (AV.y.inj hq).1; omega
    | yl k le l a n cap => have := (AV.y.inj hq).1; omega
    | yp k e a => have := (AV.y.inj hq).1; omega
    | yc e1 e2 a b => have := (AV.y.inj hq).1; omega
    | _ => cases hq
  have e10 : a5.tmps.getD 10 undef = .pointer (some ⟨w1.heap.size, 0, none⟩) := by rw [yo (hA5.slot 2 10 a1T rfl rfl), rv5, p0]
  have e11 : a5.tmps.getD 11 undef = .pointer (some ⟨w1.heap.size + 1, 0, none⟩) := by rw [yo (hA5.slot 3 11 a2T rfl rfl), rv5, p1]
  have h1 := keep5 _ _ c1
  have h2 := keep5 _ _ c2
  rw [cnts] at h1
  show (Code.seq lw28 .ret).wp Tryz.prog _ a5 w5
  refine wp_seq (wp28 hA5.size e10 e11 h1 h2 fun a6 v2 d6 => ?_)
  refine wp_ret ?_
  refine ⟨d6.trans hA5.defs, .bool true, ?_, rfl, below_of hm5 hK5⟩
  have hr : Tryz.f5.results = #[.tmp 2] := by kernel_rfl
  have e := results_eq (P := Tryz.prog) Tryz.f5 a6.tmps (xs := [a6.tmps.getD 2 undef]) (w := w5) (by rw [hr]; rfl)
  rw [e]
  show Result.ok (a6.tmps.getD 2 undef) w5 = _
  rw [v2]
end Go.Proofs.YteefpemaeecicaaGreatDoor.Ev
