/- The walk of TopHash: true for any bytes. No condition. -/
import Derived.Test.YteefpemaeecicaaGreatDoorEvHashR0
import Derived.Test.YteefpemaeecicaaGreatDoorEvHashR1
import Derived.Test.YteefpemaeecicaaGreatDoorEvHashR2
import Derived.Test.YteefpemaeecicaaGreatDoorEvHashR3
import Derived.Test.YteefpemaeecicaaGreatDoorEvHashR4
import Derived.Test.YteefpemaeecicaaGreatDoorEvHashR5
import Derived.Test.YteefpemaeecicaaGreatDoorEvHashR6
import Derived.Test.YteefpemaeecicaaGreatDoorEvHashR7
import Derived.Test.YteefpemaeecicaaGreatDoorEvRefWrap
import Derived.Test.YteefpemaeecicaaGreatDoorEvB6
import Derived.Test.YteefpemaeecicaaGreatDoorWords
open Go Go.RowKit Go.Proofs Go.IntWalk
open Go.Proofs.YteefpemaeecicaaGreatDoor
namespace Go.Proofs.YteefpemaeecicaaGreatDoor
open Ev
set_option linter.unusedVariables false
set_option linter.unusedSimpArgs false
/-- The block of a row that came in. -/
def inpOf (w : World) (a : Option Addr) (b : Nat) : Option Obj := match a with
  | some x => if b = x.block then w.heap[b]? else none
  | none => none
theorem inpOf_ok (w : World) (a : Option Addr) : ∀ b o, inpOf w a b = some o → w.heap[b]? = some o := by
  intro b o h
  unfold inpOf at h
  split at h
  · split at h
    · exact h
    · cases h
  · cases h
/-- What the unknowns of the law stand for: bytes; how many. -/
@[reducible] def rhoH (w : World) (a : Option Addr) (len : Nat) (l : List Nat) : Rho := ⟨fun i => if i = 100 then len else l.getD i 0, fun _ => .bool false, fun _ => rfl, inpOf w a⟩
theorem hsV_at (i : Nat) (h : i < 40) : hsV[i]? = some (.var i) := by
  rw [show hsV = (List.range 40).map Ex.var from rfl, List.getElem?_map, List.getElem?_range h]
  rfl
theorem hsV_len : hsV.length = 40 := rfl
theorem rowH {w : World} {a : Option Addr} {l : List Nat} (len : Nat) (h : Rd w w.heap.size a l) (m : Nat) (hm : m ≤ l.length) (hm2 : m ≤ 40) : @RowI (rhoH w a len l) .u8 a ((hsV.take m).map fun x => @den (rhoH w a len l) x % km .u8) := by
  rcases h with ⟨hb, h | ⟨b, off, rfl, hlt, hc⟩⟩
  · subst h
    obtain rfl : m = 0 := by simpa using hm
    exact .inl rfl
  · by_cases h0 : m = 0
    · subst h0; exact .inl rfl
    have h00 := hc 0 (by omega)
    have hobj : ∃ arr ty fr, w.heap[b]? = some (.cells arr ty fr) := by
      unfold World.cell? at h00
      split at h00
      · rename_i c ty fr heq; exact ⟨c, ty, fr, heq⟩
      · cases h00
    obtain ⟨arr, ty, fr, hobj⟩ := hobj
    refine .inr ⟨b, off, arr, ty, fr, rfl, ?_, fun i u hu => ?_⟩
    · show (if b = b then w.heap[b]? else none) = _
      rw [if_pos rfl]
      exact hobj
    · rw [List.getElem?_map, Option.map_eq_some_iff] at hu
      obtain ⟨x, hx, rfl⟩ := hu
      rw [List.getElem?_take] at hx
      split at hx
      · rename_i hi
        have hi : i < m := hi
        rw [hsV_at i (by omega)] at hx
        obtain rfl := Option.some.inj hx
        have h1 := hc i (by omega)
        have h2 : @den (rhoH w (some ⟨b, off, none⟩) len l) (.var i) = l.getD i 0 := by
          show (if i = 100 then len else l.getD i 0) = _
          rw [if_neg (by omega)]
        have h3 : l.getD i 0 < 256 := by
          rw [List.getD_eq_getElem?_getD, List.getElem?_eq_getElem (by omega)]
          exact hb _ (List.getElem_mem _)
        rw [h2, show l.getD i 0 % km .u8 = l.getD i 0 from Nat.mod_eq_of_lt h3, wrap_un (k := .u8) rfl h3]
        unfold World.cell? at h1
        rw [hobj] at h1
        exact h1
      · cases hx
theorem hsR_all : ∀ n, 0 < n → n ≤ 40 → hsR n = .yes := by
  intro n h0 hn
  match n, h0, hn with
  | 0, h, _ => omega
  | 1, _, _ => exact hsR1
  | 2, _, _ => exact hsR2
  | 3, _, _ => exact hsR3
  | 4, _, _ => exact hsR4
  | 5, _, _ => exact hsR5
  | 6, _, _ => exact hsR6
  | 7, _, _ => exact hsR7
  | 8, _, _ => exact hsR8
  | 9, _, _ => exact hsR9
  | 10, _, _ => exact hsR10
  | 11, _, _ => exact hsR11
  | 12, _, _ => exact hsR12
  | 13, _, _ => exact hsR13
  | 14, _, _ => exact hsR14
  | 15, _, _ => exact hsR15
  | 16, _, _ => exact hsR16
  | 17, _, _ => exact hsR17
  | 18, _, _ => exact hsR18
  | 19, _, _ => exact hsR19
  | 20, _, _ => exact hsR20
  | 21, _, _ => exact hsR21
  | 22, _, _ => exact hsR22
  | 23, _, _ => exact hsR23
  | 24, _, _ => exact hsR24
  | 25, _, _ => exact hsR25
  | 26, _, _ => exact hsR26
  | 27, _, _ => exact hsR27
  | 28, _, _ => exact hsR28
  | 29, _, _ => exact hsR29
  | 30, _, _ => exact hsR30
  | 31, _, _ => exact hsR31
  | 32, _, _ => exact hsR32
  | 33, _, _ => exact hsR33
  | 34, _, _ => exact hsR34
  | 35, _, _ => exact hsR35
  | 36, _, _ => exact hsR36
  | 37, _, _ => exact hsR37
  | 38, _, _ => exact hsR38
  | 39, _, _ => exact hsR39
  | 40, _, _ => exact hsR40
  | n + 41, _, h => omega
theorem hash_calls (a : Option Addr) (l : List Nat) (cap : Nat) (w : World) (hc : l.length ≤ cap) (hcap : cap ≤ 9223372036854775807) (h : Rd w w.heap.size a l) : Calls Tryz.prog 6 #[.slice a l.length cap] w (fun e w' => e = .returned (.bool true) ∧ Below w.heap.size w w') := by
  have hL : @LOk (rhoH w a l.length l) hsO := @LOk.cons (rhoH w a l.length l) _ _ _ (@yesF_ok Tryz.prog (rhoH w a l.length l) _ begun27) (@LOk.cons (rhoH w a l.length l) _ _ _ (@refwrapF_ok (rhoH w a l.length l)) (@LOk.nil (rhoH w a l.length l)))
  have go : ∀ (le : Ex) (m : Nat) (tk : List As), m ≤ 40 → m ≤ l.length → @den (rhoH w a l.length l) le % 18446744073709551616 = l.length → @Holds (rhoH w a l.length l) tk → (hnH tk hsO).run 6 [.y 20 (.op 0 0 le (mkE (hsV.take m)))] hp0 okT = .yes → Calls Tryz.prog 6 #[.slice a l.length cap] w (fun e w' => e = .returned (.bool true) ∧ Below w.heap.size w w') := by
    intro le m tk hm hm2 hle hold hy
    have hv : @VRs (rhoH w a l.length l) mp0 [.y 20 (.op 0 0 le (mkE (hsV.take m)))] #[Value.slice a l.length cap].toList := by
      refine @VRs.cons (rhoH w a l.length l) _ _ _ _ _ ?_ (@VRs.nil (rhoH w a l.length l) _)
      exact @VR.yl (rhoH w a l.length l) mp0 .u8 le (hsV.take m) a l.length cap (rowH l.length h m hm2 hm) (by rw [List.length_take]; omega) hc (by omega) hle
    exact @calls_true (rhoH w a l.length l) _ _ (@hnH_ok (rhoH w a l.length l) _ hold _ hL) _ _ hy w _ hv (inpOf_ok w a)
  by_cases hz : l.length = 0
  · refine go (.lit 0) 0 hsTZ (by omega) (by omega) (by rw [hz]; rfl) ?_ hsR0
    exact @holds_cons (rhoH w a l.length l) _ _ (@take_eq (rhoH w a l.length l) (.lit 0) (wrapE (.lit 0)) 3 true (by symm; exact decide_eq_true rfl)) (@holds_nil (rhoH w a l.length l))
  by_cases hn : l.length ≤ 40
  · refine go (.lit l.length) l.length (hsT l.length) hn (Nat.le_refl _) (Nat.mod_eq_of_lt (show l.length < 18446744073709551616 by omega)) (@hsT_holds (rhoH w a l.length l) _) ?_
    have := hsR_all l.length (by omega) hn
    unfold hsR hsA at this
    rw [ltake_eq] at this
    exact this
  · refine go (.var 100) 40 hsTX (Nat.le_refl _) (by omega) (Nat.mod_eq_of_lt (show l.length < 18446744073709551616 by omega)) ?_ hsR41
    refine @holds_cons (rhoH w a l.length l) _ _ ?_ (@hsT_holds (rhoH w a l.length l) _)
    have e : @den (rhoH w a l.length l) (.var 100) % 18446744073709551616 = l.length := Nat.mod_eq_of_lt (show l.length < 18446744073709551616 by omega)
    exact @take_gt (rhoH w a l.length l) (.var 100) 40 true (by rw [e]; omega) (by omega) (by rw [e]; symm; exact decide_eq_true (by omega))
theorem topHash_walk (a0 : Option Addr) (len0 cap0 : Nat) (z0 : List Int) (w : World) (w0 : IsRow .u8 w a0 len0 cap0 z0) : Calls Tryz.prog 6 #[.slice a0 len0 cap0] w (fun e w' => e = .returned (.bool true) ∧ Below w.heap.size w w') := by
  obtain ⟨l, rfl, h1, h2, h3⟩ := isrow_rd w0
  exact hash_calls a0 l cap0 w h1 h2 h3
end Go.Proofs.YteefpemaeecicaaGreatDoor
