/- The library's maps at this dump: slices.Sorted over maps.Keys, maps.Clone; the layings are the kit's own tool's plain text, the names turned. No condition. -/
import Derived.Test.YteefpemaeecicaaGreatDoorExSeat
import Derived.Shelf.SlIter.Nil
import Derived.Shelf.SortM.Plain
import Derived.Shelf.SortM.SortNone
import Derived.Shelf.SlMaps.Clone
open Go Go.RowKit Go.Maps Go.Sort Go.Shelf Go.Proofs
namespace Go.Proofs.YteefpemaeecicaaGreatDoor.Ev
def sh_keysA_ren : Go.Shelf.Ren := ⟨fun | 7 => 364 | 10 => 455 | n => n, fun | 23 => 420 | 26 => 9 | 3 => 64 | 28 => 458 | 0 => 0 | 27 => 457 | 33 => 348 | 4 => 4 | n => n, fun | n => n⟩
theorem sh_keysA : Go.Proofs.SlLaysZ.n7 Tryz.prog sh_keysA_ren := {
  mixed := by kernel_rfl
  f7 := ⟨Tryz.f364.name, by decide, Tryz.func364.trans (congrArg some (by kernel_rfl))⟩
  f10 := ⟨Tryz.f455.name, by decide, Tryz.func455.trans (congrArg some (by kernel_rfl))⟩
  t0 := Tryz.underlying0
  a0 := Tryz.isAgg0
  z0 := Tryz.sizeOf0
  v0 := Tryz.zeroValue0
  t4 := Tryz.underlying4
  a4 := Tryz.isAgg4
  z4 := Tryz.sizeOf4
  v4 := Tryz.zeroValue4
  t23 := Tryz.underlying420
  a23 := Tryz.isAgg420
  z23 := Tryz.sizeOf420
  v23 := Tryz.zeroValue420
  t26 := Tryz.underlying9
  a26 := Tryz.isAgg9
  z26 := Tryz.sizeOf9
  v26 := Tryz.zeroValue9
  t27 := Tryz.underlying457
  a27 := Tryz.isAgg457
  z27 := Tryz.sizeOf457
  v27 := Tryz.zeroValue457
  t28 := Tryz.underlying458
  a28 := Tryz.isAgg458
  z28 := Tryz.sizeOf458
  v28 := Tryz.zeroValue458
  t33 := Tryz.underlying348
  a33 := Tryz.isAgg348
  z33 := Tryz.sizeOf348
  v33 := Tryz.zeroValue348 }
def sh_sortedA_ren : Go.Shelf.Ren := ⟨fun | 6 => 363 | 8 => 453 | 9 => 454 | 11 => 500 | 13 => 502 | 12 => 501 | 23 => 534 | 24 => 410 | 14 => 525 | 15 => 526 | 16 => 527 | 17 => 528 | 18 => 529 | 19 => 530 | 20 => 531 | 21 => 532 | 22 => 533 | 25 => 551 | 26 => 552 | 27 => 553 | 28 => 554 | 29 => 555 | 30 => 556 | 31 => 567 | n => n, fun | 26 => 9 | 28 => 458 | 24 => 325 | 0 => 0 | 3 => 3 | 37 => 80 | 48 => 203 | 50 => 76 | 4 => 4 | 40 => 593 | 39 => 592 | 45 => 99 | 5 => 5 | 9 => 9 | 51 => 603 | 55 => 589 | 57 => 614 | 58 => 285 | 33 => 348 | n => n, fun | n => n⟩
theorem sh_sortedA : Go.Proofs.SlLaysZ.n6 Tryz.prog sh_sortedA_ren := {
  mixed := by kernel_rfl
  f6 := ⟨Tryz.f363.name, by decide, Tryz.func363.trans (congrArg some (by kernel_rfl))⟩
  f8 := ⟨Tryz.f453.name, by decide, Tryz.func453.trans (congrArg some (by kernel_rfl))⟩
  f11 := ⟨Tryz.f500.name, by decide, Tryz.func500.trans (congrArg some (by kernel_rfl))⟩
  t0 := Tryz.underlying0
  a0 := Tryz.isAgg0
  z0 := Tryz.sizeOf0
  v0 := Tryz.zeroValue0
  t24 := Tryz.underlying325
  a24 := Tryz.isAgg325
  z24 := Tryz.sizeOf325
  v24 := Tryz.zeroValue325
  t26 := Tryz.underlying9
  a26 := Tryz.isAgg9
  z26 := Tryz.sizeOf9
  v26 := Tryz.zeroValue9
  t28 := Tryz.underlying458
  a28 := Tryz.isAgg458
  z28 := Tryz.sizeOf458
  v28 := Tryz.zeroValue458
  i26 := by kernel_rfl }
def sh_sortA_ren : Go.Shelf.Ren := ⟨fun | 6 => 454 | 8 => 502 | 9 => 501 | 19 => 534 | 20 => 410 | 21 => 525 | 22 => 526 | 23 => 527 | 24 => 528 | 25 => 529 | 26 => 530 | 27 => 531 | 28 => 532 | 29 => 533 | 36 => 551 | 31 => 552 | 32 => 553 | 37 => 554 | 38 => 555 | 39 => 556 | 41 => 567 | n => n, fun | 27 => 325 | 29 => 9 | 3 => 3 | 32 => 80 | 26 => 325 | 0 => 0 | 44 => 203 | 46 => 76 | 4 => 4 | 36 => 593 | 35 => 592 | 41 => 99 | 5 => 5 | 9 => 9 | 53 => 603 | 57 => 589 | 63 => 614 | 64 => 285 | n => n, fun | n => n⟩
theorem sh_sortA : Go.Proofs.SlLaysM.n6 Tryz.prog sh_sortA_ren := {
  mixed := by kernel_rfl
  f6 := ⟨Tryz.f454.name, by decide, Tryz.func454.trans (congrArg some (by kernel_rfl))⟩
  f8 := Tryz.func502.trans (congrArg some (by kernel_rfl))
  f9 := ⟨Tryz.f501.name, by decide, Tryz.func501.trans (congrArg some (by kernel_rfl))⟩
  f19 := Tryz.func534.trans (congrArg some (by kernel_rfl))
  f20 := Tryz.func410.trans (congrArg some (by kernel_rfl))
  f21 := ⟨Tryz.f525.name, by decide, Tryz.func525.trans (congrArg some (by kernel_rfl))⟩
  f22 := ⟨Tryz.f526.name, by decide, Tryz.func526.trans (congrArg some (by kernel_rfl))⟩
  f23 := ⟨Tryz.f527.name, by decide, Tryz.func527.trans (congrArg some (by kernel_rfl))⟩
  f24 := ⟨Tryz.f528.name, by decide, Tryz.func528.trans (congrArg some (by kernel_rfl))⟩
  f25 := ⟨Tryz.f529.name, by decide, Tryz.func529.trans (congrArg some (by kernel_rfl))⟩
  f26 := ⟨Tryz.f530.name, by decide, Tryz.func530.trans (congrArg some (by kernel_rfl))⟩
  f27 := ⟨Tryz.f531.name, by decide, Tryz.func531.trans (congrArg some (by kernel_rfl))⟩
  f28 := ⟨Tryz.f532.name, by decide, Tryz.func532.trans (congrArg some (by kernel_rfl))⟩
  f29 := ⟨Tryz.f533.name, by decide, Tryz.func533.trans (congrArg some (by kernel_rfl))⟩
  f31 := Tryz.func552.trans (congrArg some (by kernel_rfl))
  f32 := Tryz.func553.trans (congrArg some (by kernel_rfl))
  f36 := ⟨Tryz.f551.name, by decide, Tryz.func551.trans (congrArg some (by kernel_rfl))⟩
  f37 := ⟨Tryz.f554.name, by decide, Tryz.func554.trans (congrArg some (by kernel_rfl))⟩
  f38 := ⟨Tryz.f555.name, by decide, Tryz.func555.trans (congrArg some (by kernel_rfl))⟩
  f39 := ⟨Tryz.f556.name, by decide, Tryz.func556.trans (congrArg some (by kernel_rfl))⟩
  f41 := ⟨Tryz.f567.name, by decide, Tryz.func567.trans (congrArg some (by kernel_rfl))⟩
  t0 := Tryz.underlying0
  a0 := Tryz.isAgg0
  z0 := Tryz.sizeOf0
  v0 := Tryz.zeroValue0
  t3 := Tryz.underlying3
  a3 := Tryz.isAgg3
  z3 := Tryz.sizeOf3
  v3 := Tryz.zeroValue3
  t4 := Tryz.underlying4
  a4 := Tryz.isAgg4
  z4 := Tryz.sizeOf4
  v4 := Tryz.zeroValue4
  t5 := Tryz.underlying5
  a5 := Tryz.isAgg5
  z5 := Tryz.sizeOf5
  v5 := Tryz.zeroValue5
  t9 := Tryz.underlying9
  a9 := Tryz.isAgg9
  z9 := Tryz.sizeOf9
  v9 := Tryz.zeroValue9
  t26 := Tryz.underlying325
  a26 := Tryz.isAgg325
  z26 := Tryz.sizeOf325
  v26 := Tryz.zeroValue325
  t27 := Tryz.underlying325
  a27 := Tryz.isAgg325
  z27 := Tryz.sizeOf325
  v27 := Tryz.zeroValue325
  t29 := Tryz.underlying9
  a29 := Tryz.isAgg9
  z29 := Tryz.sizeOf9
  v29 := Tryz.zeroValue9
  t32 := Tryz.underlying80
  a32 := Tryz.isAgg80
  z32 := Tryz.sizeOf80
  v32 := Tryz.zeroValue80
  t35 := Tryz.underlying592
  a35 := Tryz.isAgg592
  z35 := Tryz.sizeOf592
  v35 := Tryz.zeroValue592
  t36 := Tryz.underlying593
  a36 := Tryz.isAgg593
  z36 := Tryz.sizeOf593
  v36 := Tryz.zeroValue593
  t41 := Tryz.underlying99
  a41 := Tryz.isAgg99
  z41 := Tryz.sizeOf99
  v41 := Tryz.zeroValue99
  t44 := Tryz.underlying203
  a44 := Tryz.isAgg203
  z44 := Tryz.sizeOf203
  v44 := Tryz.zeroValue203
  t46 := Tryz.underlying76
  a46 := Tryz.isAgg76
  z46 := Tryz.sizeOf76
  v46 := Tryz.zeroValue76
  t53 := Tryz.underlying603
  a53 := Tryz.isAgg603
  z53 := Tryz.sizeOf603
  v53 := Tryz.zeroValue603
  t57 := Tryz.underlying589
  a57 := Tryz.isAgg589
  z57 := Tryz.sizeOf589
  v57 := Tryz.zeroValue589
  t63 := Tryz.underlying614
  a63 := Tryz.isAgg614
  z63 := Tryz.sizeOf614
  v63 := Tryz.zeroValue614
  t64 := Tryz.underlying285
  a64 := Tryz.isAgg285
  z64 := Tryz.sizeOf285
  v64 := Tryz.zeroValue285 }
def sh_cloneA_ren : Go.Shelf.Ren := ⟨fun | 5 => 336 | 7 => 415 | n => n, fun | 23 => 420 | 25 => 9 | 3 => 64 | 4 => 4 | 20 => 20 | n => n, fun | n => n⟩
theorem sh_cloneA : Go.Proofs.SlLaysW.n5 Tryz.prog sh_cloneA_ren := {
  mixed := by kernel_rfl
  f5 := ⟨Tryz.f336.name, by decide, Tryz.func336.trans (congrArg some (by kernel_rfl))⟩
  f7 := Tryz.func415.trans (congrArg some (by kernel_rfl))
  t4 := Tryz.underlying4
  a4 := Tryz.isAgg4
  z4 := Tryz.sizeOf4
  v4 := Tryz.zeroValue4
  t20 := Tryz.underlying20
  a20 := Tryz.isAgg20
  z20 := Tryz.sizeOf20
  v20 := Tryz.zeroValue20
  t23 := Tryz.underlying420
  a23 := Tryz.isAgg420
  z23 := Tryz.sizeOf420
  v23 := Tryz.zeroValue420 }
theorem sortsA (m : Nat) : AnyZ.SortsIn Tryz.prog sh_sortedA_ren Fence.wide m :=
  ⟨fun blk off cap ss W hH hblk hsz => callsIn_wide.2 (AnyM.slices_Sort_string sh_sortA blk off cap ss W hH hblk hsz),
   fun p cap W => callsIn_wide.2 (AnyM.slices_Sort_string_none sh_sortA p cap W)⟩
theorem sortedAt : SortedAt Tryz.prog 363 455 9 where
  enter := ⟨Tryz.f363, Tryz.func363, by kernel_rfl, by decide⟩
  str := Tryz.underlying9
  full := fun Bm b nn D w hBm hm hown hs => by
    have hseq : SeqGives Fence.wide 2 Tryz.prog 455 #[.pointer (some ⟨Bm, 0, none⟩)] encStr (fun ss => ss.Perm (strKeys D)) (Maps.size D) w :=
      AnyZ.keys_gives (ρ := sh_keysA_ren) { sh_keysA with } Fence.wide _ trivial rfl (by omega) Bm b nn D w hBm hm hown
    have h1 : (262144 : Nat) ≤ maxLen := by decide
    exact (callsIn_wide (n := 5)).1 (AnyZ.sorted_in sh_sortedA Fence.wide 5 trivial trivial trivial trivial rfl (by omega) (sortsA _) (enters_of Tryz.func454 (by kernel_rfl) rfl) 455 #[.pointer (some ⟨Bm, 0, none⟩)] trivial (enters_of Tryz.func455 (by kernel_rfl) rfl) _ _ (by omega) (by omega) _ hseq)
  empty := fun Bm w hBm hm => by
    have hseq : SeqGives Fence.wide 2 Tryz.prog 455 #[.pointer (some ⟨Bm, 0, none⟩)] encStr (fun ss : List (List UInt8) => ss = []) 0 w :=
      AnyZ.keys_gives_nil (ρ := sh_keysA_ren) { sh_keysA with } Fence.wide _ trivial rfl Bm w hBm hm
    have h := (callsIn_wide (n := 5)).1 (AnyZ.sorted_in sh_sortedA Fence.wide 5 trivial trivial trivial trivial rfl (by omega) (sortsA _) (enters_of Tryz.func454 (by kernel_rfl) rfl) 455 #[.pointer (some ⟨Bm, 0, none⟩)] trivial (enters_of Tryz.func455 (by kernel_rfl) rfl) _ 0 (Nat.zero_le _) (by omega) _ hseq)
    exact h.mono fun e w' ⟨v, ss, e1, e2, e3, e4, e5⟩ => ⟨by rw [e1, e4.2 e2], e5⟩
theorem cloneAt : CloneAt Tryz.prog 336 where
  enter := ⟨Tryz.f336, Tryz.func336, by kernel_rfl, by decide⟩
  full := fun b es clock w hb => AnyW.maps_Clone sh_cloneA b es clock w hb
  empty := fun w => AnyW.maps_Clone_nil sh_cloneA w
end Go.Proofs.YteefpemaeecicaaGreatDoor.Ev
