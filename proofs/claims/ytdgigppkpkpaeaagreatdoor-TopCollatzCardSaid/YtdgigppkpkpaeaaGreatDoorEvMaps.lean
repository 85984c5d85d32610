/- The library's maps at this dump: slices.Sorted over maps.Keys, maps.Clone; the layings are the kit's own tool's plain text, the names turned. No condition. -/
import Derived.Test.YtdgigppkpkpaeaaGreatDoorEvSeat
import Derived.Shelf.SlIter.Nil
import Derived.Shelf.SortM.Plain
import Derived.Shelf.SortM.SortNone
import Derived.Shelf.SlMaps.Clone
open Go Go.RowKit Go.Maps Go.Sort Go.Shelf Go.Proofs
namespace Go.Proofs.YtdgigppkpkpaeaaGreatDoor.Ev
def sh_keysA_ren : Go.Shelf.Ren := ⟨fun | 7 => 313 | 10 => 418 | n => n, fun | 23 => 368 | 26 => 9 | 3 => 104 | 28 => 411 | 0 => 0 | 27 => 410 | 33 => 294 | 4 => 4 | n => n, fun | n => n⟩
theorem sh_keysA : Go.Proofs.SlLaysZ.n7 Tryz.prog sh_keysA_ren := {
  mixed := by kernel_rfl
  f7 := ⟨Tryz.f313.name, by decide, Tryz.func313.trans (congrArg some (by kernel_rfl))⟩
  f10 := ⟨Tryz.f418.name, by decide, Tryz.func418.trans (congrArg some (by kernel_rfl))⟩
  t0 := Tryz.underlying0
  a0 := Tryz.isAgg0
  z0 := Tryz.sizeOf0
  v0 := Tryz.zeroValue0
  t4 := Tryz.underlying4
  a4 := Tryz.isAgg4
  z4 := Tryz.sizeOf4
  v4 := Tryz.zeroValue4
  t23 := Tryz.underlying368
  a23 := Tryz.isAgg368
  z23 := Tryz.sizeOf368
  v23 := Tryz.zeroValue368
  t26 := Tryz.underlying9
  a26 := Tryz.isAgg9
  z26 := Tryz.sizeOf9
  v26 := Tryz.zeroValue9
  t27 := Tryz.underlying410
  a27 := Tryz.isAgg410
  z27 := Tryz.sizeOf410
  v27 := Tryz.zeroValue410
  t28 := Tryz.underlying411
  a28 := Tryz.isAgg411
  z28 := Tryz.sizeOf411
  v28 := Tryz.zeroValue411
  t33 := Tryz.underlying294
  a33 := Tryz.isAgg294
  z33 := Tryz.sizeOf294
  v33 := Tryz.zeroValue294 }
def sh_sortedA_ren : Go.Shelf.Ren := ⟨fun | 6 => 312 | 8 => 416 | 9 => 417 | 11 => 474 | 13 => 476 | 12 => 475 | 23 => 521 | 24 => 364 | 14 => 512 | 15 => 513 | 16 => 514 | 17 => 515 | 18 => 516 | 19 => 517 | 20 => 518 | 21 => 519 | 22 => 520 | 25 => 547 | 26 => 548 | 27 => 549 | 28 => 550 | 29 => 551 | 30 => 552 | 31 => 563 | n => n, fun | 26 => 9 | 28 => 411 | 24 => 270 | 0 => 0 | 3 => 3 | 37 => 232 | 48 => 157 | 50 => 109 | 4 => 4 | 40 => 581 | 39 => 580 | 45 => 82 | 5 => 5 | 9 => 9 | 51 => 598 | 55 => 577 | 57 => 609 | 58 => 237 | 33 => 294 | n => n, fun | n => n⟩
theorem sh_sortedA : Go.Proofs.SlLaysZ.n6 Tryz.prog sh_sortedA_ren := {
  mixed := by kernel_rfl
  f6 := ⟨Tryz.f312.name, by decide, Tryz.func312.trans (congrArg some (by kernel_rfl))⟩
  f8 := ⟨Tryz.f416.name, by decide, Tryz.func416.trans (congrArg some (by kernel_rfl))⟩
  f11 := ⟨Tryz.f474.name, by decide, Tryz.func474.trans (congrArg some (by kernel_rfl))⟩
  t0 := Tryz.underlying0
  a0 := Tryz.isAgg0
  z0 := Tryz.sizeOf0
  v0 := Tryz.zeroValue0
  t24 := Tryz.underlying270
  a24 := Tryz.isAgg270
  z24 := Tryz.sizeOf270
  v24 := Tryz.zeroValue270
  t26 := Tryz.underlying9
  a26 := Tryz.isAgg9
  z26 := Tryz.sizeOf9
  v26 := Tryz.zeroValue9
  t28 := Tryz.underlying411
  a28 := Tryz.isAgg411
  z28 := Tryz.sizeOf411
  v28 := Tryz.zeroValue411
  i26 := by kernel_rfl }
def sh_sortA_ren : Go.Shelf.Ren := ⟨fun | 6 => 417 | 8 => 476 | 9 => 475 | 19 => 521 | 20 => 364 | 21 => 512 | 22 => 513 | 23 => 514 | 24 => 515 | 25 => 516 | 26 => 517 | 27 => 518 | 28 => 519 | 29 => 520 | 36 => 547 | 31 => 548 | 32 => 549 | 37 => 550 | 38 => 551 | 39 => 552 | 41 => 563 | n => n, fun | 27 => 270 | 29 => 9 | 3 => 3 | 32 => 232 | 26 => 270 | 0 => 0 | 44 => 157 | 46 => 109 | 4 => 4 | 36 => 581 | 35 => 580 | 41 => 82 | 5 => 5 | 9 => 9 | 53 => 598 | 57 => 577 | 63 => 609 | 64 => 237 | n => n, fun | n => n⟩
theorem sh_sortA : Go.Proofs.SlLaysM.n6 Tryz.prog sh_sortA_ren := {
  mixed := by kernel_rfl
  f6 := ⟨Tryz.f417.name, by decide, Tryz.func417.trans (congrArg some (by kernel_rfl))⟩
  f8 := Tryz.func476.trans (congrArg some (by kernel_rfl))
  f9 := ⟨Tryz.f475.name, by decide, Tryz.func475.trans (congrArg some (by kernel_rfl))⟩
  f19 := Tryz.func521.trans (congrArg some (by kernel_rfl))
  f20 := Tryz.func364.trans (congrArg some (by kernel_rfl))
  f21 := ⟨Tryz.f512.name, by decide, Tryz.func512.trans (congrArg some (by kernel_rfl))⟩
  f22 := ⟨Tryz.f513.name, by decide, Tryz.func513.trans (congrArg some (by kernel_rfl))⟩
  f23 := ⟨Tryz.f514.name, by decide, Tryz.func514.trans (congrArg some (by kernel_rfl))⟩
  f24 := ⟨Tryz.f515.name, by decide, Tryz.func515.trans (congrArg some (by kernel_rfl))⟩
  f25 := ⟨Tryz.f516.name, by decide, Tryz.func516.trans (congrArg some (by kernel_rfl))⟩
  f26 := ⟨Tryz.f517.name, by decide, Tryz.func517.trans (congrArg some (by kernel_rfl))⟩
  f27 := ⟨Tryz.f518.name, by decide, Tryz.func518.trans (congrArg some (by kernel_rfl))⟩
  f28 := ⟨Tryz.f519.name, by decide, Tryz.func519.trans (congrArg some (by kernel_rfl))⟩
  f29 := ⟨Tryz.f520.name, by decide, Tryz.func520.trans (congrArg some (by kernel_rfl))⟩
  f31 := Tryz.func548.trans (congrArg some (by kernel_rfl))
  f32 := Tryz.func549.trans (congrArg some (by kernel_rfl))
  f36 := ⟨Tryz.f547.name, by decide, Tryz.func547.trans (congrArg some (by kernel_rfl))⟩
  f37 := ⟨Tryz.f550.name, by decide, Tryz.func550.trans (congrArg some (by kernel_rfl))⟩
  f38 := ⟨Tryz.f551.name, by decide, Tryz.func551.trans (congrArg some (by kernel_rfl))⟩
  f39 := ⟨Tryz.f552.name, by decide, Tryz.func552.trans (congrArg some (by kernel_rfl))⟩
  f41 := ⟨Tryz.f563.name, by decide, Tryz.func563.trans (congrArg some (by kernel_rfl))⟩
  t0 := Tryz.underlying0
  a0 := Tryz.isAgg0
  z0 := Tryz.sizeOf0
  v0 := Tryz.zeroValue0
  t3 := Tryz.underlying3
  a3 := Tryz.isAgg3
  z3 := Tryz.sizeOf3
  v3 := Tryz.zeroValue3
  t4 := Tryz.underlying4
  a4 := Tryz.isAgg4
  z4 := Tryz.sizeOf4
  v4 := Tryz.zeroValue4
  t5 := Tryz.underlying5
  a5 := Tryz.isAgg5
  z5 := Tryz.sizeOf5
  v5 := Tryz.zeroValue5
  t9 := Tryz.underlying9
  a9 := Tryz.isAgg9
  z9 := Tryz.sizeOf9
  v9 := Tryz.zeroValue9
  t26 := Tryz.underlying270
  a26 := Tryz.isAgg270
  z26 := Tryz.sizeOf270
  v26 := Tryz.zeroValue270
  t27 := Tryz.underlying270
  a27 := Tryz.isAgg270
  z27 := Tryz.sizeOf270
  v27 := Tryz.zeroValue270
  t29 := Tryz.underlying9
  a29 := Tryz.isAgg9
  z29 := Tryz.sizeOf9
  v29 := Tryz.zeroValue9
  t32 := Tryz.underlying232
  a32 := Tryz.isAgg232
  z32 := Tryz.sizeOf232
  v32 := Tryz.zeroValue232
  t35 := Tryz.underlying580
  a35 := Tryz.isAgg580
  z35 := Tryz.sizeOf580
  v35 := Tryz.zeroValue580
  t36 := Tryz.underlying581
  a36 := Tryz.isAgg581
  z36 := Tryz.sizeOf581
  v36 := Tryz.zeroValue581
  t41 := Tryz.underlying82
  a41 := Tryz.isAgg82
  z41 := Tryz.sizeOf82
  v41 := Tryz.zeroValue82
  t44 := Tryz.underlying157
  a44 := Tryz.isAgg157
  z44 := Tryz.sizeOf157
  v44 := Tryz.zeroValue157
  t46 := Tryz.underlying109
  a46 := Tryz.isAgg109
  z46 := Tryz.sizeOf109
  v46 := Tryz.zeroValue109
  t53 := Tryz.underlying598
  a53 := Tryz.isAgg598
  z53 := Tryz.sizeOf598
  v53 := Tryz.zeroValue598
  t57 := Tryz.underlying577
  a57 := Tryz.isAgg577
  z57 := Tryz.sizeOf577
  v57 := Tryz.zeroValue577
  t63 := Tryz.underlying609
  a63 := Tryz.isAgg609
  z63 := Tryz.sizeOf609
  v63 := Tryz.zeroValue609
  t64 := Tryz.underlying237
  a64 := Tryz.isAgg237
  z64 := Tryz.sizeOf237
  v64 := Tryz.zeroValue237 }
def sh_cloneA_ren : Go.Shelf.Ren := ⟨fun | 5 => 281 | 7 => 369 | n => n, fun | 23 => 368 | 25 => 9 | 3 => 104 | 4 => 4 | 20 => 20 | n => n, fun | n => n⟩
theorem sh_cloneA : Go.Proofs.SlLaysW.n5 Tryz.prog sh_cloneA_ren := {
  mixed := by kernel_rfl
  f5 := ⟨Tryz.f281.name, by decide, Tryz.func281.trans (congrArg some (by kernel_rfl))⟩
  f7 := Tryz.func369.trans (congrArg some (by kernel_rfl))
  t4 := Tryz.underlying4
  a4 := Tryz.isAgg4
  z4 := Tryz.sizeOf4
  v4 := Tryz.zeroValue4
  t20 := Tryz.underlying20
  a20 := Tryz.isAgg20
  z20 := Tryz.sizeOf20
  v20 := Tryz.zeroValue20
  t23 := Tryz.underlying368
  a23 := Tryz.isAgg368
  z23 := Tryz.sizeOf368
  v23 := Tryz.zeroValue368 }
theorem sortsA (m : Nat) : AnyZ.SortsIn Tryz.prog sh_sortedA_ren Fence.wide m :=
  ⟨fun blk off cap ss W hH hblk hsz => callsIn_wide.2 (AnyM.slices_Sort_string sh_sortA blk off cap ss W hH hblk hsz),
   fun p cap W => callsIn_wide.2 (AnyM.slices_Sort_string_none sh_sortA p cap W)⟩
theorem sortedAt : SortedAt Tryz.prog 312 418 9 where
  enter := ⟨Tryz.f312, Tryz.func312, by kernel_rfl, by decide⟩
  str := Tryz.underlying9
  full := fun Bm b nn D w hBm hm hown hs => by
    have hseq : SeqGives Fence.wide 2 Tryz.prog 418 #[.pointer (some ⟨Bm, 0, none⟩)] encStr (fun ss => ss.Perm (strKeys D)) (Maps.size D) w :=
      AnyZ.keys_gives (ρ := sh_keysA_ren) { sh_keysA with } Fence.wide _ trivial rfl (by omega) Bm b nn D w hBm hm hown
    have h1 : (262144 : Nat) ≤ maxLen := by decide
    exact (callsIn_wide (n := 5)).1 (AnyZ.sorted_in sh_sortedA Fence.wide 5 trivial trivial trivial trivial rfl (by omega) (sortsA _) (enters_of Tryz.func417 (by kernel_rfl) rfl) 418 #[.pointer (some ⟨Bm, 0, none⟩)] trivial (enters_of Tryz.func418 (by kernel_rfl) rfl) _ _ (by omega) (by omega) _ hseq)
  empty := fun Bm w hBm hm => by
    have hseq : SeqGives Fence.wide 2 Tryz.prog 418 #[.pointer (some ⟨Bm, 0, none⟩)] encStr (fun ss : List (List UInt8) => ss = []) 0 w :=
      AnyZ.keys_gives_nil (ρ := sh_keysA_ren) { sh_keysA with } Fence.wide _ trivial rfl Bm w hBm hm
    have h := (callsIn_wide (n := 5)).1 (AnyZ.sorted_in sh_sortedA Fence.wide 5 trivial trivial trivial trivial rfl (by omega) (sortsA _) (enters_of Tryz.func417 (by kernel_rfl) rfl) 418 #[.pointer (some ⟨Bm, 0, none⟩)] trivial (enters_of Tryz.func418 (by kernel_rfl) rfl) _ 0 (Nat.zero_le _) (by omega) _ hseq)
    exact h.mono fun e w' ⟨v, ss, e1, e2, e3, e4, e5⟩ => ⟨by rw [e1, e4.2 e2], e5⟩
theorem cloneAt : CloneAt Tryz.prog 281 where
  enter := ⟨Tryz.f281, Tryz.func281, by kernel_rfl, by decide⟩
  full := fun b es clock w hb => AnyW.maps_Clone sh_cloneA b es clock w hb
  empty := fun w => AnyW.maps_Clone_nil sh_cloneA w
end Go.Proofs.YtdgigppkpkpaeaaGreatDoor.Ev
