/-
 strings.Split at one byte: the library's own contract of genSplit, in the machine's words.
-/
import Derived.Test.YtgmhbmcdlkajdaaGreatDoorStp
import Derived.Test.YtgmhbmcdlkajdaaGreatDoorAbV
import Derived.Shelf.Strings.SplitCore
import Derived.Shelf.Strings.Search3
import Derived.Lib.SplitLaws
namespace Go.Proofs
open Go.Shelf Go.RowKit
def Tryz.laysGenSplit_ren : Go.Shelf.Ren := ⟨fun | 221 => 97 | 268 => 116 | 138 => 117 | 143 => 118 | 195 => 132 | 197 => 133 | 218 => 134 | 219 => 135 | 260 => 140 | 217 => 141 | 225 => 142 | 224 => 143 | 267 => 144 | 266 => 147 | 314 => 148 | n => n, fun | 9 => 9 | 3 => 3 | 31 => 33 | 4 => 4 | 0 => 0 | 105 => 151 | 21 => 21 | 5 => 5 | 46 => 29 | 119 => 158 | 139 => 161 | 138 => 160 | 146 => 134 | 51 => 129 | n => n, fun | 1 => 0 | 3 => 1 | 4 => 2 | n => n⟩
theorem Tryz.laysGenSplit : Go.Proofs.Lays.n221 Tryz.prog Tryz.laysGenSplit_ren := {
 mixed := by kernel_rfl
 f138 := Tryz.func117.trans (congrArg some (by kernel_rfl))
 f143 := Tryz.func118.trans (congrArg some (by kernel_rfl))
 f195 := Tryz.func132.trans (congrArg some (by kernel_rfl))
 f197 := Tryz.func133.trans (congrArg some (by kernel_rfl))
 f217 := Tryz.func141.trans (congrArg some (by kernel_rfl))
 f218 := Tryz.func134.trans (congrArg some (by kernel_rfl))
 f219 := Tryz.func135.trans (congrArg some (by kernel_rfl))
 f221 := Tryz.func97.trans (congrArg some (by kernel_rfl))
 f224 := Tryz.func143.trans (congrArg some (by kernel_rfl))
 f225 := Tryz.func142.trans (congrArg some (by kernel_rfl))
 f260 := Tryz.func140.trans (congrArg some (by kernel_rfl))
 f266 := Tryz.func147.trans (congrArg some (by kernel_rfl))
 f267 := Tryz.func144.trans (congrArg some (by kernel_rfl))
 f268 := Tryz.func116.trans (congrArg some (by kernel_rfl))
 f314 := Tryz.func148.trans (congrArg some (by kernel_rfl))
 t0 := Tryz.underlying0
 a0 := Tryz.isAgg0
 z0 := Tryz.sizeOf0
 v0 := Tryz.zeroValue0
 t3 := Tryz.underlying3
 a3 := Tryz.isAgg3
 z3 := Tryz.sizeOf3
 v3 := Tryz.zeroValue3
 t4 := Tryz.underlying4
 a4 := Tryz.isAgg4
 z4 := Tryz.sizeOf4
 v4 := Tryz.zeroValue4
 t5 := Tryz.underlying5
 a5 := Tryz.isAgg5
 z5 := Tryz.sizeOf5
 v5 := Tryz.zeroValue5
 t9 := Tryz.underlying9
 a9 := Tryz.isAgg9
 z9 := Tryz.sizeOf9
 v9 := Tryz.zeroValue9
 t21 := Tryz.underlying21
 a21 := Tryz.isAgg21
 z21 := Tryz.sizeOf21
 v21 := Tryz.zeroValue21
 t31 := Tryz.underlying33
 a31 := Tryz.isAgg33
 z31 := Tryz.sizeOf33
 v31 := Tryz.zeroValue33
 t46 := Tryz.underlying29
 a46 := Tryz.isAgg29
 z46 := Tryz.sizeOf29
 v46 := Tryz.zeroValue29
 t51 := Tryz.underlying129
 a51 := Tryz.isAgg129
 z51 := Tryz.sizeOf129
 v51 := Tryz.zeroValue129
 t105 := Tryz.underlying151
 a105 := Tryz.isAgg151
 z105 := Tryz.sizeOf151
 v105 := Tryz.zeroValue151
 t119 := Tryz.underlying158
 a119 := Tryz.isAgg158
 z119 := Tryz.sizeOf158
 t138 := Tryz.underlying160
 a138 := Tryz.isAgg160
 z138 := Tryz.sizeOf160
 v138 := Tryz.zeroValue160
 t139 := Tryz.underlying161
 a139 := Tryz.isAgg161
 z139 := Tryz.sizeOf161
 v139 := Tryz.zeroValue161
 t146 := Tryz.underlying134
 a146 := Tryz.isAgg134
 z146 := Tryz.sizeOf134
 v146 := Tryz.zeroValue134
 g1 := by kernel_rfl
 g3 := by kernel_rfl
 g4 := by kernel_rfl }
end Go.Proofs
namespace Go.Proofs.YtgmhbmcdlkajdaaGreatDoor.Ab
open Go.Shelf Go.RowKit
def splitT (c : UInt8) (s : ByteArray) : List ByteArray := Lib.splitB ⟨#[c]⟩ 0 (Lib.countB s ⟨#[c]⟩) s
theorem gs_c (s : ByteArray) (c : UInt8) (w : World) (hs : s.size < 4294967281) : Calls Tryz.prog 97 #[.string s, .string ⟨#[c]⟩, .int .i64 0, .int .i64 (-1)] w fun e w' =>
  e = .returned (.slice (some ⟨w.heap.size, 0, none⟩) (splitT c s).length (Lib.countB s ⟨#[c]⟩ + 1)) ∧ w' = w.alloc (.cells (Lib.cellsOf (splitT c s) (Lib.countB s ⟨#[c]⟩ + 1)) 9) := by
 have h1 : 1 ≤ (ByteArray.mk #[c]).size := Nat.le_refl _
 have hle := Lib.countB_le ⟨#[c]⟩ h1 s.size s (Nat.le_refl _)
 have k := Any.strings_genSplit_core Tryz.laysGenSplit (by kernel_rfl) s ⟨#[c]⟩ 0 (-1) (Lib.countB s ⟨#[c]⟩ + 1) w hs h1 (Nat.zero_le _)
  (fun x cc _ => (Any.strings_Index_one { Tryz.laysGenSplit with } x c _).mono fun e w' ⟨he, hw⟩ => ⟨by
   rw [he]
   show _ = Ending.returned (Value.int .i64 (Lib.index x.data.toList [c]))
   rw [Lib.index_one], hw⟩)
  ((Any.strings_Count_one { Tryz.laysGenSplit with } s c w).mono fun e w' ⟨he, hw⟩ => ⟨by
   rw [he]
   show _ = Ending.returned (Value.int .i64 ((Lib.count s.data.toList [c] : Nat) : Int))
   rw [Lib.count_one]
   rfl, hw⟩)
  (by decide) (by decide) (by rw [if_pos (by decide)]; omega)
 rw [Nat.add_sub_cancel] at k
 exact k
theorem splitT_len (c : UInt8) (s : ByteArray) : (splitT c s).length = Lib.countB s ⟨#[c]⟩ + 1 := Lib.splitB_all ⟨#[c]⟩ (Nat.le_refl _) 0 _ s rfl
theorem split_cells {c : UInt8} {s : ByteArray} : Lib.cellsOf (splitT c s) (Lib.countB s ⟨#[c]⟩ + 1) = ((splitT c s).map Value.string).toArray := by
 rw [← splitT_len]
 exact Lib.cellsOf_full _
theorem gs_pure (s : ByteArray) (c : UInt8) (hs : s.size < 4294967281) : PureOK Tryz.prog 97 [.v (.string s), .v (.string ⟨#[c]⟩), .v (.int .i64 0), .v (.int .i64 (-1))] (.sl ((splitT c s).map eS)) true := by
 refine ⟨⟨_, Tryz.func97, by kernel_rfl, by kernel_rfl⟩, fun w M0 args hM hsz hargs => ?_⟩
 have e : args = #[.string s, .string ⟨#[c]⟩, .int .i64 0, .int .i64 (-1)] := by
  apply Array.ext
  ·simpa using hsz
  ·intro i h1 h2
   have hi : i < 4 := by simpa using h2
   obtain ⟨u, h3, h4⟩ := hargs i _ (List.getElem?_eq_getElem hi)
   rw [Array.getElem?_eq_getElem h1, Option.some.injEq] at h3
   rw [h3]
   rcases i with _ | _ | _ | _ | i
   ·cases (show RC w _ (.v _) u from h4); rfl
   ·cases (show RC w _ (.v _) u from h4); rfl
   ·cases (show RC w _ (.v _) u from h4); rfl
   ·cases (show RC w _ (.v _) u from h4); rfl
   ·omega
 subst e
 refine (calls_dr (gs_c s c w hs) fun e w' h => ⟨_, h.1⟩).mono ?_
 rintro e w' ⟨⟨rfl, h2⟩, h3⟩
 rw [split_cells] at h2
 refine ⟨_, rfl, ⟨h2 ▸ (Below.refl _ w).alloc (Nat.le_refl _) _, h3⟩, ?_⟩
 show RC w' _ (.sl _) _
 have hl : ((splitT c s).map eS).length = (splitT c s).length := List.length_map _
 rw [← hl]
 have hw : w'.heap.size = w.heap.size + 1 := by rw [h2]; exact Array.size_push _
 refine .sl _ w.heap.size 0 _ 1 (fun i _ => ((splitT c s).map Value.string)[i]!) ⟨by omega, fun hm => Nat.lt_irrefl _ (hM _ hm), fun _ => Nat.le_refl _⟩ (by rw [hl, splitT_len]; exact Nat.le_refl _) (fun i cs h => ?_) (fun i j cs d h k => ?_) fun i j cs d h k => ?_
 ·rw [List.getElem?_map] at h
  obtain ⟨x, _, rfl⟩ := Option.map_eq_some_iff.1 h
  rfl
 ·rw [List.getElem?_map] at h
  obtain ⟨x, hx, rfl⟩ := Option.map_eq_some_iff.1 h
  have hj : j = 0 := by
   rcases j with _ | j
   ·rfl
   ·cases k
  subst hj
  have hi : i < (splitT c s).length := (List.getElem?_eq_some_iff.1 hx).1
  rw [h2, World.cell?_alloc_at _ _ _ _ rfl]
  simp [hi]
 ·rw [List.getElem?_map] at h
  obtain ⟨x, hx, rfl⟩ := Option.map_eq_some_iff.1 h
  have hj : j = 0 := by
   rcases j with _ | j
   ·rfl
   ·cases k
  subst hj
  have hi : i < (splitT c s).length := (List.getElem?_eq_some_iff.1 hx).1
  have e1 : (splitT c s)[i] = x := (List.getElem?_eq_some_iff.1 hx).2
  cases k
  have e2 : ((splitT c s).map Value.string)[i]! = Value.string x := by simp [hi, e1]
  simp only [e2]
  exact .v _ rfl
def strings_genSplit (_n : Nat) (s sep : ByteArray) (sv k : Int) : Option (List ByteArray) :=
 match one sep with
 | some c => grd (decide (sv = 0)) <| grd (decide (k = -1)) <| grd (decide (s.size < 4294967281)) <| some (splitT c s)
 | none => none
theorem one_eq {t : ByteArray} {c : UInt8} (h : one t = some c) : t = ⟨#[c]⟩ := by
 unfold one at h
 split at h
 ·rename_i hx
  cases h
  cases t with
  | mk a =>
   cases a with
   | mk l =>
    have hx : l = [c] := hx
    rw [hx]
 ·cases h
theorem strings_genSplit_ok {n : Nat} {s sep : ByteArray} {sv k : Int} {r : List ByteArray} (H : strings_genSplit n s sep sv k = some r) : PureOK Tryz.prog 97 [D.v (.string s), D.v (.string sep), D.v (.int .i64 sv), D.v (.int .i64 k)] (D.sl (List.map eS r)) true := by
 unfold strings_genSplit at H
 split at H
 ·rename_i c h
  obtain rfl := one_eq h
  obtain ⟨g1, H1⟩ := grd_inv H
  obtain ⟨g2, H2⟩ := grd_inv H1
  obtain ⟨g3, H3⟩ := grd_inv H2
  obtain rfl := of_decide_eq_true g1
  obtain rfl := of_decide_eq_true g2
  obtain rfl := Option.some.inj H3
  exact gs_pure s c (of_decide_eq_true g3)
 ·cases H
end Go.Proofs.YtgmhbmcdlkajdaaGreatDoor.Ab
