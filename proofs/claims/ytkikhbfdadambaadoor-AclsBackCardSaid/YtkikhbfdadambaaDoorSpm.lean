/-
  strings.Split at one byte: the library's own contract of genSplit, in the machine's words.
-/
import Derived.Test.YtkikhbfdadambaaDoorLsb
import Derived.Test.YtkikhbfdadambaaDoorAbV
import Derived.Shelf.Strings.SplitCore
import Derived.Shelf.Strings.Search3
import Derived.Lib.SplitLaws
namespace Go.Proofs
open Go.Shelf Go.RowKit
def Tryd.laysGenSplit_ren : Go.Shelf.Ren := ⟨fun | 221 => 39 | 268 => 61 | 138 => 43 | 143 => 62 | 195 => 64 | 197 => 74 | 218 => 65 | 219 => 75 | 260 => 81 | 217 => 79 | 225 => 82 | 224 => 83 | 267 => 84 | 266 => 86 | 314 => 87 | n => n, fun | 9 => 9 | 3 => 3 | 31 => 43 | 4 => 4 | 0 => 0 | 105 => 114 | 21 => 21 | 5 => 5 | 46 => 22 | 119 => 118 | 139 => 121 | 138 => 120 | 146 => 112 | 51 => 111 | n => n, fun | 1 => 0 | 3 => 1 | 4 => 2 | n => n⟩
theorem Tryd.laysGenSplit : Go.Proofs.Lays.n221 Tryd.prog Tryd.laysGenSplit_ren := {
  mixed := by kernel_rfl
  f138 := Tryd.func43.trans (congrArg some (by kernel_rfl))
  f143 := Tryd.func62.trans (congrArg some (by kernel_rfl))
  f195 := Tryd.func64.trans (congrArg some (by kernel_rfl))
  f197 := Tryd.func74.trans (congrArg some (by kernel_rfl))
  f217 := Tryd.func79.trans (congrArg some (by kernel_rfl))
  f218 := Tryd.func65.trans (congrArg some (by kernel_rfl))
  f219 := Tryd.func75.trans (congrArg some (by kernel_rfl))
  f221 := Tryd.func39.trans (congrArg some (by kernel_rfl))
  f224 := Tryd.func83.trans (congrArg some (by kernel_rfl))
  f225 := Tryd.func82.trans (congrArg some (by kernel_rfl))
  f260 := Tryd.func81.trans (congrArg some (by kernel_rfl))
  f266 := Tryd.func86.trans (congrArg some (by kernel_rfl))
  f267 := Tryd.func84.trans (congrArg some (by kernel_rfl))
  f268 := Tryd.func61.trans (congrArg some (by kernel_rfl))
  f314 := Tryd.func87.trans (congrArg some (by kernel_rfl))
  t0 := Tryd.underlying0
  a0 := Tryd.isAgg0
  z0 := Tryd.sizeOf0
  v0 := Tryd.zeroValue0
  t3 := Tryd.underlying3
  a3 := Tryd.isAgg3
  z3 := Tryd.sizeOf3
  v3 := Tryd.zeroValue3
  t4 := Tryd.underlying4
  a4 := Tryd.isAgg4
  z4 := Tryd.sizeOf4
  v4 := Tryd.zeroValue4
  t5 := Tryd.underlying5
  a5 := Tryd.isAgg5
  z5 := Tryd.sizeOf5
  v5 := Tryd.zeroValue5
  t9 := Tryd.underlying9
  a9 := Tryd.isAgg9
  z9 := Tryd.sizeOf9
  v9 := Tryd.zeroValue9
  t21 := Tryd.underlying21
  a21 := Tryd.isAgg21
  z21 := Tryd.sizeOf21
  v21 := Tryd.zeroValue21
  t31 := Tryd.underlying43
  a31 := Tryd.isAgg43
  z31 := Tryd.sizeOf43
  v31 := Tryd.zeroValue43
  t46 := Tryd.underlying22
  a46 := Tryd.isAgg22
  z46 := Tryd.sizeOf22
  v46 := Tryd.zeroValue22
  t51 := Tryd.underlying111
  a51 := Tryd.isAgg111
  z51 := Tryd.sizeOf111
  v51 := Tryd.zeroValue111
  t105 := Tryd.underlying114
  a105 := Tryd.isAgg114
  z105 := Tryd.sizeOf114
  v105 := Tryd.zeroValue114
  t119 := Tryd.underlying118
  a119 := Tryd.isAgg118
  z119 := Tryd.sizeOf118
  t138 := Tryd.underlying120
  a138 := Tryd.isAgg120
  z138 := Tryd.sizeOf120
  v138 := Tryd.zeroValue120
  t139 := Tryd.underlying121
  a139 := Tryd.isAgg121
  z139 := Tryd.sizeOf121
  v139 := Tryd.zeroValue121
  t146 := Tryd.underlying112
  a146 := Tryd.isAgg112
  z146 := Tryd.sizeOf112
  v146 := Tryd.zeroValue112
  g1 := by kernel_rfl
  g3 := by kernel_rfl
  g4 := by kernel_rfl }
end Go.Proofs
namespace Go.Proofs.YtkikhbfdadambaaDoor.Ab
open Go.Shelf Go.RowKit
theorem gs_c (s : ByteArray) (c : UInt8) (w : World) (hs : s.size < 4294967281) : Calls Tryd.prog 39 #[.string s, .string ⟨#[c]⟩, .int .i64 0, .int .i64 (-1)] w fun e w' =>
    e = .returned (.slice (some ⟨w.heap.size, 0, none⟩) (splitT c s).length (Lib.countB s ⟨#[c]⟩ + 1)) ∧ w' = w.alloc (.cells (Lib.cellsOf (splitT c s) (Lib.countB s ⟨#[c]⟩ + 1)) 9) := by
  have h1 : 1 ≤ (ByteArray.mk #[c]).size := Nat.le_refl _
  have hle := Lib.countB_le ⟨#[c]⟩ h1 s.size s (Nat.le_refl _)
  have k := Any.strings_genSplit_core Tryd.laysGenSplit (by kernel_rfl) s ⟨#[c]⟩ 0 (-1) (Lib.countB s ⟨#[c]⟩ + 1) w hs h1 (Nat.zero_le _)
    (fun x cc _ => (Any.strings_Index_one { Tryd.laysGenSplit with } x c _).mono fun e w' ⟨he, hw⟩ => ⟨by
      rw [he]
      show _ = Ending.returned (Value.int .i64 (Lib.index x.data.toList [c]))
      rw [Lib.index_one], hw⟩)
    ((Any.strings_Count_one { Tryd.laysGenSplit with } s c w).mono fun e w' ⟨he, hw⟩ => ⟨by
      rw [he]
      show _ = Ending.returned (Value.int .i64 ((Lib.count s.data.toList [c] : Nat) : Int))
      rw [Lib.count_one]
      rfl, hw⟩)
    (by decide) (by decide) (by rw [if_pos (by decide)]; omega)
  rw [Nat.add_sub_cancel] at k
  exact k
theorem splitT_len (c : UInt8) (s : ByteArray) : (splitT c s).length = Lib.countB s ⟨#[c]⟩ + 1 := Lib.splitB_all ⟨#[c]⟩ (Nat.le_refl _) 0 _ s rfl
theorem split_cells {c : UInt8} {s : ByteArray} : Lib.cellsOf (splitT c s) (Lib.countB s ⟨#[c]⟩ + 1) = ((splitT c s).map Value.string).toArray := by
  rw [← splitT_len]
  exact Lib.cellsOf_full _
theorem gs_pure (s : ByteArray) (c : UInt8) (hs : s.size < 4294967281) : PureOK Tryd.prog 39 [.v (.string s), .v (.string ⟨#[c]⟩), .v (.int .i64 0), .v (.int .i64 (-1))] (.sl ((splitT c s).map eS)) true := by
  refine ⟨⟨_, Tryd.func39, by kernel_rfl, by kernel_rfl⟩, fun w M0 args hM hsz hargs => ?_⟩
  have e : args = #[.string s, .string ⟨#[c]⟩, .int .i64 0, .int .i64 (-1)] := by
    apply Array.ext
    · simpa using hsz
    · intro i h1 h2
      have hi : i < 4 := by simpa using h2
      obtain ⟨u, h3, h4⟩ := hargs i _ (List.getElem?_eq_getElem hi)
      rw [Array.getElem?_eq_getElem h1, Option.some.injEq] at h3
      rw [h3]
      rcases i with _ | _ | _ | _ | i
      · cases (show RC w _ (.v _) u from h4); rfl
      · cases (show RC w _ (.v _) u from h4); rfl
      · cases (show RC w _ (.v _) u from h4); rfl
      · cases (show RC w _ (.v _) u from h4); rfl
      · omega
  subst e
  refine (calls_dr (gs_c s c w hs) fun e w' h => ⟨_, h.1⟩).mono ?_
  rintro e w' ⟨⟨rfl, h2⟩, h3⟩
  rw [split_cells] at h2
  refine ⟨_, rfl, ⟨h2 ▸ (Below.refl _ w).alloc (Nat.le_refl _) _, h3⟩, ?_⟩
  show RC w' _ (.sl _) _
  have hl : ((splitT c s).map eS).length = (splitT c s).length := List.length_map _
  rw [← hl]
  have hw : w'.heap.size = w.heap.size + 1 := by rw [h2]; exact Array.size_push _
  refine .sl _ w.heap.size 0 _ 1 (fun i _ => ((splitT c s).map Value.string)[i]!) ⟨by omega, fun hm => Nat.lt_irrefl _ (hM _ hm), fun _ => Nat.le_refl _⟩ (by rw [hl, splitT_len]; exact Nat.le_refl _) (fun i cs h => ?_) (fun i j cs d h k => ?_) fun i j cs d h k => ?_
  · rw [List.getElem?_map] at h
    obtain ⟨x, _, rfl⟩ := Option.map_eq_some_iff.1 h
    rfl
  · rw [List.getElem?_map] at h
    obtain ⟨x, hx, rfl⟩ := Option.map_eq_some_iff.1 h
    have hj : j = 0 := by
      rcases j with _ | j
      · rfl
      · cases k
    subst hj
    have hi : i < (splitT c s).length := (List.getElem?_eq_some_iff.1 hx).1
    rw [h2, World.cell?_alloc_at _ _ _ _ rfl]
    simp [hi]
  · rw [List.getElem?_map] at h
    obtain ⟨x, hx, rfl⟩ := Option.map_eq_some_iff.1 h
    have hj : j = 0 := by
      rcases j with _ | j
      · rfl
      · cases k
    subst hj
    have hi : i < (splitT c s).length := (List.getElem?_eq_some_iff.1 hx).1
    have e1 : (splitT c s)[i] = x := (List.getElem?_eq_some_iff.1 hx).2
    cases k
    have e2 : ((splitT c s).map Value.string)[i]! = Value.string x := by simp [hi, e1]
    simp only [e2]
    exact .v _ rfl
/-- genSplit of all, at one byte. -/
def strings_genSplit (_n : Nat) (s sep : ByteArray) (sv k : Int) : Option (List ByteArray) :=
  match one sep with
  | some c => grd (decide (sv = 0)) <| grd (decide (k = -1)) <| grd (decide (s.size < 4294967281)) <| some (splitT c s)
  | none => none
theorem one_eq {t : ByteArray} {c : UInt8} (h : one t = some c) : t = ⟨#[c]⟩ := by
  unfold one at h
  split at h
  · rename_i hx
    cases h
    cases t with
    | mk a =>
      cases a with
      | mk l =>
        have hx : l = [c] := hx
        rw [hx]
  · cases h
theorem strings_genSplit_ok {n : Nat} {s sep : ByteArray} {sv k : Int} {r : List ByteArray} (H : strings_genSplit n s sep sv k = some r) : PureOK Tryd.prog 39 [D.v (.string s), D.v (.string sep), D.v (.int .i64 sv), D.v (.int .i64 k)] (D.sl (List.map eS r)) true := by
  unfold strings_genSplit at H
  split at H
  · rename_i c h
    obtain rfl := one_eq h
    obtain ⟨g1, H1⟩ := grd_inv H
    obtain ⟨g2, H2⟩ := grd_inv H1
    obtain ⟨g3, H3⟩ := grd_inv H2
    obtain rfl := of_decide_eq_true g1
    obtain rfl := of_decide_eq_true g2
    obtain rfl := Option.some.inj H3
    exact gs_pure s c (of_decide_eq_true g3)
  · cases H
end Go.Proofs.YtkikhbfdadambaaDoor.Ab
