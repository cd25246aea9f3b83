/-
 TreeDeep: the law's own reckoning, and the law. No program in sight.
-/
import Derived.Test.YtjkdbakgnnhdnaaTdq
namespace Go.Proofs.Ytjkdbakgnnhdnaa.Ab
open Go.RowKit
theorem an31 (t : Int) : IntKind.i64.wrap (an t 31 : Int) = ((an t 31 : Nat) : Int) := wrap_an _ _ (by decide)
theorem an31_le (t : Int) : an t 31 ≤ 31 := Nat.le_trans (an_le _ _) (by decide)
def mD (t : Int) : Nat := 190 + an t 31
theorem mD_lt (t : Int) : mD t < 222 := by have := an31_le t; unfold mD; omega
theorem mD_ge (t : Int) : 190 ≤ mD t := Nat.le_add_right _ _
theorem wrM (t : Int) : IntKind.i64.wrap (190 + IntKind.i64.wrap (an t 31 : Int)) = (mD t : Int) := by
 have := an31_le t
 rw [an31, show (190 : Int) + ((an t 31 : Nat) : Int) = ((190 + an t 31 : Nat) : Int) by omega]
 exact IntWalk.i64_in _ (by omega)
theorem wrM1 (t : Int) : IntKind.i64.wrap ((mD t : Int) - 1) = ((mD t - 1 : Nat) : Int) := by
 have := mD_lt t
 have := mD_ge t
 rw [show (mD t : Int) - 1 = ((mD t - 1 : Nat) : Int) by omega]
 exact IntWalk.i64_in _ (by omega)
theorem l1_some (t0 : Int) : ∀ (k i c : Nat) (T : List GTuple), i + k + 1 = mD t0 → k < c → T = (List.range i).map (fun i => tN i (i + 1)) → law10_TreeDeep_L1 nTd t0 c (T, (i : Int)) = some ((List.range (mD t0 - 1)).map fun i => tN i (i + 1))
 | 0, i, c, T, hi, hc, hT => by
  obtain ⟨c, rfl⟩ : ∃ k, c = k + 1 := ⟨c - 1, by omega⟩
  have := mD_lt t0
  unfold law10_TreeDeep_L1
  rw [wrM, w64a (by omega), decide_eq_false (by omega), if_neg (by decide), hT, show mD t0 - 1 = i by omega]
 | k + 1, i, c, T, hi, hc, hT => by
  obtain ⟨c, rfl⟩ : ∃ k, c = k + 1 := ⟨c - 1, by omega⟩
  have := mD_lt t0
  have hl : T.length = i := by rw [hT, List.length_map, List.length_range]
  unfold law10_TreeDeep_L1
  rw [wrM, w64a (by omega), decide_eq_true (by omega), if_pos rfl, c1S (by omega), Zo, c1S (by omega), Zo, appS (by rw [hl, List.length_singleton]; omega), Zo]
  refine l1_some t0 k (i + 1) c _ (by omega) (by omega) ?_
  rw [List.range_succ, List.map_append, ← hT]
  rfl
theorem expandD {m : Nat} {ring : Bool} (hm : m < 222) (h1 : 0 < m) : tree_Expand nTd typesG (rowsD m ring) ⟨bG, nmD 0⟩ bM = (refM nTd (gD m ring) nTd 1 ⟨[], 0, 0⟩ (rD 0)).map fun p => if p.2.e == 0 then (p.1, 0) else (nodeZ, p.2.e) := by
 unfold tree_Expand
 rw [ofD h1 hm, Zo]
 rfl
theorem law_TreeDeep (t0 : Int) (t1 : Bool) : law10_TreeDeep nTd t0 t1 = some true := by
 have hm := mD_lt t0
 have hg := mD_ge t0
 unfold law10_TreeDeep
 have hL := l1_some t0 (mD t0 - 1) 0 nTd [] (by omega) (by show _ < 2000000; omega) rfl
 rw [show law8_Types nTd ({ data := #[116, 121, 112, 101, 32, 117, 32, 116, 121, 112, 101, 32, 103, 32, 123, 32, 109, 58, 32, 117, 32, 124, 32, 103, 35, 109, 59, 32, 125] }) = some typesG from if_pos rfl, Zo]
 rw [show (law10_TreeDeep_L1 nTd t0 nTd ([], 0)) = some ((List.range (mD t0 - 1)).map fun i => tN i (i + 1)) from hL, Zo, wrM, wrM1, c1S (by omega), Zo, appS (by rw [List.length_map, List.length_range, List.length_singleton]; omega), Zo]
 have e0 : law10_TreeDeep_c1 nTd 0 = some (nmD 0) := c1S (i := 0) (by omega)
 have e1 : law10_TreeDeep_c1 nTd 1 = some (nmD 1) := c1S (i := 1) (by omega)
 rw [e0, e1]
 have hT : (if t1 = true then (some (nmD 1)).bind fun t47 => (some (nmD 0)).bind fun t50 => (app ((List.range (mD t0 - 1)).map (fun i => tN i (i + 1)) ++ [tA (mD t0 - 1)]) [(⟨(⟨{ data := #[103] }, t47⟩ : GObj), { data := #[109] }, (⟨{ data := #[103] }, t50, { data := #[109] }⟩ : GSub)⟩ : GTuple)]).bind fun l3 => some (true, l3) else some (false, (List.range (mD t0 - 1)).map (fun i => tN i (i + 1)) ++ [tA (mD t0 - 1)])) = some (t1, rowsD (mD t0) t1) := by
  cases t1 with
  | true =>
   rw [if_pos rfl, Zo, Zo, appS (by rw [List.length_append, List.length_map, List.length_range, List.length_singleton, List.length_singleton]; omega)]
   rfl
  | false =>
   rw [if_neg (by decide), rowsD]
   simp
 refine (congrArg (fun o : Option (Bool × List GTuple) => o.bind _) hT).trans ?_
 dsimp only [Zo]
 rw [show tree_Expand nTd typesG (rowsD (mD t0) t1) (⟨{ data := #[103] }, nmD 0⟩ : GObj) ({ data := #[109] }) = _ from expandD hm (by omega)]
 by_cases h2 : mD t0 ≤ 200
 ·obtain ⟨x, c', e1, e2, e3, e4⟩ := grow_ok (m := mD t0) (ring := t1) hm (by omega) h2 (mD t0 - 1) 0 nTd 0 [] (by omega) (by show _ < 2000000; omega) (by omega) (fun _ _ _ => rfl) (fun e => by omega)
  have e1' : refM nTd (gD (mD t0) t1) nTd 1 ⟨[], 0, 0⟩ (rD 0) = _ := e1
  have e4 := e4 nTd (by show _ < 2000000; omega)
  rw [e1', Option.map_some, Zo, decide_eq_false (by omega), if_neg (by decide)]
  rw [if_pos (by rfl)]
  dsimp only
  rw [if_pos (by rfl)]
  obtain ⟨k, r, ss, ks⟩ := x
  refine (congrArg (fun o : Option Bool => o.bind _) (show tree_Has nTd (⟨k, ⟨⟨r.obj.type_, r.obj.id_⟩, r.rel⟩, ss, ks⟩ : GNode) (⟨{ data := #[117] }, { data := #[97] }, ByteArray.empty⟩ : GSub) = some true from e3)).trans ?_
  rw [Zo, if_pos rfl]
  refine (congrArg (fun o : Option Bool => o.bind _) (show law10_backs nTd (⟨k, ⟨⟨r.obj.type_, r.obj.id_⟩, r.rel⟩, ss, ks⟩ : GNode) = _ from e4)).trans ?_
  rw [Zo, decide_eq_true (Nat.zero_le 1), Bool.and_true, if_pos (beq_self_eq_true t1)]
  rfl
 ·obtain ⟨x, c', e1⟩ := grow_deep (m := mD t0) (ring := t1) hm (by omega) 200 0 nTd 0 [] (by omega) (by show _ < 2000000; omega) (by omega) (fun _ _ _ => rfl) (fun e => by omega)
  have e1' : refM nTd (gD (mD t0) t1) nTd 1 ⟨[], 0, 0⟩ (rD 0) = _ := e1
  rw [e1', Option.map_some, Zo, decide_eq_true (by omega), if_pos rfl]
  rfl
theorem law_treeDeep_ex (t0 : Int) (t1 : Bool) (_ : (Lit.int .i64 t0).wf = true) (_ : True) : ∃ n, law10_TreeDeep n t0 t1 = some true := ⟨nTd, law_TreeDeep t0 t1⟩
end Go.Proofs.Ytjkdbakgnnhdnaa.Ab
