/-
  RowsTells: what its functions answer. No program in sight.
-/
import Derived.Test.YtdckfddlcmkdlaaRtc
import Derived.Test.YtdckfddlcmkdlaaBi
namespace Go.Proofs.Ytdckfddlcmkdlaa.Ab
open Go.RowKit
theorem tupE (x y : GTuple) : ((x.obj.type_ == y.obj.type_) && ((x.obj.id_ == y.obj.id_) && ((x.rel == y.rel) && ((x.sub_.type_ == y.sub_.type_) && ((x.sub_.id_ == y.sub_.id_) && (x.sub_.rel == y.sub_.rel)))))) = decide (x = y) := by
  obtain ⟨⟨a, b⟩, c, ⟨d, e, f⟩⟩ := x
  obtain ⟨⟨a', b'⟩, c', ⟨d', e', f'⟩⟩ := y
  have e : ∀ a b : ByteArray, (a == b) = decide (a = b) := fun a b => by
    cases a; cases b
    rename_i a b
    show (a == b) = _
    rw [Bool.eq_iff_iff]; simp
  simp only [e, GTuple.mk.injEq, GObj.mk.injEq, GSub.mk.injEq, Bool.decide_and, Bool.and_assoc]
theorem less_some {n : Nat} (hn : 10 < n) (x y : GTuple) : tupl_Less n x y = some (tO.lt x y) := by
  unfold tupl_Less
  rw [compare_some hn, Option.bind_some]
  rfl
theorem idx_lt {α : Type} {xs : List α} {v : Int} (k : Nat) (hv : v = (k : Int)) (h : k < xs.length) : ∃ x, idx xs v = some x := ⟨_, hv ▸ idxS h⟩
/-! ### one set without another -/
theorem wo_drop {n : Nat} (hn : 10 < n) (x : GTuple) : ∀ (c : Nat) (b out : List GTuple), b.length < c → b.length < 4611686018427387904 → rows_without_L2 n x c (b, out) = some (b.dropWhile fun y => tO.lt y x, out)
  | 0, _, _, h, _ => by omega
  | c + 1, [], out, _, _ => by
    unfold rows_without_L2
    rfl
  | c + 1, y :: b, out, h, hb => by
    have ih := wo_drop hn x c b out
    rw [List.length_cons] at h hb
    have e1 : idx (y :: b) 0 = some y := idxS (xs := y :: b) (k := 0) (by simp)
    have e2 : slc (y :: b) 1 ((y :: b).length : Int) = some b := by
      have := slcS (xs := y :: b) (a := 1) (b := (y :: b).length) (by simp) (Nat.le_refl _)
      rw [List.take_length] at this
      exact this
    unfold rows_without_L2
    rw [show decide ((0 : Int) < ((y :: b).length : Int)) = true from decide_eq_true (by rw [List.length_cons]; omega), if_pos rfl, e1, Option.bind_some, less_some hn, Option.bind_some, List.dropWhile_cons]
    cases tO.lt y x with
    | true => rw [if_pos rfl, if_pos rfl, e2, Option.bind_some, ih (by omega) (by omega)]
    | false => rw [if_neg (by decide), if_neg (by decide)]
theorem wo_fold {n : Nat} (hn : 10 < n) (a0 : List GTuple) : ∀ (a b out : List GTuple), b.length < n → b.length < 4611686018427387904 → out.length + a.length ≤ 4294967296 → foldK (rows_without_L1_f n a0) (rows_without_L1_e n a0) a (b, out) = some (out ++ wo tO a b)
  | [], b, out, _, _, _ => by
    show rows_without_L1_e n a0 (b, out) = _
    rw [wo, List.append_nil]
    rfl
  | x :: a, b, out, h1, h2, h3 => by
    have ih := wo_fold hn a0 a (b.dropWhile fun y => tO.lt y x)
    have hd : (b.dropWhile fun y => tO.lt y x).length ≤ b.length := (List.dropWhile_sublist _).length_le
    rw [List.length_cons] at h3
    show rows_without_L1_f n a0 (b, out) x (foldK (rows_without_L1_f n a0) (rows_without_L1_e n a0) a) = _
    revert ih
    generalize foldK (rows_without_L1_f n a0) (rows_without_L1_e n a0) a = K
    intro ih
    unfold rows_without_L1_f
    dsimp only
    rw [wo_drop hn x n b out h1 h2, Option.bind_some, wo]
    dsimp only
    generalize hg : b.dropWhile (fun y => tO.lt y x) = d at *
    cases d with
    | nil =>
      rw [if_pos (by rfl), appS (by simp; omega), Option.bind_some, ih _ (by omega) (by omega) (by simp; omega), if_neg (by simp), List.append_assoc]
      rfl
    | cons y r =>
      rw [if_neg (by simp; omega), show idx (y :: r) 0 = some y from idxS (xs := y :: r) (k := 0) (by simp), Option.bind_some, tupE, List.head?_cons]
      by_cases e : y = x
      · subst e
        rw [decide_eq_true rfl, if_pos rfl, if_pos rfl, ih _ (by omega) (by omega) (by omega)]
      · rw [decide_eq_false e, if_neg (by decide), if_neg (by simpa using e), appS (by simp; omega), Option.bind_some, ih _ (by omega) (by omega) (by simp; omega), List.append_assoc]
        rfl
/-- One set, what is in the other struck. -/
def subT (a b : List GTuple) : List GTuple := a.filter fun x => decide (x ∉ b)
theorem without_some {n : Nat} (hn : 10 < n) {a b : List GTuple} (ha : tO.Rises a) (hb : tO.Rises b) (h1 : a.length ≤ 4294967296) (h2 : b.length ≤ 4294967296) (h3 : a.length < n) (h4 : b.length < n) : rows_without n a b = some (subT a b) := by
  unfold rows_without
  have h := rows_without_L1_list n a (by omega) n (b, []) 0 (by omega) (by omega)
  have h' : rows_without_L1 n a n (b, [], 0) = _ := h
  rw [h', List.drop_zero, wo_fold hn a a b [] h4 (by omega) (by simpa using h1), Option.bind_some, wo_eq tO ha hb]
  rfl
theorem of_some {n : Nat} {l : List GTuple} (h : l.length ≤ 4294967296) : rows_Of n l = some (tO.ofL l) := if_pos h
theorem plus_some {n : Nat} {a l : List GTuple} (h : a.length + l.length ≤ 4294967296) : rows_Plus n a l = some (tO.ofL (a ++ l)) := if_pos h
theorem minus_some {n : Nat} (hn : 10 < n) {a b : List GTuple} (h1 : a.length ≤ 4294967296) (h2 : b.length ≤ 4294967296) (h3 : a.length < n) (h4 : b.length < n) : rows_Minus n a b = some (subT (tO.ofL a) (tO.ofL b)) := by
  have k1 := ofL_len tO a
  have k2 := ofL_len tO b
  unfold rows_Minus
  rw [of_some h1, Option.bind_some, of_some h2, Option.bind_some, without_some hn (tO.rises_ofL a) (tO.rises_ofL b) (by omega) (by omega) (by omega) (by omega)]
  rfl
/-! ### does it rise; is it there -/
theorem rHas_some {n : Nat} (hn : 10 < n) {s : List GTuple} (t : GTuple) (hs : tO.Rises s) (h1 : s.length ≤ 4294967296) (h2 : s.length < n) : rows_Has n s t = some (decide (t ∈ s)) := by
  unfold rows_Has slices_BinarySearchFunc___api_Tuple_api_Tuple_api_Tuple___tupl_Compare
  obtain ⟨k, e, hk, ha, hb⟩ := bis_loop tO (L := slices_BinarySearchFunc___api_Tuple_api_Tuple_api_Tuple___tupl_Compare_L1 n s t) (s := s) (t := t) (fun c i j h hj => by
    rw [slices_BinarySearchFunc___api_Tuple_api_Tuple_api_Tuple___tupl_Compare_L1, dlt h, if_pos rfl, mid1 (by omega), idxS (by omega), Option.bind_some, compare_some hn, Option.bind_some, wr1 (by omega)]
    rfl) (fun c i => by rw [slices_BinarySearchFunc___api_Tuple_api_Tuple_api_Tuple___tupl_Compare_L1, dnlt (Nat.le_refl _), if_neg (by decide)]) hs n 0 s.length (by omega) (by omega) (by omega) (fun q _ h => by omega) (fun q h h' => by omega)
  have e' : slices_BinarySearchFunc___api_Tuple_api_Tuple_api_Tuple___tupl_Compare_L1 n s t n (0, (s.length : Int)) = some (k : Int) := e
  rw [e', Option.bind_some]
  rcases bis_mem tO hk ha hb hs with ⟨h3, h4⟩ | ⟨h3, h4⟩
  · rw [dnlt (by omega), if_neg (by decide), Option.bind_some, decide_eq_false h4]
  · rw [dlt h3, if_pos rfl, idxS h3, Option.bind_some, compare_some hn, Option.bind_some, Option.bind_some, ← h4]
    congr 1
    have h5 := cfL_zero (tk s[k]) (tk t) rfl
    show (cfL (tk s[k]) (tk t) == 0) = _
    by_cases h6 : s[k] = t
    · rw [decide_eq_true h6, h6, (cfL_zero (tk t) (tk t) rfl).2 rfl]
      rfl
    · rw [decide_eq_false h6, beq_eq_false_iff_ne]
      exact fun h7 => h6 (tk_inj _ _ (h5.1 h7))
theorem dHas_some {n : Nat} {s : List GTuple} (t : GTuple) (hs : tO.Rises s) (h1 : s.length ≤ 4294967296) (h2 : s.length < n) : ref1_Has n s t = some (decide (t ∈ s)) := by
  unfold ref1_Has ref1_place
  obtain ⟨k, e, hk, ha, hb⟩ := bis_loop tO (L := ref1_place_L1 n s t) (s := s) (t := t) (fun c i j h hj => by
    rw [ref1_place_L1, dlt h, if_pos rfl, mid2 (by omega), idxS (by omega), Option.bind_some, show ref1_Less n _ _ = some _ from rfl, Option.bind_some, wr1 (by omega)]) (fun c i => by rw [ref1_place_L1, dnlt (Nat.le_refl _), if_neg (by decide)]) hs n 0 s.length (by omega) (by omega) (by omega) (fun q _ h => by omega) (fun q h h' => by omega)
  have e' : ref1_place_L1 n s t n (0, (s.length : Int)) = some (k : Int) := e
  rw [e', Option.bind_some, Option.bind_some]
  rcases bis_mem tO hk ha hb hs with ⟨h3, h4⟩ | ⟨h3, h4⟩
  · rw [dnlt (by omega), if_neg (by decide), decide_eq_false h4]
  · rw [dlt h3, if_pos rfl, idxS h3, Option.bind_some, tupE, ← h4]
/-! ### the document's sets -/
theorem dSame_some {n : Nat} (a b : List GTuple) (h1 : a.length < 4611686018427387904) (h2 : a.length < n) : ref1_Same n a b = some (decide (a = b)) := by
  unfold ref1_Same
  by_cases hl : a.length = b.length
  · rw [if_neg (by simp [hl])]
    have h : ref1_Same_L1 n a b n 0 = _ := same_loop (L := ref1_Same_L1 n a b) (xs := a) (ys := b) tupE (fun c i => rfl) hl h1 n 0 (by omega) (by omega)
    rw [h, List.drop_zero, List.drop_zero, Option.bind_some]
    by_cases e : a = b
    · rw [if_pos e, decide_eq_true e]
    · rw [if_neg e, decide_eq_false e]
  · rw [if_pos (by simp; omega), decide_eq_false fun e => hl (congrArg List.length e)]
theorem dOf_some : ∀ (m : Nat) (l : List GTuple) (n : Nat), l.length ≤ m → l.length ≤ 4294967296 → l.length + 2 ≤ n → ref1_Of n l = some (tO.ofL l)
  | m, l, 0, _, _, h => by omega
  | m, l, n + 1, hm, h1, h2 => by
    unfold ref1_Of
    by_cases h : l.length < 2
    · rw [if_pos (by simp; omega), appS (by simpa using h1), Option.bind_some, ofL_short tO h]
    · cases m with
      | zero => omega
      | succ m =>
        rw [if_neg (by simp; omega), show Int.tdiv (l.length : Int) 2 = ((l.length / 2 : Nat) : Int) from rfl, wr (by omega) (by omega)]
        have e1 : slc l 0 ((l.length / 2 : Nat) : Int) = some (l.take (l.length / 2)) := slcS (xs := l) (a := 0) (by omega) (by omega)
        have e2 : slc l ((l.length / 2 : Nat) : Int) (l.length : Int) = some (l.drop (l.length / 2)) := by
          have := slcS (xs := l) (a := l.length / 2) (b := l.length) (by omega) (Nat.le_refl _)
          rwa [List.take_length] at this
        have l1 : (l.take (l.length / 2)).length = l.length / 2 := by rw [List.length_take]; omega
        have l2 : (l.drop (l.length / 2)).length = l.length - l.length / 2 := List.length_drop ..
        have k1 := ofL_len tO (l.take (l.length / 2))
        have k2 := ofL_len tO (l.drop (l.length / 2))
        rw [e1, Option.bind_some, dOf_some m _ n (by omega) (by omega) (by omega), Option.bind_some, e2, Option.bind_some, dOf_some m _ n (by omega) (by omega) (by omega), Option.bind_some]
        have h : ref1_Of_L1 n (tO.ofL (l.take (l.length / 2))) (tO.ofL (l.drop (l.length / 2))) n ([], 0, 0) = _ := merge_loop tO (L := ref1_Of_L1 n (tO.ofL (l.take (l.length / 2))) (tO.ofL (l.drop (l.length / 2)))) (fun c t i k => rfl) n [] 0 0 (by omega) (by omega) (by omega) (by simp; omega) (by omega) (by omega)
        rw [h, Option.bind_some, List.drop_zero, List.drop_zero, List.nil_append, tO.mg_ofL, List.take_append_drop]
theorem dPlus_some {n : Nat} {a l : List GTuple} (h1 : a.length + l.length ≤ 4294967296) (h2 : a.length + l.length + 2 ≤ n) : ref1_Plus n a l = some (tO.ofL (a ++ l)) := by
  unfold ref1_Plus
  rw [appS (by simp; omega), Option.bind_some, appS h1, Option.bind_some, dOf_some _ _ n (Nat.le_refl _) (by simpa using h1) (by simpa using h2)]
  rfl
theorem dMinus_fold {n : Nat} (a0 s : List GTuple) (hs : tO.Rises s) (h1 : s.length ≤ 4294967296) (h2 : s.length < n) : ∀ (xs out : List GTuple), out.length + xs.length ≤ 4294967296 → foldK (ref1_Minus_L1_f n a0 s) (ref1_Minus_L1_e n a0 s) xs out = some (out ++ subT xs s)
  | [], out, _ => by
    show some out = _
    simp [subT]
  | x :: xs, out, h => by
    rw [List.length_cons] at h
    have ih := dMinus_fold a0 s hs h1 h2 xs
    show ref1_Minus_L1_f n a0 s out x (foldK (ref1_Minus_L1_f n a0 s) (ref1_Minus_L1_e n a0 s) xs) = _
    revert ih
    generalize foldK (ref1_Minus_L1_f n a0 s) (ref1_Minus_L1_e n a0 s) xs = K
    intro ih
    unfold ref1_Minus_L1_f
    dsimp only
    rw [dHas_some x hs h1 h2, Option.bind_some]
    unfold subT at *
    rw [List.filter_cons]
    by_cases e : x ∈ s
    · rw [decide_eq_true e, if_pos rfl, if_neg (by simp [e]), ih _ (by omega)]
    · rw [decide_eq_false e, if_neg (by decide), if_pos (by simp [e]), appS (by simp; omega), Option.bind_some, ih _ (by simp; omega), List.append_assoc]
      rfl
theorem dMinus_some {n : Nat} {a b : List GTuple} (h1 : a.length ≤ 4294967296) (h2 : b.length ≤ 4294967296) (h3 : a.length + 2 ≤ n) (h4 : b.length + 2 ≤ n) : ref1_Minus n a b = some (subT (tO.ofL a) (tO.ofL b)) := by
  have k1 := ofL_len tO a
  have k2 := ofL_len tO b
  unfold ref1_Minus
  rw [dOf_some _ a n (Nat.le_refl _) h1 h3, Option.bind_some, dOf_some _ b n (Nat.le_refl _) h2 h4, Option.bind_some]
  have h : ref1_Minus_L1 n (tO.ofL a) (tO.ofL b) n ([], 0) = _ := ref1_Minus_L1_list n (tO.ofL a) (tO.ofL b) (by omega) n [] 0 (by omega) (by omega)
  rw [h, List.drop_zero, dMinus_fold _ _ (tO.rises_ofL b) (by omega) (by omega) _ [] (by simp; omega)]
  rfl
end Go.Proofs.Ytdckfddlcmkdlaa.Ab
