/-
  The document's sets of tuples: what its functions answer. No program in sight.
-/
import Derived.Test.YtedgdpncienjiaaLoa
import Derived.Test.YtedgdpncienjiaaBi
namespace Go.Proofs.Ytedgdpncienjiaa.Ab
open Go.RowKit
theorem tupE (x y : GTuple) : ((x.obj.type_ == y.obj.type_) && ((x.obj.id_ == y.obj.id_) && ((x.rel == y.rel) && ((x.sub_.type_ == y.sub_.type_) && ((x.sub_.id_ == y.sub_.id_) && (x.sub_.rel == y.sub_.rel)))))) = decide (x = y) := by
  obtain ⟨⟨a, b⟩, c, ⟨d, e, f⟩⟩ := x
  obtain ⟨⟨a', b'⟩, c', ⟨d', e', f'⟩⟩ := y
  have e : ∀ a b : ByteArray, (a == b) = decide (a = b) := fun a b => by
    cases a; cases b
    rename_i a b
    show (a == b) = _
    rw [Bool.eq_iff_iff]; simp
  simp only [e, GTuple.mk.injEq, GObj.mk.injEq, GSub.mk.injEq, Bool.decide_and, Bool.and_assoc]
theorem idx_lt {α : Type} {xs : List α} {v : Int} (k : Nat) (hv : v = (k : Int)) (h : k < xs.length) : ∃ x, idx xs v = some x := ⟨_, hv ▸ idxS h⟩
def subT (a b : List GTuple) : List GTuple := a.filter fun x => decide (x ∉ b)
theorem of_some {n : Nat} {l : List GTuple} (h : l.length ≤ 4294967296) : rows_Of n l = some (tO.ofL l) := if_pos h
theorem dHas_some {n : Nat} {s : List GTuple} (t : GTuple) (hs : tO.Rises s) (h1 : s.length ≤ 4294967296) (h2 : s.length < n) : ref1_Has n s t = some (decide (t ∈ s)) := by
  unfold ref1_Has ref1_place
  obtain ⟨k, e, hk, ha, hb⟩ := bis_loop tO (L := ref1_place_L1 n s t) (s := s) (t := t) (fun c i j h hj => by
    rw [ref1_place_L1, dlt h, if_pos rfl, mid2 (by omega), idxS (by omega), Option.bind_some, show ref1_Less n _ _ = some _ from rfl, Option.bind_some, wr1 (by omega)]) (fun c i => by rw [ref1_place_L1, dnlt (Nat.le_refl _), if_neg (by decide)]) hs n 0 s.length (by omega) (by omega) (by omega) (fun q _ h => by omega) (fun q h h' => by omega)
  have e' : ref1_place_L1 n s t n (0, (s.length : Int)) = some (k : Int) := e
  rw [e', Option.bind_some, Option.bind_some]
  rcases bis_mem tO hk ha hb hs with ⟨h3, h4⟩ | ⟨h3, h4⟩
  · rw [dnlt (by omega), if_neg (by decide), decide_eq_false h4]
  · rw [dlt h3, if_pos rfl, idxS h3, Option.bind_some, tupE, ← h4]
theorem of_shape (n : Nat) (a b : List GTuple) (c : Nat) (t : List GTuple) (i k : Int) : ref1_Of_L1 n a b (c + 1) (t, i, k) =
      (((if decide (i < (a.length : Int)) then some (t, true) else some (t, decide (k < (b.length : Int)))) : Option (List GTuple × Bool)).bind fun q =>
      (if q.2 then
        (((if k == (b.length : Int) then some (q.1, true) else (if decide (i < (a.length : Int)) then (idx a i).bind fun x => (idx b k).bind fun y => some (q.1, tO.lt x y) else some (q.1, false))) : Option (List GTuple × Bool)).bind fun w =>
        (if w.2 then (idx a i).bind fun x => (app w.1 [x]).bind fun l => ref1_Of_L1 n a b c (l, IntKind.i64.wrap (i + 1), k)
        else (if i == (a.length : Int) then (idx b k).bind fun y => (app w.1 [y]).bind fun l => ref1_Of_L1 n a b c (l, i, IntKind.i64.wrap (k + 1))
          else (idx b k).bind fun y => (idx a i).bind fun x => (if tO.lt y x then (app w.1 [y]).bind fun l => ref1_Of_L1 n a b c (l, i, IntKind.i64.wrap (k + 1)) else ref1_Of_L1 n a b c (w.1, IntKind.i64.wrap (i + 1), k)))))
      else some q.1)) := by
  rw [ref1_Of_L1]
  cases decide (i < (a.length : Int)) <;> cases decide (k < (b.length : Int)) <;> cases (k == (b.length : Int)) <;> cases idx a i <;> cases idx b k <;> rfl
theorem dOf_some : ∀ (m : Nat) (l : List GTuple) (n : Nat), l.length ≤ m → l.length ≤ 4294967296 → l.length + 2 ≤ n → ref1_Of n l = some (tO.ofL l)
  | m, l, 0, _, _, h => by omega
  | m, l, n + 1, hm, h1, h2 => by
    unfold ref1_Of
    by_cases h : l.length < 2
    · rw [if_pos (by simp; omega), appS (by simpa using h1), Option.bind_some, ofL_short tO h]
    · cases m with
      | zero => omega
      | succ m =>
        rw [if_neg (by simp; omega), show Int.tdiv (l.length : Int) 2 = ((l.length / 2 : Nat) : Int) from rfl, wr (by omega) (by omega)]
        have e1 : slc l 0 ((l.length / 2 : Nat) : Int) = some (l.take (l.length / 2)) := slcS (xs := l) (a := 0) (by omega) (by omega)
        have e2 : slc l ((l.length / 2 : Nat) : Int) (l.length : Int) = some (l.drop (l.length / 2)) := by
          have := slcS (xs := l) (a := l.length / 2) (b := l.length) (by omega) (Nat.le_refl _)
          rwa [List.take_length] at this
        have l1 : (l.take (l.length / 2)).length = l.length / 2 := by rw [List.length_take]; omega
        have l2 : (l.drop (l.length / 2)).length = l.length - l.length / 2 := List.length_drop ..
        have k1 := ofL_len tO (l.take (l.length / 2))
        have k2 := ofL_len tO (l.drop (l.length / 2))
        rw [e1, Option.bind_some, dOf_some m _ n (by omega) (by omega) (by omega), Option.bind_some, e2, Option.bind_some, dOf_some m _ n (by omega) (by omega) (by omega), Option.bind_some]
        have h : ref1_Of_L1 n (tO.ofL (l.take (l.length / 2))) (tO.ofL (l.drop (l.length / 2))) n ([], 0, 0) = _ := merge_loop tO (L := ref1_Of_L1 n (tO.ofL (l.take (l.length / 2))) (tO.ofL (l.drop (l.length / 2)))) (of_shape n _ _) n [] 0 0 (by omega) (by omega) (by omega) (by simp; omega) (by omega) (by omega)
        rw [h, Option.bind_some, List.drop_zero, List.drop_zero, List.nil_append, tO.mg_ofL, List.take_append_drop]
theorem dMinus_fold {n : Nat} (a0 s : List GTuple) (hs : tO.Rises s) (h1 : s.length ≤ 4294967296) (h2 : s.length < n) : ∀ (xs out : List GTuple), out.length + xs.length ≤ 4294967296 → foldK (ref1_Minus_L1_f n a0 s) (ref1_Minus_L1_e n a0 s) xs out = some (out ++ subT xs s)
  | [], out, _ => by
    show some out = _
    simp [subT]
  | x :: xs, out, h => by
    rw [List.length_cons] at h
    have ih := dMinus_fold a0 s hs h1 h2 xs
    show ref1_Minus_L1_f n a0 s out x (foldK (ref1_Minus_L1_f n a0 s) (ref1_Minus_L1_e n a0 s) xs) = _
    revert ih
    generalize foldK (ref1_Minus_L1_f n a0 s) (ref1_Minus_L1_e n a0 s) xs = K
    intro ih
    unfold ref1_Minus_L1_f
    dsimp only
    rw [dHas_some x hs h1 h2, Option.bind_some]
    unfold subT at *
    rw [List.filter_cons]
    by_cases e : x ∈ s
    · rw [decide_eq_true e, if_pos rfl, if_neg (by simp [e]), ih _ (by omega)]
    · rw [decide_eq_false e, if_neg (by decide), if_pos (by simp [e]), appS (by simp; omega), Option.bind_some, ih _ (by simp; omega), List.append_assoc]
      rfl
theorem dMinus_some {n : Nat} {a b : List GTuple} (h1 : a.length ≤ 4294967296) (h2 : b.length ≤ 4294967296) (h3 : a.length + 2 ≤ n) (h4 : b.length + 2 ≤ n) : ref1_Minus n a b = some (subT (tO.ofL a) (tO.ofL b)) := by
  have k1 := ofL_len tO a
  have k2 := ofL_len tO b
  unfold ref1_Minus
  rw [dOf_some _ a n (Nat.le_refl _) h1 h3, Option.bind_some, dOf_some _ b n (Nat.le_refl _) h2 h4, Option.bind_some]
  have h : ref1_Minus_L1 n (tO.ofL a) (tO.ofL b) n ([], 0) = _ := ref1_Minus_L1_list n (tO.ofL a) (tO.ofL b) (by omega) n [] 0 (by omega) (by omega)
  rw [h, List.drop_zero, dMinus_fold _ _ (tO.rises_ofL b) (by omega) (by omega) _ [] (by simp; omega)]
  rfl
end Go.Proofs.Ytedgdpncienjiaa.Ab
