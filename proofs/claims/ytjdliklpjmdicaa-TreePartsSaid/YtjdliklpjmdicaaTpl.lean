/-
  Any needs one of its Kids, Both all of them, Less the first without the second: the plain law.
-/
import Derived.Test.YtjdliklpjmdicaaTpa
import Derived.Test.YtjdliklpjmdicaaPk
namespace Go.Proofs.Ytjdliklpjmdicaa.Ab
open Go.RowKit _root_.Go.Proofs.Ytjdliklpjmdicaa.Tr
abbrev noRef : GRef := ⟨⟨ByteArray.empty, ByteArray.empty⟩, ByteArray.empty⟩
theorem has_eq (n : Nat) (k : Int) (f : GRef) (S : List GSub) (ks : List GNode) (bs : List Bool) (s : GSub) (h1 : S.length ≤ 9223372036854775807) (h2 : ks.length ≤ 9223372036854775807) (h3 : hasOs s ks = some bs) : tree_Has n ⟨k, f, S, ks⟩ s = some (hasK k (decide (toS3 s ∈ S.map toS3)) bs) := by
  unfold tree_Has
  rw [hasO, if_pos ⟨h1, h2⟩, h3]
  rfl
theorem an7' (t : Int) : IntKind.i64.wrap (an t 7 : Int) = (an t 7 : Nat) := wrap_an _ _ (by decide)
theorem an7_lt' (t : Int) : an t 7 < 8 := Nat.lt_succ_of_le (Nat.le_trans (an_le _ _) (by decide))
theorem letter (t : Int) : ∃ s, bslc ({ data := #[97, 98, 99, 100, 101, 102, 103, 104] }) (IntKind.i64.wrap (an t 7 : Int)) (IntKind.i64.wrap ((IntKind.i64.wrap (an t 7 : Int)) + 1)) = some s := by
  have h := an7_lt' t
  rw [an7', wr1 (by omega)]
  exact ⟨_, bslcS (Nat.le_succ _) h⟩
theorem leaf_loop (l : List Int) : ∀ (c k : Nat) (a : List GSub), k ≤ 8 → 8 - k < c → a.length = k → ∃ r, law10_TreeParts_c1_L1 100 l c (a, (k : Int)) = some r ∧ r.length ≤ 8
  | 0, _, _, _, h, _ => by omega
  | c + 1, k, a, hk, hc, ha => by
    have e : law10_TreeParts_c1_L1 100 l (c + 1) (a, (k : Int)) = if (if (decide ((k : Int) < (l.length : Int))) then decide ((k : Int) < 8) else false) then (idx l (k : Int)).bind fun x2 => (bslc ({ data := #[97, 98, 99, 100, 101, 102, 103, 104] }) (IntKind.i64.wrap (an x2 7 : Int)) (IntKind.i64.wrap ((IntKind.i64.wrap (an x2 7 : Int)) + 1))).bind fun s2 => (app a [(⟨{ data := #[117] }, s2, ByteArray.empty⟩ : GSub)]).bind fun l2 => law10_TreeParts_c1_L1 100 l c (l2, (IntKind.i64.wrap ((k : Int) + 1))) else some a := by
      rw [law10_TreeParts_c1_L1]
      cases decide ((k : Int) < (l.length : Int)) <;> rfl
    rw [e]
    by_cases h1 : k < l.length
    · by_cases h2 : k < 8
      · rw [dlt h1, if_pos rfl, show decide ((k : Int) < 8) = true from decide_eq_true (by omega), if_pos rfl, idxS h1, Option.bind_some]
        obtain ⟨s, hs⟩ := letter l[k]
        rw [hs, Option.bind_some, appS (by rw [ha]; show k + 1 ≤ _; omega), Option.bind_some, wr1 (by omega)]
        exact leaf_loop l c (k + 1) _ (by omega) (by omega) (by rw [List.length_append, ha]; rfl)
      · rw [dlt h1, if_pos rfl, show decide ((k : Int) < 8) = false from decide_eq_false (by omega), if_neg Bool.false_ne_true]
        exact ⟨a, rfl, by omega⟩
    · rw [dnlt (by omega), if_neg Bool.false_ne_true, if_neg Bool.false_ne_true]
      exact ⟨a, rfl, by omega⟩
theorem leaf_some (l : List Int) : ∃ S : List GSub, S.length ≤ 8 ∧ law10_TreeParts_c1 100 l = some ⟨1, noRef, S, []⟩ := by
  obtain ⟨S, h1, h2⟩ := leaf_loop l 100 0 [] (by decide) (by decide) rfl
  have h1 : law10_TreeParts_c1_L1 100 l 100 ([], 0) = some S := h1
  refine ⟨S, h2, ?_⟩
  unfold law10_TreeParts_c1
  rw [h1]
  rfl
theorem in_loop (x : GNode) (s : ByteArray) (hx : x.subs.length ≤ 8) : ∀ (c k : Nat) (b : Bool), k ≤ x.subs.length → x.subs.length - k < c → law10_TreeParts_L1 100 x s c (b, (k : Int)) = some (b || (x.subs.drop k).any fun y => decide (toS3 y = toS3 ⟨{ data := #[117] }, s, ByteArray.empty⟩))
  | 0, _, _, _, h => by omega
  | c + 1, k, b, hk, hc => by
    rw [law10_TreeParts_L1]
    by_cases hlt : k < x.subs.length
    · rw [dlt hlt, if_pos rfl, idxS hlt, Option.bind_some, wr1 (by omega), List.drop_eq_getElem_cons hlt, List.any_cons]
      cases b with
      | true =>
        rw [if_pos rfl, in_loop x s hx c (k + 1) true (by omega) (by omega), Bool.true_or, Bool.true_or]
      | false =>
        rw [if_neg Bool.false_ne_true, in_loop x s hx c (k + 1) _ (by omega) (by omega), Bool.false_or]
        congr 2
        generalize x.subs[k] = y
        obtain ⟨y1, y2, y3⟩ := y
        rw [Bool.eq_iff_iff]
        simp [toS3]
    · rw [dnlt (by omega), if_neg Bool.false_ne_true, List.drop_eq_nil_of_le (by omega), List.any_nil, Bool.or_false]
theorem any_mem (S : List GSub) (s : GSub) : (S.any fun y => decide (toS3 y = toS3 s)) = decide (toS3 s ∈ S.map toS3) := by
  rw [Bool.eq_iff_iff]
  simp [List.any_eq_true]
theorem law_parts (t0 t1 : List Int) (t2 t3 : Int) : law10_TreeParts 100 t0 t1 t2 t3 = some true := by
  obtain ⟨S, hS, eS⟩ := leaf_some t0
  obtain ⟨T, hT, eT⟩ := leaf_some t1
  obtain ⟨s, hs⟩ := letter t2
  obtain ⟨u, hu⟩ : ∃ u : GSub, u = ⟨{ data := #[117] }, s, ByteArray.empty⟩ := ⟨_, rfl⟩
  obtain ⟨p, hp⟩ : ∃ p, p = decide (toS3 u ∈ S.map toS3) := ⟨_, rfl⟩
  obtain ⟨q, hq⟩ : ∃ q, q = decide (toS3 u ∈ T.map toS3) := ⟨_, rfl⟩
  have zS : hasOs u [] = some [] := by rw [hasOs]
  have h1 : tree_Has 100 ⟨1, noRef, S, []⟩ u = some p := by
    rw [has_eq 100 1 noRef S [] [] u (by omega) (by decide) zS, ← hp]
    exact congrArg some (Bool.or_false p)
  have h2 : tree_Has 100 ⟨1, noRef, T, []⟩ u = some q := by
    rw [has_eq 100 1 noRef T [] [] u (by omega) (by decide) zS, ← hq]
    exact congrArg some (Bool.or_false q)
  have o1 : hasOs u [⟨1, noRef, S, []⟩] = some [p] := by
    rw [hasOs, hasOs]
    show (tree_Has 100 ⟨1, noRef, S, []⟩ u).bind _ = _
    rw [h1]
    rfl
  have o2 : hasOs u [⟨1, noRef, T, []⟩] = some [q] := by
    rw [hasOs, hasOs]
    show (tree_Has 100 ⟨1, noRef, T, []⟩ u).bind _ = _
    rw [h2]
    rfl
  have o12 : hasOs u [⟨1, noRef, S, []⟩, ⟨1, noRef, T, []⟩] = some [p, q] := by
    rw [hasOs, o2]
    show (tree_Has 100 ⟨1, noRef, S, []⟩ u).bind _ = _
    rw [h1]
    rfl
  have h3 : ∀ k, law10_TreeParts_c2 100 k ⟨1, noRef, S, []⟩ ⟨1, noRef, T, []⟩ u = some (hasK k false [p, q]) := fun k => by
    unfold law10_TreeParts_c2
    rw [has_eq 100 k noRef [] _ [p, q] u (Nat.zero_le _) (by show 2 ≤ _; omega) o12]
    rfl
  have h4 : tree_Has 100 ⟨1, noRef, [], [⟨1, noRef, T, []⟩]⟩ u = some q := by
    rw [has_eq 100 1 noRef [] _ [q] u (Nat.zero_le _) (by show 1 ≤ _; omega) o2]
    cases q <;> rfl
  have h5 : tree_Has 100 ⟨4, noRef, [], []⟩ u = some false := has_eq 100 4 noRef [] _ [] u (Nat.zero_le _) (by decide) zS
  have h6 : tree_Has 100 ⟨5, noRef, [], [⟨1, noRef, S, []⟩]⟩ u = some false := has_eq 100 5 noRef [] _ [p] u (Nat.zero_le _) (by show 1 ≤ _; omega) o1
  have h7 : law10_TreeParts_L1 100 ⟨1, noRef, S, []⟩ s 100 (false, 0) = some p := by
    have := in_loop ⟨1, noRef, S, []⟩ s hS 100 0 false (Nat.zero_le _) (by show S.length - 0 < 100; omega)
    rw [List.drop_zero, Bool.false_or, ← hu, any_mem, ← hp] at this
    exact this
  have h8 : law10_awake 100 = some true := rfl
  unfold law10_TreeParts
  rw [eS, Option.bind_some, eT, Option.bind_some, hs, Option.bind_some, ← hu, h1, Option.bind_some, h2, Option.bind_some, h7, Option.bind_some]
  simp only [h3, h4, h5, h6, h8, Option.bind_some]
  by_cases hk : t3 < 1
  · have e : hasK t3 false [p, q] = false := by
      unfold hasK
      rw [if_neg (by omega), if_neg (by omega), if_neg (by omega), if_neg (by omega)]
    rw [decide_eq_true hk, e]
    cases p <;> cases q <;> rfl
  · rw [decide_eq_false hk]
    by_cases hk6 : 6 < t3
    · have e : hasK t3 false [p, q] = false := by
        unfold hasK
        rw [if_neg (by omega), if_neg (by omega), if_neg (by omega), if_neg (by omega)]
      rw [decide_eq_true hk6, e]
      cases p <;> cases q <;> rfl
    · rw [decide_eq_false hk6]
      cases p <;> cases q <;> rfl
theorem law_parts_ex (t0 t1 : List Int) (t2 t3 : Int) {p q r s : Prop} (_ : p) (_ : q) (_ : r) (_ : s) : ∃ n, law10_TreeParts n t0 t1 t2 t3 = some true := ⟨100, law_parts t0 t1 t2 t3⟩
end Go.Proofs.Ytjdliklpjmdicaa.Ab
