/-
  GlobMatch: the plain law.
-/
import Derived.Test.YtkkhgdmmbhpckaaGmb
import Derived.Test.YtkkhgdmmbhpckaaPm
namespace Go.Proofs.Ytkkhgdmmbhpckaa.Ab
open Go.RowKit

theorem names_loop {l : List ByteArray} {n : Nat} (hs : ∀ s ∈ l, s.size ≤ 9223372036854775807) (hn : ∀ s ∈ l, s.size < n) (hn2 : 2 < n) : ∀ (c j : Nat) (acc : List ByteArray), j ≤ l.length → l.length - j < c → acc.length = j → j ≤ 12 → (∀ t ∈ acc, Good t) → ∃ r, law24_GlobMatch_L1 n l c (acc, (j : Int)) = some r ∧ r.length ≤ 12 ∧ ∀ t ∈ r, Good t
  | 0, _, _, _, h, _, _, _ => by omega
  | c + 1, j, acc, hj, hc, ha, h12, hg => by
    have ih := names_loop hs hn hn2 c
    unfold law24_GlobMatch_L1
    by_cases hlt : j < l.length
    · rw [dlt hlt, if_pos rfl, Option.bind_some]
      dsimp only
      by_cases h12' : j < 12
      · obtain ⟨t, h1, h2⟩ := tame_some (n := n) (hs _ (List.getElem_mem hlt)) hn2 (hn _ (List.getElem_mem hlt))
        rw [decide_eq_true (by omega), if_pos rfl, idxS hlt, Option.bind_some, h1, Option.bind_some, appS (by simp; omega), Option.bind_some, wr1 (by omega)]
        exact ih (j + 1) _ (by omega) (by omega) (by simp [ha]) (by omega) fun u hu => by
          rcases List.mem_append.1 hu with h | h
          · exact hg u h
          · rw [List.mem_singleton.1 h]; exact h2
      · rw [decide_eq_false (by omega), if_neg (by simp)]
        exact ⟨acc, rfl, by omega, hg⟩
    · rw [dnlt (by omega), if_neg (by decide), Option.bind_some]
      dsimp only
      rw [if_neg (by simp)]
      exact ⟨acc, rfl, by omega, hg⟩
theorem star_cat (h : ByteArray) : starB (h ++ star) = true := by
  unfold starB
  rw [list_app, List.getLast?_append]
  rfl
theorem cat_ext (h : ByteArray) : (h ++ star).extract 0 ((h ++ star).size - 1) = h := by
  rw [bs_eq, list_ext, List.drop_zero, list_app, ByteArray.size_append]
  have : h.size + star.size - 1 = h.data.toList.length := by rw [bsize]; rfl
  rw [this, List.take_left]
theorem match_cat (h s : ByteArray) : matchB (h ++ star) s = preB h s := by
  unfold matchB
  rw [star_cat, if_pos rfl, cat_ext]
theorem match_star (s : ByteArray) : matchB star s = true := by
  have e : star = (ByteArray.empty ++ star) := by rw [ByteArray.empty_append]
  rw [e, match_cat]
  unfold preB
  have e1 : ByteArray.empty.size = 0 := rfl
  rw [e1, decide_eq_true (Nat.zero_le _), Bool.true_and, decide_eq_true_eq, bs_eq, list_ext]
  simp
theorem match_good {x : ByteArray} (h : Good x) (s : ByteArray) : matchB x s = decide (x = s) := by
  unfold matchB
  rw [h.star, if_neg (by decide)]
theorem in_loop {n : Nat} {names : List ByteArray} {x h : ByteArray} (hx : Good x) (hh : h.size ≤ 12) (hg : ∀ t ∈ names, Good t) (hl : names.length ≤ 12) : ∀ (c j : Nat) (acc : List ByteArray), j ≤ names.length → names.length - j < c → acc.length ≤ j → law24_GlobMatch_L2 n names x h c (acc, (j : Int)) = some (.inl (acc ++ (names.drop j).filter (preB h)))
  | 0, _, _, _, hc, _ => by omega
  | c + 1, j, acc, hj, hc, ha => by
    have ih := in_loop hx hh hg hl c (n := n)
    have x5 : 1000 ≤ maxLen := by decide
    unfold law24_GlobMatch_L2
    by_cases hlt : j < names.length
    · have hgx := hg _ (List.getElem_mem hlt)
      have g1 := hgx.few
      have g2 := hx.few
      have e0 : ({ data := #[42] } : ByteArray) = star := rfl
      have hs : star.size = 1 := rfl
      have hcs : (h ++ star).size = h.size + 1 := by rw [ByteArray.size_append]; rfl
      have hpre : ((idx names (j : Int)).bind fun x7 => if decide ((h.size : Int) ≤ (x7.size : Int)) = true then (bslc x7 0 (h.size : Int)).bind fun s4 => some (acc, (s4.toList == h.toList)) else some (acc, false)) = some (acc, preB h names[j]) := by
        rw [idxS hlt, Option.bind_some]
        unfold preB
        by_cases hp : h.size ≤ names[j].size
        · have e : bslc names[j] 0 (h.size : Int) = some (names[j].extract 0 h.size) := bslcS (a := 0) (by omega) hp
          rw [decide_eq_true (by omega), if_pos rfl, e, Option.bind_some, beqS, decide_eq_true hp, Bool.true_and]
        · rw [decide_eq_false (by omega), if_neg (by decide), decide_eq_false hp, Bool.false_and]
      have eb : (x.toList == names[j].toList) = decide (x = names[j]) := beqS _ _
      rw [dlt hlt, if_pos rfl, hpre, Option.bind_some, e0]
      dsimp only
      have hcat : cat h star = some (h ++ star) := catS (by omega)
      cases hp : preB h names[j] with
      | true =>
        rw [if_pos rfl, idxS hlt, Option.bind_some, appS (by simp; omega), Option.bind_some, Option.bind_some, hcat, Option.bind_some, Option.bind_some, match_some (by omega), Option.bind_some, match_cat, hp]
        dsimp only
        rw [beq_self_eq_true, if_pos rfl, match_some (by omega), Option.bind_some, match_good hx, eb, beq_self_eq_true, if_pos rfl, match_some (by omega), Option.bind_some, match_star, if_pos rfl, wr1 (by omega), ih _ _ (by omega) (by omega) (by simp; omega), List.drop_eq_getElem_cons hlt, List.filter_cons, hp, if_pos rfl]
        simp
      | false =>
        rw [if_neg (by decide), Option.bind_some, hcat, Option.bind_some, idxS hlt, Option.bind_some, match_some (by omega), Option.bind_some, match_cat, hp]
        dsimp only
        rw [beq_self_eq_true, if_pos rfl, match_some (by omega), Option.bind_some, match_good hx, eb, beq_self_eq_true, if_pos rfl, match_some (by omega), Option.bind_some, match_star, if_pos rfl, wr1 (by omega), ih _ _ (by omega) (by omega) (by omega), List.drop_eq_getElem_cons hlt, List.filter_cons, hp, if_neg (by decide)]
    · rw [dnlt (by omega), if_neg (by decide), List.drop_eq_nil_of_le (by omega)]
      simp
theorem match_model {l : List ByteArray} {n : Nat} (hs : ∀ s ∈ l, s.size ≤ 9223372036854775807) (hn : ∀ s ∈ l, s.size < n) (hn2 : 100 < n) (hn3 : l.length < n) (a b : Int) : law24_GlobMatch n l a b = some true := by
  have x5 : 1000 ≤ maxLen := by decide
  obtain ⟨names, h1, h2, h3⟩ := names_loop hs hn (by omega) n 0 [] (by omega) (by omega) rfl (by omega) (by simp)
  have h1' : law24_GlobMatch_L1 n l n ([], 0) = some names := h1
  have e0 : ({ data := #[42] } : ByteArray) = star := rfl
  have hs1 : star.size = 1 := rfl
  have lens : ∀ p : ByteArray → Bool, (tx.ofL (names.filter p)).length ≤ 12 := fun p => by
    have := ofL_len tx (names.filter p)
    have := List.length_filter_le p names
    omega
  have len0 : (tx.ofL names).length ≤ 12 := by
    have := ofL_len tx names
    omega
  unfold law24_GlobMatch
  rw [h1', Option.bind_some, e0]
  by_cases hz : names.length = 0
  · have e1 : ((names.length : Int) == 0) = true := by simp; exact List.eq_nil_of_length_eq_zero hz
    rw [e1, if_pos rfl, over_some (by simp; omega) (by simp) (by simp [hs1]) (by simp) (by simp; omega), Option.bind_some]
    rfl
  · have e1 : ((names.length : Int) == 0) = false := by
      simp
      intro e
      rw [e] at hz
      exact hz rfl
    have e2 : ((names.length : Int) != 0) = true := by rw [bne, e1]; rfl
    have k1 : an a 255 % names.length < names.length := Nat.mod_lt _ (by omega)
    have hx := h3 _ (List.getElem_mem k1)
    rw [e1, if_neg (by decide), e2]
    unfold grd
    rw [if_pos rfl, an8, tmod_nat, idxS k1, Option.bind_some]
    generalize names[an a 255 % names.length] = x at hx
    have g := hx.few
    have e3 : ((((x.size + 1 : Nat) : Int)) != 0) = true := by simp; omega
    have k2 : an b 255 % (x.size + 1) < x.size + 1 := Nat.mod_lt _ (by omega)
    have e4 : bslc x 0 ((an b 255 % (x.size + 1) : Nat) : Int) = some (x.extract 0 (an b 255 % (x.size + 1))) := bslcS (a := 0) (by omega) (by omega)
    have hh : (x.extract 0 (an b 255 % (x.size + 1))).size ≤ 12 := by rw [ext_size _ (by omega)]; omega
    rw [wr1 (by omega), e3, if_pos rfl, an8, tmod_nat, e4, Option.bind_some]
    generalize x.extract 0 (an b 255 % (x.size + 1)) = h at hh
    have i1 : law24_GlobMatch_L2 n names x h n ([], 0) = _ := in_loop hx hh h3 h2 n 0 [] (by omega) (by omega) (by simp)
    have hcs : (h ++ star).size = h.size + 1 := by rw [ByteArray.size_append]; rfl
    have f1 : (names.filter fun s => [h ++ star].any fun p => matchB p s) = names.filter (preB h) := by
      refine List.filter_congr fun s _ => ?_
      simp [match_cat]
    have f2 : (names.filter fun s => [star, x].any fun p => matchB p s) = names := by
      refine List.filter_eq_self.2 fun s _ => ?_
      simp [match_star]
    have f3 : (names.filter fun s => ([] : List ByteArray).any fun p => matchB p s) = [] := by
      simp
    have n1 := lens (preB h)
    rw [i1, Option.bind_some]
    dsimp only
    rw [catS (by omega), Option.bind_some, over_some (by simp; omega) (by simp) (by simp; omega) (by omega) (by omega), Option.bind_some, f1, List.nil_append, List.drop_zero]
    have n2 := List.length_filter_le (preB h) names
    rw [texts_some _ _ (by omega) (by omega), Option.bind_some, sameTexts_some (by omega) (by omega), Option.bind_some, decide_eq_true rfl, if_pos rfl, over_some (by simp; omega) (by simp) (by simp [hs1]; omega) (by omega) (by omega), Option.bind_some, f2, texts_some _ _ (by omega) (by omega), Option.bind_some, sameTexts_some (by omega) (by omega), Option.bind_some, decide_eq_true rfl, if_pos rfl, over_some (by simp; omega) (by simp) (by simp) (by omega) (by omega), Option.bind_some, f3]
    rfl
theorem law_match (l : List ByteArray) (a b : Int) (h0 : l.length ≤ maxLen ∧ ∀ s ∈ l, s.size ≤ maxLen) (_ : (Lit.int .i64 a).wf = true) (_ : (Lit.int .i64 b).wf = true) : ∃ n, law24_GlobMatch n l a b = some true := by
  have hm : maxLen = 9223372036854775807 := rfl
  exact ⟨l.length + (maxLen + 1) + 101, match_model (fun s hs => by have := h0.2 s hs; omega) (fun s hs => by have := h0.2 s hs; omega) (by omega) (by omega) a b⟩
end Go.Proofs.Ytkkhgdmmbhpckaa.Ab
