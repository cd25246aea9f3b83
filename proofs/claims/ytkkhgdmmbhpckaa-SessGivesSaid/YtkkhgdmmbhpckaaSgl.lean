/-
  SessGives: the law. No program in sight.
-/
import Derived.Test.YtkkhgdmmbhpckaaSga
import Derived.Test.YtkkhgdmmbhpckaaPz
import Derived.Test.YtkkhgdmmbhpckaaSm
import Derived.Test.YtkkhgdmmbhpckaaFo
namespace Go.Proofs.Ytkkhgdmmbhpckaa.Ab
open Go.RowKit
attribute [local instance] baLawful
theorem gives_facts {n : Nat} {r : List GFact × Int × Int} (hl : r.1.length ≤ 2000) : ∀ (c i : Nat) (us : List ByteArray) (is ag : List GPair) (gs : List GGrant), i ≤ r.1.length → r.1.length - i < c → us.length ≤ i → is.length ≤ i → ag.length ≤ i → gs.length ≤ i →
    law15_SessGives_L1 n r c (us, is, ag, gs, (i : Int)) = some (us ++ usersF (r.1.drop i), is ++ inhF (r.1.drop i), ag ++ asgF (r.1.drop i), gs ++ grF (r.1.drop i))
  | 0, _, _, _, _, _, _, h, _, _, _, _ => by omega
  | c + 1, i, us, is, ag, gs, hi, hc, h1, h2, h3, h4 => by
    rw [law15_SessGives_L1]
    by_cases h : i < r.1.length
    · have ih := fun us is ag gs => gives_facts (n := n) hl c (i + 1) us is ag gs (by omega) (by omega)
      rw [dlt h, if_pos rfl, idxS h, Option.bind_some, wr1 (by omega), List.drop_eq_getElem_cons h]
      generalize r.1[i] = x
      by_cases k1 : x.kind = 1
      · have n3 : ¬ x.kind = 3 := by omega
        have n4 : ¬ x.kind = 4 := by omega
        have n5 : ¬ x.kind = 5 := by omega
        rw [show (x.kind == 1) = true by simp [k1], if_pos rfl, appS (by simp; omega), Option.bind_some, ih _ _ _ _ (by simp; omega) (by omega) (by omega) (by omega)]
        unfold usersF inhF asgF grF
        rw [fk_pos k1, fk_neg n3, fk_neg n4, fk_neg n5]
        simp
      · rw [show (x.kind == 1) = false by simp [k1], if_neg (by decide)]
        by_cases k3 : x.kind = 3
        · have n4 : ¬ x.kind = 4 := by omega
          have n5 : ¬ x.kind = 5 := by omega
          rw [show (x.kind == 3) = true by simp [k3], if_pos rfl, appS (by simp; omega), Option.bind_some, ih _ _ _ _ (by omega) (by simp; omega) (by omega) (by omega)]
          unfold usersF inhF asgF grF
          rw [fk_neg k1, fk_pos k3, fk_neg n4, fk_neg n5]
          simp
        · rw [show (x.kind == 3) = false by simp [k3], if_neg (by decide)]
          by_cases k4 : x.kind = 4
          · have n5 : ¬ x.kind = 5 := by omega
            rw [show (x.kind == 4) = true by simp [k4], if_pos rfl, appS (by simp; omega), Option.bind_some, ih _ _ _ _ (by omega) (by omega) (by simp; omega) (by omega)]
            unfold usersF inhF asgF grF
            rw [fk_neg k1, fk_neg k3, fk_pos k4, fk_neg n5]
            simp
          · rw [show (x.kind == 4) = false by simp [k4], if_neg (by decide)]
            by_cases k5 : x.kind = 5
            · rw [show (x.kind == 5) = true by simp [k5], if_pos rfl, appS (by simp; omega), Option.bind_some, ih _ _ _ _ (by omega) (by omega) (by omega) (by simp; omega)]
              unfold usersF inhF asgF grF
              rw [fk_neg k1, fk_neg k3, fk_neg k4, fk_pos k5]
              simp
            · rw [show (x.kind == 5) = false by simp [k5], if_neg (by decide), ih _ _ _ _ (by omega) (by omega) (by omega) (by omega)]
              unfold usersF inhF asgF grF
              rw [fk_neg k1, fk_neg k3, fk_neg k4, fk_neg k5]
    · rw [dnlt (by omega), if_neg (by decide), List.drop_eq_nil_of_le (by omega)]
      simp [usersF, inhF, asgF, grF]
theorem ask_tot {n : Nat} (k : Int) : ∃ q, law15_Ask n k = some q := by
  have h : Tot (law15_Ask n k) fun _ => True := by
    unfold law15_Ask
    refine tot_bind (tot_tm (m := 10) (by decide) rfl (Q := fun _ => True) fun _ _ => trivial) fun _ _ => ?_
    refine tot_bind (tot_tm (m := 3) (by decide) rfl (Q := fun _ => True) fun _ _ => trivial) fun _ _ => ?_
    exact tot_bind (tot_an (m := 7) rfl (by decide) rfl (Q := fun _ => True) fun _ _ => trivial) fun _ _ => tot_some trivial
  obtain ⟨q, h, _⟩ := h
  exact ⟨q, h⟩
theorem gives_in {n : Nat} {us : List ByteArray} {q : GAsk} (hl : us.length < 1000000) : ∀ (c i : Nat) (b : Bool), i ≤ us.length → us.length - i < c → law15_SessGives_L2 n us q c (b, (i : Int)) = some (b || (us.drop i).any fun x => decide (x = q.who))
  | 0, _, _, _, h => by omega
  | c + 1, i, b, hi, hc => by
    rw [law15_SessGives_L2]
    by_cases h : i < us.length
    · have ih := fun b => gives_in (n := n) (q := q) hl c (i + 1) b (by omega) (by omega)
      rw [dlt h, if_pos rfl, wr1 (by omega), List.drop_eq_getElem_cons h, List.any_cons]
      cases b with
      | true => rw [if_pos rfl, ih]; simp
      | false => rw [if_neg (by decide), idxS h, Option.bind_some, beqS, ih, Bool.false_or]
    · rw [dnlt (by omega), if_neg (by decide), List.drop_eq_nil_of_le (by omega)]
      simp
theorem gives_has {n : Nat} {us : List ByteArray} {r : ByteArray} (hl : us.length < 1000000) : ∀ (c i : Nat) (b : Bool), i ≤ us.length → us.length - i < c → law15_SessGives_L3 n r us c (b, (i : Int)) = some (b || (us.drop i).any fun x => decide (x = r))
  | 0, _, _, _, h => by omega
  | c + 1, i, b, hi, hc => by
    rw [law15_SessGives_L3]
    by_cases h : i < us.length
    · have ih := fun b => gives_has (n := n) (r := r) hl c (i + 1) b (by omega) (by omega)
      rw [dlt h, if_pos rfl, wr1 (by omega), List.drop_eq_getElem_cons h, List.any_cons]
      cases b with
      | true => rw [if_pos rfl, ih]; simp
      | false => rw [if_neg (by decide), idxS h, Option.bind_some, beqS, ih, Bool.false_or]
    · rw [dnlt (by omega), if_neg (by decide), List.drop_eq_nil_of_le (by omega)]
      simp
theorem any_is {xs : List ByteArray} {r : ByteArray} : (xs.any fun x => decide (x = r)) = true ↔ r ∈ xs := by
  rw [List.any_eq_true]
  exact ⟨fun ⟨x, hx, e⟩ => of_decide_eq_true e ▸ hx, fun h => ⟨r, h, decide_eq_true rfl⟩⟩
theorem law_gives {n : Nat} (hn : 200000 ≤ n) (t0 : List Int) (t1 t2 : Int) : law15_SessGives n t0 t1 t2 = some true := by
  obtain ⟨s, f, a, e, e1, e2, hf, _⟩ := made_tot (n := n) (by omega) t0
  obtain ⟨q, e3⟩ := ask_tot (n := n) t2
  obtain ⟨x3, e4, _⟩ := tot_an (xs := [({ data := #[114] } : ByteArray), { data := #[115] }, { data := #[116] }, { data := #[113] }]) (m := 3) (t := t1) (by decide) (by decide) rfl (Q := fun _ => True) fun _ _ => trivial
  obtain ⟨x4, e5, _⟩ := tot_an (xs := [({ data := #[114] } : ByteArray), { data := #[115] }, { data := #[116] }, { data := #[113] }]) (m := 3) (t := sh t1 2) (by decide) (by decide) rfl (Q := fun _ => True) fun _ _ => trivial
  have hu : (usersF f).length ≤ 2000 := Nat.le_trans (fm_len _ _) hf
  have hi : (inhF f).length ≤ 2000 := Nat.le_trans (fm_len _ _) hf
  have ha : (asgF f).length ≤ 2000 := Nat.le_trans (fm_len _ _) hf
  have hg : (grF f).length ≤ 2000 := Nat.le_trans (fm_len _ _) hf
  have l1 : law15_SessGives_L1 n (f, a, e) n ([], [], [], [], 0) = some (usersF f, inhF f, asgF f, grF f) := by
    have := gives_facts (n := n) (r := (f, a, e)) hf n 0 [] [] [] [] (Nat.zero_le _) (by simp only; omega) (by simp) (by simp) (by simp) (by simp)
    simpa using this
  have few : ∀ {us : List ByteArray} {is ag : List GPair} {gs : List GGrant}, us.length ≤ 3000 → is.length ≤ 3000 → ag.length ≤ 3000 → gs.length ≤ 3000 → Few ⟨us, [], is, ag, gs, [], [], []⟩ := fun a b c d => ⟨by simp only; omega, by simp only; omega, by simp only; omega, by simp only; omega, by simp, by simp⟩
  obtain ⟨was, w1, w2⟩ := may_some hn (few (us := usersF f) (is := inhF f) (ag := asgF f) (gs := grF f) (by omega) (by omega) (by omega) (by omega)) q.who q.act q.obj
  obtain ⟨bx, b1, b2⟩ := may_some hn (few (us := usersF f) (is := inhF f) (ag := asgF f ++ [⟨q.who, x3⟩]) (gs := grF f) (by omega) (by omega) (by rw [List.length_append, List.length_singleton]; omega) (by omega)) q.who q.act q.obj
  obtain ⟨by_, c1, c2⟩ := may_some hn (few (us := usersF f) (is := inhF f ++ [⟨x3, x4⟩]) (ag := asgF f) (gs := grF f) (by omega) (by rw [List.length_append, List.length_singleton]; omega) (by omega) (by omega)) q.who q.act q.obj
  obtain ⟨bz, d1, d2⟩ := may_some hn (few (us := usersF f) (is := inhF f) (ag := asgF f) (gs := grF f ++ [⟨x3, q.act, q.obj⟩]) (by omega) (by omega) (by omega) (by rw [List.length_append, List.length_singleton]; omega)) q.who q.act q.obj
  obtain ⟨bw, f1, f2⟩ := may_some hn (few (us := usersF f) (is := inhF f) (ag := []) (gs := grF f) (by omega) (by omega) (by simp) (by omega)) q.who q.act q.obj
  obtain ⟨mine, m1, m2, m3, m4⟩ := roles_some hn (few (us := usersF f) (is := inhF f) (ag := asgF f) (gs := grF f) (by omega) (by omega) (by omega) (by omega)) q.who
  have l2 : law15_SessGives_L2 n (usersF f) q n (false, 0) = some ((usersF f).any fun x => decide (x = q.who)) := by
    have := gives_in (n := n) (us := usersF f) (q := q) (by omega) n 0 false (Nat.zero_le _) (by omega)
    rwa [Bool.false_or, List.drop_zero] at this
  have l3 : law15_SessGives_L3 n x3 mine n (false, 0) = some (mine.any fun x => decide (x = x3)) := by
    have := gives_has (n := n) (us := mine) (r := x3) (by omega) n 0 false (Nat.zero_le _) (by omega)
    rwa [Bool.false_or, List.drop_zero] at this
  have in1 : ((usersF f).any fun x => decide (x = q.who)) = true ↔ q.who ∈ usersF f := any_is
  have has1 : (mine.any fun x => decide (x = x3)) = true ↔ x3 ∈ mine := any_is
  generalize ((usersF f).any fun x => decide (x = q.who)) = inn at l2 in1
  generalize (mine.any fun x => decide (x = x3)) = has at l3 has1
  -- what they say of each other
  have K1 : was = true → bx = true := fun h => by
    obtain ⟨g, g1, g2, g3, g4, s, g5, g6⟩ := w2.1 h
    exact b2.2 ⟨g, g1, g2, g3, g4, s, List.mem_append_left _ g5, g6⟩
  have K2 : was = true → by_ = true := fun h => by
    obtain ⟨g, g1, g2, g3, g4, s, g5, g6⟩ := w2.1 h
    exact c2.2 ⟨g, g1, g2, g3, g4, s, g5, dn_sub (fun x hx => List.mem_append_left _ hx) g6⟩
  have K3 : bz = (was || has) := by
    rw [Bool.eq_iff_iff, Bool.or_eq_true, d2, w2, has1, m3]
    constructor
    · rintro ⟨g, g1, g2, g3, g4⟩
      rcases List.mem_append.1 g1 with g1 | g1
      · exact .inl ⟨g, g1, g2, g3, g4⟩
      · obtain rfl := List.mem_singleton.1 g1
        exact .inr g4
    · rintro (⟨g, g1, g2, g3, g4⟩ | h)
      · exact ⟨g, List.mem_append_left _ g1, g2, g3, g4⟩
      · exact ⟨⟨x3, q.act, q.obj⟩, List.mem_append_right _ (List.mem_singleton.2 rfl), rfl, rfl, h⟩
  have K4 : bw = false := by
    cases h : bw with
    | false => rfl
    | true =>
      obtain ⟨g, _, _, _, _, s, g5, _⟩ := f2.1 h
      cases g5
  have K5 : was = true → inn = true := fun h => by
    obtain ⟨g, _, _, _, g4, _⟩ := w2.1 h
    exact in1.2 g4
  have K6 : inn = false → mine = [] := fun h => by
    cases hm : mine with
    | nil => rfl
    | cons y ys =>
      have := ((m3 y).1 (by rw [hm]; exact List.mem_cons_self ..)).1
      rw [in1.2 this] at h
      cases h
  have t1' : ref1_Texts n mine = some mine := by rw [texts_some n mine (by omega) (by omega), tx.ofL_self m2]
  have t2' : ref1_SameTexts n mine mine = some true := by rw [sameTexts_some (by omega) (by omega), decide_eq_true rfl]
  have aw : law15_awake n = some true := rfl
  have a1 : app [] (asgF f) = some (asgF f) := appS (by simp; omega)
  have a2 : app (asgF f) [(⟨q.who, x3⟩ : GPair)] = some (asgF f ++ [⟨q.who, x3⟩]) := appS (by simp; omega)
  have a3 : app [] (inhF f) = some (inhF f) := appS (by simp; omega)
  have a4 : app (inhF f) [(⟨x3, x4⟩ : GPair)] = some (inhF f ++ [⟨x3, x4⟩]) := appS (by simp; omega)
  have a5 : app [] (grF f) = some (grF f) := appS (by simp; omega)
  have a6 : app (grF f) [(⟨x3, q.act, q.obj⟩ : GGrant)] = some (grF f ++ [⟨x3, q.act, q.obj⟩]) := appS (by simp; omega)
  unfold law15_SessGives
  have e4 : idx [({ data := #[114] } : ByteArray), { data := #[115] }, { data := #[116] }, { data := #[113] }] (IntKind.i64.wrap (an t1 3 : Int)) = some x3 := e4
  have e5 : idx [({ data := #[114] } : ByteArray), { data := #[115] }, { data := #[116] }, { data := #[113] }] (IntKind.i64.wrap (an (sh t1 2) 3 : Int)) = some x4 := e5
  rw [e1, Option.bind_some, e2, Option.bind_some, l1, Option.bind_some]
  dsimp only
  rw [e3, Option.bind_some, e4, Option.bind_some, e5, Option.bind_some, w1, Option.bind_some, a1, Option.bind_some, a2, Option.bind_some, a3, Option.bind_some, a4, Option.bind_some, a5, Option.bind_some, a6, Option.bind_some, l2, Option.bind_some, m1, Option.bind_some, l3, Option.bind_some, f1, Option.bind_some, d1, b1, c1, Option.bind_some]
  subst K4 K3
  cases was with
  | true =>
    obtain rfl := K1 rfl
    obtain rfl := K2 rfl
    obtain rfl := K5 rfl
    simp [t1', t2', aw]
  | false =>
    cases inn with
    | true => cases has <;> simp [t1', t2', aw]
    | false =>
      obtain rfl := K6 rfl
      cases has <;> simp [t1', t2', aw]
theorem law_gives_ex (a0 : List Int) (a1 a2 : Int) (_ : a0.length ≤ maxLen ∧ ∀ y ∈ a0, (Lit.int .i64 y).wf = true) (_ : (Lit.int .i64 a1).wf = true) (_ : (Lit.int .i64 a2).wf = true) : ∃ n, law15_SessGives n a0 a1 a2 = some true := ⟨200000, law_gives (Nat.le_refl _) a0 a1 a2⟩
end Go.Proofs.Ytkkhgdmmbhpckaa.Ab
