/-
  What is found in two sets together is what is found in either; what is dropped is found no more: the plain law.
-/
import Derived.Test.YtedgdpncienjiaaLkm
namespace Go.Proofs.Ytedgdpncienjiaa.Ab
open Go.RowKit
section
variable {K α : Type} [BEq K] [LawfulBEq K]
omit [LawfulBEq K] in
theorem mgetD_not {k : K} {m : List (K × List α)} (h : mhas k m = false) : mgetD k [] m = [] := by
  unfold mhas at h
  unfold mgetD
  cases e : mget k m with
  | none => rfl
  | some v => rw [e] at h; cases h
/-- No list is empty. -/
def noE (m : List (K × List α)) : Prop := ∀ p ∈ m, p.2 ≠ []
omit [LawfulBEq K] in
theorem noE.has {m : List (K × List α)} (h : noE m) {k : K} (hk : mhas k m = true) : mgetD k [] m ≠ [] := by
  induction m with
  | nil => simp [mhas, mget] at hk
  | cons p r ih =>
    unfold mgetD
    unfold mhas at hk
    cases e : (k == p.1) with
    | true =>
      simp only [mget, e, if_true]
      exact h p (List.mem_cons_self ..)
    | false =>
      simp only [mget, e] at hk ⊢
      exact ih (fun q hq => h q (List.mem_cons_of_mem _ hq)) hk
omit [LawfulBEq K] in
theorem noE.add {m : List (K × List α)} (h : noE m) (k : K) (y : α) : noE (madd k [y] m) := by
  induction m with
  | nil => intro p hp; simp [madd] at hp; subst hp; simp
  | cons q r ih =>
    intro p hp
    unfold madd at hp
    split at hp
    · rcases List.mem_cons.1 hp with rfl | hp
      · simp
      · exact h p (List.mem_cons_of_mem _ hp)
    · rcases List.mem_cons.1 hp with rfl | hp
      · exact h _ (List.mem_cons_self ..)
      · exact ih (fun z hz => h z (List.mem_cons_of_mem _ hz)) p hp
omit [LawfulBEq K] in
theorem noE_fold {β : Type} (key : β → K) (val : β → α) : ∀ (l : List β) (es : List (K × List α)), noE es → noE (l.foldl (fun es t => madd (key t) [val t] es) es)
  | [], _, h => h
  | t :: r, es, h => noE_fold key val r _ (h.add (key t) (val t))
end
theorem own_some {n : Nat} {m : List (ByteArray × List ByteArray)} (h : noE m) (t : ByteArray) (hl : (mgetD t [] m).length ≤ 4294967296) : look_own n m t = some (tx.ofL (mgetD t [] m)) := by
  unfold look_own
  cases hm : mhas t m with
  | false => rw [if_neg Bool.false_ne_true, mgetD_not hm]; rfl
  | true =>
    have hne := h.has hm
    have h0 : (mgetD t [] m).length ≠ 0 := fun e => hne (List.eq_nil_of_length_eq_zero e)
    have h1 : (tx.ofL (mgetD t [] m)).length ≠ 0 := fun e => by
      have h2 := List.eq_nil_of_length_eq_zero e
      obtain ⟨x, hx⟩ := List.exists_mem_of_ne_nil _ hne
      have := tx.mem_ofL.2 hx
      rw [h2] at this
      cases this
    rw [if_pos rfl, decide_eq_false h0, if_neg Bool.false_ne_true]
    unfold look_once
    rw [if_pos hl, Option.bind_some, show onceT (mgetD t [] m) = tx.ofL (mgetD t [] m) from once_set _, decide_eq_false h1, if_neg Bool.false_ne_true]
section
variable {n : Nat} {l : List GTuple} (h : l.length ≤ 1000000)
include h
theorem subs_some (o : GObj) (rel : ByteArray) : look_left_Subs n (ixO l).left o rel = some (fSubs (tO.ofL l) o rel) := by
  have h1 := ofL_len tO l
  have h2 := fSubs_len (tO.ofL l) o rel
  unfold look_left_Subs
  show (if mhas (⟨o, rel⟩ : GRef) (mSubs (tO.ofL l) []) then (if (decide ((mgetD (⟨o, rel⟩ : GRef) [] (mSubs (tO.ofL l) [])).length = 0)) then _ else grd (decide ((mgetD (⟨o, rel⟩ : GRef) [] (mSubs (tO.ofL l) [])).length ≤ 4294967296)) <| some (mgetD (⟨o, rel⟩ : GRef) [] (mSubs (tO.ofL l) []))) else _) = _
  cases hm : mhas (⟨o, rel⟩ : GRef) (mSubs (tO.ofL l) []) with
  | false => rw [if_neg Bool.false_ne_true, ← get_subs, mgetD_not hm]
  | true => rw [if_pos rfl, get_subs, grd_listG _ (by omega)]
theorem objs_some (b : GSub) : look_right_Objs n (ixO l).right b = some (fObjs (tO.ofL l) b) := by
  have h1 := ofL_len tO l
  have h2 := fObjs_len (tO.ofL l) b
  unfold look_right_Objs
  show (if mhas b (mRefs (tO.ofL l) []) then (if (decide ((mgetD b [] (mRefs (tO.ofL l) [])).length = 0)) then _ else grd (decide ((mgetD b [] (mRefs (tO.ofL l) [])).length ≤ 4294967296)) <| some (mgetD b [] (mRefs (tO.ofL l) []))) else _) = _
  cases hm : mhas b (mRefs (tO.ofL l) []) with
  | false => rw [if_neg Bool.false_ne_true, ← get_objs, mgetD_not hm]
  | true => rw [if_pos rfl, get_objs, grd_listG _ (by omega)]
theorem types_some (x : ByteArray) : look_Types n (ixO l) x = some (tx.ofL (fTypes (tO.ofL l) x)) := by
  have h1 := ofL_len tO l
  have h2 := fTypes_len (tO.ofL l) x
  have := own_some (n := n) (m := mObjs (tO.ofL l) []) (noE_fold _ _ _ _ fun p hp => by cases hp) x (by rw [get_types]; omega)
  rw [get_types] at this
  exact this
theorem users_some (x : ByteArray) : look_Users n (ixO l) x = some (tx.ofL (fUsers (tO.ofL l) x)) := by
  have h1 := ofL_len tO l
  have h2 := fUsers_len (tO.ofL l) x
  have := own_some (n := n) (m := mUsers (tO.ofL l) []) (noE_fold _ _ _ _ fun p hp => by cases hp) x (by rw [get_users]; omega)
  rw [get_users] at this
  exact this
end
theorem mem_types {s : List GTuple} {x z : ByteArray} : z ∈ fTypes s x ↔ ∃ t ∈ s, x = t.obj.type_ ∧ t.obj.id_ = z := by
  unfold fTypes
  simp only [List.mem_map, List.mem_filter, beq_iff_eq]
  exact ⟨fun ⟨t, ⟨h1, h2⟩, h3⟩ => ⟨t, h1, h2, h3⟩, fun ⟨t, h1, h2, h3⟩ => ⟨t, ⟨h1, h2⟩, h3⟩⟩
theorem mem_users {s : List GTuple} {x z : ByteArray} : z ∈ fUsers s x ↔ ∃ t ∈ s, bare t = true ∧ x = t.sub_.type_ ∧ t.sub_.id_ = z := by
  unfold fUsers
  simp only [List.mem_map, List.mem_filter, beq_iff_eq]
  exact ⟨fun ⟨t, ⟨⟨h1, h0⟩, h2⟩, h3⟩ => ⟨t, h1, h0, h2, h3⟩, fun ⟨t, h1, h0, h2, h3⟩ => ⟨t, ⟨⟨h1, h0⟩, h2⟩, h3⟩⟩
theorem types_both (l m : List GTuple) (x : ByteArray) : tx.ofL (tx.ofL (fTypes (tO.ofL l) x) ++ tx.ofL (fTypes (tO.ofL m) x)) = tx.ofL (fTypes (tO.ofL (l ++ m)) x) := tx.ofL_congr fun z => by
  simp only [List.mem_append, tx.mem_ofL, mem_types, tO.mem_ofL]
  constructor
  · rintro (⟨t, h1, h2⟩ | ⟨t, h1, h2⟩)
    · exact ⟨t, .inl h1, h2⟩
    · exact ⟨t, .inr h1, h2⟩
  · rintro ⟨t, h1 | h1, h2⟩
    · exact .inl ⟨t, h1, h2⟩
    · exact .inr ⟨t, h1, h2⟩
theorem users_both (l m : List GTuple) (x : ByteArray) : tx.ofL (tx.ofL (fUsers (tO.ofL l) x) ++ tx.ofL (fUsers (tO.ofL m) x)) = tx.ofL (fUsers (tO.ofL (l ++ m)) x) := tx.ofL_congr fun z => by
  simp only [List.mem_append, tx.mem_ofL, mem_users, tO.mem_ofL]
  constructor
  · rintro (⟨t, h1, h2⟩ | ⟨t, h1, h2⟩)
    · exact ⟨t, .inl h1, h2⟩
    · exact ⟨t, .inr h1, h2⟩
  · rintro ⟨t, h1 | h1, h2⟩
    · exact .inl ⟨t, h1, h2⟩
    · exact .inr ⟨t, h1, h2⟩
theorem drop_one (p : GTuple → Bool) (t : GTuple) (ht : p t = true) : ∀ X : List GTuple, X.Nodup → (X.filter p).length = ((X.filter fun x => decide (x ≠ t)).filter p).length + (if t ∈ X then 1 else 0)
  | [], _ => rfl
  | x :: r, h => by
    rw [List.nodup_cons] at h
    have ih := drop_one p t ht r h.2
    by_cases e : x = t
    · subst e
      have h0 : (x :: r).filter (fun y => decide (y ≠ x)) = r.filter (fun y => decide (y ≠ x)) := by rw [List.filter_cons, if_neg (by simp)]
      rw [h0, List.filter_cons, if_pos ht, if_pos (List.mem_cons_self ..), List.length_cons, ih, if_neg h.1]
    · have h0 : (x :: r).filter (fun y => decide (y ≠ t)) = x :: r.filter (fun y => decide (y ≠ t)) := by rw [List.filter_cons, if_pos (by simpa using e)]
      have h1 : (if t ∈ x :: r then 1 else 0) = (if t ∈ r then 1 else 0) := by
        by_cases hm : t ∈ r
        · rw [if_pos hm, if_pos (List.mem_cons_of_mem _ hm)]
        · rw [if_neg hm, if_neg]
          intro hx
          rcases List.mem_cons.1 hx with rfl | hx
          · exact e rfl
          · exact hm hx
      rw [h0, h1, List.filter_cons, List.filter_cons]
      cases p x <;> simp [ih] <;> omega
theorem sub_loop {n : Nat} (t : GTuple) (s : List GSub) (hs : s.length < 4611686018427387904) (h : t.sub_ ∉ s) : ∀ (c j : Nat), j ≤ s.length → s.length - j < c → law5_LookParts_L1 n t s c (j : Int) = some (.inl ())
  | 0, _, _, h => by omega
  | c + 1, j, hj, hc => by
    rw [law5_LookParts_L1]
    by_cases hlt : j < s.length
    · have hne : s[j] ≠ t.sub_ := fun e => h (e ▸ List.getElem_mem hlt)
      rw [dlt hlt, if_pos rfl, idxS hlt, Option.bind_some, subE, decide_eq_false hne, if_neg Bool.false_ne_true, wr1 (by omega)]
      exact sub_loop t s hs h c (j + 1) (by omega) (by omega)
    · rw [dnlt (by omega), if_neg Bool.false_ne_true]
theorem law_lookParts (a0 a1 : List Int) (a2 : Int) : law5_LookParts 3000000 a0 a1 a2 = some true := by
  obtain ⟨l, e0, hl⟩ := tames_some (n := 3000000) a0 (by decide)
  obtain ⟨m, e1, hm⟩ := tames_some (n := 3000000) a1 (by decide)
  obtain ⟨t, e2⟩ := tame_some 3000000 a2
  have e3 := lookOf_some (n := 3000000) (l := l) (by omega) (by decide)
  have e4 := lookOf_some (n := 3000000) (l := m) (by omega) (by decide)
  have e5 : app [] l = some l := appS (by simp; omega)
  have e6 : app l m = some (l ++ m) := appS (by omega)
  have hlm : (l ++ m).length ≤ 160 := by rw [List.length_append]; omega
  have e7 := lookOf_some (n := 3000000) (l := l ++ m) (by omega) (by decide)
  have e8 : ref1_Minus 3000000 l [t] = some (subT (tO.ofL l) (tO.ofL [t])) := dMinus_some (by omega) (by show 1 ≤ _; omega) (by omega) (by show 1 + 2 ≤ _; omega)
  obtain ⟨R, hR⟩ : ∃ R, R = subT (tO.ofL l) (tO.ofL [t]) := ⟨_, rfl⟩
  have hR2 : R = (tO.ofL l).filter fun x => decide (x ≠ t) := by
    rw [hR]
    unfold subT
    congr 1
    funext x
    congr 1
    exact propext ⟨fun h e => h (tO.mem_ofL.2 (by rw [e]; exact List.mem_singleton.2 rfl)), fun h e => h (List.mem_singleton.1 (tO.mem_ofL.1 e))⟩
  have hXl := ofL_len tO l
  have hRl : R.length ≤ 80 := by rw [hR2]; exact Nat.le_trans (List.length_filter_le _ _) (by omega)
  have hRr : tO.ofL R = R := tO.ofL_self (by rw [hR2]; exact tO.filter (tO.rises_ofL l) _)
  have e9 := lookOf_some (n := 3000000) (l := R) (by omega) (by decide)
  rw [← hR] at e8
  have t1 := types_some (n := 3000000) (l := l) (by omega) t.obj.type_
  have t2 := types_some (n := 3000000) (l := m) (by omega) t.obj.type_
  have t3 := types_some (n := 3000000) (l := l ++ m) (by omega) t.obj.type_
  have u1 := users_some (n := 3000000) (l := l) (by omega) t.sub_.type_
  have u2 := users_some (n := 3000000) (l := m) (by omega) t.sub_.type_
  have u3 := users_some (n := 3000000) (l := l ++ m) (by omega) t.sub_.type_
  have s1 := subs_some (n := 3000000) (l := l) (by omega) t.obj t.rel
  have s2 := subs_some (n := 3000000) (l := R) (by omega) t.obj t.rel
  have o1 := objs_some (n := 3000000) (l := l) (by omega) t.sub_
  have o2 := objs_some (n := 3000000) (l := R) (by omega) t.sub_
  rw [hRr] at s2 o2
  have kt : ((⟨t.obj, t.rel⟩ : GRef) == kR t) = true := by simp [kR]
  have d1 := drop_one (fun u => (⟨t.obj, t.rel⟩ : GRef) == kR u) t kt (tO.ofL l) (tO.nodup (tO.rises_ofL l))
  have d2 := drop_one (fun u => t.sub_ == u.sub_) t (by simp) (tO.ofL l) (tO.nodup (tO.rises_ofL l))
  rw [← hR2] at d1 d2
  obtain ⟨k, hk, hk1⟩ : ∃ k : Nat, k = (if t ∈ tO.ofL l then 1 else 0) ∧ k ≤ 1 := ⟨_, rfl, by split <;> omega⟩
  rw [← hk] at d1 d2
  have l1 : (fSubs (tO.ofL l) t.obj t.rel).length = (fSubs R t.obj t.rel).length + k := by unfold fSubs; rw [List.length_map, List.length_map]; exact d1
  have l2 : (fObjs (tO.ofL l) t.sub_).length = (fObjs R t.sub_).length + k := by unfold fObjs; rw [List.length_map, List.length_map]; exact d2
  have hns : t.sub_ ∉ fSubs R t.obj t.rel := by
    unfold fSubs
    intro hx
    obtain ⟨u, hu, hv⟩ := List.mem_map.1 hx
    obtain ⟨hu1, hu2⟩ := List.mem_filter.1 hu
    rw [hR2] at hu1
    have hu3 := of_decide_eq_true (List.mem_filter.1 hu1).2
    have hu4 := eq_of_beq hu2
    apply hu3
    obtain ⟨⟨a, b⟩, c, d⟩ := u
    obtain ⟨⟨a', b'⟩, c', d'⟩ := t
    cases hu4
    cases hv
    rfl
  have fl1 := fSubs_len R t.obj t.rel
  have fl2 := fObjs_len R t.sub_
  have e10 : law5_LookParts_L1 3000000 t (fSubs R t.obj t.rel) 3000000 0 = some (.inl ()) := sub_loop t _ (by omega) hns 3000000 0 (Nat.zero_le _) (by omega)
  have tb := types_both l m t.obj.type_
  have ub := users_both l m t.sub_.type_
  have ta1 := Nat.le_trans (ofL_len tx (fTypes (tO.ofL l) t.obj.type_)) (fTypes_len (tO.ofL l) t.obj.type_)
  have ta2 := Nat.le_trans (ofL_len tx (fTypes (tO.ofL m) t.obj.type_)) (Nat.le_trans (fTypes_len (tO.ofL m) t.obj.type_) (ofL_len tO m))
  have ta3 := Nat.le_trans (ofL_len tx (fTypes (tO.ofL (l ++ m)) t.obj.type_)) (Nat.le_trans (fTypes_len (tO.ofL (l ++ m)) t.obj.type_) (ofL_len tO (l ++ m)))
  have ua1 := Nat.le_trans (ofL_len tx (fUsers (tO.ofL l) t.sub_.type_)) (fUsers_len (tO.ofL l) t.sub_.type_)
  have ua2 := Nat.le_trans (ofL_len tx (fUsers (tO.ofL m) t.sub_.type_)) (Nat.le_trans (fUsers_len (tO.ofL m) t.sub_.type_) (ofL_len tO m))
  have ua3 := Nat.le_trans (ofL_len tx (fUsers (tO.ofL (l ++ m)) t.sub_.type_)) (Nat.le_trans (fUsers_len (tO.ofL (l ++ m)) t.sub_.type_) (ofL_len tO (l ++ m)))
  have aw : law5_awake 3000000 = some true := rfl
  obtain ⟨A, hA⟩ : ∃ A, A = tx.ofL (fTypes (tO.ofL l) t.obj.type_) := ⟨_, rfl⟩
  obtain ⟨B, hB⟩ : ∃ B, B = tx.ofL (fTypes (tO.ofL m) t.obj.type_) := ⟨_, rfl⟩
  obtain ⟨C, hC⟩ : ∃ C, C = tx.ofL (fTypes (tO.ofL (l ++ m)) t.obj.type_) := ⟨_, rfl⟩
  obtain ⟨U, hU⟩ : ∃ U, U = tx.ofL (fUsers (tO.ofL l) t.sub_.type_) := ⟨_, rfl⟩
  obtain ⟨V, hV⟩ : ∃ V, V = tx.ofL (fUsers (tO.ofL m) t.sub_.type_) := ⟨_, rfl⟩
  obtain ⟨Z, hZ⟩ : ∃ Z, Z = tx.ofL (fUsers (tO.ofL (l ++ m)) t.sub_.type_) := ⟨_, rfl⟩
  rw [← hA] at t1 tb ta1
  rw [← hB] at t2 tb ta2
  rw [← hC] at t3 tb ta3
  rw [← hU] at u1 ub ua1
  rw [← hV] at u2 ub ua2
  rw [← hZ] at u3 ub ua3
  have P1 : ∀ (A B : List ByteArray), A.length ≤ 80 → B.length ≤ 80 → (if (decide (A.length = 0)) then (if (decide (B.length = 0)) then (ref1_Texts 3000000 []).bind fun t69 => some t69 else (app [] B).bind fun _ => (ref1_Texts 3000000 B).bind fun t692 => some t692) else (if (decide (B.length = 0)) then (app A []).bind fun l4 => (ref1_Texts 3000000 l4).bind fun t693 => some t693 else (app A B).bind fun l5 => (ref1_Texts 3000000 l5).bind fun t694 => some t694)) = some (tx.ofL (A ++ B)) := by
    intro A B h1 h2
    have T : ∀ L : List ByteArray, L.length ≤ 160 → ref1_Texts 3000000 L = some (tx.ofL L) := fun L hL => texts_some 3000000 L (by omega) (by omega)
    have z0 : decide (([] : List ByteArray).length = 0) = true := rfl
    by_cases hA0 : A.length = 0
    · obtain rfl := List.eq_nil_of_length_eq_zero hA0
      by_cases hB0 : B.length = 0
      · obtain rfl := List.eq_nil_of_length_eq_zero hB0
        rw [if_pos z0, if_pos z0, T [] (Nat.zero_le _)]
        rfl
      · rw [if_pos z0, decide_eq_false hB0, if_neg Bool.false_ne_true, appS (by simp; omega), Option.bind_some, T B (by omega)]
        rfl
    · rw [decide_eq_false hA0, if_neg Bool.false_ne_true]
      by_cases hB0 : B.length = 0
      · obtain rfl := List.eq_nil_of_length_eq_zero hB0
        rw [if_pos z0, appS (by simp; omega), Option.bind_some, T _ (by simp; omega)]
        rfl
      · rw [decide_eq_false hB0, if_neg Bool.false_ne_true, appS (by omega), Option.bind_some, T _ (by simp; omega)]
        rfl
  have p1 := P1 A B (by omega) (by omega)
  have p2 := P1 U V (by omega) (by omega)
  rw [tb] at p1
  rw [ub] at p2
  have w1 : IntKind.i64.wrap (((fSubs (tO.ofL l) t.obj t.rel).length : Int) - ((fSubs R t.obj t.rel).length : Int)) = (k : Int) := by rw [l1, wr (by omega) (by omega)]; omega
  have w2 : IntKind.i64.wrap (((fObjs (tO.ofL l) t.sub_).length : Int) - ((fObjs R t.sub_).length : Int)) = (k : Int) := by rw [l2, wr (by omega) (by omega)]; omega
  have c1 : ref1_SameTexts 3000000 C C = some true := by rw [sameTexts_some (by omega) (by omega), decide_eq_true rfl]
  have c2 : ref1_SameTexts 3000000 Z Z = some true := by rw [sameTexts_some (by omega) (by omega), decide_eq_true rfl]
  have k1 : decide (0 ≤ (k : Int)) = true := decide_eq_true (by omega)
  have k2 : decide ((k : Int) ≤ 1) = true := decide_eq_true (by omega)
  unfold law5_LookParts
  rw [e0, Option.bind_some, e1, Option.bind_some, e2, Option.bind_some, e3, Option.bind_some, e4, Option.bind_some, e5, Option.bind_some, e6, Option.bind_some, e7, Option.bind_some, e8, Option.bind_some, e9, Option.bind_some, Option.bind_some]
  rw [t1, Option.bind_some, t2]
  simp only [Option.bind_some]
  rw [p1, Option.bind_some, u1, Option.bind_some, u2]
  simp only [Option.bind_some]
  rw [p2, Option.bind_some, s2, Option.bind_some, e10, Option.bind_some]
  dsimp only
  rw [s1, Option.bind_some, t3, Option.bind_some]
  have fin : ∀ X : List ByteArray, (X = C) → ∀ Y : List ByteArray, Y = Z → (ref1_SameTexts 3000000 X C = some true) ∧ ref1_SameTexts 3000000 Y Z = some true := fun X hX Y hY => by rw [hX, hY]; exact ⟨c1, c2⟩
  by_cases hC0 : C.length = 0
  · have hCn := List.eq_nil_of_length_eq_zero hC0
    rw [decide_eq_true hC0, if_pos rfl, (fin [] hCn.symm Z rfl).1, Option.bind_some, if_pos rfl, u3, Option.bind_some]
    by_cases hZ0 : Z.length = 0
    · have hZn := List.eq_nil_of_length_eq_zero hZ0
      rw [decide_eq_true hZ0, if_pos rfl, (fin [] hCn.symm [] hZn.symm).2, Option.bind_some, if_pos rfl, w1, k1, if_pos rfl, k2, if_pos rfl, o1, Option.bind_some, o2, Option.bind_some, w2, beq_self_eq_true, if_pos rfl, aw]
      rfl
    · rw [decide_eq_false hZ0, if_neg Bool.false_ne_true, c2, Option.bind_some, if_pos rfl, w1, k1, if_pos rfl, k2, if_pos rfl, o1, Option.bind_some, o2, Option.bind_some, w2, beq_self_eq_true, if_pos rfl, aw]
      rfl
  · rw [decide_eq_false hC0, if_neg Bool.false_ne_true, c1, Option.bind_some, if_pos rfl, u3, Option.bind_some]
    by_cases hZ0 : Z.length = 0
    · have hZn := List.eq_nil_of_length_eq_zero hZ0
      rw [decide_eq_true hZ0, if_pos rfl, (fin C rfl [] hZn.symm).2, Option.bind_some, if_pos rfl, w1, k1, if_pos rfl, k2, if_pos rfl, o1, Option.bind_some, o2, Option.bind_some, w2, beq_self_eq_true, if_pos rfl, aw]
      rfl
    · rw [decide_eq_false hZ0, if_neg Bool.false_ne_true, c2, Option.bind_some, if_pos rfl, w1, k1, if_pos rfl, k2, if_pos rfl, o1, Option.bind_some, o2, Option.bind_some, w2, beq_self_eq_true, if_pos rfl, aw]
      rfl
theorem law_lookParts_ex (a0 a1 : List Int) (a2 : Int) {p q r : Prop} (_ : p) (_ : q) (_ : r) : ∃ n, law5_LookParts n a0 a1 a2 = some true := ⟨3000000, law_lookParts a0 a1 a2⟩
end Go.Proofs.Ytedgdpncienjiaa.Ab
