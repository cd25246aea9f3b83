/-
  Tuples that may be, found from both ends; as many as there are. No program in sight.
-/
import Derived.Test.YtdckfddlcmkdlaaLkl
import Derived.Test.YtdckfddlcmkdlaaLpc
namespace Go.Proofs.Ytdckfddlcmkdlaa.Ab
open Go.RowKit
def bA : ByteArray := { data := #[97] }
def bB : ByteArray := { data := #[98] }
def bR : ByteArray := { data := #[114] }
def bS : ByteArray := { data := #[115] }
def tameT (t : GTuple) : Prop := (t.obj.type_ = bA ∨ t.obj.type_ = bB) ∧ (t.rel = bR ∨ t.rel = bS)
theorem idx_two {a b x : ByteArray} {i : Int} (h : idx [a, b] i = some x) : x = a ∨ x = b := by
  have := List.mem_of_getElem? (idx_inv h).2
  simpa using this
theorem tame_is {n : Nat} {z : Int} {t : GTuple} (h : law2_Tame n z = some t) : tameT t := by
  unfold law2_Tame at h
  obtain ⟨x, h1, h⟩ := Option.bind_eq_some_iff.1 h
  obtain ⟨y, _, h⟩ := Option.bind_eq_some_iff.1 h
  obtain ⟨x2, h2, h⟩ := Option.bind_eq_some_iff.1 h
  obtain ⟨x3, _, h⟩ := Option.bind_eq_some_iff.1 h
  obtain ⟨y2, _, h⟩ := Option.bind_eq_some_iff.1 h
  have k1 := idx_two h1
  have k2 := idx_two h2
  split at h
  · obtain ⟨x4, _, h⟩ := Option.bind_eq_some_iff.1 h
    cases h
    exact ⟨k1, k2⟩
  · cases h
    exact ⟨k1, k2⟩
theorem tames_all {n : Nat} {l : List Int} : ∀ (c : Nat) (out : List GTuple) (i : Int) (ys : List GTuple), (∀ y ∈ out, tameT y) → law2_Tames_L1 n l c (out, i) = some ys → ∀ y ∈ ys, tameT y
  | 0, _, _, _, _, h => nomatch h
  | c + 1, out, i, ys, ho, h => by
    rw [law2_Tames_L1] at h
    obtain ⟨b, _, h⟩ := Option.bind_eq_some_iff.1 h
    cases b with
    | false =>
      rw [if_neg (by decide)] at h
      cases h
      exact ho
    | true =>
      rw [if_pos rfl] at h
      obtain ⟨x, _, h⟩ := Option.bind_eq_some_iff.1 h
      obtain ⟨t, ht, h⟩ := Option.bind_eq_some_iff.1 h
      obtain ⟨l2, hl, h⟩ := Option.bind_eq_some_iff.1 h
      refine tames_all c l2 _ ys ?_ h
      unfold app at hl
      split at hl
      · cases hl
        intro y hy
        rcases List.mem_append.1 hy with h1 | h1
        · exact ho y h1
        · rw [List.mem_singleton.1 h1]
          exact tame_is ht
      · cases hl
theorem tames_tame {n : Nat} {l : List Int} {ys : List GTuple} (h : law2_Tames n l = some ys) : ∀ y ∈ ys, tameT y := by
  unfold law2_Tames at h
  obtain ⟨o, h1, h⟩ := Option.bind_eq_some_iff.1 h
  cases h
  exact tames_all n [] 0 _ (by simp) h1
/-! ### lists that rise -/
def upS (x : GSub) : GTuple := ⟨⟨ByteArray.empty, ByteArray.empty⟩, ByteArray.empty, x⟩
def upR (x : GRef) : GTuple := ⟨x.obj, x.rel, ⟨ByteArray.empty, ByteArray.empty, ByteArray.empty⟩⟩
theorem fSubs_rise {s : List GTuple} (hs : tO.Rises s) (o : GObj) (rel : ByteArray) : (fSubs s o rel).Pairwise fun x y => tO.lt (upS x) (upS y) = true := by
  refine List.pairwise_map.2 (List.Pairwise.imp_of_mem (fun {a b} ha hb h => ?_) (List.Pairwise.filter _ hs))
  have h1 : (⟨o, rel⟩ : GRef) = kR a := by simpa using (List.mem_filter.1 ha).2
  have h2 : (⟨o, rel⟩ : GRef) = kR b := by simpa using (List.mem_filter.1 hb).2
  rw [tO_lt, (kl_kR a b).2 (h1.symm.trans h2), if_pos rfl] at h
  rw [tO_lt, (kl_kR (upS a.sub_) (upS b.sub_)).2 rfl, if_pos rfl]
  exact h
theorem fObjs_rise {s : List GTuple} (hs : tO.Rises s) (b : GSub) : (fObjs s b).Pairwise fun x y => tO.lt (upR x) (upR y) = true := by
  refine List.pairwise_map.2 (List.Pairwise.imp_of_mem (fun {x y} hx hy h => ?_) (List.Pairwise.filter _ hs))
  have h1 : b = x.sub_ := by simpa using (List.mem_filter.1 hx).2
  have h2 : b = y.sub_ := by simpa using (List.mem_filter.1 hy).2
  have h3 : cfL (sl3 x) (sl3 y) = 0 := by
    refine (cfL_zero (sl3 x) (sl3 y) rfl).2 ?_
    unfold sl3
    rw [← h1, ← h2]
  have e : cfL (kl (upR (kR x))) (kl (upR (kR y))) = cfL (kl x) (kl y) := rfl
  rw [tO_lt, h3] at h
  rw [tO_lt, e]
  by_cases h0 : cfL (kl x) (kl y) = 0
  · rw [if_pos h0] at h
    cases h
  · rw [if_neg h0] at h ⊢
    exact h
theorem both_loop {α : Type} {L : Nat → Bool × Int → Option (Bool ⊕ Bool)} {xs : List α} {E : α → Bool} {R : α → α → Bool} (h0 : ∀ c a i, L (c + 1) (a, i) = if decide (i < (xs.length : Int)) then ((if a then some true else (idx xs i).bind fun x => some (E x)) : Option Bool).bind fun b => (if decide (0 < i) then (idx xs (IntKind.i64.wrap (i - 1))).bind fun x => (idx xs i).bind fun y => (if R x y then L c (b, IntKind.i64.wrap (i + 1)) else some (.inr false)) else L c (b, IntKind.i64.wrap (i + 1))) else some (.inl a))
    (hp : xs.Pairwise fun x y => R x y = true) (hx : xs.length < 4611686018427387904) : ∀ (c i : Nat) (a : Bool), i ≤ xs.length → xs.length - i < c → L c (a, (i : Int)) = some (.inl (a || (xs.drop i).any E))
  | 0, _, _, _, h => by omega
  | c + 1, i, a, hi, hc => by
    rw [h0]
    by_cases h : i < xs.length
    · have e : ((if a then some true else (idx xs (i : Int)).bind fun x => some (E x)) : Option Bool) = some (a || E xs[i]) := by
        cases a
        · rw [idxS h]
          rfl
        · rfl
      rw [dlt h, if_pos rfl, e, Option.bind_some, wr1 (by omega)]
      have ih := both_loop h0 hp hx c (i + 1) (a || E xs[i]) (by omega) (by omega)
      rw [ih, List.drop_eq_getElem_cons h, List.any_cons, Bool.or_assoc]
      cases i with
      | zero => rfl
      | succ j =>
        rw [show decide (0 < ((j + 1 : Nat) : Int)) = true from decide_eq_true (by omega), if_pos rfl, show (((j + 1 : Nat) : Int) - 1) = (j : Int) by omega, wr (by omega) (by omega), idxS (by omega), Option.bind_some, idxS h, Option.bind_some, List.pairwise_iff_getElem.1 hp j (j + 1) (by omega) h (by omega), if_pos rfl]
    · rw [dnlt (by omega), if_neg (by decide), List.drop_eq_nil_of_le (by omega), List.any_nil, Bool.or_false]
/-! ### as many as there are -/
theorem filt_add {α : Type} {p q r : α → Bool} (h : ∀ t, r t = (p t || q t)) (h2 : ∀ t, (p t && q t) = false) : ∀ l : List α, (l.filter p).length + (l.filter q).length = (l.filter r).length
  | [] => rfl
  | t :: l => by
    have ih := filt_add h h2 l
    have a := h t
    have b := h2 t
    rw [List.filter_cons, List.filter_cons, List.filter_cons, a]
    cases hp : p t <;> cases hq : q t
    · simpa using ih
    · simp; omega
    · simp; omega
    · rw [hp, hq] at b
      cases b
theorem cnt_split {α β : Type} [DecidableEq β] (g : α → β) (P : α → Bool) (l : List α) : ∀ I : List β, I.Nodup → (I.map fun i => (l.filter fun t => decide (g t = i) && P t).length).sum = (l.filter fun t => decide (g t ∈ I) && P t).length
  | [], _ => by
    have : (l.filter fun t => decide (g t ∈ ([] : List β)) && P t) = [] := List.filter_eq_nil_iff.2 fun t _ => by simp
    rw [this]
    rfl
  | i :: I, h => by
    obtain ⟨h1, h2⟩ := List.nodup_cons.1 h
    rw [List.map_cons, List.sum_cons, cnt_split g P l I h2]
    refine filt_add (fun t => ?_) (fun t => ?_) l
    · by_cases e : g t = i <;> by_cases e2 : g t ∈ I <;> simp [e, e2]
    · by_cases e : g t = i
      · have : ¬ g t ∈ I := by rw [e]; exact h1
        simp [this]
      · simp [e]
def ofTy (typ : ByteArray) (t : GTuple) : Bool := decide (t.obj.type_ = typ) && (decide (t.rel = bR) || decide (t.rel = bS))
theorem two_rels (s : List GTuple) (typ id : ByteArray) : (fSubs s ⟨typ, id⟩ bR).length + (fSubs s ⟨typ, id⟩ bS).length = (s.filter fun t => decide (t.obj.id_ = id) && ofTy typ t).length := by
  unfold fSubs
  rw [List.length_map, List.length_map]
  have k : ∀ (t : GTuple) (r : ByteArray), ((⟨⟨typ, id⟩, r⟩ : GRef) == kR t) = (decide (t.obj.id_ = id) && (decide (t.obj.type_ = typ) && decide (t.rel = r))) := fun t r => by
    obtain ⟨⟨a, b⟩, c, d⟩ := t
    rw [Bool.eq_iff_iff]
    simp only [kR, beq_iff_eq, GRef.mk.injEq, GObj.mk.injEq, Bool.and_eq_true, decide_eq_true_eq]
    exact ⟨fun ⟨⟨h1, h2⟩, h3⟩ => ⟨h2.symm, h1.symm, h3.symm⟩, fun ⟨h2, h1, h3⟩ => ⟨⟨h1.symm, h2.symm⟩, h3.symm⟩⟩
  refine filt_add (fun t => ?_) (fun t => ?_) s
  · rw [k, k, ofTy]
    cases decide (t.obj.id_ = id) <;> cases decide (t.obj.type_ = typ) <;> rfl
  · rw [k, k]
    by_cases e : t.rel = bR
    · have : ¬ t.rel = bS := by rw [e]; decide
      simp [this]
    · simp [e]
theorem sum_ids (s : List GTuple) (typ : ByteArray) : ((tx.ofL (fTypes s typ)).map fun id => (fSubs s ⟨typ, id⟩ bR).length + (fSubs s ⟨typ, id⟩ bS).length).sum = (s.filter (ofTy typ)).length := by
  have h : (tx.ofL (fTypes s typ)).Nodup := (tx.rises_ofL _).imp fun h => tx.ne h
  simp only [two_rels]
  rw [cnt_split (fun t : GTuple => t.obj.id_) (ofTy typ) s _ h]
  refine congrArg List.length (List.filter_congr fun t ht => ?_)
  cases e : ofTy typ t with
  | false => rw [Bool.and_false]
  | true =>
    have e1 : t.obj.type_ = typ := by
      unfold ofTy at e
      exact of_decide_eq_true (Bool.and_eq_true_iff.1 e).1
    rw [Bool.and_true]
    have hm : t.obj.id_ ∈ tx.ofL (fTypes s typ) := tx.mem_ofL.2 (List.mem_map.2 ⟨t, List.mem_filter.2 ⟨ht, by rw [e1]; exact beq_self_eq_true typ⟩, rfl⟩)
    simp [hm]
theorem sum_types {s : List GTuple} (h : ∀ t ∈ s, tameT t) : (s.filter (ofTy bA)).length + (s.filter (ofTy bB)).length = s.length := by
  rw [filt_add (r := fun t => ofTy bA t || ofTy bB t) (fun _ => rfl) (fun t => ?_) s, List.filter_eq_self.2 fun t ht => ?_]
  · obtain ⟨h1, h2⟩ := h t ht
    unfold ofTy
    rcases h1 with e | e <;> rcases h2 with e2 | e2 <;> rw [e, e2] <;> decide
  · unfold ofTy
    by_cases e : t.obj.type_ = bA
    · have : ¬ t.obj.type_ = bB := by rw [e]; decide
      simp [this]
    · simp [e]
theorem cnt_fold {n : Nat} {l : List GTuple} (h : l.length ≤ 80) (typ : ByteArray) (ids0 : List ByteArray) : ∀ (ids : List ByteArray) (st : Nat), st + 160 * ids.length ≤ 1000000 → foldK (law5_LookBoth_L4_f n (ixO l) typ ids0) (law5_LookBoth_L4_e n (ixO l) typ ids0) ids (st : Int) = some ((st + (ids.map fun id => (fSubs (tO.ofL l) ⟨typ, id⟩ bR).length + (fSubs (tO.ofL l) ⟨typ, id⟩ bS).length).sum : Nat) : Int)
  | [], st, _ => rfl
  | x :: r, st, hb => by
    rw [List.length_cons] at hb
    have h1 := ofL_len tO l
    have h2 := fSubs_len (tO.ofL l) ⟨typ, x⟩ bR
    have h3 := fSubs_len (tO.ofL l) ⟨typ, x⟩ bS
    rw [foldK]
    show ((look_left_Subs n (ixO l).left (⟨typ, x⟩ : GObj) bR).bind fun a => (look_left_Subs n (ixO l).left (⟨typ, x⟩ : GObj) bS).bind fun b => foldK (law5_LookBoth_L4_f n (ixO l) typ ids0) (law5_LookBoth_L4_e n (ixO l) typ ids0) r (IntKind.i64.wrap (IntKind.i64.wrap ((st : Int) + (a.length : Int)) + (b.length : Int)))) = _
    rw [subs_some (by omega), Option.bind_some, subs_some (by omega), Option.bind_some, wr (x := (st : Int) + _) (by omega) (by omega), wr (by omega) (by omega), show (st : Int) + ((fSubs (tO.ofL l) ⟨typ, x⟩ bR).length : Int) + ((fSubs (tO.ofL l) ⟨typ, x⟩ bS).length : Int) = ((st + ((fSubs (tO.ofL l) ⟨typ, x⟩ bR).length + (fSubs (tO.ofL l) ⟨typ, x⟩ bS).length) : Nat) : Int) by omega, cnt_fold h typ ids0 r _ (by omega), List.map_cons, List.sum_cons, Nat.add_assoc]
theorem cnt_L4 {n : Nat} {l : List GTuple} (h : l.length ≤ 80) (hn : 1000 < n) (typ : ByteArray) (st : Nat) (hs : st ≤ 1000) : law5_LookBoth_L4 n (ixO l) typ (tx.ofL (fTypes (tO.ofL l) typ)) n ((st : Int), 0) = some ((st + ((tO.ofL l).filter (ofTy typ)).length : Nat) : Int) := by
  have h1 := ofL_len tO l
  have h4 := fTypes_len (tO.ofL l) typ
  have h6 := ofL_len tx (fTypes (tO.ofL l) typ)
  have hL : law5_LookBoth_L4 n (ixO l) typ (tx.ofL (fTypes (tO.ofL l) typ)) n ((st : Int), 0) = _ := law5_LookBoth_L4_list n (ixO l) typ (tx.ofL (fTypes (tO.ofL l) typ)) (by omega) n (st : Int) 0 (by omega) (by omega)
  rw [hL, List.drop_zero, cnt_fold h typ _ _ st (by omega), sum_ids]
theorem any_subs (s : List GTuple) (t : GTuple) : (fSubs s t.obj t.rel).any (fun x => (x.type_ == t.sub_.type_) && ((x.id_ == t.sub_.id_) && (x.rel == t.sub_.rel))) = decide (t ∈ s) := by
  simp only [subE]
  rw [Bool.eq_iff_iff, List.any_eq_true, decide_eq_true_eq]
  constructor
  · rintro ⟨x, hx, e⟩
    obtain ⟨y, hy, rfl⟩ := List.mem_map.1 hx
    obtain ⟨hy, hk⟩ := List.mem_filter.1 hy
    have hk : (⟨t.obj, t.rel⟩ : GRef) = kR y := by simpa using hk
    have e := of_decide_eq_true e
    have : y = t := by
      obtain ⟨a, b, c⟩ := t
      obtain ⟨a', b', c'⟩ := y
      simp only [kR, GRef.mk.injEq] at hk e
      rw [hk.1, hk.2, e]
    rwa [← this]
  · intro h
    exact ⟨t.sub_, List.mem_map.2 ⟨t, List.mem_filter.2 ⟨h, beq_self_eq_true _⟩, rfl⟩, decide_eq_true rfl⟩
theorem any_objs (s : List GTuple) (t : GTuple) : (fObjs s t.sub_).any (fun x => (x.obj.type_ == t.obj.type_) && ((x.obj.id_ == t.obj.id_) && (x.rel == t.rel))) = decide (t ∈ s) := by
  have hE : ∀ x : GRef, ((x.obj.type_ == t.obj.type_) && ((x.obj.id_ == t.obj.id_) && (x.rel == t.rel))) = decide (x = kR t) := fun x => refE x (kR t)
  simp only [hE]
  rw [Bool.eq_iff_iff, List.any_eq_true, decide_eq_true_eq]
  constructor
  · rintro ⟨x, hx, e⟩
    obtain ⟨y, hy, rfl⟩ := List.mem_map.1 hx
    obtain ⟨hy, hk⟩ := List.mem_filter.1 hy
    have hk : t.sub_ = y.sub_ := by simpa using hk
    have e := of_decide_eq_true e
    have : y = t := by
      obtain ⟨a, b, c⟩ := t
      obtain ⟨a', b', c'⟩ := y
      simp only [kR, GRef.mk.injEq] at hk e
      rw [e.1, e.2, hk]
    rwa [← this]
  · intro h
    exact ⟨kR t, List.mem_map.2 ⟨t, List.mem_filter.2 ⟨h, beq_self_eq_true _⟩, rfl⟩, decide_eq_true rfl⟩
theorem law_lookBoth (a0 : List Int) (a1 : Int) : ∃ n, law5_LookBoth n a0 a1 = some true := by
  refine ⟨2000003, ?_⟩
  obtain ⟨l, e1, hl⟩ := tames_some (n := 2000003) a0 (by omega)
  obtain ⟨t, e2⟩ := tame_some 2000003 a1
  have ht := tames_tame e1
  have h1 := ofL_len tO l
  have hr := tO.rises_ofL l
  have h2 := fSubs_len (tO.ofL l) t.obj t.rel
  have h3 := fObjs_len (tO.ofL l) t.sub_
  have hA : law5_LookBoth_L1 2000003 t (fSubs (tO.ofL l) t.obj t.rel) 2000003 (false, 0) = _ := both_loop (L := law5_LookBoth_L1 2000003 t (fSubs (tO.ofL l) t.obj t.rel)) (E := fun x => (x.type_ == t.sub_.type_) && ((x.id_ == t.sub_.id_) && (x.rel == t.sub_.rel))) (R := fun x y => tO.lt (upS x) (upS y)) (fun _ _ _ => rfl) (fSubs_rise hr _ _) (by omega) 2000003 0 false (by omega) (by omega)
  have hB : law5_LookBoth_L2 2000003 t (fObjs (tO.ofL l) t.sub_) 2000003 (false, 0) = _ := both_loop (L := law5_LookBoth_L2 2000003 t (fObjs (tO.ofL l) t.sub_)) (E := fun x => (x.obj.type_ == t.obj.type_) && ((x.obj.id_ == t.obj.id_) && (x.rel == t.rel))) (R := fun x y => tO.lt (upR x) (upR y)) (fun _ _ _ => rfl) (fObjs_rise hr _) (by omega) 2000003 0 false (by omega) (by omega)
  rw [List.drop_zero, any_subs, Bool.false_or] at hA
  rw [List.drop_zero, any_objs, Bool.false_or] at hB
  have f1 : ((tO.ofL l).filter (ofTy bA)).length ≤ (tO.ofL l).length := List.length_filter_le _ _
  have hC : law5_LookBoth_L3 2000003 (ixO l) 2000003 (0, 0) = some ((tO.ofL l).length : Int) := by
    have q1 := cnt_L4 (n := 2000003) hl (by omega) bA 0 (by omega)
    have q2 := cnt_L4 (n := 2000003) hl (by omega) bB (0 + ((tO.ofL l).filter (ofTy bA)).length) (by omega)
    have q1 : law5_LookBoth_L4 2000003 (ixO l) bA (tx.ofL (fTypes (tO.ofL l) bA)) 2000003 (0, 0) = _ := q1
    rw [Nat.add_assoc, sum_types fun t h => ht t (tO.mem_ofL.1 h), Nat.zero_add, Nat.zero_add] at q2
    rw [Nat.zero_add] at q1
    rw [show (2000003 : Nat) = 2000000 + 1 + 1 + 1 from rfl] at q1 q2 ⊢
    have i0 : idx [({ data := #[97] } : ByteArray), { data := #[98] }] 0 = some bA := rfl
    have i1 : idx [({ data := #[97] } : ByteArray), { data := #[98] }] (IntKind.i64.wrap (0 + 1)) = some bB := rfl
    rw [law5_LookBoth_L3, show decide ((0 : Int) < 2) = true from rfl, if_pos rfl, i0, Option.bind_some, types_some (by omega), Option.bind_some, q1, Option.bind_some, law5_LookBoth_L3, show decide (IntKind.i64.wrap (0 + 1) < 2) = true from rfl, if_pos rfl, i1, Option.bind_some, types_some (by omega), Option.bind_some, q2, Option.bind_some, law5_LookBoth_L3]
    rfl
  unfold law5_LookBoth
  rw [e1, Option.bind_some, e2, Option.bind_some, lookOf_some (by omega) (by omega), Option.bind_some, dOf_some _ l _ (Nat.le_refl _) (by omega) (by omega), Option.bind_some, dHas_some t hr (by omega) (by omega), Option.bind_some, subs_some (by omega), Option.bind_some, objs_some (by omega), Option.bind_some, hA, Option.bind_some]
  show ((law5_LookBoth_L2 2000003 t (fObjs (tO.ofL l) t.sub_) 2000003 (false, 0)).bind _) = _
  rw [hB, Option.bind_some]
  show ((law5_LookBoth_L3 2000003 (ixO l) 2000003 (0, 0)).bind _) = _
  rw [hC, Option.bind_some, beq_self_eq_true, if_pos rfl, if_pos rfl, Option.bind_some, beq_self_eq_true, if_pos rfl]
  rfl
end Go.Proofs.Ytdckfddlcmkdlaa.Ab
