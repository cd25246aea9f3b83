/-
  Tuples that are found: what the index holds. No program in sight.
-/
import Derived.Test.YtedgdpncienjiaaLqa
import Derived.Test.YtedgdpncienjiaaLtx
import Derived.Test.YtedgdpncienjiaaRtm
namespace Go.Proofs.Ytedgdpncienjiaa.Ab
open Go.RowKit
/-! ### maps of lists -/
section
variable {K α : Type} [BEq K] [LawfulBEq K]
theorem madd_get (k k' : K) (ys : List α) : ∀ es : List (K × List α), mgetD k [] (madd k' ys es) = if k == k' then mgetD k [] es ++ ys else mgetD k [] es
  | [] => by
    cases h : (k == k') <;> simp [madd, mgetD, mget, h]
  | p :: r => by
    have ih := madd_get k k' ys r
    cases h1 : (k' == p.1) with
    | true =>
      have e1 : k' = p.1 := by simpa using h1
      cases h2 : (k == k') with
      | true =>
        have e2 : k = k' := by simpa using h2
        subst e2
        simp [madd, mgetD, mget, h1]
      | false =>
        have h3 : (k == p.1) = false := by rw [← e1]; exact h2
        simp [madd, mgetD, mget, h1, h2, h3]
    | false =>
      cases h3 : (k == p.1) with
      | true =>
        have e3 : k = p.1 := by simpa using h3
        have h2 : (k == k') = false := by
          cases h2 : (k == k') with
          | false => rfl
          | true =>
            have e2 : k = k' := by simpa using h2
            rw [← e2, e3] at h1
            simp at h1
        simp [madd, mgetD, mget, h1, h2, h3]
      | false =>
        simp only [mgetD] at ih
        simp [madd, mgetD, mget, h1, h3, ih]
omit [LawfulBEq K] in
theorem madd_len (k : K) (ys : List α) : ∀ es : List (K × List α), (madd k ys es).length ≤ es.length + 1
  | [] => by simp [madd]
  | p :: r => by
    have ih := madd_len k ys r
    unfold madd
    split <;> simp <;> omega
/-- Made by so many. -/
structure small (m : Nat) (es : List (K × List α)) : Prop where
  l : es.length ≤ m
  g : ∀ k, (mgetD k [] es).length ≤ m
theorem small.add {m : Nat} {es : List (K × List α)} (h : small m es) (k : K) (y : α) : small (m + 1) (madd k [y] es) := ⟨Nat.le_trans (madd_len k [y] es) (Nat.add_le_add_right h.l 1), fun k' => by
  rw [madd_get]
  have := h.g k'
  split
  · rw [List.length_append, List.length_singleton]; omega
  · omega⟩
omit [LawfulBEq K] in
theorem small.up {m m' : Nat} {es : List (K × List α)} (h : small m es) (k : m ≤ m') : small m' es := ⟨Nat.le_trans h.l k, fun x => Nat.le_trans (h.g x) k⟩
omit [LawfulBEq K] in
theorem small_nil {m : Nat} : small m ([] : List (K × List α)) := ⟨Nat.zero_le _, fun k => Nat.zero_le _⟩
omit [LawfulBEq K] in
theorem small.fam {m : Nat} {es : List (K × List α)} (h : small m es) (hm : m < 4294967296) (k : K) : famG k es = true := by
  have h1 := h.l
  have h2 := h.g k
  simp only [famG, Bool.and_eq_true, decide_eq_true_eq]
  omega
omit [LawfulBEq K] in
theorem small.dec {m : Nat} {es : List (K × List α)} (h : small m es) (hm : m ≤ 4294967296) : decide (es.length ≤ 4294967296) = true := decide_eq_true (Nat.le_trans h.l hm)
theorem fold_get {β : Type} (key : β → K) (val : β → α) (k : K) : ∀ (l : List β) (es : List (K × List α)), mgetD k [] (l.foldl (fun es t => madd (key t) [val t] es) es) = mgetD k [] es ++ (l.filter fun t => k == key t).map val
  | [], es => by simp
  | t :: r, es => by
    rw [List.foldl_cons, fold_get key val k r, madd_get, List.filter_cons]
    split <;> simp
theorem fold_small {β : Type} (key : β → K) (val : β → α) : ∀ (l : List β) (m : Nat) (es : List (K × List α)), small m es → small (m + l.length) (l.foldl (fun es t => madd (key t) [val t] es) es)
  | [], m, es, h => h
  | t :: r, m, es, h => by
    have := fold_small key val r (m + 1) _ (h.add (key t) (val t))
    rw [List.foldl_cons, List.length_cons, show m + (r.length + 1) = m + 1 + r.length by omega]
    exact this
end
theorem grd_t {β : Type} {c : Bool} {k : Option β} (h : c = true) : grd c k = k := by
  unfold grd
  rw [if_pos h]
theorem grd_listG {β : Type} (x : List β) (h : x.length ≤ 4294967296) : (if (decide (x.length = 0)) then some [] else grd (decide (x.length ≤ 4294967296)) <| some x) = some x := by
  by_cases h0 : x.length = 0
  · rw [decide_eq_true h0, if_pos rfl, List.eq_nil_of_length_eq_zero h0]
  · rw [decide_eq_false h0, if_neg (by decide), decide_eq_true h]
    rfl
/-! ### the index -/
def kR (t : GTuple) : GRef := ⟨t.obj, t.rel⟩
def bare (t : GTuple) : Bool := decide (t.sub_.rel = { data := #[] })
def mSubs (l : List GTuple) (es : List (GRef × List GSub)) : List (GRef × List GSub) := l.foldl (fun es t => madd (kR t) [t.sub_] es) es
def mObjs (l : List GTuple) (es : List (ByteArray × List ByteArray)) : List (ByteArray × List ByteArray) := l.foldl (fun es t => madd t.obj.type_ [t.obj.id_] es) es
def mRefs (l : List GTuple) (es : List (GSub × List GRef)) : List (GSub × List GRef) := l.foldl (fun es t => madd t.sub_ [kR t] es) es
def mUsers (l : List GTuple) (es : List (ByteArray × List ByteArray)) : List (ByteArray × List ByteArray) := (l.filter bare).foldl (fun es t => madd t.sub_.type_ [t.sub_.id_] es) es
theorem lo_step {n m : Nat} {t16 : List GTuple} {t : GTuple} {a : List (GRef × List GSub)} {b : List (ByteArray × List ByteArray)} {c : List (GSub × List GRef)} {d : List (ByteArray × List ByteArray)} (ha : small m a) (hb : small m b) (hc : small m c) (hd : small m d) (hm : m + 1 < 4294967296) (k) :
    look_Of_L1_f n t16 (a, b, c, d) t k = k (madd (kR t) [t.sub_] a, madd t.obj.type_ [t.obj.id_] b, madd t.sub_ [kR t] c, if bare t then madd t.sub_.type_ [t.sub_.id_] d else d) := by
  have h1 : decide ((madd (⟨t.obj, t.rel⟩ : GRef) [t.sub_] a).length ≤ 4294967296) = true := (ha.add (kR t) t.sub_).dec (by omega)
  have h2 := (hb.add t.obj.type_ t.obj.id_).dec (by omega)
  have h3 : decide ((madd t.sub_ [(⟨t.obj, t.rel⟩ : GRef)] c).length ≤ 4294967296) = true := (hc.add t.sub_ (kR t)).dec (by omega)
  have h4 := (hd.add t.sub_.type_ t.sub_.id_).dec (by omega)
  unfold look_Of_L1_f
  dsimp only
  rw [grd_t (ha.dec (by omega)), grd_t (hb.dec (by omega)), grd_t (hc.dec (by omega)), grd_t (hd.dec (by omega)), grd_t (ha.fam (by omega) _), Option.bind_some, grd_t h1, grd_t (hc.fam (by omega) _), Option.bind_some, grd_t h3, grd_t (hb.fam (by omega) _), Option.bind_some, beqS, grd_t h2, grd_t h2]
  unfold bare kR
  cases decide (t.sub_.rel = { data := #[] })
  · rfl
  · rw [if_pos rfl, if_pos rfl, grd_t (hd.fam (by omega) _), Option.bind_some, grd_t h4]
theorem lo_fold (n : Nat) (t16 : List GTuple) : ∀ (l : List GTuple) (m : Nat) (a : List (GRef × List GSub)) (b : List (ByteArray × List ByteArray)) (c : List (GSub × List GRef)) (d : List (ByteArray × List ByteArray)), small m a → small m b → small m c → small m d → m + l.length < 4294967296 →
    foldK (look_Of_L1_f n t16) (look_Of_L1_e n t16) l (a, b, c, d) = some (mSubs l a, mObjs l b, mRefs l c, mUsers l d)
  | [], m, a, b, c, d, ha, hb, hc, hd, hm => by
    rw [List.length_nil] at hm
    show look_Of_L1_e n t16 (a, b, c, d) = _
    unfold look_Of_L1_e
    dsimp only
    rw [grd_t (ha.dec (by omega)), grd_t (hb.dec (by omega)), grd_t (hc.dec (by omega)), grd_t (hd.dec (by omega))]
    rfl
  | t :: r, m, a, b, c, d, ha, hb, hc, hd, hm => by
    rw [List.length_cons] at hm
    have h4 : small (m + 1) (if bare t then madd t.sub_.type_ [t.sub_.id_] d else d) := by
      split
      · exact hd.add _ _
      · exact hd.up (Nat.le_succ m)
    rw [foldK, lo_step ha hb hc hd (by omega), lo_fold n t16 r (m + 1) _ _ _ _ (ha.add _ _) (hb.add _ _) (hc.add _ _) h4 (by omega)]
    unfold mSubs mObjs mRefs mUsers
    rw [List.foldl_cons, List.foldl_cons, List.foldl_cons, List.filter_cons]
    cases bare t <;> rfl
def ixO (l : List GTuple) : LookIndex := ⟨⟨mSubs (tO.ofL l) [], mObjs (tO.ofL l) []⟩, ⟨mRefs (tO.ofL l) [], mUsers (tO.ofL l) []⟩⟩
theorem lookOf_some {n : Nat} {l : List GTuple} (h : l.length ≤ 1000000) (hn : 1000000 < n) : look_Of n l = some (ixO l) := by
  have hl := ofL_len tO l
  have hz := fun {K α : Type} [BEq K] => @small_nil K α _ 0
  have hL : look_Of_L1 n (tO.ofL l) n (([] : List (GRef × List GSub)), ([] : List (ByteArray × List ByteArray)), ([] : List (GSub × List GRef)), ([] : List (ByteArray × List ByteArray)), 0) = _ := look_Of_L1_list n (tO.ofL l) (by omega) n ([], [], [], []) 0 (by omega) (by omega)
  rw [List.drop_zero, lo_fold n _ _ 0 [] [] [] [] small_nil small_nil small_nil small_nil (by omega)] at hL
  have s1 : small (0 + (tO.ofL l).length) (mSubs (tO.ofL l) []) := fold_small _ _ _ 0 [] small_nil
  have s2 : small (0 + (tO.ofL l).length) (mObjs (tO.ofL l) []) := fold_small _ _ _ 0 [] small_nil
  have s3 : small (0 + (tO.ofL l).length) (mRefs (tO.ofL l) []) := fold_small _ _ _ 0 [] small_nil
  have s4 : small (0 + ((tO.ofL l).filter bare).length) (mUsers (tO.ofL l) []) := fold_small _ _ _ 0 [] small_nil
  have hf : ((tO.ofL l).filter bare).length ≤ (tO.ofL l).length := List.length_filter_le _ _
  unfold look_Of
  rw [of_some (by omega), Option.bind_some, hL, Option.bind_some]
  dsimp only
  rw [grd_t (s1.dec (by omega)), grd_t (s2.dec (by omega)), grd_t (s3.dec (by omega)), grd_t (s4.dec (by omega))]
  rfl
/-- What is found. -/
def fSubs (s : List GTuple) (o : GObj) (rel : ByteArray) : List GSub := (s.filter fun t => (⟨o, rel⟩ : GRef) == kR t).map (·.sub_)
def fObjs (s : List GTuple) (b : GSub) : List GRef := (s.filter fun t => b == t.sub_).map kR
def fTypes (s : List GTuple) (x : ByteArray) : List ByteArray := (s.filter fun t => x == t.obj.type_).map (·.obj.id_)
def fUsers (s : List GTuple) (x : ByteArray) : List ByteArray := ((s.filter bare).filter fun t => x == t.sub_.type_).map (·.sub_.id_)
theorem get_subs (s : List GTuple) (o : GObj) (rel : ByteArray) : mgetD (⟨o, rel⟩ : GRef) [] (mSubs s []) = fSubs s o rel := by
  unfold mSubs fSubs
  rw [fold_get]
  rfl
theorem get_objs (s : List GTuple) (b : GSub) : mgetD b [] (mRefs s []) = fObjs s b := by
  unfold mRefs fObjs
  rw [fold_get]
  rfl
theorem get_types (s : List GTuple) (x : ByteArray) : mgetD x [] (mObjs s []) = fTypes s x := by
  unfold mObjs fTypes
  rw [fold_get]
  rfl
theorem get_users (s : List GTuple) (x : ByteArray) : mgetD x [] (mUsers s []) = fUsers s x := by
  unfold mUsers fUsers
  rw [fold_get]
  rfl
theorem fSubs_len (s : List GTuple) (o : GObj) (rel : ByteArray) : (fSubs s o rel).length ≤ s.length := by unfold fSubs; rw [List.length_map]; exact List.length_filter_le _ _
theorem fObjs_len (s : List GTuple) (b : GSub) : (fObjs s b).length ≤ s.length := by unfold fObjs; rw [List.length_map]; exact List.length_filter_le _ _
theorem fTypes_len (s : List GTuple) (x : ByteArray) : (fTypes s x).length ≤ s.length := by unfold fTypes; rw [List.length_map]; exact List.length_filter_le _ _
theorem fUsers_len (s : List GTuple) (x : ByteArray) : (fUsers s x).length ≤ s.length := by unfold fUsers; rw [List.length_map]; exact Nat.le_trans (List.length_filter_le _ _) (List.length_filter_le _ _)
theorem nm_some (n : Nat) (z : Int) : ∃ s, law1_Nm n z = some s := by
  unfold law1_Nm
  obtain ⟨s, h⟩ := idx_lt (xs := [({ data := #[97] } : ByteArray), { data := #[98] }, { data := #[99] }, { data := #[100] }, { data := #[97, 98] }, { data := #[98, 45, 49] }, { data := #[120, 46, 121] }, { data := #[48] }]) (an z 7) (wrap_an z 7 (by decide)) (Nat.lt_of_le_of_lt (an_le z 7) (by decide))
  rw [h]
  exact ⟨_, rfl⟩
theorem tame_some (n : Nat) (z : Int) : ∃ t, law2_Tame n z = some t := by
  unfold law2_Tame
  obtain ⟨s1, h1⟩ := nm_some n (sh z 1)
  obtain ⟨s2, h2⟩ := nm_some n (sh z 13)
  have two : ∀ (a b : ByteArray) (v : Int), ∃ x, idx [a, b] (IntKind.i64.wrap (an v 1 : Int)) = some x := fun a b v => idx_lt (an v 1) (wrap_an v 1 (by decide)) (Nat.lt_of_le_of_lt (an_le v 1) (show 1 < 2 by decide))
  have three : ∀ (a b c : ByteArray) (v : Int), ∃ x, idx [a, b, c] (Int.tmod (IntKind.i64.wrap (an v 255 : Int)) 3) = some x := fun a b c v => idx_lt (an v 255 % 3) (by rw [an8]; rfl) (Nat.mod_lt _ (by decide))
  obtain ⟨x1, e1⟩ := two { data := #[97] } { data := #[98] } z
  obtain ⟨x2, e2⟩ := two { data := #[114] } { data := #[115] } (sh z 4)
  obtain ⟨x3, e3⟩ := three { data := #[117] } { data := #[97] } { data := #[98] } (sh z 5)
  obtain ⟨x4, e4⟩ := two { data := #[114] } { data := #[115] } (sh z 18)
  rw [e1, Option.bind_some, h1, Option.bind_some, e2, Option.bind_some, e3, Option.bind_some, h2, Option.bind_some]
  split
  · rw [e4]
    exact ⟨_, rfl⟩
  · exact ⟨_, rfl⟩
theorem tames_loop {n : Nat} (l : List Int) : ∀ (c : Nat) (out : List GTuple), out.length ≤ 80 → 80 - out.length < c → ∃ ys, law2_Tames_L1 n l c (out, (out.length : Int)) = some ys ∧ ys.length ≤ 80
  | 0, _, _, h => by omega
  | c + 1, out, h1, h2 => by
    unfold law2_Tames_L1
    by_cases h : out.length < l.length
    · rw [dlt h, if_pos rfl, Option.bind_some]
      by_cases h3 : out.length < 80
      · obtain ⟨t, ht⟩ := tame_some n l[out.length]
        rw [show decide ((out.length : Int) < 80) = true by simp; omega, if_pos rfl, idxS h, Option.bind_some, ht, Option.bind_some, appS (by simp; omega), Option.bind_some, wr1 (by omega)]
        obtain ⟨ys, h4, h5⟩ := tames_loop (n := n) l c (out ++ [t]) (by simp; omega) (by simp; omega)
        rw [List.length_append, List.length_singleton] at h4
        exact ⟨ys, h4, h5⟩
      · rw [show decide ((out.length : Int) < 80) = false by simp; omega, if_neg (by decide)]
        exact ⟨_, rfl, h1⟩
    · rw [dnlt (by omega), if_neg (by decide), Option.bind_some]
      rw [if_neg (by decide)]
      exact ⟨_, rfl, h1⟩
theorem tames_some {n : Nat} (l : List Int) (hn : 80 < n) : ∃ ys, law2_Tames n l = some ys ∧ ys.length ≤ 80 := by
  obtain ⟨ys, h1, h2⟩ := tames_loop (n := n) l n [] (by simp) (by simpa using hn)
  refine ⟨ys, ?_, h2⟩
  unfold law2_Tames
  have h3 : law2_Tames_L1 n l n ([], 0) = some ys := h1
  rw [h3]
  rfl
theorem sameTexts_some {n : Nat} {a b : List ByteArray} (hn : a.length < n) (hx : a.length < 4611686018427387904) : ref1_SameTexts n a b = some (decide (a = b)) := by
  unfold ref1_SameTexts
  by_cases hl : a.length = b.length
  · have e : ((a.length : Int) != (b.length : Int)) = false := by simp [hl]
    have h : ref1_SameTexts_L1 n a b n 0 = _ := same_loop (L := ref1_SameTexts_L1 n a b) (E := fun x y => x.toList == y.toList) beqS (fun _ _ => rfl) hl hx n 0 (by omega) (by omega)
    rw [e, if_neg (by decide), h, List.drop_zero, List.drop_zero, Option.bind_some]
    by_cases e : a = b <;> simp [e]
  · have e : ((a.length : Int) != (b.length : Int)) = true := by simp; omega
    rw [e, if_pos rfl, decide_eq_false fun h => hl (by rw [h])]
theorem texts_shape (n : Nat) (a b : List ByteArray) (c : Nat) (t : List ByteArray) (i k : Int) : ref1_Texts_L1 n a b (c + 1) (t, i, k) =
      (((if decide (i < (a.length : Int)) then some (t, true) else some (t, decide (k < (b.length : Int)))) : Option (List ByteArray × Bool)).bind fun q =>
      (if q.2 then
        (((if k == (b.length : Int) then some (q.1, true) else (if decide (i < (a.length : Int)) then (idx a i).bind fun x => (idx b k).bind fun y => some (q.1, tx.lt x y) else some (q.1, false))) : Option (List ByteArray × Bool)).bind fun w =>
        (if w.2 then (idx a i).bind fun x => (app w.1 [x]).bind fun l => ref1_Texts_L1 n a b c (l, IntKind.i64.wrap (i + 1), k)
        else (if i == (a.length : Int) then (idx b k).bind fun y => (app w.1 [y]).bind fun l => ref1_Texts_L1 n a b c (l, i, IntKind.i64.wrap (k + 1))
          else (idx b k).bind fun y => (idx a i).bind fun x => (if tx.lt y x then (app w.1 [y]).bind fun l => ref1_Texts_L1 n a b c (l, i, IntKind.i64.wrap (k + 1)) else ref1_Texts_L1 n a b c (w.1, IntKind.i64.wrap (i + 1), k)))))
      else some q.1)) := by
  rw [ref1_Texts_L1]
  cases decide (i < (a.length : Int)) <;> cases decide (k < (b.length : Int)) <;> cases (k == (b.length : Int)) <;> cases idx a i <;> cases idx b k <;> rfl
theorem texts_some : ∀ (n : Nat) (l : List ByteArray), l.length + 2 ≤ n → l.length ≤ 4294967296 → ref1_Texts n l = some (tx.ofL l)
  | 0, _, h, _ => by omega
  | n + 1, l, h, hl => by
    have ih := texts_some n
    unfold ref1_Texts
    by_cases h2 : l.length < 2
    · rw [decide_eq_true (by omega), if_pos rfl, appS (by simp; omega), Option.bind_some, ofL_short tx h2]
    · rw [decide_eq_false (by omega), if_neg (by decide), show Int.tdiv (l.length : Int) 2 = ((l.length / 2 : Nat) : Int) from rfl, wr (by omega) (by omega)]
      have e1 : slc l 0 ((l.length / 2 : Nat) : Int) = some (l.take (l.length / 2)) := slcS (xs := l) (a := 0) (by omega) (by omega)
      have e2 : slc l ((l.length / 2 : Nat) : Int) (l.length : Int) = some (l.drop (l.length / 2)) := by
        have := slcS (xs := l) (a := l.length / 2) (b := l.length) (by omega) (Nat.le_refl _)
        rwa [List.take_length] at this
      have l1 : (l.take (l.length / 2)).length = l.length / 2 := by rw [List.length_take]; omega
      have l2 : (l.drop (l.length / 2)).length = l.length - l.length / 2 := List.length_drop ..
      have k1 := ofL_len tx (l.take (l.length / 2))
      have k2 := ofL_len tx (l.drop (l.length / 2))
      rw [e1, Option.bind_some, ih _ (by omega) (by omega), Option.bind_some, e2, Option.bind_some, ih _ (by omega) (by omega), Option.bind_some]
      have m : ref1_Texts_L1 n (tx.ofL (l.take (l.length / 2))) (tx.ofL (l.drop (l.length / 2))) n ([], 0, 0) = _ := merge_loop tx (L := ref1_Texts_L1 n (tx.ofL (l.take (l.length / 2))) (tx.ofL (l.drop (l.length / 2)))) (texts_shape n _ _) n [] 0 0 (by omega) (by omega) (by omega) (by simp; omega) (by omega) (by omega)
      rw [m, Option.bind_some, List.nil_append, List.drop_zero, List.drop_zero, tx.mg_ofL, List.take_append_drop]
/-! ### two rows -/
theorem subE (x y : GSub) : ((x.type_ == y.type_) && ((x.id_ == y.id_) && (x.rel == y.rel))) = decide (x = y) := by
  obtain ⟨a, b, c⟩ := x
  obtain ⟨a', b', c'⟩ := y
  rw [Bool.eq_iff_iff]
  simp
end Go.Proofs.Ytedgdpncienjiaa.Ab
