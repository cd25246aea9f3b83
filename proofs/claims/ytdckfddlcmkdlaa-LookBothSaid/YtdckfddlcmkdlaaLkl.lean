/-
  Tuples that are found: what the index holds, and what the document finds. No program in sight.
-/
import Derived.Test.YtdckfddlcmkdlaaLpa
import Derived.Test.YtdckfddlcmkdlaaLpb
import Derived.Test.YtdckfddlcmkdlaaLtx
import Derived.Test.YtdckfddlcmkdlaaRtl
namespace Go.Proofs.Ytdckfddlcmkdlaa.Ab
open Go.RowKit
/-! ### maps of lists -/
section
variable {K α : Type} [BEq K] [LawfulBEq K]
theorem madd_get (k k' : K) (ys : List α) : ∀ es : List (K × List α), mgetD k [] (madd k' ys es) = if k == k' then mgetD k [] es ++ ys else mgetD k [] es
  | [] => by
    cases h : (k == k') <;> simp [madd, mgetD, mget, h]
  | p :: r => by
    have ih := madd_get k k' ys r
    cases h1 : (k' == p.1) with
    | true =>
      have e1 : k' = p.1 := by simpa using h1
      cases h2 : (k == k') with
      | true =>
        have e2 : k = k' := by simpa using h2
        subst e2
        simp [madd, mgetD, mget, h1]
      | false =>
        have h3 : (k == p.1) = false := by rw [← e1]; exact h2
        simp [madd, mgetD, mget, h1, h2, h3]
    | false =>
      cases h3 : (k == p.1) with
      | true =>
        have e3 : k = p.1 := by simpa using h3
        have h2 : (k == k') = false := by
          cases h2 : (k == k') with
          | false => rfl
          | true =>
            have e2 : k = k' := by simpa using h2
            rw [← e2, e3] at h1
            simp at h1
        simp [madd, mgetD, mget, h1, h2, h3]
      | false =>
        simp only [mgetD] at ih
        simp [madd, mgetD, mget, h1, h3, ih]
omit [LawfulBEq K] in
theorem madd_len (k : K) (ys : List α) : ∀ es : List (K × List α), (madd k ys es).length ≤ es.length + 1
  | [] => by simp [madd]
  | p :: r => by
    have ih := madd_len k ys r
    unfold madd
    split <;> simp <;> omega
/-- Made by so many. -/
structure small (m : Nat) (es : List (K × List α)) : Prop where
  l : es.length ≤ m
  g : ∀ k, (mgetD k [] es).length ≤ m
theorem small.add {m : Nat} {es : List (K × List α)} (h : small m es) (k : K) (y : α) : small (m + 1) (madd k [y] es) := ⟨Nat.le_trans (madd_len k [y] es) (Nat.add_le_add_right h.l 1), fun k' => by
  rw [madd_get]
  have := h.g k'
  split
  · rw [List.length_append, List.length_singleton]; omega
  · omega⟩
omit [LawfulBEq K] in
theorem small.up {m m' : Nat} {es : List (K × List α)} (h : small m es) (k : m ≤ m') : small m' es := ⟨Nat.le_trans h.l k, fun x => Nat.le_trans (h.g x) k⟩
omit [LawfulBEq K] in
theorem small_nil {m : Nat} : small m ([] : List (K × List α)) := ⟨Nat.zero_le _, fun _ => Nat.zero_le _⟩
omit [LawfulBEq K] in
theorem small.fam {m : Nat} {es : List (K × List α)} (h : small m es) (hm : m < 4294967296) (k : K) : famG k es = true := by
  have h1 := h.l
  have h2 := h.g k
  simp only [famG, Bool.and_eq_true, decide_eq_true_eq]
  omega
omit [LawfulBEq K] in
theorem small.dec {m : Nat} {es : List (K × List α)} (h : small m es) (hm : m ≤ 4294967296) : decide (es.length ≤ 4294967296) = true := decide_eq_true (Nat.le_trans h.l hm)
theorem fold_get {β : Type} (key : β → K) (val : β → α) (k : K) : ∀ (l : List β) (es : List (K × List α)), mgetD k [] (l.foldl (fun es t => madd (key t) [val t] es) es) = mgetD k [] es ++ (l.filter fun t => k == key t).map val
  | [], es => by simp
  | t :: r, es => by
    rw [List.foldl_cons, fold_get key val k r, madd_get, List.filter_cons]
    split <;> simp
theorem fold_small {β : Type} (key : β → K) (val : β → α) : ∀ (l : List β) (m : Nat) (es : List (K × List α)), small m es → small (m + l.length) (l.foldl (fun es t => madd (key t) [val t] es) es)
  | [], m, es, h => h
  | t :: r, m, es, h => by
    have := fold_small key val r (m + 1) _ (h.add (key t) (val t))
    rw [List.foldl_cons, List.length_cons, show m + (r.length + 1) = m + 1 + r.length by omega]
    exact this
end
theorem grd_t {β : Type} {c : Bool} {k : Option β} (h : c = true) : grd c k = k := by
  unfold grd
  rw [if_pos h]
theorem grd_listG {β : Type} (x : List β) (h : x.length ≤ 4294967296) : (if (decide (x.length = 0)) then some [] else grd (decide (x.length ≤ 4294967296)) <| some x) = some x := by
  by_cases h0 : x.length = 0
  · rw [decide_eq_true h0, if_pos rfl, List.eq_nil_of_length_eq_zero h0]
  · rw [decide_eq_false h0, if_neg (by decide), decide_eq_true h]
    rfl
/-! ### the index -/
def kR (t : GTuple) : GRef := ⟨t.obj, t.rel⟩
def bare (t : GTuple) : Bool := decide (t.sub_.rel = { data := #[] })
def mSubs (l : List GTuple) (es : List (GRef × List GSub)) : List (GRef × List GSub) := l.foldl (fun es t => madd (kR t) [t.sub_] es) es
def mObjs (l : List GTuple) (es : List (ByteArray × List ByteArray)) : List (ByteArray × List ByteArray) := l.foldl (fun es t => madd t.obj.type_ [t.obj.id_] es) es
def mRefs (l : List GTuple) (es : List (GSub × List GRef)) : List (GSub × List GRef) := l.foldl (fun es t => madd t.sub_ [kR t] es) es
def mUsers (l : List GTuple) (es : List (ByteArray × List ByteArray)) : List (ByteArray × List ByteArray) := (l.filter bare).foldl (fun es t => madd t.sub_.type_ [t.sub_.id_] es) es
theorem lo_step {n m : Nat} {t16 : List GTuple} {t : GTuple} {a : List (GRef × List GSub)} {b : List (ByteArray × List ByteArray)} {c : List (GSub × List GRef)} {d : List (ByteArray × List ByteArray)} (ha : small m a) (hb : small m b) (hc : small m c) (hd : small m d) (hm : m + 1 < 4294967296) (k) :
    look_Of_L1_f n t16 (a, b, c, d) t k = k (madd (kR t) [t.sub_] a, madd t.obj.type_ [t.obj.id_] b, madd t.sub_ [kR t] c, if bare t then madd t.sub_.type_ [t.sub_.id_] d else d) := by
  have h1 : decide ((madd (⟨t.obj, t.rel⟩ : GRef) [t.sub_] a).length ≤ 4294967296) = true := (ha.add (kR t) t.sub_).dec (by omega)
  have h2 := (hb.add t.obj.type_ t.obj.id_).dec (by omega)
  have h3 : decide ((madd t.sub_ [(⟨t.obj, t.rel⟩ : GRef)] c).length ≤ 4294967296) = true := (hc.add t.sub_ (kR t)).dec (by omega)
  have h4 := (hd.add t.sub_.type_ t.sub_.id_).dec (by omega)
  unfold look_Of_L1_f
  dsimp only
  rw [grd_t (ha.dec (by omega)), grd_t (hb.dec (by omega)), grd_t (hc.dec (by omega)), grd_t (hd.dec (by omega)), grd_t (ha.fam (by omega) _), Option.bind_some, grd_t h1, grd_t (hc.fam (by omega) _), Option.bind_some, grd_t h3, grd_t (hb.fam (by omega) _), Option.bind_some, beqS, grd_t h2, grd_t h2]
  unfold bare kR
  cases decide (t.sub_.rel = { data := #[] })
  · rfl
  · rw [if_pos rfl, if_pos rfl, grd_t (hd.fam (by omega) _), Option.bind_some, grd_t h4]
theorem lo_fold (n : Nat) (t16 : List GTuple) : ∀ (l : List GTuple) (m : Nat) (a : List (GRef × List GSub)) (b : List (ByteArray × List ByteArray)) (c : List (GSub × List GRef)) (d : List (ByteArray × List ByteArray)), small m a → small m b → small m c → small m d → m + l.length < 4294967296 →
    foldK (look_Of_L1_f n t16) (look_Of_L1_e n t16) l (a, b, c, d) = some (mSubs l a, mObjs l b, mRefs l c, mUsers l d)
  | [], m, a, b, c, d, ha, hb, hc, hd, hm => by
    rw [List.length_nil] at hm
    show look_Of_L1_e n t16 (a, b, c, d) = _
    unfold look_Of_L1_e
    dsimp only
    rw [grd_t (ha.dec (by omega)), grd_t (hb.dec (by omega)), grd_t (hc.dec (by omega)), grd_t (hd.dec (by omega))]
    rfl
  | t :: r, m, a, b, c, d, ha, hb, hc, hd, hm => by
    rw [List.length_cons] at hm
    have h4 : small (m + 1) (if bare t then madd t.sub_.type_ [t.sub_.id_] d else d) := by
      split
      · exact hd.add _ _
      · exact hd.up (Nat.le_succ m)
    rw [foldK, lo_step ha hb hc hd (by omega), lo_fold n t16 r (m + 1) _ _ _ _ (ha.add _ _) (hb.add _ _) (hc.add _ _) h4 (by omega)]
    unfold mSubs mObjs mRefs mUsers
    rw [List.foldl_cons, List.foldl_cons, List.foldl_cons, List.filter_cons]
    cases bare t <;> rfl
def ixO (l : List GTuple) : LookIndex := ⟨⟨mSubs (tO.ofL l) [], mObjs (tO.ofL l) []⟩, ⟨mRefs (tO.ofL l) [], mUsers (tO.ofL l) []⟩⟩
theorem lookOf_some {n : Nat} {l : List GTuple} (h : l.length ≤ 1000000) (hn : 1000000 < n) : look_Of n l = some (ixO l) := by
  have hl := ofL_len tO l
  have hz := fun {K α : Type} [BEq K] => @small_nil K α _ 0
  have hL : look_Of_L1 n (tO.ofL l) n (([] : List (GRef × List GSub)), ([] : List (ByteArray × List ByteArray)), ([] : List (GSub × List GRef)), ([] : List (ByteArray × List ByteArray)), 0) = _ := look_Of_L1_list n (tO.ofL l) (by omega) n ([], [], [], []) 0 (by omega) (by omega)
  rw [List.drop_zero, lo_fold n _ _ 0 [] [] [] [] small_nil small_nil small_nil small_nil (by omega)] at hL
  have s1 : small (0 + (tO.ofL l).length) (mSubs (tO.ofL l) []) := fold_small _ _ _ 0 [] small_nil
  have s2 : small (0 + (tO.ofL l).length) (mObjs (tO.ofL l) []) := fold_small _ _ _ 0 [] small_nil
  have s3 : small (0 + (tO.ofL l).length) (mRefs (tO.ofL l) []) := fold_small _ _ _ 0 [] small_nil
  have s4 : small (0 + ((tO.ofL l).filter bare).length) (mUsers (tO.ofL l) []) := fold_small _ _ _ 0 [] small_nil
  have hf : ((tO.ofL l).filter bare).length ≤ (tO.ofL l).length := List.length_filter_le _ _
  unfold look_Of
  rw [of_some (by omega), Option.bind_some, hL, Option.bind_some]
  dsimp only
  rw [grd_t (s1.dec (by omega)), grd_t (s2.dec (by omega)), grd_t (s3.dec (by omega)), grd_t (s4.dec (by omega))]
  rfl
/-- What is found. -/
def fSubs (s : List GTuple) (o : GObj) (rel : ByteArray) : List GSub := (s.filter fun t => (⟨o, rel⟩ : GRef) == kR t).map (·.sub_)
def fObjs (s : List GTuple) (b : GSub) : List GRef := (s.filter fun t => b == t.sub_).map kR
def fTypes (s : List GTuple) (x : ByteArray) : List ByteArray := (s.filter fun t => x == t.obj.type_).map (·.obj.id_)
def fUsers (s : List GTuple) (x : ByteArray) : List ByteArray := ((s.filter bare).filter fun t => x == t.sub_.type_).map (·.sub_.id_)
theorem get_subs (s : List GTuple) (o : GObj) (rel : ByteArray) : mgetD (⟨o, rel⟩ : GRef) [] (mSubs s []) = fSubs s o rel := by
  unfold mSubs fSubs
  rw [fold_get]
  rfl
theorem get_objs (s : List GTuple) (b : GSub) : mgetD b [] (mRefs s []) = fObjs s b := by
  unfold mRefs fObjs
  rw [fold_get]
  rfl
theorem get_types (s : List GTuple) (x : ByteArray) : mgetD x [] (mObjs s []) = fTypes s x := by
  unfold mObjs fTypes
  rw [fold_get]
  rfl
theorem get_users (s : List GTuple) (x : ByteArray) : mgetD x [] (mUsers s []) = fUsers s x := by
  unfold mUsers fUsers
  rw [fold_get]
  rfl
theorem fSubs_len (s : List GTuple) (o : GObj) (rel : ByteArray) : (fSubs s o rel).length ≤ s.length := by unfold fSubs; rw [List.length_map]; exact List.length_filter_le _ _
theorem fObjs_len (s : List GTuple) (b : GSub) : (fObjs s b).length ≤ s.length := by unfold fObjs; rw [List.length_map]; exact List.length_filter_le _ _
theorem fTypes_len (s : List GTuple) (x : ByteArray) : (fTypes s x).length ≤ s.length := by unfold fTypes; rw [List.length_map]; exact List.length_filter_le _ _
theorem fUsers_len (s : List GTuple) (x : ByteArray) : (fUsers s x).length ≤ s.length := by unfold fUsers; rw [List.length_map]; exact Nat.le_trans (List.length_filter_le _ _) (List.length_filter_le _ _)
section
variable {n : Nat} {l : List GTuple} (h : l.length ≤ 1000000)
include h
theorem subs_some (o : GObj) (rel : ByteArray) : look_left_Subs n (ixO l).left o rel = some (fSubs (tO.ofL l) o rel) := by
  have h1 := ofL_len tO l
  have h2 := fSubs_len (tO.ofL l) o rel
  unfold look_left_Subs
  show (if (decide ((mgetD (⟨o, rel⟩ : GRef) [] (mSubs (tO.ofL l) [])).length = 0)) then _ else grd (decide ((mgetD (⟨o, rel⟩ : GRef) [] (mSubs (tO.ofL l) [])).length ≤ 4294967296)) <| some (mgetD (⟨o, rel⟩ : GRef) [] (mSubs (tO.ofL l) []))) = _
  rw [get_subs, grd_listG _ (by omega)]
theorem objs_some (b : GSub) : look_right_Objs n (ixO l).right b = some (fObjs (tO.ofL l) b) := by
  have h1 := ofL_len tO l
  have h2 := fObjs_len (tO.ofL l) b
  unfold look_right_Objs
  show (if (decide ((mgetD b [] (mRefs (tO.ofL l) [])).length = 0)) then _ else grd (decide ((mgetD b [] (mRefs (tO.ofL l) [])).length ≤ 4294967296)) <| some (mgetD b [] (mRefs (tO.ofL l) []))) = _
  rw [get_objs, grd_listG _ (by omega)]
theorem types_some (x : ByteArray) : look_left_Types n (ixO l).left x = some (tx.ofL (fTypes (tO.ofL l) x)) := by
  have h1 := ofL_len tO l
  have h2 := fTypes_len (tO.ofL l) x
  unfold look_left_Types
  show (look_once n (mgetD x [] (mObjs (tO.ofL l) []))).bind _ = _
  rw [get_types]
  unfold look_once
  rw [if_pos (by omega), Option.bind_some]
  exact congrArg some (once_set _)
theorem users_some (x : ByteArray) : look_right_Users n (ixO l).right x = some (tx.ofL (fUsers (tO.ofL l) x)) := by
  have h1 := ofL_len tO l
  have h2 := fUsers_len (tO.ofL l) x
  unfold look_right_Users
  show (look_once n (mgetD x [] (mUsers (tO.ofL l) []))).bind _ = _
  rw [get_users]
  unfold look_once
  rw [if_pos (by omega), Option.bind_some]
  exact congrArg some (once_set _)
end
theorem nm_some (n : Nat) (z : Int) : ∃ s, law1_Nm n z = some s := by
  unfold law1_Nm
  obtain ⟨s, h⟩ := idx_lt (xs := [({ data := #[97] } : ByteArray), { data := #[98] }, { data := #[99] }, { data := #[100] }, { data := #[97, 98] }, { data := #[98, 45, 49] }, { data := #[120, 46, 121] }, { data := #[48] }]) (an z 7) (wrap_an z 7 (by decide)) (Nat.lt_of_le_of_lt (an_le z 7) (by decide))
  rw [h]
  exact ⟨_, rfl⟩
theorem tame_some (n : Nat) (z : Int) : ∃ t, law2_Tame n z = some t := by
  unfold law2_Tame
  obtain ⟨s1, h1⟩ := nm_some n (sh z 1)
  obtain ⟨s2, h2⟩ := nm_some n (sh z 13)
  have two : ∀ (a b : ByteArray) (v : Int), ∃ x, idx [a, b] (IntKind.i64.wrap (an v 1 : Int)) = some x := fun a b v => idx_lt (an v 1) (wrap_an v 1 (by decide)) (Nat.lt_of_le_of_lt (an_le v 1) (show 1 < 2 by decide))
  have three : ∀ (a b c : ByteArray) (v : Int), ∃ x, idx [a, b, c] (Int.tmod (IntKind.i64.wrap (an v 255 : Int)) 3) = some x := fun a b c v => idx_lt (an v 255 % 3) (by rw [an8]; rfl) (Nat.mod_lt _ (by decide))
  obtain ⟨x1, e1⟩ := two { data := #[97] } { data := #[98] } z
  obtain ⟨x2, e2⟩ := two { data := #[114] } { data := #[115] } (sh z 4)
  obtain ⟨x3, e3⟩ := three { data := #[117] } { data := #[97] } { data := #[98] } (sh z 5)
  obtain ⟨x4, e4⟩ := two { data := #[114] } { data := #[115] } (sh z 18)
  rw [e1, Option.bind_some, h1, Option.bind_some, e2, Option.bind_some, e3, Option.bind_some, h2, Option.bind_some]
  split
  · rw [e4]
    exact ⟨_, rfl⟩
  · exact ⟨_, rfl⟩
theorem tames_loop {n : Nat} (l : List Int) : ∀ (c : Nat) (out : List GTuple), out.length ≤ 80 → 80 - out.length < c → ∃ ys, law2_Tames_L1 n l c (out, (out.length : Int)) = some ys ∧ ys.length ≤ 80
  | 0, _, _, h => by omega
  | c + 1, out, h1, h2 => by
    unfold law2_Tames_L1
    by_cases h : out.length < l.length
    · rw [dlt h, if_pos rfl, Option.bind_some]
      by_cases h3 : out.length < 80
      · obtain ⟨t, ht⟩ := tame_some n l[out.length]
        rw [show decide ((out.length : Int) < 80) = true by simp; omega, if_pos rfl, idxS h, Option.bind_some, ht, Option.bind_some, appS (by simp; omega), Option.bind_some, wr1 (by omega)]
        obtain ⟨ys, h4, h5⟩ := tames_loop (n := n) l c (out ++ [t]) (by simp; omega) (by simp; omega)
        rw [List.length_append, List.length_singleton] at h4
        exact ⟨ys, h4, h5⟩
      · rw [show decide ((out.length : Int) < 80) = false by simp; omega, if_neg (by decide)]
        exact ⟨_, rfl, h1⟩
    · rw [dnlt (by omega), if_neg (by decide), Option.bind_some]
      rw [if_neg (by decide)]
      exact ⟨_, rfl, h1⟩
theorem tames_some {n : Nat} (l : List Int) (hn : 80 < n) : ∃ ys, law2_Tames n l = some ys ∧ ys.length ≤ 80 := by
  obtain ⟨ys, h1, h2⟩ := tames_loop (n := n) l n [] (by simp) (by simpa using hn)
  refine ⟨ys, ?_, h2⟩
  unfold law2_Tames
  have h3 : law2_Tames_L1 n l n ([], 0) = some ys := h1
  rw [h3]
  rfl
theorem sameTexts_some {n : Nat} {a b : List ByteArray} (hn : a.length < n) (hx : a.length < 4611686018427387904) : ref1_SameTexts n a b = some (decide (a = b)) := by
  unfold ref1_SameTexts
  by_cases hl : a.length = b.length
  · have e : ((a.length : Int) != (b.length : Int)) = false := by simp [hl]
    have h : ref1_SameTexts_L1 n a b n 0 = _ := same_loop (L := ref1_SameTexts_L1 n a b) (E := fun x y => x.toList == y.toList) beqS (fun _ _ => rfl) hl hx n 0 (by omega) (by omega)
    rw [e, if_neg (by decide), h, List.drop_zero, List.drop_zero, Option.bind_some]
    by_cases e : a = b <;> simp [e]
  · have e : ((a.length : Int) != (b.length : Int)) = true := by simp; omega
    rw [e, if_pos rfl, decide_eq_false fun h => hl (by rw [h])]
theorem texts_shape (n : Nat) (a b : List ByteArray) (c : Nat) (t : List ByteArray) (i k : Int) : ref1_Texts_L1 n a b (c + 1) (t, i, k) =
      (((if decide (i < (a.length : Int)) then some (t, true) else some (t, decide (k < (b.length : Int)))) : Option (List ByteArray × Bool)).bind fun q =>
      (if q.2 then
        (((if k == (b.length : Int) then some (q.1, true) else (if decide (i < (a.length : Int)) then (idx a i).bind fun x => (idx b k).bind fun y => some (q.1, tx.lt x y) else some (q.1, false))) : Option (List ByteArray × Bool)).bind fun w =>
        (if w.2 then (idx a i).bind fun x => (app w.1 [x]).bind fun l => ref1_Texts_L1 n a b c (l, IntKind.i64.wrap (i + 1), k)
        else (if i == (a.length : Int) then (idx b k).bind fun y => (app w.1 [y]).bind fun l => ref1_Texts_L1 n a b c (l, i, IntKind.i64.wrap (k + 1))
          else (idx b k).bind fun y => (idx a i).bind fun x => (if tx.lt y x then (app w.1 [y]).bind fun l => ref1_Texts_L1 n a b c (l, i, IntKind.i64.wrap (k + 1)) else ref1_Texts_L1 n a b c (w.1, IntKind.i64.wrap (i + 1), k)))))
      else some q.1)) := by
  rw [ref1_Texts_L1]
  cases decide (i < (a.length : Int)) <;> cases decide (k < (b.length : Int)) <;> cases (k == (b.length : Int)) <;> cases idx a i <;> cases idx b k <;> rfl
theorem texts_some : ∀ (n : Nat) (l : List ByteArray), l.length + 2 ≤ n → l.length ≤ 4294967296 → ref1_Texts n l = some (tx.ofL l)
  | 0, _, h, _ => by omega
  | n + 1, l, h, hl => by
    have ih := texts_some n
    unfold ref1_Texts
    by_cases h2 : l.length < 2
    · rw [decide_eq_true (by omega), if_pos rfl, appS (by simp; omega), Option.bind_some, ofL_short tx h2]
    · rw [decide_eq_false (by omega), if_neg (by decide), show Int.tdiv (l.length : Int) 2 = ((l.length / 2 : Nat) : Int) from rfl, wr (by omega) (by omega)]
      have e1 : slc l 0 ((l.length / 2 : Nat) : Int) = some (l.take (l.length / 2)) := slcS (xs := l) (a := 0) (by omega) (by omega)
      have e2 : slc l ((l.length / 2 : Nat) : Int) (l.length : Int) = some (l.drop (l.length / 2)) := by
        have := slcS (xs := l) (a := l.length / 2) (b := l.length) (by omega) (Nat.le_refl _)
        rwa [List.take_length] at this
      have l1 : (l.take (l.length / 2)).length = l.length / 2 := by rw [List.length_take]; omega
      have l2 : (l.drop (l.length / 2)).length = l.length - l.length / 2 := List.length_drop ..
      have k1 := ofL_len tx (l.take (l.length / 2))
      have k2 := ofL_len tx (l.drop (l.length / 2))
      rw [e1, Option.bind_some, ih _ (by omega) (by omega), Option.bind_some, e2, Option.bind_some, ih _ (by omega) (by omega), Option.bind_some]
      have m : ref1_Texts_L1 n (tx.ofL (l.take (l.length / 2))) (tx.ofL (l.drop (l.length / 2))) n ([], 0, 0) = _ := merge_loop tx (L := ref1_Texts_L1 n (tx.ofL (l.take (l.length / 2))) (tx.ofL (l.drop (l.length / 2)))) (texts_shape n _ _) n [] 0 0 (by omega) (by omega) (by omega) (by simp; omega) (by omega) (by omega)
      rw [m, Option.bind_some, List.nil_append, List.drop_zero, List.drop_zero, tx.mg_ofL, List.take_append_drop]
/-! ### two rows -/
theorem subE (x y : GSub) : ((x.type_ == y.type_) && ((x.id_ == y.id_) && (x.rel == y.rel))) = decide (x = y) := by
  obtain ⟨a, b, c⟩ := x
  obtain ⟨a', b', c'⟩ := y
  rw [Bool.eq_iff_iff]
  simp
theorem refE (x y : GRef) : ((x.obj.type_ == y.obj.type_) && ((x.obj.id_ == y.obj.id_) && (x.rel == y.rel))) = decide (x = y) := by
  obtain ⟨⟨a, b⟩, c⟩ := x
  obtain ⟨⟨a', b'⟩, c'⟩ := y
  rw [Bool.eq_iff_iff]
  simp [and_assoc]
theorem sameSubs_some {n : Nat} {a b : List GSub} (hn : a.length < n) (hx : a.length < 4611686018427387904) : law5_sameSubs n a b = some (decide (a = b)) := by
  unfold law5_sameSubs
  by_cases hl : a.length = b.length
  · have e : ((a.length : Int) != (b.length : Int)) = false := by simp [hl]
    have h : law5_sameSubs_L1 n a b n 0 = _ := same_loop (L := law5_sameSubs_L1 n a b) (E := fun x y => ((x.type_ == y.type_) && ((x.id_ == y.id_) && (x.rel == y.rel)))) subE (fun _ _ => rfl) hl hx n 0 (by omega) (by omega)
    rw [e, if_neg (by decide), h, List.drop_zero, List.drop_zero, Option.bind_some]
    by_cases e : a = b <;> simp [e]
  · have e : ((a.length : Int) != (b.length : Int)) = true := by simp; omega
    rw [e, if_pos rfl, decide_eq_false fun h => hl (by rw [h])]
theorem sameRefs_some {n : Nat} {a b : List GRef} (hn : a.length < n) (hx : a.length < 4611686018427387904) : law5_sameRefs n a b = some (decide (a = b)) := by
  unfold law5_sameRefs
  by_cases hl : a.length = b.length
  · have e : ((a.length : Int) != (b.length : Int)) = false := by simp [hl]
    have h : law5_sameRefs_L1 n a b n 0 = _ := same_loop (L := law5_sameRefs_L1 n a b) (E := fun x y => ((x.obj.type_ == y.obj.type_) && ((x.obj.id_ == y.obj.id_) && (x.rel == y.rel)))) refE (fun _ _ => rfl) hl hx n 0 (by omega) (by omega)
    rw [e, if_neg (by decide), h, List.drop_zero, List.drop_zero, Option.bind_some]
    by_cases e : a = b <;> simp [e]
  · have e : ((a.length : Int) != (b.length : Int)) = true := by simp; omega
    rw [e, if_pos rfl, decide_eq_false fun h => hl (by rw [h])]
/-! ### what the document finds -/
theorem dObjs_fold (n : Nat) (l0 : List GTuple) (b : GSub) : ∀ (l : List GTuple) (out : List GRef), out.length + l.length ≤ 4294967296 → foldK (ref1_Objs_L1_f n l0 b) (ref1_Objs_L1_e n l0 b) l out = some (out ++ fObjs l b)
  | [], out, _ => by simp [foldK, ref1_Objs_L1_e, fObjs]
  | t :: r, out, h => by
    rw [List.length_cons] at h
    rw [foldK]
    show (if ((t.sub_.type_ == b.type_) && ((t.sub_.id_ == b.id_) && (t.sub_.rel == b.rel))) then (app out [(⟨t.obj, t.rel⟩ : GRef)]).bind fun l2 => foldK (ref1_Objs_L1_f n l0 b) (ref1_Objs_L1_e n l0 b) r l2 else foldK (ref1_Objs_L1_f n l0 b) (ref1_Objs_L1_e n l0 b) r out) = _
    rw [subE]
    by_cases e : t.sub_ = b
    · rw [decide_eq_true e, if_pos rfl, appS (by simp; omega), Option.bind_some, dObjs_fold n l0 b r _ (by simp; omega)]
      simp [fObjs, e, kR]
    · rw [decide_eq_false e, if_neg (by decide), dObjs_fold n l0 b r out (by omega)]
      have e' : (b == t.sub_) = false := by simp; exact fun h => e h.symm
      simp [fObjs, e']
theorem dObjs_some {n : Nat} {l : List GTuple} (h : l.length ≤ 1000000) (hn : 1000000 < n) (b : GSub) : ref1_Objs n l b = some (fObjs l b) := by
  unfold ref1_Objs
  have hL : ref1_Objs_L1 n l b n (([] : List GRef), 0) = _ := ref1_Objs_L1_list n l b (by omega) n [] 0 (by omega) (by omega)
  rw [List.drop_zero, dObjs_fold n l b l [] (by simp; omega)] at hL
  rw [hL]
  rfl
theorem dTypes_fold (n : Nat) (l0 : List GTuple) (x : ByteArray) : ∀ (l : List GTuple) (out : List ByteArray), out.length + l.length ≤ 4294967296 → foldK (ref1_Types_L1_f n l0 x) (ref1_Types_L1_e n l0 x) l out = some (out ++ fTypes l x)
  | [], out, _ => by simp [foldK, ref1_Types_L1_e, fTypes]
  | t :: r, out, h => by
    rw [List.length_cons] at h
    rw [foldK]
    show (if (t.obj.type_.toList == x.toList) then (app out [t.obj.id_]).bind fun l2 => foldK (ref1_Types_L1_f n l0 x) (ref1_Types_L1_e n l0 x) r l2 else foldK (ref1_Types_L1_f n l0 x) (ref1_Types_L1_e n l0 x) r out) = _
    rw [beqS]
    by_cases e : t.obj.type_ = x
    · rw [decide_eq_true e, if_pos rfl, appS (by simp; omega), Option.bind_some, dTypes_fold n l0 x r _ (by simp; omega)]
      simp [fTypes, e]
    · rw [decide_eq_false e, if_neg (by decide), dTypes_fold n l0 x r out (by omega)]
      have e' : (x == t.obj.type_) = false := by simp; exact fun h => e h.symm
      simp [fTypes, e']
theorem dTypes_some {n : Nat} {l : List GTuple} (h : l.length ≤ 1000000) (hn : 2000000 < n) (x : ByteArray) : ref1_Types n l x = some (tx.ofL (fTypes l x)) := by
  unfold ref1_Types
  have h2 := fTypes_len l x
  have hL : ref1_Types_L1 n l x n (([] : List ByteArray), 0) = _ := ref1_Types_L1_list n l x (by omega) n [] 0 (by omega) (by omega)
  rw [List.drop_zero, dTypes_fold n l x l [] (by simp; omega), List.nil_append] at hL
  rw [hL, Option.bind_some, texts_some n _ (by omega) (by omega)]
  rfl
theorem dUsers_fold (n : Nat) (l0 : List GTuple) (x : ByteArray) : ∀ (l : List GTuple) (out : List ByteArray), out.length + l.length ≤ 4294967296 → foldK (ref1_Users_L1_f n l0 x) (ref1_Users_L1_e n l0 x) l out = some (out ++ fUsers l x)
  | [], out, _ => by simp [foldK, ref1_Users_L1_e, fUsers]
  | t :: r, out, h => by
    rw [List.length_cons] at h
    rw [foldK]
    show (if (t.sub_.type_.toList == x.toList) then (if (t.sub_.rel.toList == ({ data := #[] } : ByteArray).toList) then (app out [t.sub_.id_]).bind fun l2 => foldK (ref1_Users_L1_f n l0 x) (ref1_Users_L1_e n l0 x) r l2 else foldK (ref1_Users_L1_f n l0 x) (ref1_Users_L1_e n l0 x) r out) else foldK (ref1_Users_L1_f n l0 x) (ref1_Users_L1_e n l0 x) r out) = _
    rw [beqS, beqS]
    by_cases e : t.sub_.type_ = x
    · rw [decide_eq_true e, if_pos rfl]
      by_cases e2 : t.sub_.rel = { data := #[] }
      · have eb : bare t = true := decide_eq_true e2
        rw [decide_eq_true e2, if_pos rfl, appS (by simp; omega), Option.bind_some, dUsers_fold n l0 x r _ (by simp; omega)]
        simp only [fUsers, List.filter_cons, eb, if_true, e, beq_self_eq_true, List.map_cons, List.append_assoc, List.singleton_append]
      · have eb : bare t = false := decide_eq_false e2
        rw [decide_eq_false e2, if_neg (by decide), dUsers_fold n l0 x r out (by omega)]
        simp only [fUsers, List.filter_cons, eb, Bool.false_eq_true, if_false]
    · rw [decide_eq_false e, if_neg (by decide), dUsers_fold n l0 x r out (by omega)]
      have e' : (x == t.sub_.type_) = false := by simp; exact fun h => e h.symm
      unfold fUsers
      rw [List.filter_cons]
      cases bare t <;> simp [e']
theorem dUsers_some {n : Nat} {l : List GTuple} (h : l.length ≤ 1000000) (hn : 2000000 < n) (x : ByteArray) : ref1_Users n l x = some (tx.ofL (fUsers l x)) := by
  unfold ref1_Users
  have h2 := fUsers_len l x
  have hL : ref1_Users_L1 n l x n (([] : List ByteArray), 0) = _ := ref1_Users_L1_list n l x (by omega) n [] 0 (by omega) (by omega)
  rw [List.drop_zero, dUsers_fold n l x l [] (by simp; omega), List.nil_append] at hL
  rw [hL, Option.bind_some, texts_some n _ (by omega) (by omega)]
  rfl
/-! ### a relation's subjects stand together -/
def lowT (o : GObj) (rel : ByteArray) : GTuple := ⟨o, rel, ⟨ByteArray.empty, ByteArray.empty, ByteArray.empty⟩⟩
theorem cmS_empty (b : ByteArray) : ¬ cmS b ByteArray.empty < 0 := by
  show ¬ Lib.compareBytes b.data.toList [] < 0
  cases b.data.toList <;> simp [Lib.compareBytes]
theorem cfL_app : ∀ (p q x y : List ByteArray), p.length = q.length → cfL (p ++ x) (q ++ y) = if cfL p q = 0 then cfL x y else cfL p q
  | [], [], x, y, _ => rfl
  | [], _ :: _, _, _, h => by simp at h
  | _ :: _, [], _, _, h => by simp at h
  | a :: p, b :: q, x, y, h => by
    have ih := cfL_app p q x y (by simpa using h)
    unfold cfL at *
    simp only [List.cons_append, List.zipWith_cons_cons, orI]
    by_cases e : cmS a b = 0
    · rw [if_pos e, if_pos e, ih]
    · rw [if_neg e, if_neg e, if_neg e]
theorem cfL_low : ∀ x : List ByteArray, ¬ cfL x (x.map fun _ => ByteArray.empty) < 0
  | [] => by simp [cfL, orI]
  | a :: x => by
    have ih := cfL_low x
    have h := cmS_empty a
    unfold cfL at *
    simp only [List.map_cons, List.zipWith_cons_cons, orI]
    split
    · exact ih
    · exact h
def kl (t : GTuple) : List ByteArray := [t.obj.type_, t.obj.id_, t.rel]
def sl3 (t : GTuple) : List ByteArray := [t.sub_.type_, t.sub_.id_, t.sub_.rel]
theorem tO_lt (x y : GTuple) : tO.lt x y = decide ((if cfL (kl x) (kl y) = 0 then cfL (sl3 x) (sl3 y) else cfL (kl x) (kl y)) < 0) := by
  rw [← cfL_app (kl x) (kl y) (sl3 x) (sl3 y) rfl]
  rfl
theorem kl_kR (x y : GTuple) : cfL (kl x) (kl y) = 0 ↔ kR x = kR y := by
  rw [cfL_zero (kl x) (kl y) rfl]
  obtain ⟨⟨a, b⟩, c, d⟩ := x
  obtain ⟨⟨a', b'⟩, c', d'⟩ := y
  simp [kl, kR, and_assoc]
theorem low_min {o : GObj} {rel : ByteArray} {x : GTuple} (h : kR x = ⟨o, rel⟩) : tO.lt x (lowT o rel) = false := by
  rw [tO_lt, (kl_kR x (lowT o rel)).2 h, if_pos rfl]
  exact decide_eq_false (cfL_low (sl3 x))
/-- What stands between two of one relation is of that relation. -/
theorem between {a x b : GTuple} (h1 : tO.lt a x = true) (h2 : tO.lt x b = true) (h : kR a = kR b) : kR x = kR a := by
  rw [tO_lt] at h1 h2
  have e : kl b = kl a := (cfL_zero (kl b) (kl a) rfl).1 ((kl_kR b a).2 h.symm)
  rw [e] at h2
  have hn := cfL_neg (kl x) (kl a)
  refine (kl_kR x a).1 ?_
  by_cases h0 : cfL (kl x) (kl a) = 0
  · exact h0
  · have h3 : ¬ cfL (kl a) (kl x) = 0 := by omega
    rw [if_neg h3] at h1
    rw [if_neg h0] at h2
    have h4 := of_decide_eq_true h1
    have h5 := of_decide_eq_true h2
    omega
theorem filter_take {o : GObj} {rel : ByteArray} : ∀ {l : List GTuple}, tO.Rises l → (∀ x ∈ l, tO.lt x (lowT o rel) = false) → l.filter (fun t => (⟨o, rel⟩ : GRef) == kR t) = l.takeWhile fun t => (⟨o, rel⟩ : GRef) == kR t
  | [], _, _ => rfl
  | x :: l, hr, hl => by
    obtain ⟨h1, h2⟩ := List.pairwise_cons.1 hr
    have ih := filter_take h2 fun y hy => hl y (List.mem_cons_of_mem _ hy)
    rw [List.filter_cons, List.takeWhile_cons, ih]
    cases e : ((⟨o, rel⟩ : GRef) == kR x) with
    | true => rfl
    | false =>
      rw [if_neg (by decide), ← ih]
      refine List.filter_eq_nil_iff.2 fun y hy hk => ?_
      have hk : (⟨o, rel⟩ : GRef) = kR y := by simpa using hk
      have e : ¬ (⟨o, rel⟩ : GRef) = kR x := by simpa using e
      have h3 := hl x (List.mem_cons_self ..)
      cases h4 : tO.lt (lowT o rel) x with
      | true => exact e (between h4 (h1 y hy) hk).symm
      | false =>
        have h5 := tO.total h4 h3
        rw [← h5] at e
        exact e rfl
theorem dSubs_fold (n : Nat) (l0 : List GTuple) (o : GObj) (rel : ByteArray) : ∀ (l : List GTuple) (out : List GSub), out.length + l.length ≤ 4294967296 → foldK (ref1_Subs_L1_f n l0 o rel) (ref1_Subs_L1_e n l0 o rel) l out = some (out ++ (l.takeWhile fun t => (⟨o, rel⟩ : GRef) == kR t).map (·.sub_))
  | [], out, _ => by simp [foldK, ref1_Subs_L1_e]
  | t :: r, out, h => by
    rw [List.length_cons] at h
    rw [foldK]
    show (if ((t.obj.type_ == o.type_) && (t.obj.id_ == o.id_)) then (if (t.rel.toList == rel.toList) then (app out [t.sub_]).bind fun l2 => foldK (ref1_Subs_L1_f n l0 o rel) (ref1_Subs_L1_e n l0 o rel) r l2 else some out) else some out) = _
    rw [beqS, List.takeWhile_cons]
    have e1 : ((t.obj.type_ == o.type_) && (t.obj.id_ == o.id_)) = decide (t.obj = o) := by
      obtain ⟨⟨a, b⟩, c, d⟩ := t
      obtain ⟨a', b'⟩ := o
      rw [Bool.eq_iff_iff]
      simp
    have e2 : ((⟨o, rel⟩ : GRef) == kR t) = (decide (t.obj = o) && decide (t.rel = rel)) := by
      obtain ⟨⟨a, b⟩, c, d⟩ := t
      rw [Bool.eq_iff_iff]
      simp only [kR, beq_iff_eq, GRef.mk.injEq, Bool.and_eq_true, decide_eq_true_eq]
      exact ⟨fun ⟨h1, h2⟩ => ⟨h1.symm, h2.symm⟩, fun ⟨h1, h2⟩ => ⟨h1.symm, h2.symm⟩⟩
    rw [e1, e2]
    cases decide (t.obj = o)
    · simp
    · cases decide (t.rel = rel)
      · simp
      · rw [if_pos rfl, if_pos rfl, appS (by simp; omega), Option.bind_some, dSubs_fold n l0 o rel r _ (by simp; omega)]
        simp
theorem dSubs_some {n : Nat} {s : List GTuple} (hs : tO.Rises s) (h : s.length ≤ 1000000) (hn : 1000000 < n) (o : GObj) (rel : ByteArray) : ref1_Subs n s o rel = some (fSubs s o rel) := by
  unfold ref1_Subs ref1_place
  obtain ⟨k, e, hk, ha, hb⟩ := bis_loop tO (L := ref1_place_L1 n s (lowT o rel)) (s := s) (t := lowT o rel) (fun c i j h hj => by
    rw [ref1_place_L1, dlt h, if_pos rfl, mid2 (by omega), idxS (by omega), Option.bind_some, show ref1_Less n _ _ = some _ from rfl, Option.bind_some, wr1 (by omega)]) (fun c i => by rw [ref1_place_L1, dnlt (Nat.le_refl _), if_neg (by decide)]) hs n 0 s.length (by omega) (by omega) (by omega) (fun q _ h => by omega) (fun q h h' => by omega)
  have e' : ref1_place_L1 n s (⟨o, rel, ⟨ByteArray.empty, ByteArray.empty, ByteArray.empty⟩⟩ : GTuple) n (0, (s.length : Int)) = some (k : Int) := e
  have hL : ref1_Subs_L1 n s o rel n (([] : List GSub), (k : Int)) = _ := ref1_Subs_L1_list n s o rel (by omega) n [] k hk (by omega)
  rw [dSubs_fold n s o rel _ [] (by simp; omega), List.nil_append] at hL
  rw [e', Option.bind_some, Option.bind_some, hL, Option.bind_some]
  have h1 : (s.take k).filter (fun t => (⟨o, rel⟩ : GRef) == kR t) = [] := by
    refine List.filter_eq_nil_iff.2 fun y hy hkey => ?_
    obtain ⟨q, hq, rfl⟩ := List.getElem_of_mem hy
    have hkey : (⟨o, rel⟩ : GRef) = kR (s.take k)[q] := by simpa using hkey
    have h3 := low_min hkey.symm
    rw [List.length_take] at hq
    rw [List.getElem_take] at h3
    rw [ha q (by omega) (by omega)] at h3
    cases h3
  have h2 : (s.drop k).filter (fun t => (⟨o, rel⟩ : GRef) == kR t) = (s.drop k).takeWhile fun t => (⟨o, rel⟩ : GRef) == kR t := by
    refine filter_take (hs.sublist (List.drop_sublist _ _)) fun y hy => ?_
    obtain ⟨q, hq, rfl⟩ := List.getElem_of_mem hy
    rw [List.length_drop] at hq
    rw [List.getElem_drop]
    exact hb _ (by omega) (by omega)
  have h3 : s.filter (fun t => (⟨o, rel⟩ : GRef) == kR t) = (s.drop k).takeWhile fun t => (⟨o, rel⟩ : GRef) == kR t := by
    rw [← h2]
    conv => lhs; rw [← List.take_append_drop k s]
    rw [List.filter_append, h1, List.nil_append]
  unfold fSubs
  rw [h3]
/-! ### the law -/
theorem lt_step {n : Nat} {t1 : List Int} {t3 : Int} {c : Nat} {l : List GTuple} {a b r s i q : ByteArray} {x : Int} (hx : decide (x < 2) = true) (hl : l.length ≤ 1000000) (hn : 2000000 < n) :
    law5_LookTells_L1 n t1 t3 (c + 1) (l, a, b, r, s, i, q, x) = (law2_Tames n t1).bind fun t912 => (law2_Tame n t3).bind fun t932 => law5_LookTells_L1 n t1 t3 c (t912, t932.obj.type_, t932.obj.id_, t932.rel, t932.sub_.type_, t932.sub_.id_, t932.sub_.rel, (IntKind.i64.wrap (x + 1))) := by
  have h1 := ofL_len tO l
  have h2 := fSubs_len (tO.ofL l) ⟨a, b⟩ r
  have h3 := fObjs_len (tO.ofL l) ⟨s, i, q⟩
  have h4 := fTypes_len (tO.ofL l) a
  have h5 := fUsers_len (tO.ofL l) s
  have h6 := ofL_len tx (fTypes (tO.ofL l) a)
  have h7 := ofL_len tx (fUsers (tO.ofL l) s)
  have hr := tO.rises_ofL l
  rw [law5_LookTells_L1, hx, if_pos rfl, lookOf_some hl (by omega), Option.bind_some, dOf_some _ l n (Nat.le_refl _) (by omega) (by omega), Option.bind_some, subs_some hl, Option.bind_some, dSubs_some hr (by omega) (by omega), Option.bind_some, sameSubs_some (by omega) (by omega), Option.bind_some, decide_eq_true rfl, if_pos rfl,
    objs_some hl, Option.bind_some, dObjs_some (by omega) (by omega), Option.bind_some, sameRefs_some (by omega) (by omega), Option.bind_some, decide_eq_true rfl, if_pos rfl, types_some hl, Option.bind_some, dTypes_some (by omega) (by omega), Option.bind_some, sameTexts_some (by omega) (by omega), Option.bind_some, decide_eq_true rfl, if_pos rfl,
    users_some hl, Option.bind_some, dUsers_some (by omega) (by omega), Option.bind_some, sameTexts_some (by omega) (by omega), Option.bind_some, decide_eq_true rfl]
  rfl
theorem law_lookTells (a0 : List GTuple) (a1 : List Int) (a2 : GTuple) (a3 : Int) : ∃ n, law5_LookTells n a0 a1 a2 a3 = some true := by
  refine ⟨2000003, ?_⟩
  unfold law5_LookTells
  by_cases h : 60 < a0.length
  · rw [show decide (60 < (a0.length : Int)) = true by simp; omega, if_pos rfl]
    rfl
  · obtain ⟨ys, e1, h1⟩ := tames_some (n := 2000003) a1 (by omega)
    obtain ⟨t, e2⟩ := tame_some 2000003 a3
    rw [show decide (60 < (a0.length : Int)) = false by simp; omega, if_neg (by decide), show (2000003 : Nat) = 2000000 + 1 + 1 + 1 from rfl, lt_step rfl (by omega) (by omega), e1, Option.bind_some, e2, Option.bind_some, lt_step rfl (by omega) (by omega), e1, Option.bind_some, e2, Option.bind_some, law5_LookTells_L1]
    rfl
end Go.Proofs.Ytdckfddlcmkdlaa.Ab
