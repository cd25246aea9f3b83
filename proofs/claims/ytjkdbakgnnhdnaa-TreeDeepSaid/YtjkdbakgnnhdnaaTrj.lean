/-
 A graph over an index: its subjects; the rows of a law, each in the one before. No program in sight.
-/
import Derived.Test.YtjkdbakgnnhdnaaTeb
namespace Go.Proofs.Ytjkdbakgnnhdnaa.Ab
open Go.RowKit
theorem of_some {n : Nat} {l : List GTuple} (h : l.length ≤ 4294967296) : rows_Of n l = some (tO.ofL l) := if_pos h
section
variable {K α : Type} [BEq K] [LawfulBEq K]
theorem madd_get (k k' : K) (ys : List α) : ∀ es : List (K × List α), mgetD k [] (madd k' ys es) = if k == k' then mgetD k [] es ++ ys else mgetD k [] es
 | [] => by
  cases h : (k == k') <;> simp [madd, mgetD, mget, h]
 | p :: r => by
  have ih := madd_get k k' ys r
  cases h1 : (k' == p.1) with
  | true =>
   have e1 : k' = p.1 := by simpa using h1
   cases h2 : (k == k') with
   | true =>
    have e2 : k = k' := by simpa using h2
    subst e2
    simp [madd, mgetD, mget, h1]
   | false =>
    have h3 : (k == p.1) = false := by rw [← e1]; exact h2
    simp [madd, mgetD, mget, h1, h2, h3]
  | false =>
   cases h3 : (k == p.1) with
   | true =>
    have e3 : k = p.1 := by simpa using h3
    have h2 : (k == k') = false := by
     cases h2 : (k == k') with
     | false => rfl
     | true =>
      have e2 : k = k' := by simpa using h2
      rw [← e2, e3] at h1
      simp at h1
    simp [madd, mgetD, mget, h1, h2, h3]
   | false =>
    simp only [mgetD] at ih
    simp [madd, mgetD, mget, h1, h3, ih]
omit [LawfulBEq K] in
theorem madd_len (k : K) (ys : List α) : ∀ es : List (K × List α), (madd k ys es).length ≤ es.length + 1
 | [] => by simp [madd]
 | p :: r => by
  have ih := madd_len k ys r
  unfold madd
  split <;> simp <;> omega
structure small (m : Nat) (es : List (K × List α)) : Prop where
 l : es.length ≤ m
 g : ∀ k, (mgetD k [] es).length ≤ m
theorem small.add {m : Nat} {es : List (K × List α)} (h : small m es) (k : K) (y : α) : small (m + 1) (madd k [y] es) := ⟨Nat.le_trans (madd_len k [y] es) (Nat.add_le_add_right h.l 1), fun k' => by
 rw [madd_get]
 have := h.g k'
 split
 ·rw [List.length_append, List.length_singleton]; omega
 ·omega⟩
omit [LawfulBEq K] in
theorem small.up {m m' : Nat} {es : List (K × List α)} (h : small m es) (k : m ≤ m') : small m' es := ⟨Nat.le_trans h.l k, fun x => Nat.le_trans (h.g x) k⟩
omit [LawfulBEq K] in
theorem small_nil {m : Nat} : small m ([] : List (K × List α)) := ⟨Nat.zero_le _, fun k => Nat.zero_le _⟩
omit [LawfulBEq K] in
theorem small.fam {m : Nat} {es : List (K × List α)} (h : small m es) (hm : m < 4294967296) (k : K) : famG k es = true := by
 have h1 := h.l
 have h2 := h.g k
 simp only [famG, Bool.and_eq_true, decide_eq_true_eq]
 omega
omit [LawfulBEq K] in
theorem small.dec {m : Nat} {es : List (K × List α)} (h : small m es) (hm : m ≤ 4294967296) : decide (es.length ≤ 4294967296) = true := decide_eq_true (Nat.le_trans h.l hm)
theorem fold_get {β : Type} (key : β → K) (val : β → α) (k : K) : ∀ (l : List β) (es : List (K × List α)), mgetD k [] (l.foldl (fun es t => madd (key t) [val t] es) es) = mgetD k [] es ++ (l.filter fun t => k == key t).map val
 | [], es => by simp
 | t :: r, es => by
  rw [List.foldl_cons, fold_get key val k r, madd_get, List.filter_cons]
  split <;> simp
theorem fold_small {β : Type} (key : β → K) (val : β → α) : ∀ (l : List β) (m : Nat) (es : List (K × List α)), small m es → small (m + l.length) (l.foldl (fun es t => madd (key t) [val t] es) es)
 | [], m, es, h => h
 | t :: r, m, es, h => by
  have := fold_small key val r (m + 1) _ (h.add (key t) (val t))
  rw [List.foldl_cons, List.length_cons, show m + (r.length + 1) = m + 1 + r.length by omega]
  exact this
end
theorem grd_t {β : Type} {c : Bool} {k : Option β} (h : c = true) : grd c k = k := by
 unfold grd
 rw [if_pos h]
theorem grd_listG {β : Type} (x : List β) (h : x.length ≤ 4294967296) : (if (decide (x.length = 0)) then some [] else grd (decide (x.length ≤ 4294967296)) <| some x) = some x := by
 by_cases h0 : x.length = 0
 ·rw [decide_eq_true h0, if_pos rfl, List.eq_nil_of_length_eq_zero h0]
 ·rw [decide_eq_false h0, if_neg (by decide), decide_eq_true h]
  rfl
def kR (t : GTuple) : GRef := ⟨t.obj, t.rel⟩
def bare (t : GTuple) : Bool := decide (t.sub_.rel = { data := #[] })
def mSubs (l : List GTuple) (es : List (GRef × List GSub)) : List (GRef × List GSub) := l.foldl (fun es t => madd (kR t) [t.sub_] es) es
def mObjs (l : List GTuple) (es : List (ByteArray × List ByteArray)) : List (ByteArray × List ByteArray) := l.foldl (fun es t => madd t.obj.type_ [t.obj.id_] es) es
def mRefs (l : List GTuple) (es : List (GSub × List GRef)) : List (GSub × List GRef) := l.foldl (fun es t => madd t.sub_ [kR t] es) es
def mUsers (l : List GTuple) (es : List (ByteArray × List ByteArray)) : List (ByteArray × List ByteArray) := (l.filter bare).foldl (fun es t => madd t.sub_.type_ [t.sub_.id_] es) es
theorem lo_step {n m : Nat} {t16 : List GTuple} {t : GTuple} {a : List (GRef × List GSub)} {b : List (ByteArray × List ByteArray)} {c : List (GSub × List GRef)} {d : List (ByteArray × List ByteArray)} (ha : small m a) (hb : small m b) (hc : small m c) (hd : small m d) (hm : m + 1 < 4294967296) (k) :
  look_Of_L1_f n t16 (a, b, c, d) t k = k (madd (kR t) [t.sub_] a, madd t.obj.type_ [t.obj.id_] b, madd t.sub_ [kR t] c, if bare t then madd t.sub_.type_ [t.sub_.id_] d else d) := by
 have h1 : decide ((madd (⟨t.obj, t.rel⟩ : GRef) [t.sub_] a).length ≤ 4294967296) = true := (ha.add (kR t) t.sub_).dec (by omega)
 have h2 := (hb.add t.obj.type_ t.obj.id_).dec (by omega)
 have h3 : decide ((madd t.sub_ [(⟨t.obj, t.rel⟩ : GRef)] c).length ≤ 4294967296) = true := (hc.add t.sub_ (kR t)).dec (by omega)
 have h4 := (hd.add t.sub_.type_ t.sub_.id_).dec (by omega)
 unfold look_Of_L1_f
 dsimp only
 rw [grd_t (ha.dec (by omega)), grd_t (hb.dec (by omega)), grd_t (hc.dec (by omega)), grd_t (hd.dec (by omega)), grd_t (ha.fam (by omega) _), Zo, grd_t h1, grd_t (hc.fam (by omega) _), Zo, grd_t h3, grd_t (hb.fam (by omega) _), Zo, beqS, grd_t h2, grd_t h2]
 unfold bare kR
 cases decide (t.sub_.rel = { data := #[] })
 ·rfl
 ·rw [if_pos rfl, if_pos rfl, grd_t (hd.fam (by omega) _), Zo, grd_t h4]
theorem lo_fold (n : Nat) (t16 : List GTuple) : ∀ (l : List GTuple) (m : Nat) (a : List (GRef × List GSub)) (b : List (ByteArray × List ByteArray)) (c : List (GSub × List GRef)) (d : List (ByteArray × List ByteArray)), small m a → small m b → small m c → small m d → m + l.length < 4294967296 →
  foldK (look_Of_L1_f n t16) (look_Of_L1_e n t16) l (a, b, c, d) = some (mSubs l a, mObjs l b, mRefs l c, mUsers l d)
 | [], m, a, b, c, d, ha, hb, hc, hd, hm => by
  rw [List.length_nil] at hm
  show look_Of_L1_e n t16 (a, b, c, d) = _
  unfold look_Of_L1_e
  dsimp only
  rw [grd_t (ha.dec (by omega)), grd_t (hb.dec (by omega)), grd_t (hc.dec (by omega)), grd_t (hd.dec (by omega))]
  rfl
 | t :: r, m, a, b, c, d, ha, hb, hc, hd, hm => by
  rw [List.length_cons] at hm
  have h4 : small (m + 1) (if bare t then madd t.sub_.type_ [t.sub_.id_] d else d) := by
   split
   ·exact hd.add _ _
   ·exact hd.up (Nat.le_succ m)
  rw [foldK, lo_step ha hb hc hd (by omega), lo_fold n t16 r (m + 1) _ _ _ _ (ha.add _ _) (hb.add _ _) (hc.add _ _) h4 (by omega)]
  unfold mSubs mObjs mRefs mUsers
  rw [List.foldl_cons, List.foldl_cons, List.foldl_cons, List.filter_cons]
  cases bare t <;> rfl
def ixO (l : List GTuple) : LookIndex := ⟨⟨mSubs (tO.ofL l) [], mObjs (tO.ofL l) []⟩, ⟨mRefs (tO.ofL l) [], mUsers (tO.ofL l) []⟩⟩
theorem lookOf_some {n : Nat} {l : List GTuple} (h : l.length ≤ 1000000) (hn : 1000000 < n) : look_Of n l = some (ixO l) := by
 have hl := ofL_len tO l
 have hz := fun {K α : Type} [BEq K] => @small_nil K α _ 0
 have hL : look_Of_L1 n (tO.ofL l) n (([] : List (GRef × List GSub)), ([] : List (ByteArray × List ByteArray)), ([] : List (GSub × List GRef)), ([] : List (ByteArray × List ByteArray)), 0) = _ := look_Of_L1_list n (tO.ofL l) (by omega) n ([], [], [], []) 0 (by omega) (by omega)
 rw [List.drop_zero, lo_fold n _ _ 0 [] [] [] [] small_nil small_nil small_nil small_nil (by omega)] at hL
 have s1 : small (0 + (tO.ofL l).length) (mSubs (tO.ofL l) []) := fold_small _ _ _ 0 [] small_nil
 have s2 : small (0 + (tO.ofL l).length) (mObjs (tO.ofL l) []) := fold_small _ _ _ 0 [] small_nil
 have s3 : small (0 + (tO.ofL l).length) (mRefs (tO.ofL l) []) := fold_small _ _ _ 0 [] small_nil
 have s4 : small (0 + ((tO.ofL l).filter bare).length) (mUsers (tO.ofL l) []) := fold_small _ _ _ 0 [] small_nil
 have hf : ((tO.ofL l).filter bare).length ≤ (tO.ofL l).length := List.length_filter_le _ _
 unfold look_Of
 rw [of_some (by omega), Zo, hL, Zo]
 dsimp only
 rw [grd_t (s1.dec (by omega)), grd_t (s2.dec (by omega)), grd_t (s3.dec (by omega)), grd_t (s4.dec (by omega))]
 rfl
def fSubs (s : List GTuple) (o : GObj) (rel : ByteArray) : List GSub := (s.filter fun t => (⟨o, rel⟩ : GRef) == kR t).map (·.sub_)
theorem get_subs (s : List GTuple) (o : GObj) (rel : ByteArray) : mgetD (⟨o, rel⟩ : GRef) [] (mSubs s []) = fSubs s o rel := by
 unfold mSubs fSubs
 rw [fold_get]
 rfl
theorem fSubs_len (s : List GTuple) (o : GObj) (rel : ByteArray) : (fSubs s o rel).length ≤ s.length := by unfold fSubs; rw [List.length_map]; exact List.length_filter_le _ _
theorem look_subs {n : Nat} {l : List GTuple} (hl : l.length ≤ 1000000) (o : GObj) (rel : ByteArray) : look_left_Subs n (ixO l).left o rel = some (fSubs (tO.ofL l) o rel) := by
 have h1 : mgetD (⟨o, rel⟩ : GRef) [] (ixO l).left.subs = fSubs (tO.ofL l) o rel := get_subs (tO.ofL l) o rel
 have h2 := fSubs_len (tO.ofL l) o rel
 have h3 := ofL_len tO l
 unfold look_left_Subs
 rw [h1]
 cases hm : mhas (⟨o, rel⟩ : GRef) (ixO l).left.subs with
 | true =>
  rw [if_pos rfl]
  exact grd_listG _ (by omega)
 | false =>
  rw [if_neg (by simp), ← h1]
  unfold mhas at hm
  unfold mgetD
  cases he : mget (⟨o, rel⟩ : GRef) (ixO l).left.subs with
  | none => rfl
  | some x => rw [he] at hm; cases hm
theorem mem_fSubs {l : List GTuple} {o : GObj} {rel : ByteArray} {s : GSub} : s ∈ fSubs (tO.ofL l) o rel ↔ ∃ t ∈ l, t.obj = o ∧ t.rel = rel ∧ t.sub_ = s := by
 unfold fSubs
 rw [List.mem_map]
 constructor
 ·rintro ⟨t, h1, h2⟩
  obtain ⟨h3, h4⟩ := List.mem_filter.1 h1
  have h5 := eq_of_beq h4
  simp only [kR, GRef.mk.injEq] at h5
  exact ⟨t, tO.mem_ofL.1 h3, h5.1.symm, h5.2.symm, h2⟩
 ·rintro ⟨t, h1, h2, h3, h4⟩
  refine ⟨t, List.mem_filter.2 ⟨tO.mem_ofL.2 h1, ?_⟩, h4⟩
  rw [← h2, ← h3]
  exact beq_self_eq_true _
abbrev nTd : Nat := 2000000
theorem of_loop (rs : List GTuple) (hr : ∀ t ∈ rs, well_Schema_Fits nTd schemaG t = some true) (hl : rs.length ≤ 10000) : seek_Of nTd typesG rs = (look_Of nTd rs).bind fun ix => some (⟨schemaG, ix, rs⟩, 0) := by
 have key : ∀ (l out : List GTuple), (∀ t ∈ l, well_Schema_Fits nTd schemaG t = some true) → out.length + l.length ≤ 10000 → foldK (seek_Of_L1_f nTd rs (schemaG, 0)) (seek_Of_L1_e nTd rs (schemaG, 0)) l out = some (out ++ l) := fun l => by
  induction l with
  | nil =>
   intro out _ _
   rw [List.append_nil]
   rfl
  | cons t l ih =>
   intro out h1 h2
   simp only [List.length_cons] at h2
   have st : ∀ k : List GTuple → Option (List GTuple), seek_Of_L1_f nTd rs (schemaG, 0) out t k = (app out [t]).bind k := fun k => by
    unfold seek_Of_L1_f
    show (well_Schema_Fits nTd schemaG t).bind _ = _
    rw [h1 t (List.mem_cons_self ..)]
    rfl
   rw [foldK, st, appS (by simp only [List.length_singleton]; omega), Zo, ih _ (fun x hx => h1 x (List.mem_cons_of_mem _ hx)) (by rw [List.length_append, List.length_singleton]; omega), List.append_assoc]
   rfl
 have hL : seek_Of_L1 nTd rs (schemaG, 0) nTd (([] : List GTuple), 0) = _ := seek_Of_L1_list nTd rs (schemaG, 0) (by omega) nTd [] 0 (by omega) (by show rs.length - 0 < 2000000; omega)
 rw [List.drop_zero, key rs [] hr (by simp only [List.length_nil]; omega), List.nil_append] at hL
 unfold seek_Of
 rw [show well_Of nTd typesG = some (schemaG, 0) from if_pos rfl, Zo, if_neg (by decide)]
 show (seek_Of_L1 nTd rs (schemaG, 0) nTd (([] : List GTuple), 0)).bind _ = _
 rw [hL, Zo]
 cases look_Of nTd rs with
 | none => rfl
 | some ix =>
  rw [Zo, Zo]
  by_cases h0 : rs.length = 0
  ·rw [decide_eq_true h0, if_pos rfl, List.eq_nil_of_length_eq_zero h0]
  ·rw [decide_eq_false h0, if_neg (by decide)]
end Go.Proofs.Ytjkdbakgnnhdnaa.Ab
