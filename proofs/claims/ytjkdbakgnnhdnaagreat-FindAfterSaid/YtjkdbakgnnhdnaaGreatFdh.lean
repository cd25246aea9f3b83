/-
 FindAfter: the law's own reckoning, and the law. No program in sight.
-/
import Derived.Test.YtjkdbakgnnhdnaaGreatSkj
import Derived.Test.YtjkdbakgnnhdnaaGreatFdb
namespace Go.Proofs.YtjkdbakgnnhdnaaGreat.Ab
open Go.RowKit
section
variable {K α : Type} [BEq K] [LawfulBEq K]
omit [LawfulBEq K] in
theorem mgetD_not {k : K} {m : List (K × List α)} (h : mhas k m = false) : mgetD k [] m = [] := by
 unfold mhas at h
 unfold mgetD
 cases e : mget k m with
 | none => rfl
 | some v => rw [e] at h; cases h
def noE (m : List (K × List α)) : Prop := ∀ p ∈ m, p.2 ≠ []
omit [LawfulBEq K] in
theorem noE.has {m : List (K × List α)} (h : noE m) {k : K} (hk : mhas k m = true) : mgetD k [] m ≠ [] := by
 induction m with
 | nil => simp [mhas, mget] at hk
 | cons p r ih =>
  unfold mgetD
  unfold mhas at hk
  cases e : (k == p.1) with
  | true =>
   simp only [mget, e, if_true]
   exact h p (List.mem_cons_self ..)
  | false =>
   simp only [mget, e] at hk ⊢
   exact ih (fun q hq => h q (List.mem_cons_of_mem _ hq)) hk
omit [LawfulBEq K] in
theorem noE.add {m : List (K × List α)} (h : noE m) (k : K) (y : α) : noE (madd k [y] m) := by
 induction m with
 | nil => intro p hp; simp [madd] at hp; subst hp; simp
 | cons q r ih =>
  intro p hp
  unfold madd at hp
  split at hp
  ·rcases List.mem_cons.1 hp with rfl | hp
   ·simp
   ·exact h p (List.mem_cons_of_mem _ hp)
  ·rcases List.mem_cons.1 hp with rfl | hp
   ·exact h _ (List.mem_cons_self ..)
   ·exact ih (fun z hz => h z (List.mem_cons_of_mem _ hz)) p hp
omit [LawfulBEq K] in
theorem noE_fold {β : Type} (key : β → K) (val : β → α) : ∀ (l : List β) (es : List (K × List α)), noE es → noE (l.foldl (fun es t => madd (key t) [val t] es) es)
 | [], _, h => h
 | t :: r, es, h => noE_fold key val r _ (h.add (key t) (val t))
end
theorem own_some {n : Nat} {m : List (ByteArray × List ByteArray)} (h : noE m) (t : ByteArray) (hl : (mgetD t [] m).length ≤ 4294967296) : look_own n m t = some (tx.ofL (mgetD t [] m)) := by
 unfold look_own
 cases hm : mhas t m with
 | false => rw [if_neg Bool.false_ne_true, mgetD_not hm]; rfl
 | true =>
  have hne := h.has hm
  have h0 : (mgetD t [] m).length ≠ 0 := fun e => hne (List.eq_nil_of_length_eq_zero e)
  have h1 : (tx.ofL (mgetD t [] m)).length ≠ 0 := fun e => by
   have h2 := List.eq_nil_of_length_eq_zero e
   obtain ⟨x, hx⟩ := List.exists_mem_of_ne_nil _ hne
   have := tx.mem_ofL.2 hx
   rw [h2] at this
   cases this
  rw [if_pos rfl, decide_eq_false h0, if_neg Bool.false_ne_true]
  unfold look_once
  rw [if_pos hl, Zo, show onceT (mgetD t [] m) = tx.ofL (mgetD t [] m) from once_set _, decide_eq_false h1, if_neg Bool.false_ne_true]
abbrev nFnd : Nat := 2000000
def alpha : ByteArray := { data := #[97, 98, 99, 100, 101, 102, 103, 104, 105, 106, 107, 108, 109, 110, 111, 112] }
def nm16 (i : Nat) : ByteArray := { data := #[(97 + i).toUInt8] }
theorem slc_nm {i : Nat} (h : i < 16) : bslc alpha (i : Int) ((i + 1 : Nat) : Int) = some (nm16 i) := by
 match i, h with
 | 0, _ | 1, _ | 2, _ | 3, _ | 4, _ | 5, _ | 6, _ | 7, _ | 8, _ | 9, _ | 10, _ | 11, _ | 12, _ | 13, _ | 14, _ | 15, _ => rfl
 | i + 16, h => omega
theorem nm_inj {i j : Nat} (hi : i < 16) (hj : j < 16) (h : nm16 i = nm16 j) : i = j := by
 have h1 : (97 + i).toUInt8 = (97 + j).toUInt8 := by
  unfold nm16 at h
  injection h with h
  injection h with h
  injection h with h _
 have h2 := congrArg UInt8.toNat h1
 simp at h2
 omega
theorem idAll : ((List.range 16).all fun i => decide (atom_ID nFnd (nm16 i) = some true)) = true := by kernel_rfl
theorem idOk {i : Nat} (h : i < 16) : atom_ID nFnd (nm16 i) = some true := of_decide_eq_true (List.all_eq_true.1 idAll i (List.mem_range.2 h))
theorem ltAll : ((List.range 16).all fun i => (List.range 16).all fun j => Op.bytesLess (nm16 i).toList (nm16 j).toList == decide (i < j)) = true := by kernel_rfl
theorem nm_lt {i j : Nat} (hi : i < 16) (hj : j < 16) : Op.bytesLess (nm16 i).toList (nm16 j).toList = decide (i < j) :=
 eq_of_beq (List.all_eq_true.1 (List.all_eq_true.1 ltAll i (List.mem_range.2 hi)) j (List.mem_range.2 hj))
def bX : ByteArray := { data := #[120] }
def sX : GSub := ⟨bU, bX, ByteArray.empty⟩
def tF (k : Nat) : GTuple := ⟨⟨bG, nm16 k⟩, bM, sX⟩
theorem nmOk : atom_Name nFnd bG = some true ∧ atom_Name nFnd bM = some true ∧ atom_Name nFnd bU = some true ∧ atom_ID nFnd bX = some true := ⟨by kernel_rfl, by kernel_rfl, by kernel_rfl, by kernel_rfl⟩
theorem okFi {w : Nat} (hw : w < 16) : tupl_Ok nFnd (tF w) = some true := by
 unfold tupl_Ok tF sX
 dsimp only
 rw [nmOk.1, Zo, if_pos rfl, idOk hw, Zo, if_pos rfl, nmOk.2.1, Zo, if_pos rfl, nmOk.2.2.1, Zo, if_pos rfl, nmOk.2.2.2, Zo, if_pos rfl, beqS, if_pos (by decide)]
theorem fitsF {w : Nat} (hw : w < 16) : well_Schema_Fits nFnd schemaG (tF w) = some true := by
 unfold well_Schema_Fits
 rw [show well_Schema_Rel nFnd schemaG (tF w).obj.type_ (tF w).rel = some (relG, true) from rfl, Zo, okFi hw, Zo, if_pos rfl]
 rfl
theorem of_loop (rs : List GTuple) (hr : ∀ t ∈ rs, well_Schema_Fits nFnd schemaG t = some true) (hl : rs.length ≤ 10000) : seek_Of nFnd typesG rs = (look_Of nFnd rs).bind fun ix => some (⟨schemaG, ix, rs⟩, 0) := by
 have key : ∀ (l out : List GTuple), (∀ t ∈ l, well_Schema_Fits nFnd schemaG t = some true) → out.length + l.length ≤ 10000 → foldK (seek_Of_L1_f nFnd rs (schemaG, 0)) (seek_Of_L1_e nFnd rs (schemaG, 0)) l out = some (out ++ l) := fun l => by
  induction l with
  | nil =>
   intro out _ _
   rw [List.append_nil]
   rfl
  | cons t l ih =>
   intro out h1 h2
   simp only [List.length_cons] at h2
   have st : ∀ k : List GTuple → Option (List GTuple), seek_Of_L1_f nFnd rs (schemaG, 0) out t k = (app out [t]).bind k := fun k => by
    unfold seek_Of_L1_f
    show (well_Schema_Fits nFnd schemaG t).bind _ = _
    rw [h1 t (List.mem_cons_self ..)]
    rfl
   rw [foldK, st, appS (by simp only [List.length_singleton]; omega), Zo, ih _ (fun x hx => h1 x (List.mem_cons_of_mem _ hx)) (by rw [List.length_append, List.length_singleton]; omega), List.append_assoc]
   rfl
 have hL : seek_Of_L1 nFnd rs (schemaG, 0) nFnd (([] : List GTuple), 0) = _ := seek_Of_L1_list nFnd rs (schemaG, 0) (by omega) nFnd [] 0 (by omega) (by show rs.length - 0 < 2000000; omega)
 rw [List.drop_zero, key rs [] hr (by simp only [List.length_nil]; omega), List.nil_append] at hL
 unfold seek_Of
 rw [show well_Of nFnd typesG = some (schemaG, 0) from if_pos rfl, Zo, if_neg (by decide)]
 show (seek_Of_L1 nFnd rs (schemaG, 0) nFnd (([] : List GTuple), 0)).bind _ = _
 rw [hL, Zo]
 cases look_Of nFnd rs with
 | none => rfl
 | some ix =>
  rw [Zo, Zo]
  by_cases h0 : rs.length = 0
  ·rw [decide_eq_true h0, if_pos rfl, List.eq_nil_of_length_eq_zero h0]
  ·rw [decide_eq_false h0, if_neg (by decide)]
section
variable {E : List Nat} (hE : ∀ k ∈ E, k < 16) (hEl : E.length ≤ 20)
theorem subsF {o : GObj} {rel : ByteArray} {s : GSub} (h : s ∈ fSubs (tO.ofL (E.map tF)) o rel) : s = sX := by
 obtain ⟨t, h1, _, _, rfl⟩ := mem_fSubs.1 h
 obtain ⟨k, _, rfl⟩ := List.mem_map.1 h1
 rfl
theorem depsF {o : GObj} {rel : ByteArray} {d : GRef} : d ∉ refsOf (fSubs (tO.ofL (E.map tF)) o rel) := fun h => by
 obtain ⟨s, h1, h2, _⟩ := mem_refsOf.1 h
 have := subsF h1
 subst this
 exact h2 rfl
def gF (E : List Nat) : SeekGraph := ⟨schemaG, ixO (E.map tF), E.map tF⟩
include hEl in
theorem hasF {k : Nat} (hk : k ∈ E) : seek_Graph_Has nFnd (gF E) ⟨bG, nm16 k⟩ bM sX = some true := by
 obtain ⟨K, S, h1, h2, _, _, h5⟩ := has_direct (n := nFnd) (sc := schemaG) (l := E.map tF) (r0 := E.map tF) (o := ⟨bG, nm16 k⟩) (rel := bM) (s := sX) (U := [⟨⟨bG, nm16 k⟩, bM⟩]) (by rw [List.length_map]; omega) (by decide) (by simp) (by simp) (by simp) (fun r hr => by
  have := List.mem_singleton.1 hr
  subst this
  exact ⟨rfl, rfl⟩) (fun r _ d hd => absurd hd depsF)
 refine h1.trans (congrArg some ?_)
 rw [h5.fix _ h2, Bool.or_eq_true]
 exact .inl (decide_eq_true (mem_fSubs.2 ⟨tF k, List.mem_map_of_mem hk, rfl, rfl, rfl⟩))
def rest (E : List Nat) (i : Nat) : List ByteArray := ((List.range' i (16 - i)).filter (· ∈ E)).map nm16
include hE in
theorem mem_rest {i : Nat} {x : ByteArray} : x ∈ rest E i ↔ ∃ k ∈ E, i ≤ k ∧ x = nm16 k := by
 unfold rest
 simp only [List.mem_map, List.mem_filter, List.mem_range'_1, decide_eq_true_eq]
 constructor
 ·rintro ⟨k, ⟨h1, h2⟩, rfl⟩
  exact ⟨k, h2, h1.1, rfl⟩
 ·rintro ⟨k, h1, h2, rfl⟩
  have := hE k h1
  exact ⟨k, ⟨⟨h2, by omega⟩, h1⟩, rfl⟩
theorem rest_rises (i : Nat) : tx.Rises (rest E i) := by
 unfold rest
 refine List.pairwise_map.2 (List.Pairwise.imp_of_mem ?_ (List.Pairwise.filter _ List.pairwise_lt_range'))
 intro a b ha hb h
 have h1 := List.mem_range'_1.1 (List.mem_filter.1 ha).1
 have h2 := List.mem_range'_1.1 (List.mem_filter.1 hb).1
 show Op.bytesLess _ _ = true
 rw [nm_lt (by omega) (by omega)]
 exact decide_eq_true h
theorem rest_step {i : Nat} (h : i < 16) : rest E i = if i ∈ E then nm16 i :: rest E (i + 1) else rest E (i + 1) := by
 unfold rest
 rw [show 16 - i = (16 - (i + 1)) + 1 by omega, List.range'_succ, List.filter_cons]
 by_cases e : i ∈ E
 ·rw [if_pos e, if_pos (decide_eq_true e), List.map_cons]
 ·rw [if_neg e, if_neg (by simpa using e)]
include hE hEl in
theorem typesF : look_Types nFnd (ixO (E.map tF)) bG = some (rest E 0) := by
 have h1 := ofL_len tO (E.map tF)
 have h2 := fTypes_len (tO.ofL (E.map tF)) bG
 have h3 : (E.map tF).length ≤ 20 := by rw [List.length_map]; exact hEl
 have := own_some (n := nFnd) (m := mObjs (tO.ofL (E.map tF)) []) (noE_fold _ _ _ _ fun p hp => by cases hp) bG (by rw [get_types]; omega)
 rw [get_types] at this
 unfold look_Types
 refine this.trans (congrArg some (tx.ofL_eq (rest_rises 0) fun x => ?_))
 rw [mem_rest hE]
 unfold fTypes
 rw [List.mem_map]
 constructor
 ·rintro ⟨k, h4, _, rfl⟩
  exact ⟨tF k, List.mem_filter.2 ⟨tO.mem_ofL.2 (List.mem_map_of_mem h4), beq_self_eq_true _⟩, rfl⟩
 ·rintro ⟨t, h4, rfl⟩
  obtain ⟨k, h5, rfl⟩ := List.mem_map.1 (tO.mem_ofL.1 (List.mem_filter.1 h4).1)
  exact ⟨k, h5, Nat.zero_le _, rfl⟩
def keep (a x : ByteArray) : Bool := !(Op.bytesLess x.toList a.toList || x.toList == a.toList)
include hE in
theorem keep_rest {k : Nat} (hk : k < 16) : (rest E 0).filter (keep (nm16 k)) = rest E (k + 1) := by
 refine tx.ext (tx.filter (rest_rises 0) _) (rest_rises _) fun x => ?_
 rw [List.mem_filter, mem_rest hE, mem_rest hE]
 have key : ∀ j, j < 16 → (keep (nm16 k) (nm16 j) = true ↔ k < j) := fun j hj => by
  unfold keep
  rw [nm_lt hj hk, beqS]
  by_cases e : j = k
  ·subst e
   simp
  ·have : nm16 j ≠ nm16 k := fun h => e (nm_inj hj hk h)
   rw [decide_eq_false this, Bool.or_false]
   simp
   omega
 constructor
 ·rintro ⟨⟨j, h1, _, rfl⟩, h2⟩
  exact ⟨j, h1, (key j (hE j h1)).1 h2, rfl⟩
 ·rintro ⟨j, h1, h2, rfl⟩
  exact ⟨⟨j, h1, Nat.zero_le _, rfl⟩, (key j (hE j h1)).2 h2⟩
include hEl in
theorem page_fold {l0 : List ByteArray} {a : ByteArray} {m : Nat} (ha : a ≠ { data := #[] }) (hm : m ≤ 1000) : ∀ (l out : List ByteArray), (∀ x ∈ l, ∃ k ∈ E, x = nm16 k) → out.length ≤ m →
  foldK (find_page__find_Objects_c1_L1_f nFnd l0 ⟨a, (m : Int)⟩ (gF E) bG bM sX) (find_page__find_Objects_c1_L1_e nFnd l0 ⟨a, (m : Int)⟩ (gF E) bG bM sX) l out = some (if out.length + (l.filter (keep a)).length ≤ m then .inl (out ++ l.filter (keep a)) else .inr ((out ++ l.filter (keep a)).take m, true))
 | [], out, _, ho => by
  rw [List.filter_nil, List.length_nil, Nat.add_zero, if_pos ho, List.append_nil]
  rfl
 | x :: l, out, hl, ho => by
  have ih := page_fold (l0 := l0) ha hm l
  obtain ⟨k, hk, rfl⟩ := hl x (List.mem_cons_self ..)
  have hl' : ∀ x ∈ l, ∃ k ∈ E, x = nm16 k := fun x hx => hl x (List.mem_cons_of_mem _ hx)
  have c1 : find_Objects_c1 nFnd (nm16 k) (gF E) bG bM sX = some true := by
   unfold find_Objects_c1
   exact (congrArg (fun o : Option Bool => o.bind fun t13 => some t13) (hasF hEl hk)).trans rfl
  have st : ∀ k' : List ByteArray → Option (List ByteArray ⊕ (List ByteArray × Bool)), find_page__find_Objects_c1_L1_f nFnd l0 ⟨a, (m : Int)⟩ (gF E) bG bM sX out (nm16 k) k' = if keep a (nm16 k) then (if out.length = m then some (.inr (out, true)) else (app out [nm16 k]).bind k') else k' out := fun k' => by
   unfold find_page__find_Objects_c1_L1_f
   rw [show find_Objects_c1 nFnd (nm16 k) (⟨(gF E).schema, (gF E).index, (gF E).rows_⟩ : SeekGraph) bG bM sX = some true from c1, beqS a, decide_eq_false ha]
   unfold keep
   cases (Op.bytesLess (nm16 k).toList a.toList || (nm16 k).toList == a.toList)
   ·rw [if_neg (by decide), Zo, Zo]
    simp only [Bool.not_true, Bool.not_false, Bool.false_eq_true, if_false, if_true]
    by_cases e : out.length = m
    ·rw [if_pos e, if_pos (by rw [e]; exact beq_self_eq_true _)]
    ·rw [if_neg e, if_neg (by rw [beq_iff_eq]; omega)]
   ·rw [if_pos rfl, if_neg (by decide), Zo, if_pos rfl, if_neg (by decide)]
  rw [foldK, st, List.filter_cons]
  cases keep a (nm16 k) with
  | false =>
   simp only [Bool.false_eq_true, if_false]
   exact ih out hl' ho
  | true =>
   rw [if_pos rfl, if_pos rfl]
   by_cases e : out.length = m
   ·rw [if_pos e, if_neg (by simp only [List.length_cons]; omega), List.take_append_of_le_length (by omega), List.take_of_length_le (by omega)]
   ·rw [if_neg e, appS (by simp only [List.length_singleton]; omega), Zo, ih _ hl' (by rw [List.length_append, List.length_singleton]; omega)]
    have e2 : (out.length + 1 + (l.filter (keep a)).length ≤ m) = (out.length + ((l.filter (keep a)).length + 1) ≤ m) := propext (by omega)
    simp only [List.length_append, List.length_cons, List.length_nil, Nat.zero_add, List.append_assoc, List.cons_append, List.nil_append, e2]
end
end Go.Proofs.YtjkdbakgnnhdnaaGreat.Ab
namespace Go.Proofs.YtjkdbakgnnhdnaaGreat.Ab
open Go.RowKit
theorem slcL {i : Nat} (h : i < 16) : bslc ({ data := #[97, 98, 99, 100, 101, 102, 103, 104, 105, 106, 107, 108, 109, 110, 111, 112] }) (i : Int) ((i + 1 : Nat) : Int) = some (nm16 i) := slc_nm h
theorem typesL : law8_Types nFnd ({ data := #[116, 121, 112, 101, 32, 117, 32, 116, 121, 112, 101, 32, 100, 32, 123, 32, 111, 58, 32, 117, 59, 32, 125] }) = some typesG := if_pos rfl
theorem an15 (t : Int) : IntKind.i64.wrap (an t 15 : Int) = ((an t 15 : Nat) : Int) := wrap_an _ _ (by decide)
theorem an15_lt (t : Int) : an t 15 < 16 := Nat.lt_of_le_of_lt (an_le _ _) (by decide)
theorem an7 (t : Int) : IntKind.i64.wrap (an t 7 : Int) = ((an t 7 : Nat) : Int) := wrap_an _ _ (by decide)
theorem an7_lt (t : Int) : an t 7 < 8 := Nat.lt_of_le_of_lt (an_le _ _) (by decide)
theorem aixS {n k : Nat} (h : k < n) : aix n (k : Int) = some k := by
 unfold aix
 rw [if_pos (by omega)]
 rfl
theorem bsetS {α : Type} {xs : List α} {k : Nat} {x : α} (h : k < xs.length) : bset xs k x = some (xs.set k x) := if_pos h
def kys (t0 : List Int) : List Nat := t0.map fun x => an x 15
theorem kys_ok (t0 : List Int) : ∀ k ∈ kys t0, k < 16 := fun k hk => by
 obtain ⟨x, _, rfl⟩ := List.mem_map.1 hk
 exact an15_lt _
def inF (E : List Nat) (l : List Bool) : List Bool := E.foldl (fun l k => l.set k true) l
theorem inF_get : ∀ (E : List Nat) (l : List Bool) (k : Nat), k < l.length → (inF E l)[k]? = some (decide (k ∈ E) || l.getD k false)
 | [], l, k, hk => by
  rw [show (decide (k ∈ ([] : List Nat)) || l.getD k false) = l.getD k false by simp, List.getD_eq_getElem?_getD, show inF [] l = l from rfl, List.getElem?_eq_getElem hk]
  rfl
 | p :: E, l, k, hk => by
  have ih := inF_get E (l.set p true) k (by rw [List.length_set]; exact hk)
  show (inF E (l.set _ true))[k]? = _
  rw [ih, List.getD_eq_getElem?_getD, List.getD_eq_getElem?_getD]
  by_cases e : p = k
  ·subst e
   rw [List.getElem?_set_self hk]
   simp
  ·rw [List.getElem?_set_ne e]
   have e2 : ¬ k = p := fun h => e h.symm
   simp [e2]
theorem l1_some (t0 : List Int) (hx : t0.length < 9223372036854775808) : ∀ (m c i : Nat) (rs : List GTuple) (ins : List Bool), m = 20 - i → i ≤ 20 → m < c → ins.length = 16 → rs.length ≤ i → law11_FindAfter_L1 nFnd t0 c (rs, ins, (i : Int)) = some (rs ++ (kys (t0.drop i |>.take m)).map tF, inF (kys (t0.drop i |>.take m)) ins)
 | _, 0, _, _, _, _, _, h, _, _ => absurd h (Nat.not_lt_zero _)
 | m, c + 1, i, rs, ins, hm, hi, hc, hu, hr => by
  unfold law11_FindAfter_L1
  by_cases h1 : i < t0.length
  ·have e1 : decide ((i : Int) < (t0.length : Int)) = true := decide_eq_true (by omega)
   by_cases h2 : i < 20
   ·have e2 : decide ((i : Int) < 20) = true := decide_eq_true (by omega)
    obtain ⟨m, rfl⟩ : ∃ k, m = k + 1 := ⟨m - 1, by omega⟩
    have hk := an15_lt t0[i]
    rw [e1, if_pos rfl, e2, Zo, if_pos rfl, idxS h1, Zo, an15, aixS hk, Zo, bsetS (by omega), Zo, wr1 (by omega), slcL hk, Zo, appS (by simp only [List.length_singleton]; omega), Zo, wr1 (by omega)]
    refine (l1_some t0 hx m c (i + 1) _ _ (by omega) (by omega) (by omega) (by rw [List.length_set]; exact hu) (by rw [List.length_append, List.length_singleton]; omega)).trans ?_
    have e3 : (t0.drop i).take (m + 1) = t0[i] :: (t0.drop (i + 1)).take m := by
     rw [List.drop_eq_getElem_cons h1]
     rfl
    rw [e3, show ∀ l : List Int, kys (t0[i] :: l) = an t0[i] 15 :: kys l from fun _ => rfl, List.map_cons, List.append_assoc]
    rfl
   ·have e2 : decide ((i : Int) < 20) = false := decide_eq_false (by omega)
    have hm0 : m = 0 := by omega
    subst hm0
    rw [e1, if_pos rfl, e2, Zo, if_neg (by decide)]
    simp [kys, inF]
  ·have e1 : decide ((i : Int) < (t0.length : Int)) = false := decide_eq_false (by omega)
   rw [e1, if_neg (by decide), Zo, if_neg (by decide), List.drop_eq_nil_of_le (by omega)]
   simp [kys, inF]
section
variable {E : List Nat} (hE : ∀ k ∈ E, k < 16) (hEl : E.length ≤ 20)
theorem mW (t2 : Int) : IntKind.i64.wrap (IntKind.i64.wrap (an t2 7 : Int) + 1) = ((an t2 7 + 1 : Nat) : Int) := by
 rw [an7, wr1 (by have := an7_lt t2; omega)]
theorem l2_some {t2 : Int} {F : List ByteArray} {b : Bool} {e : Int} (hF : F.length ≤ 16) : ∀ (d c i : Nat) (pre : List ByteArray), d = 16 - i → i ≤ 16 → d < c → pre ++ rest E i = F → law11_FindAfter_L2 nFnd t2 (inF E (List.replicate 16 false)) (F.take (an t2 7 + 1), b, e) c ((pre.length : Int), (i : Int)) = some (.inl (F.length : Int))
 | _, 0, _, _, _, _, h, _ => absurd h (Nat.not_lt_zero _)
 | d, c + 1, i, pre, hd, hi, hc, hp => by
  unfold law11_FindAfter_L2
  by_cases h : i < 16
  ·obtain ⟨d, rfl⟩ : ∃ k, d = k + 1 := ⟨d - 1, by omega⟩
   have e1 : decide ((i : Int) < 16) = true := decide_eq_true (by omega)
   have g : (inF E (List.replicate 16 false))[i]? = some (decide (i ∈ E)) := by
    rw [inF_get E _ i (by rw [List.length_replicate]; exact h), List.getD_eq_getElem?_getD, List.getElem?_replicate, if_pos h]
    simp
   rw [rest_step h] at hp
   rw [e1, if_pos rfl, aixS h, Zo, g, Zo, wr1 (by omega)]
   by_cases hi : i ∈ E
   ·rw [if_pos hi] at hp
    have hl : pre.length < F.length := by rw [← hp, List.length_append, List.length_cons]; omega
    have hp' : (pre ++ [nm16 i]) ++ rest E (i + 1) = F := by rw [← hp, List.append_assoc]; rfl
    have ih := l2_some (t2 := t2) (b := b) (e := e) hF d c (i + 1) (pre ++ [nm16 i]) (by omega) (by omega) (by omega) hp'
    rw [List.length_append, List.length_singleton] at ih
    rw [decide_eq_true hi, if_pos rfl, mW, wr1 (by omega)]
    by_cases hm : pre.length < an t2 7 + 1
    ·have hl2 : pre.length < (F.take (an t2 7 + 1)).length := by rw [List.length_take]; omega
     have hg : (F.take (an t2 7 + 1))[pre.length] = nm16 i := by
      rw [List.getElem_take]
      subst hp
      rw [List.getElem_append_right (Nat.le_refl _)]
      simp
     rw [decide_eq_true (show (pre.length : Int) < ((an t2 7 + 1 : Nat) : Int) by omega), if_pos rfl, decide_eq_false (show ¬ (((F.take (an t2 7 + 1)).length : Int) ≤ (pre.length : Int)) by omega), if_neg (by decide), idxS hl2, Zo, hg, slcL h, Zo, if_pos (beq_self_eq_true _)]
     exact ih
    ·rw [decide_eq_false (show ¬ ((pre.length : Int) < ((an t2 7 + 1 : Nat) : Int)) by omega), if_neg (by decide)]
     exact ih
   ·rw [if_neg hi] at hp
    rw [decide_eq_false hi, if_neg (by decide)]
    exact l2_some hF d c (i + 1) pre (by omega) (by omega) (by omega) hp
  ·have e1 : decide ((i : Int) < 16) = false := decide_eq_false (by omega)
   have hi16 : i = 16 := by omega
   subst hi16
   have : pre = F := by rw [← hp]; unfold rest; simp
   subst this
   rw [e1, if_neg (by decide)]
include hE hEl in
theorem graphF {a : ByteArray} {m : Nat} (hm : 1 ≤ m) (hm2 : m ≤ 1000) : find_graph nFnd typesG (E.map tF) bG bM ⟨a, (m : Int)⟩ = some (gF E, 0) := by
 have hl : (E.map tF).length ≤ 20 := by rw [List.length_map]; exact hEl
 have hf : ∀ t ∈ E.map tF, well_Schema_Fits nFnd schemaG t = some true := fun t ht => by
  obtain ⟨k, hk, rfl⟩ := List.mem_map.1 ht
  exact fitsF (hE k hk)
 have hw : find_wrong nFnd ⟨a, (m : Int)⟩ = some false := by
  unfold find_wrong
  show (if decide ((m : Int) < 1) = true then some true else some (decide (1000 < (m : Int)))) = some false
  rw [decide_eq_false (by omega), if_neg (by decide), decide_eq_false (by omega)]
 unfold find_graph
 rw [hw, Zo, if_neg (by decide), of_loop _ hf (by omega), lookOf_some (by omega) (by decide), Zo, Zo]
 rfl
include hE hEl in
theorem objectsF {k m : Nat} (hk : k < 16) (hm : 1 ≤ m) (hm2 : m ≤ 1000) : find_Objects nFnd typesG (E.map tF) bG bM sX ⟨nm16 k, (m : Int)⟩ = some ((rest E (k + 1)).take m, decide (m < (rest E (k + 1)).length), 0) := by
 have hr0 : (rest E 0).length ≤ 16 := by
  unfold rest
  rw [List.length_map]
  refine Nat.le_trans (List.length_filter_le _ _) (by rw [List.length_range']; omega)
 have hpg : ∀ l0 : List ByteArray, l0 = rest E 0 → find_page__find_Objects_c1 nFnd l0 ⟨nm16 k, (m : Int)⟩ (gF E) bG bM sX = some ((rest E (k + 1)).take m, decide (m < (rest E (k + 1)).length)) := fun l0 h0 => by
  have hL : find_page__find_Objects_c1_L1 nFnd l0 ⟨nm16 k, (m : Int)⟩ (gF E) bG bM sX nFnd (([] : List ByteArray), 0) = _ := find_page__find_Objects_c1_L1_list nFnd l0 ⟨nm16 k, (m : Int)⟩ (gF E) bG bM sX (by rw [h0]; omega) nFnd [] 0 (by omega) (by rw [h0]; show (rest E 0).length - 0 < 2000000; omega)
  rw [List.drop_zero, page_fold hEl (by unfold nm16; simp) hm2 l0 [] (fun x hx => by
   rw [h0] at hx
   obtain ⟨j, h1, _, h2⟩ := (mem_rest hE).1 hx
   exact ⟨j, h1, h2⟩) (Nat.zero_le _), List.nil_append, List.length_nil, Nat.zero_add, h0, keep_rest hE hk] at hL
  rw [← h0] at hL
  unfold find_page__find_Objects_c1
  rw [hL, Zo]
  by_cases h : (rest E (k + 1)).length ≤ m
  ·rw [if_pos h, List.take_of_length_le h, decide_eq_false (by omega)]
  ·rw [if_neg h, decide_eq_true (by omega)]
 unfold find_Objects
 rw [graphF hE hEl hm hm2, Zo]
 dsimp only
 rw [if_neg (by decide), Zo, if_neg (by decide), Zo, if_neg (by decide), beqS, if_pos (by decide)]
 show (look_Types nFnd (ixO (E.map tF)) bG).bind _ = _
 rw [typesF hE hEl, Zo]
 by_cases h0 : (rest E 0).length = 0
 ·rw [decide_eq_true h0, if_pos rfl]
  show (find_page__find_Objects_c1 nFnd [] ⟨nm16 k, (m : Int)⟩ (gF E) bG bM sX).bind _ = _
  rw [hpg [] (List.eq_nil_of_length_eq_zero h0).symm]
  rfl
 ·rw [decide_eq_false h0, if_neg (by decide)]
  show (find_page__find_Objects_c1 nFnd (rest E 0) ⟨nm16 k, (m : Int)⟩ (gF E) bG bM sX).bind _ = _
  rw [hpg _ rfl]
  rfl
end
theorem law_FindAfter (t0 : List Int) (t1 t2 : Int) (hx : t0.length < 9223372036854775808) : law11_FindAfter nFnd t0 t1 t2 = some true := by
 have hE := kys_ok (t0.take 20)
 have hEl : (kys (t0.take 20)).length ≤ 20 := by
  unfold kys
  rw [List.length_map, List.length_take]
  omega
 have h1 := l1_some t0 hx 20 nFnd 0 [] (List.replicate 16 false) rfl (by omega) (by show 20 < 2000000; omega) rfl (Nat.zero_le _)
 have h1 : law11_FindAfter_L1 nFnd t0 nFnd (([] : List GTuple), List.replicate 16 false, 0) = _ := h1
 rw [List.drop_zero, List.nil_append] at h1
 have hk := an15_lt t1
 have h7 := an7_lt t2
 have hF : (rest (kys (t0.take 20)) (an t1 15 + 1)).length ≤ 16 := by
  unfold rest
  rw [List.length_map]
  exact Nat.le_trans (List.length_filter_le _ _) (by rw [List.length_range']; omega)
 have hO := objectsF hE hEl hk (m := an t2 7 + 1) (by omega) (by omega)
 have h2 := l2_some (E := kys (t0.take 20)) (t2 := t2) (b := decide (an t2 7 + 1 < (rest (kys (t0.take 20)) (an t1 15 + 1)).length)) (e := 0) hF (16 - (an t1 15 + 1)) nFnd (an t1 15 + 1) [] rfl (by omega) (by show 16 - (an t1 15 + 1) < 2000000; omega) rfl
 have h2 : law11_FindAfter_L2 nFnd t2 (inF (kys (t0.take 20)) (List.replicate 16 false)) ((rest (kys (t0.take 20)) (an t1 15 + 1)).take (an t2 7 + 1), decide (an t2 7 + 1 < (rest (kys (t0.take 20)) (an t1 15 + 1)).length), 0) nFnd (0, ((an t1 15 + 1 : Nat) : Int)) = _ := h2
 unfold law11_FindAfter
 rw [typesL, Zo, h1, Zo]
 dsimp only
 rw [an15, wr1 (by omega), slcL hk, Zo, mW]
 show (find_Objects nFnd typesG ((kys (t0.take 20)).map tF) bG bM sX ⟨nm16 (an t1 15), ((an t2 7 + 1 : Nat) : Int)⟩).bind _ = _
 rw [hO, Zo, h2, Zo]
 dsimp only
 rw [if_pos (by decide), if_pos (by
  rw [List.length_take, beq_iff_eq]
  split <;> omega), if_pos (by
  rw [beq_iff_eq]
  exact decide_eq_decide.2 (by omega))]
 rfl
theorem law_findAfter_ex (t0 : List Int) (t1 t2 : Int) (h : t0.length ≤ maxLen ∧ ∀ y ∈ t0, (Lit.int .i64 y).wf = true) (_ : (Lit.int .i64 t1).wf = true) (_ : (Lit.int .i64 t2).wf = true) : ∃ n, law11_FindAfter n t0 t1 t2 = some true := ⟨nFnd, law_FindAfter t0 t1 t2 (by have := h.1; unfold maxLen at this; omega)⟩
end Go.Proofs.YtjkdbakgnnhdnaaGreat.Ab
