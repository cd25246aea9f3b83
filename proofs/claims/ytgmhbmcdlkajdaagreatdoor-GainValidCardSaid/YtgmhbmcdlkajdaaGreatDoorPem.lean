/-
 A row of entries as it should be: what the document answers. No program in sight.
-/
import Derived.Test.YtgmhbmcdlkajdaaGreatDoorTo
namespace Go.Proofs.YtgmhbmcdlkajdaaGreatDoor.Ab
open Go.RowKit Go.Sort Go.Shelf
theorem grd_t {β : Type} {c : Bool} {k : Option β} (h : c = true) : grd c k = k := by
 unfold grd
 rw [if_pos h]
def namedE (x : GEntry) : Bool := x.kind == 2 || x.kind == 4
def textOK (x : GEntry) : Bool := (if namedE x then nameB x.name else decide (x.name.size = 0)) && (decide (1 ≤ x.kind) && (decide (x.kind ≤ 6) && (decide (0 ≤ x.bits) && decide (x.bits ≤ 7))))
theorem good_some {n : Nat} {x : GEntry} (h : x.name.size < n) (hs : x.name.size < 4611686018427387904) : mask_good n x = some (textOK x) := by
 unfold mask_good textOK namedE
 rw [atomName_some _ h hs, emptyB, Zo]
 cases (x.kind == 2) <;> cases (x.kind == 4) <;> cases nameB x.name <;> cases decide (x.name.size = 0) <;> cases decide (1 ≤ x.kind) <;> cases decide (x.kind ≤ 6) <;> cases decide (0 ≤ x.bits) <;> rfl
theorem nameB_size {s : ByteArray} (h : nameB s = true) : 0 < s.size ∧ s.size ≤ 30 := by
 unfold nameB at h
 simp only [Bool.and_eq_true, decide_eq_true_eq] at h
 exact h.1.1
theorem textOK_iff {x : GEntry} (h : textOK x = true) : (1 ≤ x.kind ∧ x.kind ≤ 6) ∧ (0 ≤ x.bits ∧ x.bits ≤ 7) ∧ (namedE x = true → nameB x.name = true) ∧ (namedE x = false → x.name = { data := #[] }) := by
 unfold textOK at h
 simp only [Bool.and_eq_true, decide_eq_true_eq] at h
 obtain ⟨h0, h1, h2, h3, h4⟩ := h
 refine ⟨⟨h1, h2⟩, ⟨h3, h4⟩, fun e => ?_, fun e => ?_⟩
 ·rw [e, if_pos rfl] at h0
  exact h0
 ·rw [e, if_neg (by decide)] at h0
  have := of_decide_eq_true h0
  apply bytes_inj
  exact List.eq_nil_of_length_eq_zero (by rw [bsize]; exact this)
theorem textOK_size {x : GEntry} (h : textOK x = true) : x.name.size ≤ 30 := by
 obtain ⟨_, _, h1, h2⟩ := textOK_iff h
 cases e : namedE x with
 | true => exact (nameB_size (h1 e)).2
 | false => rw [h2 e]; decide
theorem bits_loop {n : Nat} {x : GEntry} : ∀ (c i : Nat) (s : ByteArray), i ≤ 3 → 3 - i < c → s.size ≤ 1000 + i → Tot (ref17_entryText_L1 n x c (s, (i : Int))) fun _ => True
 | 0, _, _, _, h, _ => by omega
 | c + 1, i, s, hi, hc, hs => by
  have hm : maxLen ≥ 100000 := by decide
  rw [ref17_entryText_L1]
  by_cases h : i < 3
  ·have hu : IntKind.u64.wrap (i : Int) = i := IntWalk.u64_in _ (by omega)
   rw [show decide ((i : Int) < 3) = true from decide_eq_true (by omega), if_pos rfl, hu, grd_t (decide_eq_true (by omega)), wr1 (by omega)]
   refine tot_ite (fun _ => ?_) fun _ => ?_
   ·rw [bslcS (by omega) (show i + 1 ≤ ({ data := #[114, 119, 120] } : ByteArray).size by show i + 1 ≤ 3; omega), Zo]
    have hz : ((ByteArray.mk #[114, 119, 120]).extract i (i + 1)).size = 1 := by rw [ext_size _ (show i + 1 ≤ 3 by omega)]; omega
    rw [catS (by omega), Zo]
    exact bits_loop c (i + 1) _ (by omega) (by omega) (by rw [ByteArray.size_append]; omega)
   ·have hz : (ByteArray.mk #[45]).size = 1 := rfl
    rw [catS (by omega), Zo]
    exact bits_loop c (i + 1) _ (by omega) (by omega) (by rw [ByteArray.size_append]; omega)
  ·rw [show decide ((i : Int) < 3) = false from decide_eq_false (by omega), if_neg (by decide)]
   exact tot_some trivial
theorem etext_tot {n : Nat} {x : GEntry} (h : x.name.size < n) (hn : 10 < n) (hs : x.name.size < 4611686018427387904) : Tot (ref17_entryText n x) fun r => r.2 = textOK x := by
 have hm : maxLen ≥ 100000 := by decide
 unfold ref17_entryText
 refine tot_bind (Q := fun p => p.2.size ≤ 2) (tot_ite (fun _ => tot_some (by decide)) fun _ => tot_some (by decide)) fun ⟨t11, t4⟩ h4 => ?_
 dsimp only
 have e5 : ((if (x.kind == 2) then some true else some (x.kind == 4)) : Option Bool) = some (namedE x) := by
  unfold namedE
  cases (x.kind == 2) <;> rfl
 rw [e5, Zo, emptyB, refName_some _ h hs]
 refine tot_bind (Q := fun b => b = !textOK x) ⟨!textOK x, ?_, rfl⟩ fun b hb => ?_
 ·have e1 : decide (x.kind < 1) = !decide (1 ≤ x.kind) := by rw [← decide_not, decide_eq_decide]; omega
  have e2 : decide (6 < x.kind) = !decide (x.kind ≤ 6) := by rw [← decide_not, decide_eq_decide]; omega
  have e3 : decide (x.bits < 0) = !decide (0 ≤ x.bits) := by rw [← decide_not, decide_eq_decide]; omega
  have e4 : decide (7 < x.bits) = !decide (x.bits ≤ 7) := by rw [← decide_not, decide_eq_decide]; omega
  have e6 : nameB x.name = true → decide (x.name.size = 0) = false := fun h => by
   have := nameB_size h
   exact decide_eq_false (by omega)
  unfold textOK
  rw [e1, e2, e3, e4]
  revert e6
  cases namedE x <;> cases nameB x.name <;> cases decide (x.name.size = 0) <;> cases decide (1 ≤ x.kind) <;> cases decide (x.kind ≤ 6) <;> cases decide (0 ≤ x.bits) <;> cases decide (x.bits ≤ 7) <;> intro e6 <;> first | rfl | (cases e6 rfl)
 ·subst hb
  cases ht : textOK x with
  | false => exact tot_some rfl
  | true =>
   rw [Bool.not_true, if_neg (by decide)]
   obtain ⟨⟨k1, k2⟩, _⟩ := textOK_iff ht
   have hz := textOK_size ht
   refine tot_bind (tot_idx (by omega) (by simp; omega) (Q := fun s => s.size ≤ 2) (by decide)) fun y hy => ?_
   refine tot_bind (tot_cat h4 hy (by omega)) fun s1 h1 => tot_bind (tot_cat h1 hz (by omega)) fun s2 h2 => tot_bind (tot_cat h2 (q := 1) (by decide) (by omega)) fun s3 h3 => ?_
   have := bits_loop (n := n) (x := x) n 0 s3 (by omega) (by omega) (by omega)
   exact tot_bind this fun _ _ => tot_some rfl
theorem cmpE_some (n : Nat) (x y : GEntry) (hn : 10 < n) : mask_compare n x y = some (cfE x y) := by
 unfold mask_compare
 have hor : ∀ a b c : Int, cmp_Or n [a, b, c] = some (if a = 0 then (if b = 0 then c else b) else a) := fun a b c => by
  have hL : cmp_Or_L1 n [a, b, c] n 0 = _ := cmp_Or_L1_list n [a, b, c] (by simp) n () 0 (by simp) (by simp; omega)
  unfold cmp_Or
  rw [hL, List.drop_zero]
  simp only [foldK, cmp_Or_L1_f, cmp_Or_L1_e]
  by_cases h1 : a = 0 <;> by_cases h2 : b = 0 <;> by_cases h3 : c = 0 <;> simp [h1, h2, h3]
 rw [flag_some, Zo, flag_some, Zo, cmpI_some, Zo, cmpI_some, Zo, show strings_Compare n x.name y.name = some (cmS x.name y.name) from rfl, Zo, hor]
 rfl
theorem cmI_zero {a b : Int} : cmI a b = 0 ↔ a = b := by
 unfold cmI
 split
 ·omega
 ·split <;> omega
theorem cmI_neg {a b : Int} : cmI a b < 0 ↔ a < b := by
 unfold cmI
 split
 ·omega
 ·split <;> omega
def f01 (b : Bool) : Int := if b then 1 else 0
theorem cfE_def (x y : GEntry) : cfE x y = if f01 x.default = f01 y.default then (if x.kind = y.kind then cmS x.name y.name else cmI x.kind y.kind) else cmI (f01 x.default) (f01 y.default) := by
 show (if cmI (f01 x.default) (f01 y.default) = 0 then (if cmI x.kind y.kind = 0 then cmS x.name y.name else cmI x.kind y.kind) else cmI (f01 x.default) (f01 y.default)) = _
 by_cases h : f01 x.default = f01 y.default
 ·rw [if_pos h, if_pos (cmI_zero.2 h)]
  by_cases h2 : x.kind = y.kind
  ·rw [if_pos h2, if_pos (cmI_zero.2 h2)]
  ·rw [if_neg h2, if_neg (fun e => h2 (cmI_zero.1 e))]
 ·rw [if_neg h, if_neg (fun e => h (cmI_zero.1 e))]
theorem f01_eq {a b : Bool} : f01 a = f01 b ↔ a = b := by cases a <;> cases b <;> decide
theorem cfE_zero {x y : GEntry} : cfE x y = 0 ↔ x.default = y.default ∧ x.kind = y.kind ∧ x.name = y.name := by
 rw [cfE_def]
 by_cases h : f01 x.default = f01 y.default
 ·rw [if_pos h]
  have hd := f01_eq.1 h
  by_cases h2 : x.kind = y.kind
  ·rw [if_pos h2, cm_zero]
   exact ⟨fun e => ⟨hd, h2, e⟩, fun e => e.2.2⟩
  ·rw [if_neg h2, cmI_zero]
   exact ⟨fun e => absurd e h2, fun e => e.2.1⟩
 ·rw [if_neg h, cmI_zero]
  exact ⟨fun e => absurd e h, fun e => absurd (f01_eq.2 e.1) h⟩
theorem less_some (n : Nat) (x y : GEntry) : ref17_lessEntry n x y = some (decide (cfE x y < 0)) := by
 unfold ref17_lessEntry
 rw [cfE_def]
 cases hx : x.default <;> cases hy : y.default
 ·rw [if_pos rfl, if_pos (by decide)]
  by_cases h2 : x.kind = y.kind
  ·rw [if_pos h2, show (x.kind != y.kind) = false by simp [h2], if_neg (by decide)]
   congr 1
   exact (cm_lt x.name y.name).symm
  ·rw [if_neg h2, show (x.kind != y.kind) = true by simp [h2], if_pos rfl]
   congr 1
   rw [decide_eq_decide]
   exact cmI_neg.symm
 ·rw [if_neg (by decide), if_neg (by decide)]
  rfl
 ·rw [if_neg (by decide), if_neg (by decide)]
  rfl
 ·rw [if_pos rfl, if_pos (by decide)]
  by_cases h2 : x.kind = y.kind
  ·rw [if_pos h2, show (x.kind != y.kind) = false by simp [h2], if_neg (by decide)]
   congr 1
   exact (cm_lt x.name y.name).symm
  ·rw [if_neg h2, show (x.kind != y.kind) = true by simp [h2], if_pos rfl]
   congr 1
   rw [decide_eq_decide]
   exact cmI_neg.symm
def SSE (l : List GEntry) : Prop := l.Pairwise fun x y => cfE x y < 0
def Apart (l : List GEntry) : Prop := l.Pairwise fun x y => cfE x y ≠ 0
instance (l : List GEntry) : Decidable (Apart l) := inferInstanceAs (Decidable (l.Pairwise _))
theorem cfE_ne {x y : GEntry} (h : cfE x y ≠ 0) : cfE y x ≠ 0 := fun e => h (by have := pre_E.neg x y; omega)
theorem Apart.perm {l m : List GEntry} (h : Apart l) (p : m.Perm l) : Apart m := (p.pairwise_iff fun {_ _} h => cfE_ne h).2 h
theorem SSE.apart {l : List GEntry} (h : SSE l) : Apart l := h.imp fun {a b} h => by omega
theorem lt_trans_E {x y z : GEntry} (h1 : cfE x y < 0) (h2 : cfE y z < 0) : cfE x z < 0 := by
 have a := pre_E.trans x y z (by omega) (by omega)
 have n1 := pre_E.neg x y
 have n2 := pre_E.neg x z
 by_cases e : cfE x z = 0
 ·have := pre_E.trans y z x (by omega) (by omega)
  omega
 ·omega
theorem srtE_of {l m : List GEntry} (h : SSE l) (p : l.Perm m) : l = srtE m :=
 srtE_one (h.apart.perm p.symm) p (h.imp fun {a b} h => by
  have := pre_E.neg a b
  exact decide_eq_false (by omega))
theorem srtE_perm (xs : List GEntry) : (srtE xs).Perm xs := List.mergeSort_perm xs _
theorem srtE_len (xs : List GEntry) : (srtE xs).length = xs.length := (srtE_perm xs).length_eq
theorem srtE_SS {xs : List GEntry} (h : Apart xs) : SSE (srtE xs) := by
 have tr : ∀ a b c : GEntry, decide (cfE a b ≤ 0) = true → decide (cfE b c ≤ 0) = true → decide (cfE a c ≤ 0) = true := fun a b c h1 h2 => decide_eq_true (pre_E.trans a b c (of_decide_eq_true h1) (of_decide_eq_true h2))
 have to : ∀ a b : GEntry, (decide (cfE a b ≤ 0) || decide (cfE b a ≤ 0)) = true := fun a b => by
  have := pre_E.neg a b
  simp only [Bool.or_eq_true, decide_eq_true_eq]
  omega
 have h2 : Apart (srtE xs) := h.perm (srtE_perm xs)
 refine (List.pairwise_and_iff.2 ⟨List.pairwise_mergeSort tr to xs, h2⟩).imp fun {a b} ⟨h3, h4⟩ => ?_
 have := of_decide_eq_true h3
 omega
theorem place_loop {n : Nat} {out : List GEntry} {e : GEntry} (hl : out.length < 1000000) : ∀ (c k : Nat), k ≤ out.length → k < c → (∀ (j : Nat) (y : GEntry), k ≤ j → out[j]? = some y → cfE e y < 0) → ∃ m : Nat, ref17_masked_L2 n out e c (k : Int) = some (m : Int) ∧ m ≤ out.length ∧ (∀ (j : Nat) (y : GEntry), m ≤ j → out[j]? = some y → cfE e y < 0) ∧ ∀ y, 0 < m → out[m - 1]? = some y → ¬ cfE e y < 0
 | 0, _, _, h, _ => by omega
 | c + 1, k, hk, hc, ha => by
  rw [ref17_masked_L2]
  by_cases h : 0 < k
  ·rw [show decide (0 < (k : Int)) = true from decide_eq_true (by omega), if_pos rfl, wr (by omega) (by omega), show ((k : Int) - 1) = ((k - 1 : Nat) : Int) by omega, idxS (by omega), Zo, less_some, Zo]
   by_cases h2 : cfE e out[k - 1] < 0
   ·rw [decide_eq_true h2, if_pos rfl]
    refine place_loop hl c (k - 1) (by omega) (by omega) fun j y h3 h4 => ?_
    by_cases h5 : j = k - 1
    ·subst h5
     rw [List.getElem?_eq_getElem (by omega), Option.some.injEq] at h4
     rw [← h4]
     exact h2
    ·exact ha j y (by omega) h4
   ·rw [decide_eq_false h2, if_neg (by decide)]
    refine ⟨k, rfl, hk, ha, fun y _ h4 => ?_⟩
    rw [List.getElem?_eq_getElem (by omega), Option.some.injEq] at h4
    rw [← h4]
    exact h2
  ·rw [show decide (0 < (k : Int)) = false from decide_eq_false (by omega), if_neg (by decide)]
   exact ⟨k, rfl, hk, ha, fun y h5 => absurd h5 h⟩
theorem put_SS {out : List GEntry} {e : GEntry} {m : Nat} (h : SSE out) (hm : m ≤ out.length) (h1 : ∀ (j : Nat) (y : GEntry), m ≤ j → out[j]? = some y → cfE e y < 0) (h2 : ∀ y, 0 < m → out[m - 1]? = some y → cfE y e < 0) : SSE (out.take m ++ e :: out.drop m) ∧ (out.take m ++ e :: out.drop m).Perm (e :: out) := by
 have hp : (out.take m ++ e :: out.drop m).Perm (e :: out) := by
  refine List.perm_middle.trans ?_
  rw [List.take_append_drop]
 refine ⟨?_, hp⟩
 have hs : SSE (out.take m ++ out.drop m) := by rw [List.take_append_drop]; exact h
 obtain ⟨s1, s2, s3⟩ := List.pairwise_append.1 hs
 have hlt : ∀ x ∈ out.take m, cfE x e < 0 := fun x hx => by
  obtain ⟨j, hj⟩ := List.getElem?_of_mem hx
  have hjl := (List.getElem?_eq_some_iff.1 hj).1
  rw [List.length_take] at hjl
  rw [List.getElem?_take_of_lt (by omega)] at hj
  have hm1 : out[m - 1]? = some (out[m - 1]'(by omega)) := List.getElem?_eq_getElem (by omega)
  have h3 := h2 _ (by omega) hm1
  by_cases e1 : j = m - 1
  ·rw [e1, hm1, Option.some.injEq] at hj
   rw [← hj]
   exact h3
  ·have := List.pairwise_iff_getElem.1 h j (m - 1) (by omega) (by omega) (by omega)
   have ej : out[j] = x := (List.getElem?_eq_some_iff.1 hj).2
   rw [ej] at this
   exact lt_trans_E this h3
 have hgt : ∀ y ∈ out.drop m, cfE e y < 0 := fun y hy => by
  obtain ⟨j, hj⟩ := List.getElem?_of_mem hy
  rw [List.getElem?_drop] at hj
  exact h1 (m + j) y (by omega) hj
 refine List.pairwise_append.2 ⟨s1, List.pairwise_cons.2 ⟨hgt, s2⟩, fun x hx y hy => ?_⟩
 rcases List.mem_cons.1 hy with rfl | hy
 ·exact hlt x hx
 ·exact s3 x hx y hy
def or2 (a b : Int) : Int := IntKind.i64.wrap ((BitVec.ofInt IntKind.i64.bits a ||| BitVec.ofInt IntKind.i64.bits b).toNat : Int)
def need1 (x : GEntry) : Bool := x.kind == 1 || x.kind == 6 || x.kind == 3
def orK (b : Int) (x : GEntry) : Int := if x.kind == 1 || x.kind == 6 || x.kind == 5 then b else or2 b x.bits
def fl (d : Bool) (l : List GEntry) : List GEntry := l.filter fun x => x.default == d
def isM (x : GEntry) : Bool := x.kind == 5
theorem fl_cons {d : Bool} {x : GEntry} {l : List GEntry} : fl d (x :: l) = if (x.default == d) then x :: fl d l else fl d l := by
 unfold fl
 rw [List.filter_cons]
theorem masked_loop {n : Nat} {es : List GEntry} {d : Bool} (hl : es.length < 1000000) (hn : es.length < n) : ∀ (c i : Nat) (out : List GEntry) (b : Int) (m : Bool) (q : Nat), i ≤ es.length → es.length - i < c → out.length ≤ i → q ≤ i → SSE out →
  (ref17_masked_L1 n es d c (out, b, m, (q : Int), (i : Int)) = some (.inr ([], false)) ∧ ¬ Apart (out ++ fl d (es.drop i))) ∨
  ∃ out' : List GEntry, ref17_masked_L1 n es d c (out, b, m, (q : Int), (i : Int)) = some (.inl (out', (fl d (es.drop i)).foldl orK b, m || (fl d (es.drop i)).any isM, ((q + (fl d (es.drop i)).countP need1 : Nat) : Int))) ∧ SSE out' ∧ out'.Perm (out ++ fl d (es.drop i))
 | 0, _, _, _, _, _, _, h, _, _, _ => by omega
 | c + 1, i, out, b, m, q, hi, hc, ho, hq, hs => by
  rw [ref17_masked_L1]
  by_cases h : i < es.length
  ·rw [dlt h, if_pos rfl, idxS h, Zo, List.drop_eq_getElem_cons h, fl_cons]
   generalize es[i] = x
   cases hd : (x.default == d) with
   | false =>
    rw [if_neg (by decide), if_neg (by decide), wr1 (by omega)]
    exact masked_loop hl hn c (i + 1) out b m q (by omega) (by omega) (by omega) (by omega) hs
   | true =>
    rw [if_pos rfl, if_pos rfl]
    obtain ⟨k, e1, e2, e3, e4⟩ := place_loop (n := n) (out := out) (e := x) (by omega) n out.length (Nat.le_refl _) (by omega) fun j y h1 h2 => by
     have := (List.getElem?_eq_some_iff.1 h2).1
     omega
    rw [e1, Zo]
    have hdup : (((if decide (0 < (k : Int)) then (idx out (IntKind.i64.wrap ((k : Int) - 1))).bind fun x5 => (ref17_lessEntry n x5 x).bind fun t54 => some (!t54) else some false) : Option Bool) = some true ∧ ¬ Apart (out ++ x :: fl d (es.drop (i + 1)))) ∨ (((if decide (0 < (k : Int)) then (idx out (IntKind.i64.wrap ((k : Int) - 1))).bind fun x5 => (ref17_lessEntry n x5 x).bind fun t54 => some (!t54) else some false) : Option Bool) = some false ∧ ∀ y, 0 < k → out[k - 1]? = some y → cfE y x < 0) := by
     by_cases hk : 0 < k
     ·rw [show decide (0 < (k : Int)) = true from decide_eq_true (by omega), if_pos rfl, wr (by omega) (by omega), show ((k : Int) - 1) = ((k - 1 : Nat) : Int) by omega, idxS (by omega), Zo, less_some, Zo]
      have hk1 : out[k - 1]? = some (out[k - 1]'(by omega)) := List.getElem?_eq_getElem (by omega)
      have h4 := e4 _ hk hk1
      have hng := pre_E.neg x out[k - 1]
      by_cases h5 : cfE out[k - 1] x < 0
      ·rw [decide_eq_true h5]
       refine .inr ⟨rfl, fun y _ h6 => ?_⟩
       rw [hk1, Option.some.injEq] at h6
       rw [← h6]
       exact h5
      ·rw [decide_eq_false h5]
       refine .inl ⟨rfl, fun ha => ?_⟩
       have := (List.pairwise_append.1 ha).2.2 out[k - 1] (List.getElem_mem _) x (List.mem_cons_self ..)
       omega
     ·rw [show decide (0 < (k : Int)) = false from decide_eq_false (by omega), if_neg (by decide)]
      exact .inr ⟨rfl, fun y h5 => absurd h5 hk⟩
    rcases hdup with ⟨hd1, hd2⟩ | ⟨hd1, hd2⟩
    ·rw [hd1, Zo, if_pos rfl]
     exact .inl ⟨rfl, hd2⟩
    ·rw [hd1, Zo, if_neg (by decide)]
     obtain ⟨p1, p2⟩ := put_SS hs e2 e3 hd2
     generalize hnew : out.take k ++ x :: out.drop k = new at p1 p2
     have hnl : new.length = out.length + 1 := p2.length_eq
     have go : (((if (x.kind == 1) then some true else some (x.kind == 6)) : Option Bool).bind fun t762 =>
       (if t762 then
        ref17_masked_L1 n es d c (new, b, m, (IntKind.i64.wrap ((q : Int) + 1)), (IntKind.i64.wrap ((i : Int) + 1)))
       else
        (if (x.kind == 3) then
         ref17_masked_L1 n es d c (new, (IntKind.i64.wrap ((BitVec.ofInt IntKind.i64.bits b ||| BitVec.ofInt IntKind.i64.bits x.bits).toNat : Int)), m, (IntKind.i64.wrap ((q : Int) + 1)), (IntKind.i64.wrap ((i : Int) + 1)))
        else
         (if (x.kind == 5) then
          ref17_masked_L1 n es d c (new, b, true, (q : Int), (IntKind.i64.wrap ((i : Int) + 1)))
         else
          ref17_masked_L1 n es d c (new, (IntKind.i64.wrap ((BitVec.ofInt IntKind.i64.bits b ||| BitVec.ofInt IntKind.i64.bits x.bits).toNat : Int)), m, (q : Int), (IntKind.i64.wrap ((i : Int) + 1))))))) = ref17_masked_L1 n es d c (new, orK b x, m || isM x, ((q + (if need1 x then 1 else 0) : Nat) : Int), ((i + 1 : Nat) : Int)) := by
      rw [wr1 (by omega), wr1 (by omega)]
      unfold orK need1 isM
      have k13 : (x.kind == 1) = true → (x.kind == 3) = false ∧ (x.kind == 5) = false := fun h => by
       have := eq_of_beq h
       rw [this]
       decide
      have k63 : (x.kind == 6) = true → (x.kind == 3) = false ∧ (x.kind == 5) = false := fun h => by
       have := eq_of_beq h
       rw [this]
       decide
      have k35 : (x.kind == 3) = true → (x.kind == 5) = false := fun h => by
       have := eq_of_beq h
       rw [this]
       decide
      revert k13 k63 k35
      cases (x.kind == 1) <;> cases (x.kind == 6) <;> cases (x.kind == 3) <;> cases (x.kind == 5) <;> intro k13 k63 k35 <;> first | rfl | (cases m <;> rfl) | exact absurd (k13 rfl).1 (by decide) | exact absurd (k13 rfl).2 (by decide) | exact absurd (k63 rfl).1 (by decide) | exact absurd (k63 rfl).2 (by decide) | exact absurd (k35 rfl) (by decide)
     have fin : ref17_masked_L1 n es d c (new, orK b x, m || isM x, ((q + (if need1 x then 1 else 0) : Nat) : Int), ((i + 1 : Nat) : Int)) = some (.inr ([], false)) ∧ ¬ Apart (out ++ x :: fl d (es.drop (i + 1))) ∨ ∃ out' : List GEntry, ref17_masked_L1 n es d c (new, orK b x, m || isM x, ((q + (if need1 x then 1 else 0) : Nat) : Int), ((i + 1 : Nat) : Int)) = some (.inl (out', (x :: fl d (es.drop (i + 1))).foldl orK b, m || (x :: fl d (es.drop (i + 1))).any isM, ((q + (x :: fl d (es.drop (i + 1))).countP need1 : Nat) : Int))) ∧ SSE out' ∧ out'.Perm (out ++ x :: fl d (es.drop (i + 1))) := by
      have hp2 : (new ++ fl d (es.drop (i + 1))).Perm (out ++ x :: fl d (es.drop (i + 1))) := (p2.append_right _).trans (by
       rw [List.cons_append]
       exact List.perm_middle.symm)
      rcases masked_loop hl hn c (i + 1) new (orK b x) (m || isM x) (q + (if need1 x then 1 else 0)) (by omega) (by omega) (by omega) (by split <;> omega) p1 with ⟨r1, r2⟩ | ⟨o2, r1, r2, r3⟩
      ·exact .inl ⟨r1, fun ha => r2 (ha.perm hp2)⟩
      ·refine .inr ⟨o2, ?_, r2, r3.trans hp2⟩
       rw [r1, List.foldl_cons, List.any_cons, List.countP_cons, Bool.or_assoc]
       congr 6
       omega
     by_cases h0 : out.length = 0
     ·have hout : out = [] := List.eq_nil_of_length_eq_zero h0
      have hk0 : k = 0 := by omega
      subst hk0
      rw [decide_eq_true h0, if_pos rfl, show slc ([] : List GEntry) 0 ((0 : Nat) : Int) = some [] from rfl, Zo, show slc ([] : List GEntry) ((0 : Nat) : Int) 0 = some [] from rfl, Zo]
      have hx : [x] = new := by rw [← hnew, hout]; rfl
      rw [hx, go]
      exact fin
     ·have hsl : slc out 0 (k : Int) = some (out.take k) := by
       have := slcS (xs := out) (a := 0) (b := k) (Nat.zero_le _) e2
       rwa [List.drop_zero] at this
      have hsr : slc out (k : Int) (out.length : Int) = some (out.drop k) := by
       have := slcS (xs := out) (a := k) (b := out.length) e2 (Nat.le_refl _)
       rwa [List.take_length] at this
      rw [decide_eq_false h0, if_neg (by decide), hsl, Zo, appS (by simp; omega), Zo, appS (by simp; omega), Zo, hsr, Zo, show (k : Int).toNat = k from Int.toNat_natCast k]
      by_cases hk : k < out.length
      ·rw [decide_eq_true hk, if_pos rfl, appS (by simp; omega), Zo, List.append_assoc, List.singleton_append, hnew, go]
       exact fin
      ·rw [decide_eq_false hk, if_neg (by decide)]
       have hx : out.take k ++ [x] = new := by rw [← hnew, List.drop_eq_nil_of_le (by omega)]
       rw [hx, go]
       exact fin
  ·rw [dnlt (by omega), if_neg (by decide), List.drop_eq_nil_of_le (by omega)]
   refine .inr ⟨out, ?_, hs, by simp [fl]⟩
   simp [fl]
end Go.Proofs.YtgmhbmcdlkajdaaGreatDoor.Ab
