/-
 Entries as they should be: the program's answer is the document's. No program in sight.
-/
import Derived.Test.YtgmhbmcdlkajdaaGreatDoorPen
namespace Go.Proofs.YtgmhbmcdlkajdaaGreatDoor.Ab
open Go.RowKit Go.Sort Go.Shelf
theorem bv_back (v : BitVec 64) : BitVec.ofInt 64 (IntKind.i64.wrap (v.toNat : Int)) = v := by
 apply BitVec.eq_of_toInt_eq
 have := v.isLt
 simp [IntKind.wrap, IntKind.bits, IntKind.signed]
 rw [BitVec.toInt_eq_toNat_cond]
 unfold Int.bmod
 simp only []
 split <;> split <;> split <;> omega
theorem or2_or (a b c : Int) : or2 (or2 a b) c = or2 (or2 a c) b := by
 unfold or2
 show IntKind.i64.wrap ((BitVec.ofInt 64 (IntKind.i64.wrap ((BitVec.ofInt 64 a ||| BitVec.ofInt 64 b).toNat : Int)) ||| BitVec.ofInt 64 c).toNat : Int) = IntKind.i64.wrap ((BitVec.ofInt 64 (IntKind.i64.wrap ((BitVec.ofInt 64 a ||| BitVec.ofInt 64 c).toNat : Int)) ||| BitVec.ofInt 64 b).toNat : Int)
 generalize BitVec.ofInt 64 a = x
 generalize BitVec.ofInt 64 b = y
 generalize BitVec.ofInt 64 c = z
 rw [bv_back, bv_back, BitVec.or_assoc, BitVec.or_assoc, BitVec.or_comm y]
theorem orK_comm (x y : GEntry) (b : Int) : orK (orK b x) y = orK (orK b y) x := by
 unfold orK
 generalize (x.kind == 1 || x.kind == 6 || x.kind == 5) = p
 generalize (y.kind == 1 || y.kind == 6 || y.kind == 5) = q
 cases p <;> cases q <;> simp only [Bool.false_eq_true, if_false, if_true]
 exact or2_or _ _ _
theorem fold_perm {l m : List GEntry} (h : l.Perm m) (b : Int) : l.foldl orK b = m.foldl orK b := h.foldl_eq' (fun x _ y _ z => orK_comm x y z) b
theorem apart_fl {es : List GEntry} (h0 : Apart (fl false es)) (h1 : Apart (fl true es)) : Apart es := by
 unfold Apart fl at h0 h1
 rw [List.pairwise_filter] at h0 h1
 refine (List.pairwise_and_iff.2 ⟨h0, h1⟩).imp fun {x y} ⟨a, b⟩ e => ?_
 have hd := (cfE_zero.1 e).1
 cases hx : x.default with
 | false => exact a (by rw [hx]; rfl) (by rw [← hd, hx]; rfl) e
 | true => exact b (by rw [hx]; rfl) (by rw [← hd, hx]; rfl) e
theorem fl_perm {d : Bool} {l m : List GEntry} (h : l.Perm m) : (fl d l).Perm (fl d m) := h.filter _
theorem fl_split (es : List GEntry) : (fl false es ++ fl true es).Perm es := by
 have h := List.filter_append_perm (fun x : GEntry => x.default == false) es
 have e : es.filter (fun x => !(x.default == false)) = fl true es := by
  unfold fl
  congr 1
  funext x
  cases x.default <;> rfl
 rw [e] at h
 exact h
theorem mask_apart {d : Bool} {l : List GEntry} (h : Apart l) : Apart (l ++ maskE d l) := by
 unfold maskE
 cases hm : l.any isM with
 | true => rw [if_pos rfl, List.append_nil]; exact h
 | false =>
  rw [if_neg (by decide)]
  refine List.pairwise_append.2 ⟨h, List.pairwise_singleton .., fun x hx y hy e => ?_⟩
  obtain rfl := List.mem_singleton.1 hy
  have := (cfE_zero.1 e).2.1
  refine List.any_eq_false.1 hm x hx ?_
  unfold isM
  rw [this]
  rfl
theorem maskE_def {d : Bool} {l : List GEntry} {x : GEntry} (h : x ∈ maskE d l) : x.default = d := by
 unfold maskE at h
 split at h
 ·cases h
 ·rw [List.mem_singleton.1 h]
theorem partE_def {d : Bool} {l : List GEntry} (hl : ∀ x ∈ l, x.default = d) {x : GEntry} (h : x ∈ partE d l) : x.default = d := by
 have := (srtE_perm _).mem_iff.1 h
 rcases List.mem_append.1 this with h | h
 ·exact hl x h
 ·exact maskE_def h
theorem def_lt {x y : GEntry} (hx : x.default = false) (hy : y.default = true) : cfE x y < 0 := by
 rw [cfE_def, hx, hy, if_neg (by decide)]
 decide
theorem allE_SS {es : List GEntry} (h0 : Apart (fl false es)) (h1 : Apart (fl true es)) : SSE (allE es) := by
 unfold allE
 have s0 : SSE (partE false (fl false es)) := srtE_SS (mask_apart h0)
 have s1 : SSE (partE true (fl true es)) := srtE_SS (mask_apart h1)
 split
 ·rw [List.append_nil]
  exact s0
 ·exact List.pairwise_append.2 ⟨s0, s1, fun x hx y hy => def_lt (partE_def (fun x hx => (mem_fl.1 hx).2) hx) (partE_def (fun x hx => (mem_fl.1 hx).2) hy)⟩
theorem has_find {es : List GEntry} {d : Bool} {k : Int} (ht : ∀ x ∈ es, textOK x = true) (h2 : k ≠ 2) (h4 : k ≠ 4) : (findE es d k { data := #[] }).2 = has k (fl d es) := by
 unfold findE
 cases hf : es.find? (keyE d k { data := #[] }) with
 | none =>
  have hn := List.find?_eq_none.1 hf
  refine (Bool.eq_false_iff.2 fun e => ?_).symm
  obtain ⟨x, hx, hk⟩ := List.any_eq_true.1 e
  obtain ⟨h5, h6⟩ := mem_fl.1 hx
  refine hn x h5 ?_
  have hk := eq_of_beq hk
  unfold keyE
  rw [h6, hk, plain_name (ht x h5) hk h2 h4]
  simp
 | some x =>
  have hx := List.mem_of_find?_eq_some hf
  have hk := List.find?_some hf
  unfold keyE at hk
  simp only [Bool.and_eq_true, beq_iff_eq, decide_eq_true_eq] at hk
  refine (List.any_eq_true.2 ⟨x, mem_fl.2 ⟨hx, hk.1⟩, ?_⟩).symm
  rw [hk.2.1]
  exact beq_self_eq_true _
theorem has_perm {l m : List GEntry} (h : l.Perm m) (k : Int) : has k l = has k m := by
 unfold has
 rw [Bool.eq_iff_iff, List.any_eq_true, List.any_eq_true]
 exact ⟨fun ⟨x, a, b⟩ => ⟨x, h.mem_iff.1 a, b⟩, fun ⟨x, a, b⟩ => ⟨x, h.mem_iff.2 a, b⟩⟩
theorem sort_some {n : Nat} {xs : List GEntry} (h : Apart xs) (h0 : 0 < xs.length) (h1 : xs.length ≤ 4294967296) : sort_Entry n xs = some (srtE xs) := by
 unfold sort_Entry apartE
 have h : xs.Pairwise fun x y => cfE x y ≠ 0 := h
 rw [decide_eq_true h, decide_eq_true h0, decide_eq_true h1]
 rfl
theorem l3_some {n : Nat} {s : List GEntry} (hn : 1000 < n) (hp : SSE s) (hg : ∀ x ∈ s, textOK x = true) (hl : s.length < 1000000) : ∀ (c j : Nat), j ≤ s.length → s.length - j < c → mask_Acl_L3 n s c (j : Int) = some (.inl ())
 | 0, _, _, h => by omega
 | c + 1, j, hj, hc => by
  rw [mask_Acl_L3]
  by_cases h : j < s.length
  ·have ih := l3_some hn hp hg hl c (j + 1) (by omega) (by omega)
   have hx := hg _ (List.getElem_mem h)
   have hz := textOK_size hx
   rw [dlt h, if_pos rfl, idxS h, Zo, good_some (by omega) (by omega), hx, Zo, if_pos rfl, wr1 (by omega), ih]
   cases j with
   | zero => rfl
   | succ k =>
    have hne := List.pairwise_iff_getElem.1 hp k (k + 1) (by omega) h (by omega)
    rw [show decide (0 < ((k + 1 : Nat) : Int)) = true from decide_eq_true (by omega), if_pos rfl, show (((k + 1 : Nat) : Int) - 1) = (k : Int) by omega, wr (by omega) (by omega), idxS (by omega), Zo, cmpE_some _ _ _ (by omega), Zo, if_neg (by simp; omega)]
  ·rw [dnlt (by omega), if_neg (by decide)]
def midE (x : GEntry) : Bool := x.kind == 2 || x.kind == 3 || x.kind == 4
theorem mid_or {x : GEntry} (h : textOK x = true) (b : Int) : (if midE x then or2 b x.bits else b) = orK b x := by
 have hk := (textOK_iff h).1
 unfold midE orK
 generalize x.kind = k at hk
 have : k = 1 ∨ k = 2 ∨ k = 3 ∨ k = 4 ∨ k = 5 ∨ k = 6 := by omega
 rcases this with rfl | rfl | rfl | rfl | rfl | rfl <;> rfl
theorem l4_step {β : Type} {d e : Bool} {k : Int} {A B : β} : (if (d == e) then (if (k == 2) then A else (if (k == 3) then A else (if (k == 4) then A else B))) else B) = if (d == e) then (if (k == 2 || k == 3 || k == 4) then A else B) else B := by
 cases (d == e) <;> cases (k == 2) <;> cases (k == 3) <;> cases (k == 4) <;> rfl
theorem l4_some {n : Nat} {s : List GEntry} (hg : ∀ x ∈ s, textOK x = true ∨ x.default = true) (hl : s.length < 1000000) : ∀ (c j : Nat) (b : Int), j ≤ s.length → s.length - j < c → mask_Acl_L4 n s c (b, (j : Int)) = some ((fl false (s.drop j)).foldl orK b)
 | 0, _, _, _, h => by omega
 | c + 1, j, b, hj, hc => by
  rw [mask_Acl_L4]
  by_cases h : j < s.length
  ·have hx := hg _ (List.getElem_mem h)
   rw [dlt h, if_pos rfl, idxS h, Zo, wr1 (by omega), l4_step, List.drop_eq_getElem_cons h, fl_cons, l4_some hg hl c (j + 1) _ (by omega) (by omega), l4_some hg hl c (j + 1) _ (by omega) (by omega)]
   generalize s[j] = x at hx
   cases hd : x.default == false with
   | false => rfl
   | true =>
    have hd := eq_of_beq hd
    rcases hx with hx | hx
    ·rw [if_pos rfl, if_pos rfl, List.foldl_cons, ← mid_or hx b]
     unfold midE
     cases (x.kind == 2 || x.kind == 3 || x.kind == 4) <;> rfl
    ·rw [hx] at hd; cases hd
  ·rw [dnlt (by omega), if_neg (by decide), List.drop_eq_nil_of_le (by omega)]
   rfl
theorem l5_some {n : Nat} {s : List GEntry} (hg : ∀ x ∈ s, textOK x = true ∨ x.default = false) (hl : s.length < 1000000) : ∀ (c j : Nat) (b : Int), j ≤ s.length → s.length - j < c → mask_Acl_L5 n s c (b, (j : Int)) = some ((fl true (s.drop j)).foldl orK b)
 | 0, _, _, _, h => by omega
 | c + 1, j, b, hj, hc => by
  rw [mask_Acl_L5]
  by_cases h : j < s.length
  ·have hx := hg _ (List.getElem_mem h)
   rw [dlt h, if_pos rfl, idxS h, Zo, wr1 (by omega), l4_step, List.drop_eq_getElem_cons h, fl_cons, l5_some hg hl c (j + 1) _ (by omega) (by omega), l5_some hg hl c (j + 1) _ (by omega) (by omega)]
   generalize s[j] = x at hx
   cases hd : x.default == true with
   | false => rfl
   | true =>
    have hd := eq_of_beq hd
    rcases hx with hx | hx
    ·rw [if_pos rfl, if_pos rfl, List.foldl_cons, ← mid_or hx b]
     unfold midE
     cases (x.kind == 2 || x.kind == 3 || x.kind == 4) <;> rfl
    ·rw [hx] at hd; cases hd
  ·rw [dnlt (by omega), if_neg (by decide), List.drop_eq_nil_of_le (by omega)]
   rfl
theorem isM_has (l : List GEntry) : l.any isM = has 5 l := rfl
theorem oke_iff {es : List GEntry} (h : OKE es = true) : (∀ x ∈ es, textOK x = true) ∧ Apart (fl false es) ∧ whole3 (fl false es) = true ∧ Apart (fl true es) ∧ ((fl true es).isEmpty = true ∨ whole3 (fl true es) = true) ∧ (allE es).length ≤ 100 := by
 unfold OKE at h
 simp only [Bool.and_eq_true, Bool.or_eq_true, decide_eq_true_eq] at h
 obtain ⟨h1, h2, h3, h4, h5, h6⟩ := h
 refine ⟨List.all_eq_true.1 h1, h2, h3, h4, h5, ?_⟩
 unfold allE
 rw [List.length_append]
 exact h6
theorem allE_perm (es : List GEntry) : (allE es).Perm (es ++ (maskE false (fl false es) ++ (if (fl true es).isEmpty then [] else maskE true (fl true es)))) := by
 unfold allE partE
 have p := fl_split es
 by_cases h : (fl true es).isEmpty = true
 ·rw [if_pos h, if_pos h, List.append_nil, List.append_nil]
  rw [List.isEmpty_iff.1 h, List.append_nil] at p
  exact (srtE_perm _).trans (p.append_right _)
 ·rw [if_neg h, if_neg h]
  refine ((srtE_perm _).append (srtE_perm _)).trans ?_
  refine List.Perm.trans ?_ (p.append_right _)
  rw [List.append_assoc, List.append_assoc]
  refine List.Perm.append_left _ ?_
  rw [← List.append_assoc, ← List.append_assoc]
  exact List.perm_append_comm.append_right _
theorem whole_some3 {n : Nat} {l : List GEntry} {d : Bool} (hn : l.length + 10 < n) (hl : l.length < 1000000) (ht : ∀ x ∈ l, textOK x = true) (hw : whole3 (fl d l) = true) : mask_whole n l d = some true := by
 unfold whole3 at hw
 simp only [Bool.and_eq_true] at hw
 exact whole_some (by omega) (by omega) (by omega) (by rw [has_find ht (by decide) (by decide)]; exact hw.1) (by rw [has_find ht (by decide) (by decide)]; exact hw.2.1) (by rw [has_find ht (by decide) (by decide)]; exact hw.2.2)
theorem whole3_perm {l m : List GEntry} (h : l.Perm m) : whole3 l = whole3 m := by
 unfold whole3
 rw [has_perm h, has_perm h, has_perm h]
theorem acl18_some {n : Nat} {es : List GEntry} (h : OKE es = true) (hn : 1000 < n) : mask_Acl n es = some (allE es, true) := by
 obtain ⟨ht, a0, w0, a1, w1, hlen⟩ := oke_iff h
 have hall := allE_perm es
 have hle : es.length ≤ 100 := by
  have := hall.length_eq
  rw [List.length_append] at this
  omega
 have ha := apart_fl a0 a1
 have h0 : 0 < es.length := by
  have w := w0
  unfold whole3 at w
  simp only [Bool.and_eq_true] at w
  obtain ⟨x, hx, _⟩ := List.any_eq_true.1 w.1
  exact List.length_pos_of_mem (mem_fl.1 hx).1
 have hp := srtE_perm es
 have hs := srtE_SS ha
 have hsl := srtE_len es
 have hts : ∀ x ∈ srtE es, textOK x = true := fun x hx => ht x (hp.mem_iff.1 hx)
 have p0 : (fl false (srtE es)).Perm (fl false es) := fl_perm hp
 have p1 : (fl true (srtE es)).Perm (fl true es) := fl_perm hp
 generalize hS : srtE es = s at hp hs hsl hts p0 p1
 have e3 : mask_Acl_L3 n s n 0 = some (.inl ()) := l3_some hn hs hts (by omega) n 0 (by omega) (by omega)
 have hlast : idx s (IntKind.i64.wrap ((s.length : Int) - 1)) = some (s[s.length - 1]'(by omega)) := by
  rw [wr (by omega) (by omega), show ((s.length : Int) - 1) = ((s.length - 1 : Nat) : Int) by omega, idxS (by omega)]
 have hld : (s[s.length - 1]'(by omega)).default = !(fl true es).isEmpty := by
  by_cases hE : (fl true es).isEmpty = true
  ·rw [hE]
   cases hd : (s[s.length - 1]'(by omega)).default with
   | false => rfl
   | true =>
    have hm : s[s.length - 1]'(by omega) ∈ fl true es := mem_fl.2 ⟨hp.mem_iff.1 (List.getElem_mem _), hd⟩
    rw [List.isEmpty_iff.1 hE] at hm
    cases hm
  ·rw [Bool.not_eq_true] at hE
   rw [hE]
   obtain ⟨y, hy⟩ := List.exists_mem_of_ne_nil (fl true es) (fun e => by rw [e] at hE; cases hE)
   obtain ⟨y1, y2⟩ := mem_fl.1 hy
   obtain ⟨i, hi, hg⟩ := List.getElem_of_mem (hp.mem_iff.2 y1)
   by_cases e1 : i = s.length - 1
   ·subst e1
    rw [hg, y2]
    rfl
   ·cases hd : (s[s.length - 1]'(by omega)).default with
    | true => rfl
    | false =>
     have q1 := List.pairwise_iff_getElem.1 hs i (s.length - 1) hi (by omega) (by omega)
     rw [hg] at q1
     have q2 := def_lt hd y2
     have := pre_E.neg y (s[s.length - 1]'(by omega))
     omega
 have em0 : mask_Acl_C2_mask_masked n s = some (s ++ maskE false (fl false es)) := by
  unfold mask_Acl_C2_mask_masked maskE
  rw [find_some (by omega) (by omega), Zo, has_find hts (by decide) (by decide), has_perm p0, isM_has]
  cases has 5 (fl false es) with
  | true => rw [if_pos rfl, if_pos rfl, List.append_nil]
  | false =>
   have hL : mask_Acl_L4 n s n (0, 0) = _ := l4_some (n := n) (s := s) (fun x hx => .inl (hts x hx)) (by omega) n 0 0 (by omega) (by omega)
   rw [if_neg (by decide), if_neg (by decide), hL, Zo, List.drop_zero, fold_perm p0, appS (by simp; omega), Zo]
 have hml : (maskE false (fl false es)).length ≤ 1 := by
  unfold maskE
  split <;> simp
 generalize hM : maskE false (fl false es) = m0 at em0 hml
 have hm0 : ∀ x ∈ m0, x.default = false := fun x hx => maskE_def (by rw [hM]; exact hx)
 have ffl : fl true (s ++ m0) = fl true s := by
  unfold fl
  rw [List.filter_append]
  have : m0.filter (fun x => x.default == true) = [] := List.filter_eq_nil_iff.2 fun x hx => by rw [hm0 x hx]; decide
  rw [this, List.append_nil]
 have hm5 : ∀ x ∈ m0, x.kind = 5 ∧ x.name = { data := #[] } := fun x hx => by
  rw [← hM] at hx
  unfold maskE at hx
  split at hx
  ·cases hx
  ·rw [List.mem_singleton.1 hx]
   exact ⟨rfl, rfl⟩
 have em1 : (fl true es).isEmpty = false → mask_Acl_C3_mask_masked n (s ++ m0) = some (s ++ m0 ++ maskE true (fl true es)) := fun _ => by
  unfold mask_Acl_C3_mask_masked maskE
  have hf : (findE (s ++ m0) true 5 { data := #[] }).2 = has 5 (fl true es) := by
   rw [← has_perm p1, ← has_find hts (by decide) (by decide)]
   unfold findE
   rw [List.find?_append]
   have : m0.find? (keyE true 5 { data := #[] }) = none := List.find?_eq_none.2 fun x hx => by
    unfold keyE
    rw [hm0 x hx]
    simp
   rw [this]
   cases s.find? (keyE true 5 { data := #[] }) <;> rfl
  rw [find_some (by simp; omega) (by simp; omega), Zo, hf, isM_has]
  cases has 5 (fl true es) with
  | true => rw [if_pos rfl, if_pos rfl, List.append_nil]
  | false =>
   have hL : mask_Acl_L5 n (s ++ m0) n (0, 0) = _ := l5_some (n := n) (s := s ++ m0) (fun x hx => by
    rcases List.mem_append.1 hx with h | h
    ·exact .inl (hts x h)
    ·exact .inr (hm0 x h)) (by simp; omega) n 0 0 (by omega) (by simp; omega)
   rw [if_neg (by decide), if_neg (by decide), hL, Zo, List.drop_zero, ffl, fold_perm p1, appS (by simp; omega), Zo]
 have fin : ∀ t : List GEntry, (allE es).Perm t → (((sort_Entry n t).bind fun l4 => if (decide (100 < (l4.length : Int))) then some ([], false) else some (l4, true)) : Option (List GEntry × Bool)) = some (allE es, true) := fun t hpt => by
  have hSS := allE_SS a0 a1
  have e := srtE_of hSS hpt
  have hat : Apart t := hSS.apart.perm hpt.symm
  have htl := hpt.length_eq
  have hal := hall.length_eq
  rw [List.length_append] at hal
  rw [sort_some hat (by omega) (by omega), Zo, srtE_len, ← e, decide_eq_false (by omega), if_neg (by decide)]
 unfold mask_Acl
 rw [decide_eq_false (by omega), if_neg (by decide), grd_t (decide_eq_true (by omega)), sort_some ha h0 (by omega), hS, Zo, e3, Zo]
 dsimp only
 rw [decide_eq_true (show 0 < (s.length : Int) by omega), if_pos rfl, hlast, Zo, hld, Zo, whole_some3 (by omega) (by omega) hts (by rw [whole3_perm p0]; exact w0), Zo, if_pos rfl]
 cases hE : (fl true es).isEmpty with
 | true =>
  rw [Bool.not_true, if_neg (show ¬ false = true by decide), Zo]
  dsimp only
  rw [if_neg (show ¬ false = true by decide), em0, Zo, if_neg (show ¬ false = true by decide), Zo]
  refine fin _ (hall.trans ?_)
  rw [hE, if_pos rfl, hM, List.append_nil]
  exact hp.symm.append_right _
 | false =>
  have hw1 : whole3 (fl true es) = true := by
   rcases w1 with h | h
   ·rw [hE] at h; cases h
   ·exact h
  rw [Bool.not_false, if_pos rfl, whole_some3 (by omega) (by omega) hts (by rw [whole3_perm p1]; exact hw1), Zo, Zo]
  dsimp only
  rw [Bool.not_true, if_neg (show ¬ false = true by decide), em0, Zo, if_pos rfl, em1 hE, Zo, Zo]
  refine fin _ (hall.trans ?_)
  rw [hE, if_neg (show ¬ false = true by decide), hM, ← List.append_assoc]
  exact (hp.symm.append_right _).append_right _
end Go.Proofs.YtgmhbmcdlkajdaaGreatDoor.Ab
