/-
  Match, Over, Texts, SameTexts, In, May, told plainly.
-/
import Derived.Test.YtkkhgdmmbhpckaaGte
import Derived.Test.YtkkhgdmmbhpckaaPk
namespace Go.Proofs.Ytkkhgdmmbhpckaa.Ab
open Go.RowKit

theorem sameTexts_some {n : Nat} {a b : List ByteArray} (hn : a.length < n) (hx : a.length < 4611686018427387904) : ref1_SameTexts n a b = some (decide (a = b)) := by
  unfold ref1_SameTexts
  by_cases hl : a.length = b.length
  · have e : ((a.length : Int) != (b.length : Int)) = false := by simp [hl]
    have h : ref1_SameTexts_L1 n a b n 0 = _ := same_loop (L := ref1_SameTexts_L1 n a b) (E := fun x y => x.toList == y.toList) beqS (fun _ _ => rfl) hl hx n 0 (by omega) (by omega)
    rw [e, if_neg (by decide), h, List.drop_zero, List.drop_zero, Option.bind_some]
    by_cases e : a = b <;> simp [e]
  · have e : ((a.length : Int) != (b.length : Int)) = true := by simp; omega
    rw [e, if_pos rfl, decide_eq_false fun h => hl (by rw [h])]
theorem texts_some : ∀ (n : Nat) (l : List ByteArray), l.length + 2 ≤ n → l.length ≤ 4294967296 → ref1_Texts n l = some (tx.ofL l)
  | 0, _, h, _ => by omega
  | n + 1, l, h, hl => by
    have ih := texts_some n
    unfold ref1_Texts
    by_cases h2 : l.length < 2
    · rw [decide_eq_true (by omega), if_pos rfl, appS (by simp; omega), Option.bind_some, ofL_short tx h2]
    · have ed : Int.tdiv (l.length : Int) 2 = ((l.length / 2 : Nat) : Int) := by rw [Int.tdiv_eq_ediv_of_nonneg (by omega)]; omega
      rw [decide_eq_false (by omega), if_neg (by decide), ed, wrap_nat (by omega)]
      have s1 : slc l 0 ((l.length / 2 : Nat) : Int) = some ((l.take (l.length / 2)).drop 0) := slcS (a := 0) (by omega) (by omega)
      rw [s1, Option.bind_some, ih _ (by simp; omega) (by simp; omega), Option.bind_some, slcS (by omega) (Nat.le_refl _), Option.bind_some, ih _ (by simp; omega) (by simp; omega), Option.bind_some]
      have k1 := ofL_len tx ((l.take (l.length / 2)).drop 0)
      have k2 := ofL_len tx ((l.take l.length).drop (l.length / 2))
      simp only [List.drop_zero, List.length_take, List.take_length, List.length_drop] at k1 k2 ⊢
      have m := merge_loop tx (L := ref1_Texts_L1 n (tx.ofL (l.take (l.length / 2))) (tx.ofL (l.drop (l.length / 2)))) (fun _ _ _ _ => rfl) n [] 0 0 (by omega) (by omega) (by omega) (by simp; omega) (by omega) (by omega)
      have m' : ref1_Texts_L1 n (tx.ofL (l.take (l.length / 2))) (tx.ofL (l.drop (l.length / 2))) n ([], 0, 0) = _ := m
      rw [m', Option.bind_some, List.nil_append, List.drop_zero, List.drop_zero, tx.mg_ofL, List.take_append_drop]
/-! ### Match, Over -/
def star : ByteArray := { data := #[42] }
def matchB (p s : ByteArray) : Bool := if starB p then preB (p.extract 0 (p.size - 1)) s else decide (p = s)
theorem hasPrefix_some {n : Nat} {s p : ByteArray} : strings_HasPrefix n s p = some (preB p s) := by
  unfold strings_HasPrefix stringslite_HasPrefix preB
  by_cases h : p.size ≤ s.size
  · have e : bslc s 0 (p.size : Int) = some (s.extract 0 p.size) := bslcS (a := 0) (by omega) h
    rw [decide_eq_true (by omega), if_pos rfl, e, Option.bind_some, Option.bind_some, beqS, decide_eq_true h, Bool.true_and]
  · rw [decide_eq_false (by omega), if_neg (by decide), Option.bind_some, decide_eq_false h, Bool.false_and]
theorem drop_last {α : Type} {l : List α} (h : l ≠ []) : l.drop (l.length - 1) = [l.getLast h] := by
  have hl : 0 < l.length := List.length_pos_iff.2 h
  rw [List.drop_eq_getElem_cons (by omega), List.drop_eq_nil_of_le (by omega), List.getLast_eq_getElem]
theorem star_ext (p : ByteArray) (h : 1 ≤ p.size) : decide (p.extract (p.size - 1) p.size = star) = starB p := by
  have hne : p.data.toList ≠ [] := by
    intro e
    have := bsize p
    rw [e] at this
    simp at this
    omega
  unfold starB
  rw [Bool.eq_iff_iff, decide_eq_true_eq, bs_eq, list_ext, ← bsize, List.take_length, drop_last hne, List.getLast?_eq_some_getLast hne]
  show [_] = [42] ↔ _
  simp
theorem match_some {n : Nat} {p s : ByteArray} (hp : p.size < 4611686018427387904) : glob_Match n p s = some (matchB p s) := by
  unfold glob_Match strings_CutSuffix stringslite_CutSuffix stringslite_HasSuffix matchB
  have e1 : (({ data := #[42] } : ByteArray).size : Int) = ((1 : Nat) : Int) := rfl
  rw [e1]
  by_cases h : 1 ≤ p.size
  · have e2 : IntKind.i64.wrap ((p.size : Int) - ((1 : Nat) : Int)) = ((p.size - 1 : Nat) : Int) := by rw [wr (by omega) (by omega)]; omega
    have e3 : bslc p 0 ((p.size - 1 : Nat) : Int) = some (p.extract 0 (p.size - 1)) := bslcS (a := 0) (by omega) (by omega)
    have e4 := star_ext p h
    unfold star at e4
    rw [decide_eq_true (by omega), if_pos rfl, e2, bslcS (by omega) (Nat.le_refl _), Option.bind_some, beqS, e4, Option.bind_some]
    cases starB p with
    | true => rw [if_pos rfl, e3, Option.bind_some, Option.bind_some, Option.bind_some, if_pos rfl, hasPrefix_some, Option.bind_some, if_pos rfl]
    | false => rw [if_neg (by decide), Option.bind_some, Option.bind_some, if_neg (by simp), beqS, if_neg (by decide)]
  · have e4 : starB p = false := by
      unfold starB
      have : p.data.toList = [] := by
        have := bsize p
        exact List.eq_nil_of_length_eq_zero (by omega)
      rw [this]
      rfl
    rw [decide_eq_false (by omega), if_neg (by decide), Option.bind_some, if_neg (by decide), Option.bind_some, Option.bind_some, if_neg (by simp), beqS, e4, if_neg (by decide)]
theorem matches_some {n : Nat} {ps : List ByteArray} {s : ByteArray} (hn : ps.length < n) (hl : ps.length < 4611686018427387904) (hp : ∀ p ∈ ps, p.size < 4611686018427387904) : glob_matches n ps s = some (ps.any fun p => matchB p s) := by
  unfold glob_matches slices_ContainsFunc_string__glob_matches_c1 slices_IndexFunc_string__glob_matches_c1
  obtain ⟨r, h1, h2⟩ := ixf_loop (L := slices_IndexFunc_string__glob_matches_c1_L1 n ps s) (xs := ps) (P := fun p => glob_matches_c1 n p s) (fun p => matchB p s) (fun _ _ => rfl) (fun p h => by unfold glob_matches_c1; rw [match_some (hp p h)]; rfl) hl n 0 (by omega) (by omega)
  have h1' : slices_IndexFunc_string__glob_matches_c1_L1 n ps s n 0 = some r := h1
  rw [h1', List.drop_zero] at *
  rcases h2 with ⟨h2, k, rfl⟩ | ⟨h2, rfl⟩
  · rw [h2]; simp
  · rw [h2]; simp
theorem norm_Once_some {n : Nat} {xs : List ByteArray} (h : xs.length ≤ 4294967296) : norm_Once n xs = some (tx.ofL xs) := by
  unfold norm_Once
  rw [if_pos h]
  exact congrArg some (once_set xs)
theorem foldl_filter {α : Type} (p : α → Bool) (l acc : List α) : l.foldl (fun a x => if p x then a ++ [x] else a) acc = acc ++ l.filter p := by
  induction l generalizing acc with
  | nil => simp
  | cons x r ih => by_cases h : p x <;> simp [h, ih]
theorem over_loop {n : Nat} {ps names : List ByteArray} (hn : ps.length < n) (hl : ps.length < 4611686018427387904) (hp : ∀ p ∈ ps, p.size < 4611686018427387904) (hm : names.length ≤ 4294967296) : ∀ (c j : Nat) (acc : List ByteArray), j ≤ names.length → names.length - j < c → acc.length ≤ j → glob_Over_L1 n ps names c (acc, (j : Int)) = some (acc ++ (names.drop j).filter fun s => ps.any fun p => matchB p s)
  | 0, _, _, _, h, _ => by omega
  | c + 1, j, acc, hj, hc, ha => by
    have ih := over_loop hn hl hp hm c
    unfold glob_Over_L1
    by_cases hlt : j < names.length
    · rw [dlt hlt, if_pos rfl, idxS hlt, Option.bind_some, matches_some hn hl hp, Option.bind_some, List.drop_eq_getElem_cons hlt, wr1 (by omega)]
      cases h : ps.any fun p => matchB p names[j] with
      | true =>
        rw [if_pos rfl, appS (by simp; omega), Option.bind_some, ih _ _ (by omega) (by omega) (by simp; omega), List.filter_cons, h, if_pos rfl]
        simp
      | false => rw [if_neg (by decide), ih _ _ (by omega) (by omega) (by omega), List.filter_cons, h, if_neg (by decide)]
    · rw [dnlt (by omega), if_neg (by decide), List.drop_eq_nil_of_le (by omega)]
      simp
theorem over_some {n : Nat} {ps names : List ByteArray} (hn : ps.length < n) (hl : ps.length < 4611686018427387904) (hp : ∀ p ∈ ps, p.size < 4611686018427387904) (hm : names.length ≤ 4294967296) (hm2 : names.length < n) : glob_Over n ps names = some (tx.ofL (names.filter fun s => ps.any fun p => matchB p s)) := by
  unfold glob_Over
  have h : glob_Over_L1 n ps names n ([], 0) = _ := over_loop hn hl hp hm n 0 [] (by omega) (by omega) (by simp)
  have hf := List.length_filter_le (fun s => ps.any fun p => matchB p s) names
  rw [h, Option.bind_some, List.nil_append, List.drop_zero, norm_Once_some (by omega)]
  rfl
/-! ### In, May -/
theorem foldK_exit {α S X : Type} {f : S → α → (S → Option X) → Option X} {e : S → Option X} (hit : α → Bool) (o : X) (g : S → α → S) : ∀ (xs : List α) (st : S), (∀ st x k, x ∈ xs → f st x k = if hit x then some o else k (g st x)) → foldK f e xs st = if xs.any hit then some o else e (xs.foldl g st)
  | [], _, _ => rfl
  | x :: r, st, h => by
    have ih := foldK_exit (e := e) hit o g r (g st x) fun st y k hy => h st y k (List.mem_cons_of_mem _ hy)
    rw [foldK, h st x _ (List.mem_cons_self ..), List.any_cons, List.foldl_cons]
    cases hx : hit x with
    | true => rw [if_pos rfl, Bool.true_or, if_pos rfl]
    | false => rw [if_neg (by decide), Bool.false_or]; exact ih
theorem foldl_or {α : Type} (p : α → Bool) : ∀ (l : List α) (b : Bool), l.foldl (fun s x => s || p x) b = (b || l.any p)
  | [], b => by simp
  | x :: r, b => by rw [List.foldl_cons, foldl_or p r, List.any_cons, Bool.or_assoc]
theorem contains_some {n : Nat} {s : List ByteArray} {v : ByteArray} (hn : s.length < n) (hl : s.length < 4611686018427387904) : slices_Contains_string n s v = some (s.any fun x => decide (v = x)) := by
  unfold slices_Contains_string slices_Index_string
  obtain ⟨r, h1, h2⟩ := ixf_loop (L := slices_Index_string_L1 n s v) (xs := s) (P := fun x => some (v.toList == x.toList)) (fun x => decide (v = x)) (fun _ _ => rfl) (fun x _ => by rw [beqS]) hl n 0 (by omega) (by omega)
  have h1' : slices_Index_string_L1 n s v n 0 = some r := h1
  rw [h1']
  rw [List.drop_zero] at h2
  rcases h2 with ⟨h2, k, rfl⟩ | ⟨h2, rfl⟩
  · rw [h2]; simp
  · rw [h2]; simp
theorem in22_some {n : Nat} {s : List ByteArray} {v : ByteArray} (hn : s.length < n) (hl : s.length < 4611686018427387904) : ref22_In n s v = some (s.any fun x => decide (v = x)) := by
  unfold ref22_In
  have h : ref22_In_L1 n s v n 0 = _ := ref22_In_L1_list n s v hl n () 0 (by omega) (by omega)
  rw [h, foldK_exit (fun x => decide (v = x)) (.inr true) (fun _ _ => ()) (s.drop 0) () (fun st x k _ => by
    unfold ref22_In_L1_f
    rw [beqS]
    by_cases e : x = v
    · rw [decide_eq_true e, decide_eq_true e.symm]
    · rw [decide_eq_false e, decide_eq_false fun h => e h.symm]), List.drop_zero]
  cases s.any fun x => decide (v = x) <;> rfl
structure PolOK (n : Nat) (p : GPolicy) : Prop where
  users : p.users.length < n
  acts : p.actions.length < n
  ress : p.resources.length < n
  grps : p.groups.length < n
  gu : ∀ g ∈ p.groups, g.users.length < n
  stms : p.stmts.length < n
  su : ∀ s ∈ p.stmts, s.users.length < n ∧ s.groups.length < n ∧ (s.actions.length < n ∧ ∀ x ∈ s.actions, x.size < n) ∧ (s.resources.length < n ∧ ∀ x ∈ s.resources, x.size < n)
  bnds : p.bounds.length < n
  bu : ∀ b ∈ p.bounds, (b.actions.length < n ∧ ∀ x ∈ b.actions, x.size < n) ∧ (b.resources.length < n ∧ ∀ x ∈ b.resources, x.size < n)
def inB (p : GPolicy) (u g : ByteArray) : Bool := p.groups.any fun x => decide (x.name = g) && x.users.any fun y => decide (u = y)
section
variable {n : Nat} {p : GPolicy} (h : PolOK n p) (hn : n < 4611686018427387904)
include h hn
theorem in_some (u g : ByteArray) : glob_In n p u g = some (inB p u g) := by
  have hg := h.grps
  unfold glob_In slices_ContainsFunc_Group__glob_In_c1 slices_IndexFunc_Group__glob_In_c1
  obtain ⟨r, h1, h2⟩ := ixf_loop (L := slices_IndexFunc_Group__glob_In_c1_L1 n p.groups g u) (xs := p.groups) (P := fun x => glob_In_c1 n x g u) (fun x => decide (x.name = g) && x.users.any fun y => decide (u = y)) (fun _ _ => rfl) (fun x hx => by
    have := h.gu x hx
    unfold glob_In_c1
    rw [beqS]
    by_cases e : x.name = g
    · rw [decide_eq_true e, if_pos rfl, contains_some (by omega) (by omega), Bool.true_and]; rfl
    · rw [decide_eq_false e, if_neg (by decide), Bool.false_and]) (by omega) n 0 (by omega) (by omega)
  have h1' : slices_IndexFunc_Group__glob_In_c1_L1 n p.groups g u n 0 = some r := h1
  rw [h1']
  rw [List.drop_zero] at h2
  unfold inB
  rcases h2 with ⟨h2, k, rfl⟩ | ⟨h2, rfl⟩
  · rw [h2]; simp
  · rw [h2]; simp
theorem inside_some (u g : ByteArray) : ref22_Inside n p u g = some (inB p u g) := by
  have hg := h.grps
  unfold ref22_Inside
  have h0 : ref22_Inside_L1 n p u g n 0 = _ := ref22_Inside_L1_list n p u g (by omega) n () 0 (by omega) (by omega)
  rw [h0, foldK_exit (fun x => decide (x.name = g) && x.users.any fun y => decide (u = y)) (.inr true) (fun _ _ => ()) (p.groups.drop 0) () (fun st x k hx => by
    have := h.gu x (List.mem_of_mem_drop hx)
    unfold ref22_Inside_L1_f
    rw [beqS]
    by_cases e : x.name = g
    · rw [decide_eq_true e, if_pos rfl, in22_some (by omega) (by omega), Option.bind_some, Bool.true_and]
    · rw [decide_eq_false e, if_neg (by decide), Bool.false_and, if_neg (by decide)]), List.drop_zero]
  unfold inB
  cases (p.groups.any fun x => decide (x.name = g) && x.users.any fun y => decide (u = y)) <;> rfl
def mtB (ps : List ByteArray) (s : ByteArray) : Bool := ps.any fun p => matchB p s
def whoB (p : GPolicy) (s : GStmt) (u : ByteArray) : Bool := (s.users.any fun x => decide (u = x)) || s.groups.any fun g => inB p u g
def bearsB (p : GPolicy) (s : GStmt) (u a r : ByteArray) : Bool := whoB p s u && (mtB s.actions a && mtB s.resources r)
theorem bears_some (s : GStmt) (hs : s ∈ p.stmts) (u a r : ByteArray) : glob_bears n p s u a r = some (bearsB p s u a r) := by
  obtain ⟨s1, s2, ⟨s3, s4⟩, s5, s6⟩ := h.su s hs
  unfold glob_bears slices_ContainsFunc_string__glob_bears_c1 slices_IndexFunc_string__glob_bears_c1 bearsB whoB
  obtain ⟨q, h1, h2⟩ := ixf_loop (L := slices_IndexFunc_string__glob_bears_c1_L1 n s.groups p u) (xs := s.groups) (P := fun x => glob_bears_c1 n x p u) (fun g => inB p u g) (fun _ _ => rfl) (fun x hx => by
    unfold glob_bears_c1
    rw [in_some h hn]; rfl) (by omega) n 0 (by omega) (by omega)
  have h1' : slices_IndexFunc_string__glob_bears_c1_L1 n s.groups p u n 0 = some q := h1
  rw [List.drop_zero] at h2
  have e1 : glob_matches n s.actions a = some (mtB s.actions a) := matches_some (by omega) (by omega) fun x hx => by have := s4 x hx; omega
  have e2 : glob_matches n s.resources r = some (mtB s.resources r) := matches_some (by omega) (by omega) fun x hx => by have := s6 x hx; omega
  rw [contains_some (by omega) (by omega), h1', e1, e2]
  rcases h2 with ⟨h2, k, rfl⟩ | ⟨h2, rfl⟩ <;> rw [h2] <;> cases (s.users.any fun x => decide (u = x)) <;> cases mtB s.actions a <;> cases mtB s.resources r <;> simp
def boundB (p : GPolicy) (u a r : ByteArray) : Bool := (p.bounds.any fun b => decide (b.user = u) && (mtB b.actions a && mtB b.resources r)) || !(p.bounds.any fun b => decide (b.user = u))
theorem bounded_some (u a r : ByteArray) : glob_bounded n p u a r = some (boundB p u a r) := by
  have hb := h.bnds
  unfold glob_bounded
  have h0 : glob_bounded_L1 n p u a r n (false, 0) = _ := glob_bounded_L1_list n p u a r (by omega) n false 0 (by omega) (by omega)
  rw [h0, foldK_exit (fun b => decide (b.user = u) && (mtB b.actions a && mtB b.resources r)) (.inr true) (fun st b => st || decide (b.user = u)) (p.bounds.drop 0) false (fun st b k hx => by
    obtain ⟨⟨b1, b2⟩, b3, b4⟩ := h.bu b (List.mem_of_mem_drop hx)
    have e1 : glob_matches n b.actions a = some (mtB b.actions a) := matches_some (by omega) (by omega) fun x hx => by have := b2 x hx; omega
    have e2 : glob_matches n b.resources r = some (mtB b.resources r) := matches_some (by omega) (by omega) fun x hx => by have := b4 x hx; omega
    unfold glob_bounded_L1_f
    rw [beqS, e1, e2]
    cases decide (b.user = u) <;> cases mtB b.actions a <;> cases mtB b.resources r <;> cases st <;> rfl), List.drop_zero, foldl_or, Bool.false_or]
  unfold boundB glob_bounded_L1_e
  cases (p.bounds.any fun b => decide (b.user = u) && (mtB b.actions a && mtB b.resources r)) <;> cases (p.bounds.any fun b => decide (b.user = u)) <;> rfl
def toldB (p : GPolicy) (u a r : ByteArray) : Bool := (p.users.any fun x => decide (u = x)) && ((p.actions.any fun x => decide (a = x)) && p.resources.any fun x => decide (r = x))
def mayG (p : GPolicy) (u a r : ByteArray) : Bool := toldB p u a r && (!(p.stmts.any fun s => bearsB p s u a r && s.deny) && ((p.stmts.any fun s => bearsB p s u a r) && boundB p u a r))
theorem mayG_some (u a r : ByteArray) : glob_May n p u a r = some (mayG p u a r) := by
  have h1 := h.users; have h2 := h.acts; have h3 := h.ress; have h4 := h.stms
  unfold glob_May
  have h0 : glob_May_L1 n p u a r n (false, 0) = _ := glob_May_L1_list n p u a r (by omega) n false 0 (by omega) (by omega)
  rw [contains_some (by omega) (by omega), contains_some (by omega) (by omega), contains_some (by omega) (by omega), h0, foldK_exit (fun s => bearsB p s u a r && s.deny) (.inr false) (fun st s => st || bearsB p s u a r) (p.stmts.drop 0) false (fun st s k hx => by
    unfold glob_May_L1_f
    rw [bears_some h hn s (List.mem_of_mem_drop hx)]
    cases bearsB p s u a r <;> cases s.deny <;> cases st <;> rfl), List.drop_zero, foldl_or, Bool.false_or, bounded_some h hn]
  unfold mayG toldB glob_May_L1_e
  cases (p.users.any fun x => decide (u = x)) <;> cases (p.actions.any fun x => decide (a = x)) <;> cases (p.resources.any fun x => decide (r = x)) <;> cases (p.stmts.any fun s => bearsB p s u a r && s.deny) <;> cases (p.stmts.any fun s => bearsB p s u a r) <;> rfl
omit h hn in
theorem match22_some {p s : ByteArray} (hp : p.size < 4611686018427387904) : ref22_Match n p s = some (matchB p s) := by
  unfold ref22_Match matchB
  by_cases h : 1 ≤ p.size
  · have e2 : IntKind.i64.wrap ((p.size : Int) - 1) = ((p.size - 1 : Nat) : Int) := by rw [wr (by omega) (by omega)]; omega
    have hb : bidx p ((p.size - 1 : Nat) : Int) = _ := bidxS (show p.size - 1 < p.size by omega)
    have hlt : p.size - 1 < p.data.toList.length := by rw [bsize]; omega
    have hl : starB p = (p.data.toList[p.size - 1] == 42) := by
      unfold starB
      have hlen : p.data.toList.length - 1 = p.size - 1 := by rw [bsize]
      rw [List.getLast?_eq_getElem?, hlen, List.getElem?_eq_getElem hlt]
      simp
    have e5 : (((p.data.toList[p.size - 1]).toNat : Int) == 42) = (p.data.toList[p.size - 1] == 42) := by
      generalize p.data.toList[p.size - 1] = b
      rw [Bool.eq_iff_iff, beq_iff_eq, beq_iff_eq]
      constructor
      · intro e
        exact UInt8.toNat_inj.1 (by have : b.toNat = 42 := by omega
                                    rw [this]; rfl)
      · rintro rfl; rfl
    rw [decide_eq_true (by omega), if_pos rfl, e2, hb, Option.bind_some, Option.bind_some, e5, ← hl]
    cases starB p with
    | true =>
      rw [if_pos rfl, if_pos rfl]
      have e3 : bslc p 0 ((p.size - 1 : Nat) : Int) = some (p.extract 0 (p.size - 1)) := bslcS (a := 0) (by omega) (by omega)
      have e6 : (p.extract 0 (p.size - 1)).size = p.size - 1 := by rw [ext_size _ (by omega)]; omega
      unfold preB
      rw [e6]
      by_cases h7 : p.size - 1 ≤ s.size
      · have e4 : bslc s 0 ((p.size - 1 : Nat) : Int) = some (s.extract 0 (p.size - 1)) := bslcS (a := 0) (by omega) h7
        rw [decide_eq_true (by omega), if_pos rfl, e4, Option.bind_some, e3, Option.bind_some, beqS, decide_eq_true h7, Bool.true_and]
      · rw [decide_eq_false (by omega), if_neg (by decide), decide_eq_false h7, Bool.false_and]
    | false => rw [if_neg (by decide), if_neg (by decide), beqS]
  · have e4 : starB p = false := by
      unfold starB
      have : p.data.toList = [] := by
        have := bsize p
        exact List.eq_nil_of_length_eq_zero (by omega)
      rw [this]
      rfl
    rw [decide_eq_false (by omega), if_neg (by decide), Option.bind_some, if_neg (by decide), beqS, e4, if_neg (by decide)]
omit h in
theorem matches22_some {ps : List ByteArray} {s : ByteArray} (hl : ps.length < n) (hp : ∀ p ∈ ps, p.size < n) : ref22_matches n ps s = some (mtB ps s) := by
  unfold ref22_matches
  have h : ref22_matches_L1 n ps s n 0 = _ := ref22_matches_L1_list n ps s (by omega) n () 0 (by omega) (by omega)
  rw [h, foldK_exit (fun p => matchB p s) (.inr true) (fun _ _ => ()) (ps.drop 0) () (fun st x k hx => by
    have := hp x (List.mem_of_mem_drop hx)
    unfold ref22_matches_L1_f
    rw [match22_some (by omega)]
    rfl), List.drop_zero]
  unfold mtB
  cases (ps.any fun p => matchB p s) <;> rfl
omit h in
theorem over22_loop {ps names : List ByteArray} (hl : ps.length < n) (hp : ∀ p ∈ ps, p.size < n) (hm : names.length ≤ 4294967296) : ∀ (c j : Nat) (acc : List ByteArray), j ≤ names.length → names.length - j < c → acc.length ≤ j → ref22_Over_L1 n ps names c (acc, (j : Int)) = some (acc ++ (names.drop j).filter fun s => mtB ps s)
  | 0, _, _, _, h, _ => by omega
  | c + 1, j, acc, hj, hc, ha => by
    have ih := over22_loop hl hp hm c
    unfold ref22_Over_L1
    by_cases hlt : j < names.length
    · rw [dlt hlt, if_pos rfl, idxS hlt, Option.bind_some, matches22_some hn hl hp, Option.bind_some, List.drop_eq_getElem_cons hlt, wr1 (by omega)]
      cases h : mtB ps names[j] with
      | true =>
        rw [if_pos rfl, appS (by simp; omega), Option.bind_some, ih _ _ (by omega) (by omega) (by simp; omega), List.filter_cons, h, if_pos rfl]
        simp
      | false => rw [if_neg (by decide), ih _ _ (by omega) (by omega) (by omega), List.filter_cons, h, if_neg (by decide)]
    · rw [dnlt (by omega), if_neg (by decide), List.drop_eq_nil_of_le (by omega)]
      simp
omit h in
theorem over22_some {ps names : List ByteArray} (hl : ps.length < n) (hp : ∀ p ∈ ps, p.size < n) (hm : names.length ≤ 4294967296) (hm2 : names.length + 2 ≤ n) : ref22_Over n ps names = some (tx.ofL (names.filter fun s => mtB ps s)) := by
  unfold ref22_Over
  have h : ref22_Over_L1 n ps names n ([], 0) = _ := over22_loop hn hl hp hm n 0 [] (by omega) (by omega) (by simp)
  have hf := List.length_filter_le (fun s => mtB ps s) names
  rw [h, Option.bind_some, List.nil_append, List.drop_zero, texts_some _ _ (by omega) (by omega)]
  rfl
theorem who_loop (x : GStmt) (u : ByteArray) (hx : x.groups.length < n) : ∀ (c j : Nat) (b : Bool), j ≤ x.groups.length → x.groups.length - j < c → ref22_May_L2 n p u x c (b, (j : Int)) = some (b || (x.groups.drop j).any fun g => inB p u g)
  | 0, _, _, _, h => by omega
  | c + 1, j, b, hj, hc => by
    have ih := who_loop x u hx c
    unfold ref22_May_L2
    by_cases hlt : j < x.groups.length
    · rw [dlt hlt, if_pos rfl, wr1 (by omega), List.drop_eq_getElem_cons hlt, List.any_cons]
      cases b with
      | true => rw [if_pos rfl, ih _ _ (by omega) (by omega)]; rfl
      | false => rw [if_neg (by decide), idxS hlt, Option.bind_some, inside_some h hn, Option.bind_some, ih _ _ (by omega) (by omega), Bool.false_or]
    · rw [dnlt (by omega), if_neg (by decide), List.drop_eq_nil_of_le (by omega), List.any_nil, Bool.or_false]
theorem may22_some (u a r : ByteArray) : ref22_May n p u a r = some (mayG p u a r) := by
  have h1 := h.users; have h2 := h.acts; have h3 := h.ress; have h4 := h.stms; have h5 := h.bnds
  unfold ref22_May
  have h0 : ref22_May_L1 n p u a r n (false, 0) = _ := ref22_May_L1_list n p u a r (by omega) n false 0 (by omega) (by omega)
  have h6 : ref22_May_L3 n p u a r n (false, false, 0) = _ := ref22_May_L3_list n p u a r (by omega) n (false, false) 0 (by omega) (by omega)
  have e6 : foldK (ref22_May_L3_f n p u a r) (ref22_May_L3_e n p u a r) (p.bounds.drop 0) (false, false) = some (p.bounds.any fun b => decide (b.user = u), p.bounds.any fun b => decide (b.user = u) && (mtB b.actions a && mtB b.resources r)) := by
    rw [foldK_eq (fun st b => (st.1 || decide (b.user = u), st.2 || (decide (b.user = u) && (mtB b.actions a && mtB b.resources r)))) (p.bounds.drop 0) (false, false) (fun st b k hx => by
      obtain ⟨⟨b1, b2⟩, b3, b4⟩ := h.bu b (List.mem_of_mem_drop hx)
      obtain ⟨s1, s2⟩ := st
      unfold ref22_May_L3_f
      rw [beqS, matches22_some hn b1 b2, matches22_some hn b3 b4]
      cases decide (b.user = u) <;> cases mtB b.actions a <;> cases mtB b.resources r <;> cases s1 <;> cases s2 <;> rfl), List.drop_zero]
    have : ∀ (l : List GBound) (x y : Bool), l.foldl (fun st b => (st.1 || decide (b.user = u), st.2 || (decide (b.user = u) && (mtB b.actions a && mtB b.resources r)))) (x, y) = (x || l.any fun b => decide (b.user = u), y || l.any fun b => decide (b.user = u) && (mtB b.actions a && mtB b.resources r)) := by
      intro l
      induction l with
      | nil => simp
      | cons b l ih => intro x y; rw [List.foldl_cons, ih, List.any_cons, List.any_cons, Bool.or_assoc, Bool.or_assoc]
    rw [this, Bool.false_or, Bool.false_or]
    rfl
  rw [in22_some (by omega) (by omega), in22_some (by omega) (by omega), in22_some (by omega) (by omega), h0, foldK_exit (fun s => bearsB p s u a r && s.deny) (.inr false) (fun st s => st || bearsB p s u a r) (p.stmts.drop 0) false (fun st s k hx => by
    obtain ⟨s1, s2, ⟨s3, s4⟩, s5, s6⟩ := h.su s (List.mem_of_mem_drop hx)
    unfold ref22_May_L1_f bearsB whoB
    have hw : ∀ b : Bool, ref22_May_L2 n p u s n (b, 0) = some (b || (s.groups.drop 0).any fun g => inB p u g) := fun b => who_loop h hn s u s2 n 0 b (by omega) (by omega)
    rw [in22_some (by omega) (by omega), Option.bind_some, hw, List.drop_zero, Option.bind_some, matches22_some hn s3 s4, matches22_some hn s5 s6]
    cases ((s.users.any fun x => decide (u = x)) || s.groups.any fun g => inB p u g) <;> cases mtB s.actions a <;> cases mtB s.resources r <;> cases s.deny <;> cases st <;> rfl), h6, e6, List.drop_zero, foldl_or, Bool.false_or]
  unfold mayG toldB ref22_May_L1_e boundB
  cases (p.users.any fun x => decide (u = x)) <;> cases (p.actions.any fun x => decide (a = x)) <;> cases (p.resources.any fun x => decide (r = x)) <;> cases (p.stmts.any fun s => bearsB p s u a r && s.deny) <;> cases (p.stmts.any fun s => bearsB p s u a r) <;> cases (p.bounds.any fun b => decide (b.user = u)) <;> cases (p.bounds.any fun b => decide (b.user = u) && (mtB b.actions a && mtB b.resources r)) <;> rfl
end
end Go.Proofs.Ytkkhgdmmbhpckaa.Ab
