/-
 A fact of a line's words, and the line that is told of it. No program in sight.
-/
import Derived.Test.YtkikhbfdadambaaDoorLqd
namespace Go.Proofs.YtkikhbfdadambaaDoor.Ab
open Go.RowKit
def tx (ws : List GWord) : List ByteArray := ws.map (·.text)
def entV (n : Nat) (s : ByteArray) : List GEntry × Bool := (acls_Entries n s).getD ([], false)
theorem entV_some {n : Nat} (hn : 1000000 < n) {s : ByteArray} (hs : s.size < 1000000) : acls_Entries n s = some (entV n s) := by
 obtain ⟨l, b, h, _⟩ := entries_some hn hs
 unfold entV
 rw [h]
 rfl
def okO (n : Nat) (p o g a : ByteArray) : Bool := pathF p.data.toList && nameB o && nameB g && (entV n a).2
theorem owned_run {n : Nat} (hn : 1000000 < n) {p o g a : GWord} {L : Nat → (ByteArray × ByteArray × ByteArray × List GEntry × Int) → Option ((ByteArray × ByteArray × ByteArray × List GEntry) ⊕ (Int × Int × ByteArray × ByteArray × ByteArray × List GEntry))}
  (hL : ∀ c o1 o2 o3 o4 t, L (c + 1) (o1, o2, o3, o4, t) = (if (decide (t < (([p, o, g, a] : List GWord).length : Int))) then
   (idx [p, o, g, a] t).bind fun x4 =>
   (if (t == 0) then
    (acls_Path n x4.text).bind fun t333 =>
    (if t333 then
     L c (x4.text, o2, o3, o4, (IntKind.i64.wrap (t + 1)))
    else
     some (.inr (x4.at_, 15, x4.text, o2, o3, o4)))
   else
    (if (t == 1) then
     (atom_Name n x4.text).bind fun t432 =>
     (if t432 then
      L c (o1, x4.text, o3, o4, (IntKind.i64.wrap (t + 1)))
     else
      some (.inr (x4.at_, 15, o1, x4.text, o3, o4)))
    else
     (if (t == 2) then
      (atom_Name n x4.text).bind fun t532 =>
      (if t532 then
       L c (o1, o2, x4.text, o4, (IntKind.i64.wrap (t + 1)))
      else
       some (.inr (x4.at_, 15, o1, o2, x4.text, o4)))
     else
      (acls_Entries n x4.text).bind fun t212 =>
      (if t212.2 then
       L c (o1, o2, o3, t212.1, (IntKind.i64.wrap (t + 1)))
      else
       some (.inr (x4.at_, 15, o1, o2, o3, t212.1))))))
  else
   some (.inl (o1, o2, o3, o4))))
  (hp : p.text.size < 1000000) (ho : o.text.size < 1000000) (hg : g.text.size < 1000000) (ha : a.text.size < 1000000) (c : Nat) :
  ∃ r, L (c + 1 + 1 + 1 + 1 + 1) (ByteArray.empty, ByteArray.empty, ByteArray.empty, [], 0) = some r ∧ ((okO n p.text o.text g.text a.text = true ∧ r = .inl (p.text, o.text, g.text, (entV n a.text).1)) ∨ (okO n p.text o.text g.text a.text = false ∧ ∃ x y, r = .inr (x, 15, y))) := by
 unfold okO
 rw [hL, show decide ((0 : Int) < (([p, o, g, a] : List GWord).length : Int)) = true from rfl, if_pos rfl, show idx [p, o, g, a] 0 = some p from rfl, Option.bind_some, show ((0 : Int) == 0) = true from rfl, if_pos rfl, path_F hp hn, Option.bind_some]
 cases pathF p.text.data.toList with
 | false => exact ⟨_, rfl, .inr ⟨rfl, _, _, rfl⟩⟩
 | true =>
  rw [if_pos rfl, show IntKind.i64.wrap ((0 : Int) + 1) = 1 from rfl, hL, show decide ((1 : Int) < (([p, o, g, a] : List GWord).length : Int)) = true from rfl, if_pos rfl, show idx [p, o, g, a] 1 = some o from rfl, Option.bind_some, show ((1 : Int) == 0) = false from rfl, if_neg Bool.false_ne_true, show ((1 : Int) == 1) = true from rfl, if_pos rfl, atomName_some _ (by omega) (by omega), Option.bind_some]
  cases nameB o.text with
  | false => exact ⟨_, rfl, .inr ⟨rfl, _, _, rfl⟩⟩
  | true =>
   rw [if_pos rfl, show IntKind.i64.wrap ((1 : Int) + 1) = 2 from rfl, hL, show decide ((2 : Int) < (([p, o, g, a] : List GWord).length : Int)) = true from rfl, if_pos rfl, show idx [p, o, g, a] 2 = some g from rfl, Option.bind_some, show ((2 : Int) == 0) = false from rfl, if_neg Bool.false_ne_true, show ((2 : Int) == 1) = false from rfl, if_neg Bool.false_ne_true, show ((2 : Int) == 2) = true from rfl, if_pos rfl, atomName_some _ (by omega) (by omega), Option.bind_some]
   cases nameB g.text with
   | false => exact ⟨_, rfl, .inr ⟨rfl, _, _, rfl⟩⟩
   | true =>
    rw [if_pos rfl, show IntKind.i64.wrap ((2 : Int) + 1) = 3 from rfl, hL, show decide ((3 : Int) < (([p, o, g, a] : List GWord).length : Int)) = true from rfl, if_pos rfl, show idx [p, o, g, a] 3 = some a from rfl, Option.bind_some, show ((3 : Int) == 0) = false from rfl, if_neg Bool.false_ne_true, show ((3 : Int) == 1) = false from rfl, if_neg Bool.false_ne_true, show ((3 : Int) == 2) = false from rfl, if_neg Bool.false_ne_true, entV_some hn ha, Option.bind_some]
    cases h : (entV n a.text).2 with
    | false =>
     rw [if_neg Bool.false_ne_true]
     exact ⟨_, rfl, .inr ⟨rfl, _, _, rfl⟩⟩
    | true =>
     rw [if_pos rfl, show IntKind.i64.wrap ((3 : Int) + 1) = 4 from rfl, hL, show decide ((4 : Int) < (([p, o, g, a] : List GWord).length : Int)) = false from rfl, if_neg Bool.false_ne_true]
     exact ⟨_, rfl, .inl ⟨rfl, rfl⟩⟩
theorem named_rest {n : Nat} (hn : 1000000 < n) {t0 : GLine} {t25 : Int × Int × Int} {l : List GWord} (hl : l.length < 1000000) (hz : ∀ w ∈ l, w.text.size < 1000000) : ∀ (c k : Nat) (nm : ByteArray) (us : List ByteArray), 1 ≤ k → k ≤ l.length → l.length - k < c → us.length ≤ k → ∃ r, acls_Fact_L3 n t0 t25 l c (nm, us, (k : Int)) = some r ∧ (((tx (l.drop k)).all nameB = true ∧ r = .inl (nm, us ++ tx (l.drop k))) ∨ ((tx (l.drop k)).all nameB = false ∧ ∃ x y, r = .inr (x, 15, y)))
 | 0, _, _, _, _, _, h, _ => by omega
 | c + 1, k, nm, us, h1, hk, hc, hu => by
  rw [acls_Fact_L3]
  by_cases h : k < l.length
  ·have hs := hz l[k] (List.getElem_mem h)
   have e0 : ((k : Int) == 0) = false := beq_eq_false_iff_ne.2 (by omega)
   rw [dlt h, if_pos rfl, idxS h, Option.bind_some, atomName_some _ (by omega) (by omega), Option.bind_some, List.drop_eq_getElem_cons h, tx, List.map_cons, List.all_cons]
   cases hnm : nameB l[k].text with
   | false =>
    rw [if_neg Bool.false_ne_true]
    exact ⟨_, rfl, .inr ⟨rfl, _, _, rfl⟩⟩
   | true =>
    rw [if_pos rfl, e0, if_neg Bool.false_ne_true, appS (by rw [List.length_singleton]; omega), Option.bind_some, wr1 (by omega), Bool.true_and]
    obtain ⟨r, r1, r2⟩ := named_rest hn (t0 := t0) (t25 := t25) hl hz c (k + 1) nm (us ++ [l[k].text]) (by omega) (by omega) (by omega) (by rw [List.length_append, List.length_singleton]; omega)
    refine ⟨r, r1, ?_⟩
    rw [List.append_assoc] at r2
    exact r2
  ·rw [dnlt (by omega), if_neg Bool.false_ne_true, List.drop_eq_nil_of_le (by omega)]
   exact ⟨_, rfl, .inl ⟨rfl, by simp [tx]⟩⟩
theorem named_run {n : Nat} (hn : 1000000 < n) {t0 : GLine} {t25 : Int × Int × Int} {w : GWord} {l : List GWord} (hl : (w :: l).length < 1000000) (hz : ∀ x ∈ w :: l, x.text.size < 1000000) : ∃ r, acls_Fact_L3 n t0 t25 (w :: l) n (ByteArray.empty, [], 0) = some r ∧ (((tx (w :: l)).all nameB = true ∧ r = .inl (w.text, tx l)) ∨ ((tx (w :: l)).all nameB = false ∧ ∃ x y, r = .inr (x, 15, y))) := by
 obtain ⟨c, hc⟩ : ∃ c, n = c + 1 := ⟨n - 1, by omega⟩
 have hw := hz w (List.mem_cons_self ..)
 have e : acls_Fact_L3 n t0 t25 (w :: l) n (ByteArray.empty, [], 0) = acls_Fact_L3 n t0 t25 (w :: l) (c + 1) (ByteArray.empty, [], 0) := by rw [← hc]
 rw [e, acls_Fact_L3, show decide ((0 : Int) < ((w :: l).length : Int)) = true from decide_eq_true (by rw [List.length_cons]; omega), if_pos rfl, show idx (w :: l) 0 = some w from rfl, Option.bind_some, atomName_some _ (by omega) (by omega), Option.bind_some]
 show ∃ r, _ = some r ∧ (((nameB w.text && (tx l).all nameB) = true ∧ _) ∨ ((nameB w.text && (tx l).all nameB) = false ∧ _))
 cases hnm : nameB w.text with
 | false =>
  rw [if_neg Bool.false_ne_true]
  exact ⟨_, rfl, .inr ⟨rfl, _, _, rfl⟩⟩
 | true =>
  rw [if_pos rfl, show ((0 : Int) == 0) = true from rfl, if_pos rfl, show IntKind.i64.wrap ((0 : Int) + 1) = ((1 : Nat) : Int) from rfl, Bool.true_and]
  exact named_rest hn (t0 := t0) (t25 := t25) hl hz c 1 w.text [] (Nat.le_refl _) (by simp) (by rw [List.length_cons] at *; omega) (by simp)
def fOf (k : Int) (nm : ByteArray) (us : List ByteArray) (o g : ByteArray) (acl : List GEntry) (at_ : Int) : GFile := ⟨k, nm, us, o, g, acl, at_⟩
def fU (at_ : Int) : List ByteArray → Option GFile
 | [a] => if nameB a then some (fOf 1 a [] ByteArray.empty ByteArray.empty [] at_) else none
 | _ => none
def fG (at_ : Int) : List ByteArray → Option GFile
 | a :: us => if (a :: us).all nameB then some (fOf 2 a us ByteArray.empty ByteArray.empty [] at_) else none
 | _ => none
def fO (n : Nat) (k at_ : Int) : List ByteArray → Option GFile
 | [p, o, g, a] => if okO n p o g a then some (fOf k p [] o g (entV n a).1 at_) else none
 | _ => none
def factF (n : Nat) (ts : List ByteArray) (at_ : Int) : Option GFile :=
 match ts with
 | w :: r =>
  if w = ⟨#[117, 115, 101, 114]⟩ then fU at_ r
  else if w = ⟨#[103, 114, 111, 117, 112]⟩ then fG at_ r
  else if w = ⟨#[100, 105, 114]⟩ then fO n 3 at_ r
  else if w = ⟨#[102, 105, 108, 101]⟩ then fO n 4 at_ r
  else none
 | [] => none
theorem words_F (n : Nat) (w : ByteArray) : acls_words n w = some (if w = ⟨#[117, 115, 101, 114]⟩ then (1, 2, 2) else if w = ⟨#[103, 114, 111, 117, 112]⟩ then (2, 2, 1073741824) else if w = ⟨#[100, 105, 114]⟩ then (3, 5, 5) else if w = ⟨#[102, 105, 108, 101]⟩ then (4, 5, 5) else (0, 0, 0)) := by
 unfold acls_words
 rw [beqS, beqS, beqS, beqS]
 by_cases h1 : w = ⟨#[117, 115, 101, 114]⟩
 ·rw [decide_eq_true h1, if_pos rfl, if_pos h1]
 ·rw [decide_eq_false h1, if_neg Bool.false_ne_true, if_neg h1]
  by_cases h2 : w = ⟨#[103, 114, 111, 117, 112]⟩
  ·rw [decide_eq_true h2, if_pos rfl, if_pos h2]
  ·rw [decide_eq_false h2, if_neg Bool.false_ne_true, if_neg h2]
   by_cases h3 : w = ⟨#[100, 105, 114]⟩
   ·rw [decide_eq_true h3, if_pos rfl, if_pos h3]
   ·rw [decide_eq_false h3, if_neg Bool.false_ne_true, if_neg h3]
    by_cases h4 : w = ⟨#[102, 105, 108, 101]⟩
    ·rw [decide_eq_true h4, if_pos rfl, if_pos h4]
    ·rw [decide_eq_false h4, if_neg Bool.false_ne_true, if_neg h4]
theorem slc_tail {α : Type} (x : α) (l : List α) : slc (x :: l) 1 ((x :: l).length : Int) = some l := by
 have := slcS (xs := x :: l) (a := 1) (b := (x :: l).length) (by simp) (Nat.le_refl _)
 rw [List.take_length] at this
 exact this
theorem fact_F {n : Nat} (hn : 1000000 < n) {a0 : Int} {ws : List GWord} (hl : ws.length < 1000000) (hz : ∀ x ∈ ws, x.text.size < 1000000) : ∃ r, acls_Fact n ⟨a0, ws⟩ = some r ∧ ((∃ f, factF n (tx ws) a0 = some f ∧ r = (f, 0, 0)) ∨ (factF n (tx ws) a0 = none ∧ r.2.2 ≠ 0)) := by
 unfold acls_Fact
 cases ws with
 | nil => exact ⟨_, rfl, .inr ⟨rfl, by show (9 : Int) ≠ 0; decide⟩⟩
 | cons w l =>
  have e0 : ((((w :: l).length : Nat) : Int) == 0) = false := beq_eq_false_iff_ne.2 (by rw [List.length_cons]; omega)
  dsimp only
  rw [e0, if_neg Bool.false_ne_true, show idx (w :: l) 0 = some w from rfl, Option.bind_some, words_F, Option.bind_some, slc_tail]
  have htx : tx (w :: l) = w.text :: tx l := rfl
  have hzl : ∀ x ∈ l, x.text.size < 1000000 := fun x hx => hz x (List.mem_cons_of_mem _ hx)
  rw [htx, factF]
  by_cases h1 : w.text = ⟨#[117, 115, 101, 114]⟩
  ·rw [if_pos h1, if_pos h1]
   dsimp only
   rw [show ((1 : Int) == 0) = false from rfl, if_neg Bool.false_ne_true]
   match l, hl, hz, hzl with
   | [], _, _, _ => exact ⟨_, rfl, .inr ⟨rfl, by show (9 : Int) ≠ 0; decide⟩⟩
   | [a], hl, hz, hzl =>
    rw [show decide ((([w, a] : List GWord).length : Int) < 2) = false from rfl, if_neg Bool.false_ne_true, show decide ((2 : Int) < (([w, a] : List GWord).length : Int)) = false from rfl, if_neg Bool.false_ne_true, show ((1 : Int) == 3) = false from rfl, if_neg Bool.false_ne_true, show ((1 : Int) == 4) = false from rfl, if_neg Bool.false_ne_true, Option.bind_some]
    obtain ⟨r, r1, r2⟩ := named_run hn (t0 := ⟨a0, [w, a]⟩) (t25 := (1, 2, 2)) (w := a) (l := []) (by simp) hzl
    unfold acls_Fact_C3_acls_named
    rw [r1, Option.bind_some]
    have hal : (tx [a]).all nameB = nameB a.text := by simp [tx]
    rw [hal] at r2
    rcases r2 with ⟨r2, rfl⟩ | ⟨r2, x, y, rfl⟩
    ·exact ⟨_, rfl, .inl ⟨_, by show (if nameB a.text then _ else _) = _; rw [r2, if_pos rfl]; rfl, rfl⟩⟩
    ·exact ⟨_, rfl, .inr ⟨by show (if nameB a.text then _ else _) = _; rw [r2, if_neg Bool.false_ne_true], by show (15 : Int) ≠ 0; decide⟩⟩
   | a :: b :: r, _, _, _ =>
    rw [show decide (((w :: a :: b :: r).length : Int) < 2) = false from decide_eq_false (by simp; omega), if_neg Bool.false_ne_true, show decide ((2 : Int) < ((w :: a :: b :: r).length : Int)) = true from decide_eq_true (by simp; omega), if_pos rfl]
    exact ⟨_, rfl, .inr ⟨rfl, by show (9 : Int) ≠ 0; decide⟩⟩
  ·rw [if_neg h1, if_neg h1]
   by_cases h2 : w.text = ⟨#[103, 114, 111, 117, 112]⟩
   ·rw [if_pos h2, if_pos h2]
    dsimp only
    rw [show ((2 : Int) == 0) = false from rfl, if_neg Bool.false_ne_true]
    match l, hl, hz, hzl with
    | [], _, _, _ => exact ⟨_, rfl, .inr ⟨rfl, by show (9 : Int) ≠ 0; decide⟩⟩
    | a :: r, hl, hz, hzl =>
     rw [List.length_cons] at hl
     rw [show decide (((w :: a :: r).length : Int) < 2) = false from decide_eq_false (by simp; omega), if_neg Bool.false_ne_true, show decide ((1073741824 : Int) < ((w :: a :: r).length : Int)) = false from decide_eq_false (by simp at *; omega), if_neg Bool.false_ne_true, show ((2 : Int) == 3) = false from rfl, if_neg Bool.false_ne_true, show ((2 : Int) == 4) = false from rfl, if_neg Bool.false_ne_true, Option.bind_some]
     obtain ⟨q, r1, r2⟩ := named_run hn (t0 := ⟨a0, w :: a :: r⟩) (t25 := (2, 2, 1073741824)) (w := a) (l := r) (by omega) hzl
     unfold acls_Fact_C3_acls_named
     rw [r1, Option.bind_some]
     rcases r2 with ⟨r2, rfl⟩ | ⟨r2, x, y, rfl⟩
     ·exact ⟨_, rfl, .inl ⟨_, by show (if (tx (a :: r)).all nameB then _ else _) = _; rw [r2, if_pos rfl]; rfl, rfl⟩⟩
     ·exact ⟨_, rfl, .inr ⟨by show (if (tx (a :: r)).all nameB then _ else _) = _; rw [r2, if_neg Bool.false_ne_true], by show (15 : Int) ≠ 0; decide⟩⟩
   ·rw [if_neg h2, if_neg h2]
    by_cases h3 : w.text = ⟨#[100, 105, 114]⟩
    ·rw [if_pos h3, if_pos h3]
     dsimp only
     rw [show ((3 : Int) == 0) = false from rfl, if_neg Bool.false_ne_true]
     by_cases h5 : l.length = 4
     ·obtain ⟨p, o, g, a, rfl⟩ : ∃ p o g a, l = [p, o, g, a] := by
       match l, h5 with
       | [p, o, g, a], _ => exact ⟨p, o, g, a, rfl⟩
      rw [show decide ((([w, p, o, g, a] : List GWord).length : Int) < 5) = false from rfl, if_neg Bool.false_ne_true, show decide ((5 : Int) < (([w, p, o, g, a] : List GWord).length : Int)) = false from rfl, if_neg Bool.false_ne_true, show ((3 : Int) == 3) = true from rfl, if_pos rfl, Option.bind_some]
      obtain ⟨c, hc⟩ : ∃ c, n = c + 1 + 1 + 1 + 1 + 1 := ⟨n - 5, by omega⟩
      obtain ⟨q, r1, r2⟩ := owned_run hn (L := acls_Fact_L1 n ⟨a0, [w, p, o, g, a]⟩ (3, 5, 5) [p, o, g, a]) (fun c o1 o2 o3 o4 t => by rw [acls_Fact_L1]) (hzl p (by simp)) (hzl o (by simp)) (hzl g (by simp)) (hzl a (by simp)) c
      rw [← hc] at r1
      unfold acls_Fact_C1_acls_owned
      rw [r1, Option.bind_some]
      rcases r2 with ⟨r2, rfl⟩ | ⟨r2, x, y, rfl⟩
      ·exact ⟨_, rfl, .inl ⟨_, by show (if okO n p.text o.text g.text a.text then _ else _) = _; rw [r2, if_pos rfl]; rfl, rfl⟩⟩
      ·exact ⟨_, rfl, .inr ⟨by show (if okO n p.text o.text g.text a.text then _ else _) = _; rw [r2, if_neg Bool.false_ne_true], by show (15 : Int) ≠ 0; decide⟩⟩
     ·have hno : fO n 3 a0 (tx l) = none := by
       match l, h5 with
       | [], _ | [_], _ | [_, _], _ | [_, _, _], _ => rfl
       | [_, _, _, _], h => exact absurd rfl h
       | _ :: _ :: _ :: _ :: _ :: _, _ => rfl
      rw [hno]
      by_cases h6 : l.length < 4
      ·rw [show decide (((w :: l).length : Int) < 5) = true from decide_eq_true (by simp; omega), if_pos rfl]
       exact ⟨_, rfl, .inr ⟨rfl, by show (9 : Int) ≠ 0; decide⟩⟩
      ·rw [show decide (((w :: l).length : Int) < 5) = false from decide_eq_false (by simp; omega), if_neg Bool.false_ne_true, show decide ((5 : Int) < ((w :: l).length : Int)) = true from decide_eq_true (by simp; omega), if_pos rfl]
       exact ⟨_, rfl, .inr ⟨rfl, by show (9 : Int) ≠ 0; decide⟩⟩
    ·rw [if_neg h3, if_neg h3]
     by_cases h4 : w.text = ⟨#[102, 105, 108, 101]⟩
     ·rw [if_pos h4, if_pos h4]
      dsimp only
      rw [show ((4 : Int) == 0) = false from rfl, if_neg Bool.false_ne_true]
      by_cases h5 : l.length = 4
      ·obtain ⟨p, o, g, a, rfl⟩ : ∃ p o g a, l = [p, o, g, a] := by
        match l, h5 with
        | [p, o, g, a], _ => exact ⟨p, o, g, a, rfl⟩
       rw [show decide ((([w, p, o, g, a] : List GWord).length : Int) < 5) = false from rfl, if_neg Bool.false_ne_true, show decide ((5 : Int) < (([w, p, o, g, a] : List GWord).length : Int)) = false from rfl, if_neg Bool.false_ne_true, show ((4 : Int) == 3) = false from rfl, if_neg Bool.false_ne_true, show ((4 : Int) == 4) = true from rfl, if_pos rfl, Option.bind_some]
       obtain ⟨c, hc⟩ : ∃ c, n = c + 1 + 1 + 1 + 1 + 1 := ⟨n - 5, by omega⟩
       obtain ⟨q, r1, r2⟩ := owned_run hn (L := acls_Fact_L2 n ⟨a0, [w, p, o, g, a]⟩ (4, 5, 5) [p, o, g, a]) (fun c o1 o2 o3 o4 t => by rw [acls_Fact_L2]) (hzl p (by simp)) (hzl o (by simp)) (hzl g (by simp)) (hzl a (by simp)) c
       rw [← hc] at r1
       unfold acls_Fact_C2_acls_owned
       rw [r1, Option.bind_some]
       rcases r2 with ⟨r2, rfl⟩ | ⟨r2, x, y, rfl⟩
       ·exact ⟨_, rfl, .inl ⟨_, by show (if okO n p.text o.text g.text a.text then _ else _) = _; rw [r2, if_pos rfl]; rfl, rfl⟩⟩
       ·exact ⟨_, rfl, .inr ⟨by show (if okO n p.text o.text g.text a.text then _ else _) = _; rw [r2, if_neg Bool.false_ne_true], by show (15 : Int) ≠ 0; decide⟩⟩
      ·have hno : fO n 4 a0 (tx l) = none := by
        match l, h5 with
        | [], _ | [_], _ | [_, _], _ | [_, _, _], _ => rfl
        | [_, _, _, _], h => exact absurd rfl h
        | _ :: _ :: _ :: _ :: _ :: _, _ => rfl
       rw [hno]
       by_cases h6 : l.length < 4
       ·rw [show decide (((w :: l).length : Int) < 5) = true from decide_eq_true (by simp; omega), if_pos rfl]
        exact ⟨_, rfl, .inr ⟨rfl, by show (9 : Int) ≠ 0; decide⟩⟩
       ·rw [show decide (((w :: l).length : Int) < 5) = false from decide_eq_false (by simp; omega), if_neg Bool.false_ne_true, show decide ((5 : Int) < ((w :: l).length : Int)) = true from decide_eq_true (by simp; omega), if_pos rfl]
        exact ⟨_, rfl, .inr ⟨rfl, by show (9 : Int) ≠ 0; decide⟩⟩
     ·rw [if_neg h4, if_neg h4]
      exact ⟨_, rfl, .inr ⟨rfl, by show (9 : Int) ≠ 0; decide⟩⟩
end Go.Proofs.YtkikhbfdadambaaDoor.Ab
