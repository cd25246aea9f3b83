/-
 What is told of a fact is its words, joined. No program in sight.
-/
import Derived.Test.YtkikhbfdadambaaDoorQfa
namespace Go.Proofs.YtkikhbfdadambaaDoor.Ab
open Go.RowKit
theorem tail_bound : ∀ ts : List ByteArray, (∀ t ∈ ts, t.size < 1000000) → (Lib.joinTail [32] (ts.map (·.data.toList))).length ≤ ts.length * 1000000
 | [], _ => Nat.zero_le _
 | t :: ts, h => by
  have ih := tail_bound ts fun x hx => h x (List.mem_cons_of_mem _ hx)
  have h1 := h t (List.mem_cons_self ..)
  have h2 : (t.data.toList).length = t.size := bsize t
  have e : Lib.joinTail [32] ((t :: ts).map (·.data.toList)) = 32 :: (t.data.toList ++ Lib.joinTail [32] (ts.map (·.data.toList))) := by
   unfold Lib.joinTail
   simp
  rw [e, List.length_cons, List.length_append, List.length_cons, h2, Nat.add_mul]
  omega
theorem lj {n : Nat} {ts : List ByteArray} (hl : ts.length < 1000000) (hz : ∀ t ∈ ts, t.size < 1000000) : line_Join n ts = some (joinT ts ⟨#[32]⟩) := by
 have hb : (Lib.join (ts.map (·.data.toList)) (⟨#[32]⟩ : ByteArray).data.toList).length ≤ 140737488355328 := by
  cases ts with
  | nil => exact Nat.zero_le _
  | cons t r =>
   have h1 := tail_bound r fun x hx => hz x (List.mem_cons_of_mem _ hx)
   have h2 := hz t (List.mem_cons_self ..)
   have h3 : (t.data.toList).length = t.size := bsize t
   rw [List.map_cons, Lib.join_cons, List.length_append, h3]
   rw [List.length_cons] at hl
   have h4 : r.length * 1000000 ≤ 1000000 * 1000000 := Nat.mul_le_mul_right _ (by omega)
   have h1 : (Lib.joinTail (⟨#[32]⟩ : ByteArray).data.toList (r.map (·.data.toList))).length ≤ r.length * 1000000 := h1
   omega
 unfold line_Join strings_Join
 rw [if_pos ⟨by omega, hb⟩]
 rfl
theorem etext_of {n : Nat} (hn : 1000000 < n) {a : ByteArray} (ha : a.size < 1000000) (h : (entV n a).2 = true) : acls_EntriesText n (entV n a).1 = some (a, true) := by
 obtain ⟨l, b, e, _, h2⟩ := entries_some hn ha
 have : entV n a = (l, b) := by
  unfold entV
  rw [e]
  rfl
 rw [this] at h ⊢
 exact h2 h
theorem fact_told {n : Nat} (hn : 1000000 < n) (h0 : ∃ y, acls_EntriesText n [] = some y) {ts : List ByteArray} {f : GFile} {a : Int} (hl : ts.length < 1000000) (hz : ∀ t ∈ ts, t.size < 1000000) (h : factF n ts a = some f) : acls_toldFile n f = some (joinT ts ⟨#[32]⟩) ∧ ∀ b, factF n ts b = some (fOf f.kind f.name f.users f.owner f.group f.acl b) := by
 obtain ⟨y, hy⟩ := h0
 have hj := lj (n := n) hl hz
 cases ts with
 | nil => cases h
 | cons w r =>
  unfold factF at h ⊢
  dsimp only at h ⊢
  by_cases h1 : w = ⟨#[117, 115, 101, 114]⟩
  ·rw [if_pos h1] at h
   match r, h with
   | [x], h =>
    have h : (if nameB x then some (fOf 1 x [] ByteArray.empty ByteArray.empty [] a) else none) = some f := h
    cases hx : nameB x with
    | false => rw [hx] at h; cases h
    | true =>
     rw [hx, if_pos rfl] at h
     cases h
     refine ⟨?_, fun b => by rw [if_pos h1]; show (if nameB x then some (fOf 1 x [] ByteArray.empty ByteArray.empty [] b) else none) = _; rw [hx]; rfl⟩
     unfold acls_toldFile fOf
     dsimp only
     rw [hy, Option.bind_some, show ((1 : Int) == 1) = true from rfl, if_pos rfl, ← h1, hj]
     rfl
  ·rw [if_neg h1] at h
   by_cases h2 : w = ⟨#[103, 114, 111, 117, 112]⟩
   ·rw [if_pos h2] at h
    match r, h, hl, hz, hj with
    | x :: us, h, hl, hz, hj =>
     have h : (if (x :: us).all nameB then some (fOf 2 x us ByteArray.empty ByteArray.empty [] a) else none) = some f := h
     cases hx : (x :: us).all nameB with
     | false => rw [hx] at h; cases h
     | true =>
      rw [hx, if_pos rfl] at h
      cases h
      refine ⟨?_, fun b => by rw [if_neg h1, if_pos h2]; show (if (x :: us).all nameB then some (fOf 2 x us ByteArray.empty ByteArray.empty [] b) else none) = _; rw [hx]; rfl⟩
      unfold acls_toldFile fOf
      dsimp only
      rw [List.length_cons, List.length_cons] at hl
      rw [hy, Option.bind_some, show ((2 : Int) == 1) = false from rfl, if_neg Bool.false_ne_true, show ((2 : Int) == 2) = true from rfl, if_pos rfl, appS (by show 2 + _ ≤ _; omega), Option.bind_some, ← h2]
      have : [w, x] ++ us = w :: x :: us := rfl
      rw [this, hj]
      rfl
   ·rw [if_neg h2] at h
    by_cases h3 : w = ⟨#[100, 105, 114]⟩
    ·rw [if_pos h3] at h
     match r, h, hl, hz, hj with
     | [p, o, g, e], h, hl, hz, hj =>
      have h : (if okO n p o g e then some (fOf 3 p [] o g (entV n e).1 a) else none) = some f := h
      cases hx : okO n p o g e with
      | false => rw [hx] at h; cases h
      | true =>
       rw [hx, if_pos rfl] at h
       cases h
       have he : (entV n e).2 = true := by
        unfold okO at hx
        rw [Bool.and_eq_true] at hx
        exact hx.2
       refine ⟨?_, fun b => by rw [if_neg h1, if_neg h2, if_pos h3]; show (if okO n p o g e then some (fOf 3 p [] o g (entV n e).1 b) else none) = _; rw [hx]; rfl⟩
       unfold acls_toldFile fOf
       dsimp only
       rw [etext_of hn (hz e (by simp)) he, Option.bind_some, show ((3 : Int) == 1) = false from rfl, if_neg Bool.false_ne_true, show ((3 : Int) == 2) = false from rfl, if_neg Bool.false_ne_true, show ((3 : Int) == 3) = true from rfl, if_pos rfl, ← h3, hj]
       rfl
    ·rw [if_neg h3] at h
     by_cases h4 : w = ⟨#[102, 105, 108, 101]⟩
     ·rw [if_pos h4] at h
      match r, h, hl, hz, hj with
      | [p, o, g, e], h, hl, hz, hj =>
       have h : (if okO n p o g e then some (fOf 4 p [] o g (entV n e).1 a) else none) = some f := h
       cases hx : okO n p o g e with
       | false => rw [hx] at h; cases h
       | true =>
        rw [hx, if_pos rfl] at h
        cases h
        have he : (entV n e).2 = true := by
         unfold okO at hx
         rw [Bool.and_eq_true] at hx
         exact hx.2
        refine ⟨?_, fun b => by rw [if_neg h1, if_neg h2, if_neg h3, if_pos h4]; show (if okO n p o g e then some (fOf 4 p [] o g (entV n e).1 b) else none) = _; rw [hx]; rfl⟩
        unfold acls_toldFile fOf
        dsimp only
        rw [etext_of hn (hz e (by simp)) he, Option.bind_some, show ((4 : Int) == 1) = false from rfl, if_neg Bool.false_ne_true, show ((4 : Int) == 2) = false from rfl, if_neg Bool.false_ne_true, show ((4 : Int) == 3) = false from rfl, if_neg Bool.false_ne_true, show ((4 : Int) == 4) = true from rfl, if_pos rfl, ← h4, hj]
        rfl
     ·rw [if_neg h4] at h
      cases h
end Go.Proofs.YtkikhbfdadambaaDoor.Ab
