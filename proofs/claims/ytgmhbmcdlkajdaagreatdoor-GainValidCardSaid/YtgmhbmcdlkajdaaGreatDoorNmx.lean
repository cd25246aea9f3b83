/-
 The normal form, and facts told in another order, allow just the same. No program in sight.
-/
import Derived.Test.YtgmhbmcdlkajdaaGreatDoorVly
namespace Go.Proofs.YtgmhbmcdlkajdaaGreatDoor.Ab
open Go.RowKit
theorem of8 {p : Int → Prop} (h : ∀ i : Fin 8, p (i.1 : Int)) {x : Int} (hx : 0 ≤ x ∧ x ≤ 7) : p x := by
 have := h ⟨x.toNat, by omega⟩
 rwa [show ((x.toNat : Nat) : Int) = x by omega] at this
theorem orfold_8 : ∀ (l : List GEntry) (b : Int), (∀ x ∈ l, textOK x = true) → (0 ≤ b ∧ b ≤ 7) → 0 ≤ l.foldl orK b ∧ l.foldl orK b ≤ 7
 | [], b, _, hb => hb
 | x :: l, b, h, hb => by
  rw [List.foldl_cons]
  refine orfold_8 l _ (fun y hy => h y (List.mem_cons_of_mem _ hy)) ?_
  unfold orK
  split
  ·exact hb
  ·exact or2_8 hb (textOK_iff (h x (List.mem_cons_self ..))).2.1
theorem allE_text {es : List GEntry} (h : ∀ x ∈ es, textOK x = true) : ∀ x ∈ allE es, textOK x = true := by
 have hm : ∀ d, ∀ x ∈ maskE d (fl d es), textOK x = true := fun d x hx => by
  unfold maskE at hx
  split at hx
  ·cases hx
  ·rw [List.mem_singleton.1 hx]
   obtain ⟨h1, h2⟩ := orfold_8 (fl d es) 0 (fun y hy => h y (mem_fl.1 hy).1) (by decide)
   unfold textOK namedE
   dsimp only
   rw [decide_eq_true h1, decide_eq_true h2]
   rfl
 intro x hx
 rcases List.mem_append.1 ((allE_perm es).mem_iff.1 hx) with h1 | h1
 ·exact h x h1
 ·rcases List.mem_append.1 h1 with h1 | h1
  ·exact hm false x h1
  ·split at h1
   ·cases h1
   ·exact hm true x h1
def findF (l : List GFile) (p : ByteArray) : GFile × Bool := match l.find? (fun f => itemB f && decide (f.name = p)) with
 | some f => (f, true)
 | none => (⟨0, ByteArray.empty, [], ByteArray.empty, ByteArray.empty, [], 0⟩, false)
theorem findF_mem {l : List GFile} {p : ByteArray} (h : (findF l p).2 = true) : (findF l p).1 ∈ l ∧ itemB (findF l p).1 = true ∧ (findF l p).1.name = p := by
 unfold findF at *
 cases e : l.find? (fun f => itemB f && decide (f.name = p)) with
 | none => rw [e] at h; cases h
 | some f =>
  have h2 := List.find?_some e
  simp only [Bool.and_eq_true, decide_eq_true_eq] at h2
  exact ⟨List.mem_of_find?_eq_some e, h2.1, h2.2⟩
theorem oke_item {l : List GFile} (hg : GoodL l) {f : GFile} (hf : f ∈ l) (hi : itemB f = true) : OKE f.acl = true := by
 have := hg.2.items f hf
 unfold okItem at this
 rw [hi] at this
 simp only [Bool.not_true, Bool.false_or, Bool.and_eq_true] at this
 exact this.1
theorem parent_cases {s : ByteArray} (hp : pathL s.data.toList = true) : (s = { data := #[47] } ∧ parentT s = { data := #[] }) ∨ (s ≠ { data := #[47] } ∧ acls_Parent NF s = some (parentT s) ∧ 0 < (parentT s).size ∧ (parentT s).size < s.size) := by
 by_cases h : s.data.toList = [47]
 ·have e : s = { data := #[47] } := bytes_inj h
  refine .inl ⟨e, ?_⟩
  unfold parentT
  rw [e, parent_top (show 1000 < NF by decide)]
  rfl
 ·obtain ⟨p, h1, h2, h3, h4⟩ := parent_both hp h (show 1000 < NF by decide)
  have e : parentT s = p := by
   unfold parentT
   rw [h1]
   rfl
  refine .inr ⟨fun e2 => h (by rw [e2]), ?_, ?_, ?_⟩
  ·rw [e]; exact h2
  ·rw [e]; exact h4
  ·rw [e]; exact h3
theorem p1_def {es : List GEntry} {x : GEntry} (hx : x ∈ (if (fl true es).isEmpty then [] else partE true (fl true es))) : x.default = true := by
 split at hx
 ·cases hx
 ·exact partE_def (fun _ hx => (mem_fl.1 hx).2) hx
theorem p0_def {es : List GEntry} {x : GEntry} (hx : x ∈ partE false (fl false es)) : x.default = false := partE_def (fun _ hx => (mem_fl.1 hx).2) hx
theorem fl_all1 (es : List GEntry) : fl true (allE es) = (if (fl true es).isEmpty then [] else partE true (fl true es)) := by
 show (partE false (fl false es) ++ (if (fl true es).isEmpty then [] else partE true (fl true es))).filter (fun x => x.default == true) = _
 rw [List.filter_append, List.filter_eq_nil_iff.2 (fun x hx => by rw [p0_def hx]; decide), List.filter_eq_self.2 (fun x hx => by rw [p1_def hx]; rfl), List.nil_append]
theorem part_mem {d : Bool} {l : List GEntry} (x : GEntry) : x ∈ partE d l ↔ x ∈ l ++ maskE d l := (srtE_perm _).mem_iff
theorem part_any {d : Bool} {l : List GEntry} : (partE d l).any isM = true := by
 rw [List.any_eq_true]
 cases h : l.any isM with
 | true =>
  obtain ⟨x, hx, hm⟩ := List.any_eq_true.1 h
  exact ⟨x, (part_mem x).2 (List.mem_append_left _ hx), hm⟩
 | false =>
  refine ⟨⟨5, d, ByteArray.empty, l.foldl orK 0⟩, (part_mem _).2 (List.mem_append_right _ ?_), rfl⟩
  unfold maskE
  rw [h, if_neg (by decide)]
  exact List.mem_singleton.2 rfl
theorem has_sub {l m : List GEntry} (h : ∀ x ∈ l, x ∈ m) {k : Int} (hk : has k l = true) : has k m = true := by
 obtain ⟨x, hx, e⟩ := List.any_eq_true.1 hk
 exact List.any_eq_true.2 ⟨x, h x hx, e⟩
theorem whole_sub {l m : List GEntry} (h : ∀ x ∈ l, x ∈ m) (hw : whole3 l = true) : whole3 m = true := by
 unfold whole3 at *
 rw [Bool.and_eq_true, Bool.and_eq_true] at *
 exact ⟨has_sub h hw.1, has_sub h hw.2.1, has_sub h hw.2.2⟩
theorem part_sub {d : Bool} {l : List GEntry} (x : GEntry) (h : x ∈ l) : x ∈ partE d l := (part_mem x).2 (List.mem_append_left _ h)
theorem item_kind {a b : GFile} (h : a.kind = b.kind) : itemB a = itemB b := by
 unfold itemB
 rw [h]
def samek (a b : GFile) : Prop := a.name = b.name ∧ (a.kind = b.kind ∨ (itemB a = true ∧ itemB b = true))
structure Like (x y : GFile) : Prop where
 kind : y.kind = x.kind
 name : y.name = x.name
 owner : y.owner = x.owner
 group : y.group = x.group
 users : ∀ u, u ∈ y.users ↔ u ∈ x.users
 acl : OKE x.acl = true → OKE y.acl = true ∧ allE y.acl = allE x.acl
 ent : ∀ e ∈ y.acl, e ∈ x.acl ∨ e.kind = 5
 good : goodF x → goodF y
structure SimF (l m : List GFile) : Prop where
 fromL : ∀ y ∈ m, ∃ x ∈ l, Like x y
 toM : ∀ x ∈ l, ∃ x' ∈ l, ∃ y ∈ m, Like x' y ∧ samek x' x
theorem Like.item {x y : GFile} (h : Like x y) : itemB y = itemB x := item_kind h.kind
theorem Like.same {x1 x2 y1 y2 : GFile} (h1 : Like x1 y1) (h2 : Like x2 y2) (h : samek y1 y2) : samek x1 x2 := by
 unfold samek at *
 rwa [h1.name, h2.name, h1.kind, h2.kind, h1.item, h2.item] at h
end Go.Proofs.YtgmhbmcdlkajdaaGreatDoor.Ab
