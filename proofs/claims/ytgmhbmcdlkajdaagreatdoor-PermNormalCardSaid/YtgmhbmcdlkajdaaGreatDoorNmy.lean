/-
 The normal form and the facts in another order are there, and tell the same. No program in sight.
-/
import Derived.Test.YtgmhbmcdlkajdaaGreatDoorMyx
import Derived.Test.YtgmhbmcdlkajdaaGreatDoorPna
namespace Go.Proofs.YtgmhbmcdlkajdaaGreatDoor.Ab
open Go.RowKit
/-! ### a whole list of entries is whole again -/
theorem p1_def {es : List GEntry} {x : GEntry} (hx : x ∈ (if (fl true es).isEmpty then [] else partE true (fl true es))) : x.default = true := by
 split at hx
 ·cases hx
 ·exact partE_def (fun _ hx => (mem_fl.1 hx).2) hx
theorem p0_def {es : List GEntry} {x : GEntry} (hx : x ∈ partE false (fl false es)) : x.default = false := partE_def (fun _ hx => (mem_fl.1 hx).2) hx
theorem fl_all0 (es : List GEntry) : fl false (allE es) = partE false (fl false es) := by
 show (partE false (fl false es) ++ (if (fl true es).isEmpty then [] else partE true (fl true es))).filter (fun x => x.default == false) = _
 rw [List.filter_append, List.filter_eq_self.2 (fun x hx => by rw [p0_def hx]; rfl), List.filter_eq_nil_iff.2 (fun x hx => by rw [p1_def hx]; decide), List.append_nil]
theorem fl_all1 (es : List GEntry) : fl true (allE es) = (if (fl true es).isEmpty then [] else partE true (fl true es)) := by
 show (partE false (fl false es) ++ (if (fl true es).isEmpty then [] else partE true (fl true es))).filter (fun x => x.default == true) = _
 rw [List.filter_append, List.filter_eq_nil_iff.2 (fun x hx => by rw [p0_def hx]; decide), List.filter_eq_self.2 (fun x hx => by rw [p1_def hx]; rfl), List.nil_append]
theorem part_mem {d : Bool} {l : List GEntry} (x : GEntry) : x ∈ partE d l ↔ x ∈ l ++ maskE d l := (srtE_perm _).mem_iff
theorem part_any {d : Bool} {l : List GEntry} : (partE d l).any isM = true := by
 rw [List.any_eq_true]
 cases h : l.any isM with
 | true =>
  obtain ⟨x, hx, hm⟩ := List.any_eq_true.1 h
  exact ⟨x, (part_mem x).2 (List.mem_append_left _ hx), hm⟩
 | false =>
  refine ⟨⟨5, d, ByteArray.empty, l.foldl orK 0⟩, (part_mem _).2 (List.mem_append_right _ ?_), rfl⟩
  unfold maskE
  rw [h, if_neg (by decide)]
  exact List.mem_singleton.2 rfl
theorem part_part {d : Bool} {l : List GEntry} (h : Apart l) : partE d (partE d l) = partE d l := by
 have e : maskE d (partE d l) = [] := by
  unfold maskE
  rw [part_any, if_pos rfl]
 show srtE (partE d l ++ maskE d (partE d l)) = partE d l
 rw [e, List.append_nil]
 exact (srtE_of (srtE_SS (mask_apart h)) (List.Perm.refl _)).symm
theorem has_sub {l m : List GEntry} (h : ∀ x ∈ l, x ∈ m) {k : Int} (hk : has k l = true) : has k m = true := by
 obtain ⟨x, hx, e⟩ := List.any_eq_true.1 hk
 exact List.any_eq_true.2 ⟨x, h x hx, e⟩
theorem whole_sub {l m : List GEntry} (h : ∀ x ∈ l, x ∈ m) (hw : whole3 l = true) : whole3 m = true := by
 unfold whole3 at *
 rw [Bool.and_eq_true, Bool.and_eq_true] at *
 exact ⟨has_sub h hw.1, has_sub h hw.2.1, has_sub h hw.2.2⟩
theorem part_sub {d : Bool} {l : List GEntry} (x : GEntry) (h : x ∈ l) : x ∈ partE d l := (part_mem x).2 (List.mem_append_left _ h)
theorem all_all {es : List GEntry} (h : OKE es = true) : allE (allE es) = allE es ∧ OKE (allE es) = true := by
 obtain ⟨ht, a0, w0, a1, w1, hlen⟩ := oke_iff h
 have k0 : partE false (fl false (allE es)) = partE false (fl false es) := by rw [fl_all0, part_part a0]
 have hemp : (fl true (allE es)).isEmpty = (fl true es).isEmpty := by
  rw [fl_all1]
  cases hE : (fl true es).isEmpty with
  | true => rfl
  | false =>
   rw [if_neg (by decide)]
   obtain ⟨x, hx, _⟩ := List.any_eq_true.1 (part_any (d := true) (l := fl true es))
   cases hp : partE true (fl true es) with
   | nil => rw [hp] at hx; cases hx
   | cons y l => rfl
 have k1 : (if (fl true (allE es)).isEmpty then [] else partE true (fl true (allE es))) = (if (fl true es).isEmpty then [] else partE true (fl true es)) := by
  rw [hemp, fl_all1]
  cases (fl true es).isEmpty with
  | true => rfl
  | false => rw [if_neg (by decide), if_neg (by decide), part_part a1]
 have hlen2 : (partE false (fl false es)).length + (if (fl true es).isEmpty then [] else partE true (fl true es)).length ≤ 100 := by
  rw [← List.length_append]
  exact hlen
 refine ⟨?_, ?_⟩
 ·show partE false (fl false (allE es)) ++ (if (fl true (allE es)).isEmpty then [] else partE true (fl true (allE es))) = allE es
  rw [k0, k1]
  rfl
 ·show ((allE es).all textOK && (decide (Apart (fl false (allE es))) && (whole3 (fl false (allE es)) && (decide (Apart (fl true (allE es))) && (((fl true (allE es)).isEmpty || whole3 (fl true (allE es))) && decide ((partE false (fl false (allE es))).length + (if (fl true (allE es)).isEmpty then [] else partE true (fl true (allE es))).length ≤ 100)))))) = true
  have b1 : Apart (fl true (allE es)) := by
   rw [fl_all1]
   split
   ·exact List.Pairwise.nil
   ·exact (srtE_SS (mask_apart a1)).apart
  have b0 : Apart (fl false (allE es)) := by
   rw [fl_all0]
   exact (srtE_SS (mask_apart a0)).apart
  rw [k0, k1, hemp, decide_eq_true b0, decide_eq_true b1, decide_eq_true hlen2, List.all_eq_true.2 (allE_text ht), fl_all0, fl_all1, whole_sub part_sub w0]
  cases hE : (fl true es).isEmpty with
  | true => rfl
  | false =>
   rcases w1 with w | w
   ·rw [hE] at w
    cases w
   ·rw [if_neg (by decide), whole_sub part_sub w]
    rfl
theorem all_mem {es : List GEntry} {e : GEntry} (h : e ∈ allE es) : e ∈ es ∨ e.kind = 5 := by
 have hm : ∀ d, e ∈ maskE d (fl d es) → e.kind = 5 := fun d h => by
  unfold maskE at h
  split at h
  ·cases h
  ·rw [List.mem_singleton.1 h]
 rcases List.mem_append.1 ((allE_perm es).mem_iff.1 h) with h1 | h1
 ·exact .inl h1
 ·rcases List.mem_append.1 h1 with h1 | h1
  ·exact .inr (hm false h1)
  ·split at h1
   ·cases h1
   ·exact .inr (hm true h1)
/-! ### facts that tell the same -/
theorem alike_iff {a b : GFile} : alikeB a b = true ↔ a.kind = b.kind ∧ a.owner = b.owner ∧ a.group = b.group ∧ tx.ofL a.users = tx.ofL b.users ∧ (itemB a = true → OKE a.acl = true → OKE b.acl = true → allE a.acl = allE b.acl) := by
 unfold alikeB
 rw [Bool.and_eq_true, Bool.and_eq_true, Bool.and_eq_true, Bool.and_eq_true, beq_iff_eq, decide_eq_true_eq, decide_eq_true_eq, decide_eq_true_eq]
 refine and_congr Iff.rfl (and_congr Iff.rfl (and_congr Iff.rfl (and_congr Iff.rfl ?_)))
 cases itemB a <;> cases OKE a.acl <;> cases OKE b.acl <;> simp
theorem item_kind {a b : GFile} (h : a.kind = b.kind) : itemB a = itemB b := by
 unfold itemB
 rw [h]
theorem alike_symm {a b : GFile} (h : alikeB a b = true) : alikeB b a = true := by
 obtain ⟨h1, h2, h3, h4, h5⟩ := alike_iff.1 h
 exact alike_iff.2 ⟨h1.symm, h2.symm, h3.symm, h4.symm, fun i o1 o2 => (h5 (by rw [item_kind h1]; exact i) o2 o1).symm⟩
/-- One class of things, one name. -/
def samek (a b : GFile) : Prop := a.name = b.name ∧ (a.kind = b.kind ∨ (itemB a = true ∧ itemB b = true))
theorem clash_no {y x : GFile} (h : samek y x → alikeB y x = true) : clash y x = false := by
 unfold clash
 unfold samek at h
 by_cases hn : y.name = x.name
 ·rw [decide_eq_true hn, Bool.true_and]
  by_cases hk : y.kind = x.kind ∨ (itemB y = true ∧ itemB x = true)
  ·rw [h ⟨hn, hk⟩]
   simp
  ·rw [not_or] at hk
   rw [beq_eq_false_iff_ne.2 hk.1, Bool.false_or]
   cases hi : itemB y with
   | false => rfl
   | true =>
    cases hj : itemB x with
    | false => rfl
    | true => exact absurd ⟨hi, hj⟩ hk.2
 ·rw [decide_eq_false hn, Bool.false_and]
theorem no_clash {y x : GFile} (h : clash y x = false) (hs : samek y x) : alikeB y x = true := by
 unfold clash at h
 rw [decide_eq_true hs.1, Bool.true_and] at h
 rcases hs.2 with hk | ⟨h1, h2⟩
 ·rw [hk, beq_self_eq_true, Bool.true_or, Bool.true_and] at h
  simpa using h
 ·rw [h1, h2, Bool.true_and, Bool.or_true, Bool.true_and] at h
  simpa using h
theorem good_pair {l : List GFile} (hg : GoodL l) {x y : GFile} (hx : x ∈ l) (hy : y ∈ l) (h : samek x y) : alikeB x y = true := by
 obtain ⟨i, hi, rfl⟩ := List.getElem_of_mem hx
 obtain ⟨j, hj, rfl⟩ := List.getElem_of_mem hy
 have key : ∀ {a b : Nat} (ha : a < l.length) (hb : b < l.length), a < b → clash l[a] l[b] = false := fun {a b} ha hb hab => hg.2.apart b l[b] (List.getElem?_eq_getElem hb) l[a] (List.mem_take_iff_getElem.2 ⟨a, by omega, rfl⟩)
 rcases Nat.lt_trichotomy i j with hij | hij | hij
 ·exact no_clash (key hi hj hij) h
 ·subst hij
  exact alike_iff.2 ⟨rfl, rfl, rfl, rfl, fun _ _ _ => rfl⟩
 ·refine alike_symm (no_clash (key hj hi hij) ⟨h.1.symm, ?_⟩)
  rcases h.2 with k | ⟨k1, k2⟩
  ·exact .inl k.symm
  ·exact .inr ⟨k2, k1⟩
theorem good_oke {l : List GFile} (hg : GoodL l) {x : GFile} (hx : x ∈ l) (hi : itemB x = true) : OKE x.acl = true := oke_item hg hx hi
/-- One fact, told in another way. -/
structure Like (x y : GFile) : Prop where
 kind : y.kind = x.kind
 name : y.name = x.name
 owner : y.owner = x.owner
 group : y.group = x.group
 users : ∀ u, u ∈ y.users ↔ u ∈ x.users
 acl : OKE x.acl = true → OKE y.acl = true ∧ allE y.acl = allE x.acl
 ent : ∀ e ∈ y.acl, e ∈ x.acl ∨ e.kind = 5
 good : goodF x → goodF y
structure SimF (l m : List GFile) : Prop where
 fromL : ∀ y ∈ m, ∃ x ∈ l, Like x y
 toM : ∀ x ∈ l, ∃ x' ∈ l, ∃ y ∈ m, Like x' y ∧ samek x' x
theorem Like.item {x y : GFile} (h : Like x y) : itemB y = itemB x := item_kind h.kind
theorem Like.same {x1 x2 y1 y2 : GFile} (h1 : Like x1 y1) (h2 : Like x2 y2) (h : samek y1 y2) : samek x1 x2 := by
 unfold samek at *
 rwa [h1.name, h2.name, h1.kind, h2.kind, h1.item, h2.item] at h
theorem ofL_like {a b : List ByteArray} (h : ∀ x, x ∈ a ↔ x ∈ b) : tx.ofL a = tx.ofL b := tx.ext (tx.rises_ofL a) (tx.rises_ofL b) fun x => by rw [tx.mem_ofL, tx.mem_ofL]; exact h x
theorem sim_alike {l m : List GFile} (hg : GoodL l) (hs : SimF l m) {y1 y2 : GFile} (m1 : y1 ∈ m) (m2 : y2 ∈ m) (h : samek y1 y2) : alikeB y1 y2 = true := by
 obtain ⟨x1, hx1, l1⟩ := hs.fromL y1 m1
 obtain ⟨x2, hx2, l2⟩ := hs.fromL y2 m2
 obtain ⟨a1, a2, a3, a4, a5⟩ := alike_iff.1 (good_pair hg hx1 hx2 (l1.same l2 h))
 refine alike_iff.2 ⟨by rw [l1.kind, l2.kind, a1], by rw [l1.owner, l2.owner, a2], by rw [l1.group, l2.group, a3], ?_, fun i _ _ => ?_⟩
 ·rw [ofL_like l1.users, ofL_like l2.users, a4]
 ·have i1 : itemB x1 = true := by rw [← l1.item]; exact i
  have i2 : itemB x2 = true := by rw [← item_kind a1]; exact i1
  have o1 := good_oke hg hx1 i1
  have o2 := good_oke hg hx2 i2
  rw [(l1.acl o1).2, (l2.acl o2).2, a5 i1 o1 o2]
theorem users_of {a b : List ByteArray} (h : tx.ofL a = tx.ofL b) (u : ByteArray) : u ∈ a ↔ u ∈ b := by rw [← tx.mem_ofL, h, tx.mem_ofL]
theorem sim_told {l m : List GFile} (hg : GoodL l) (hs : SimF l m) (k : Int) (nm : ByteArray) : toldB m k nm = toldB l k nm := by
 rw [Bool.eq_iff_iff]
 unfold toldB
 rw [List.any_eq_true, List.any_eq_true]
 constructor
 ·rintro ⟨y, hy, e⟩
  obtain ⟨x, hx, hl⟩ := hs.fromL y hy
  exact ⟨x, hx, by rwa [hl.kind, hl.name] at e⟩
 ·rintro ⟨x, hx, e⟩
  obtain ⟨x', hx', y, hy, hl, hk⟩ := hs.toM x hx
  have a := (alike_iff.1 (good_pair hg hx' hx hk)).1
  exact ⟨y, hy, by rw [hl.kind, hl.name, a, hk.1]; exact e⟩
theorem sim_in {l m : List GFile} (hg : GoodL l) (hs : SimF l m) (u g : ByteArray) : m.any (inG u g) = l.any (inG u g) := by
 have hin : ∀ f : GFile, inG u g f = true ↔ f.kind = 2 ∧ f.name = g ∧ u ∈ f.users := fun f => by
  unfold inG
  rw [Bool.and_eq_true, Bool.and_eq_true, beq_iff_eq, decide_eq_true_eq, List.any_eq_true]
  refine and_congr Iff.rfl (and_congr Iff.rfl ⟨?_, fun h => ⟨u, h, decide_eq_true rfl⟩⟩)
  rintro ⟨x, hx, e⟩
  rw [of_decide_eq_true e]
  exact hx
 rw [Bool.eq_iff_iff, List.any_eq_true, List.any_eq_true]
 constructor
 ·rintro ⟨y, hy, e⟩
  obtain ⟨x, hx, hl⟩ := hs.fromL y hy
  obtain ⟨e1, e2, e3⟩ := (hin y).1 e
  exact ⟨x, hx, (hin x).2 ⟨hl.kind ▸ e1, hl.name ▸ e2, (hl.users u).1 e3⟩⟩
 ·rintro ⟨x, hx, e⟩
  obtain ⟨e1, e2, e3⟩ := (hin x).1 e
  obtain ⟨x', hx', y, hy, hl, hk⟩ := hs.toM x hx
  obtain ⟨a1, _, _, a4, _⟩ := alike_iff.1 (good_pair hg hx' hx hk)
  exact ⟨y, hy, (hin y).2 ⟨by rw [hl.kind, a1, e1], by rw [hl.name, hk.1, e2], (hl.users u).2 ((users_of a4 u).2 e3)⟩⟩
theorem unk_iff {l : List GFile} {f : GFile} : unknownB l f = false ↔ (∀ u ∈ f.users, toldB l 1 u = true) ∧ (itemB f = true → toldB l 1 f.owner = true ∧ toldB l 2 f.group = true ∧ ∀ e ∈ f.acl, badE l e = false) := by
 unfold unknownB
 rw [Bool.or_eq_false_iff, List.any_eq_false]
 refine and_congr ⟨fun h u hu => ?_, fun h u hu => by rw [h u hu]; decide⟩ ?_
 ·have := h u hu
  cases e : toldB l 1 u with
  | true => rfl
  | false => rw [e] at this; exact absurd rfl this
 ·cases itemB f with
  | false => exact ⟨fun _ h => (by cases h), fun _ => rfl⟩
  | true =>
   rw [Bool.true_and, Bool.or_eq_false_iff, Bool.or_eq_false_iff, List.any_eq_false]
   refine ⟨fun h _ => ⟨by simpa using h.1.1, by simpa using h.1.2, fun e he => by simpa using h.2 e he⟩, fun h => ?_⟩
   obtain ⟨h1, h2, h3⟩ := h rfl
   exact ⟨⟨by rw [h1]; rfl, by rw [h2]; rfl⟩, fun e he => by rw [h3 e he]; decide⟩
theorem sim_good {l m : List GFile} (hg : GoodL l) (hs : SimF l m) : GoodL m := by
 have ht := sim_told hg hs
 refine ⟨fun y hy => ?_, ⟨fun i x hx y hy => clash_no fun h => sim_alike hg hs (List.mem_of_mem_take hy) (List.mem_of_getElem? hx) h, fun y hy => ?_, fun y hy => ?_, fun y hy => ?_⟩⟩ <;> obtain ⟨x, hx, hl⟩ := hs.fromL y (by first | exact hy)
 ·exact hl.good (hg.1 x hx)
 ·obtain ⟨k1, k2⟩ := unk_iff.1 (hg.2.known x hx)
  refine unk_iff.2 ⟨fun u hu => by rw [ht]; exact k1 u ((hl.users u).1 hu), fun i => ?_⟩
  obtain ⟨q1, q2, q3⟩ := k2 (by rw [← hl.item]; exact i)
  refine ⟨by rw [ht, hl.owner]; exact q1, by rw [ht, hl.group]; exact q2, fun e he => ?_⟩
  have hb : badE m e = badE l e := by
   unfold badE
   rw [ht, ht]
  rcases hl.ent e he with h | h
  ·rw [hb]; exact q3 e h
  ·unfold badE
   rw [h]
   rfl
 ·have h := hg.2.items x hx
  unfold okItem at *
  rw [hl.item, hl.kind]
  cases hi : itemB x with
  | false => rfl
  | true =>
   obtain ⟨o1, o2⟩ := hl.acl (good_oke hg hx hi)
   rw [hi, good_oke hg hx hi] at h
   have e : lastD y.acl = lastD x.acl := by
    unfold lastD
    rw [o2]
   rw [o1, e]
   exact h
 ·have h := hg.2.place x hx
  unfold okPlace at *
  rw [hl.item, hl.kind, hl.name, ht]
  exact h
/-! ### one may the same -/
theorem findF_has {l : List GFile} {p : ByteArray} : (findF l p).2 = true ↔ ∃ f ∈ l, itemB f = true ∧ f.name = p := by
 refine ⟨fun h => ⟨_, findF_mem h⟩, ?_⟩
 rintro ⟨f, hf, h1, h2⟩
 unfold findF
 cases e : l.find? (fun f => itemB f && decide (f.name = p)) with
 | some x => rfl
 | none =>
  have := List.find?_eq_none.1 e f hf
  rw [h1, decide_eq_true h2] at this
  exact absurd rfl this
theorem say_congr {l m : List GFile} {u : ByteArray} {X Y : GFile} {b : Int} (hA : allE Y.acl = allE X.acl) (hG : grpE m u Y = grpE l u X) (hO : Y.owner = X.owner) : sayE m u Y b = sayE l u X b := by
 unfold sayE
 dsimp only
 rw [hA, hG, hO]
theorem sim_can {l m : List GFile} (hg : GoodL l) (hs : SimF l m) (u p : ByteArray) (b : Int) : canB m u p b = canB l u p b := by
 have e2 : (findF m p).2 = (findF l p).2 := by
  rw [Bool.eq_iff_iff, findF_has, findF_has]
  constructor
  ·rintro ⟨y, hy, i, n⟩
   obtain ⟨x, hx, hl⟩ := hs.fromL y hy
   exact ⟨x, hx, by rw [← hl.item]; exact i, by rw [← hl.name]; exact n⟩
  ·rintro ⟨x, hx, i, n⟩
   obtain ⟨x', hx', y, hy, hl, hk⟩ := hs.toM x hx
   have a := (alike_iff.1 (good_pair hg hx' hx hk)).1
   exact ⟨y, hy, by rw [hl.item, item_kind a]; exact i, by rw [hl.name, hk.1]; exact n⟩
 unfold canB
 rw [e2, sim_told hg hs]
 cases hf : (findF l p).2 with
 | false => rw [Bool.false_and, Bool.false_and]
 | true =>
  rw [hf] at e2
  obtain ⟨x1, x2, x3⟩ := findF_mem hf
  obtain ⟨y1, y2, y3⟩ := findF_mem e2
  generalize (findF l p).1 = X at x1 x2 x3
  generalize (findF m p).1 = Y at y1 y2 y3
  obtain ⟨x, hx, hl⟩ := hs.fromL Y y1
  have hxi : itemB x = true := by rw [← hl.item]; exact y2
  obtain ⟨a1, a2, a3, _, a5⟩ := alike_iff.1 (good_pair hg hx x1 ⟨by rw [← hl.name, y3, x3], .inr ⟨hxi, x2⟩⟩)
  have o1 := good_oke hg hx hxi
  have hA : allE Y.acl = allE X.acl := by rw [(hl.acl o1).2, a5 hxi o1 (good_oke hg x1 x2)]
  have hG : grpE m u Y = grpE l u X := by
   funext e
   unfold grpE
   rw [sim_in hg hs, sim_in hg hs, hl.group, a3]
  have hO : Y.owner = X.owner := by rw [hl.owner, a2]
  rw [say_congr hA hG hO]
theorem sim_may {l m : List GFile} (hg : GoodL l) (hs : SimF l m) (u p : ByteArray) (b : Int) : mayB m u p b = mayB l u p b := by
 have hp : ∀ c p, passB m u c p = passB l u c p := fun c => by
  induction c with
  | zero => exact fun _ => rfl
  | succ c ih =>
   intro p
   unfold passB
   rw [ih, sim_can hg hs]
 unfold mayB
 rw [hp, sim_can hg hs]
end Go.Proofs.YtgmhbmcdlkajdaaGreatDoor.Ab
namespace Go.Proofs.YtgmhbmcdlkajdaaGreatDoor.Ab
open Go.RowKit
/-! ### the normal form of one fact -/
def nfF (f : GFile) : GFile := ⟨f.kind, f.name, tx.ofL f.users, f.owner, f.group, if OKE f.acl then allE f.acl else [], 0⟩
theorem like_nf (x : GFile) : Like x (nfF x) := by
 refine ⟨rfl, rfl, rfl, rfl, fun u => tx.mem_ofL, fun o => ?_, fun e he => ?_, fun h => ?_⟩
 ·show OKE (if OKE x.acl then allE x.acl else []) = true ∧ allE (if OKE x.acl then allE x.acl else []) = allE x.acl
  rw [if_pos o]
  exact ⟨(all_all o).2, (all_all o).1⟩
 ·have he2 : e ∈ (if OKE x.acl then allE x.acl else []) := he
  split at he2
  ·exact all_mem he2
  ·cases he2
 ·have hu : (tx.ofL x.users).length ≤ x.users.length := ofL_len tx x.users
  refine ⟨h.1, h.2.1, fun e he => ?_, ?_, ?_, h.2.2.2.2.2⟩
  ·have he2 : e ∈ (if OKE x.acl then allE x.acl else []) := he
   split at he2
   ·exact allE_text h.2.2.1 e he2
   ·cases he2
  ·show (if OKE x.acl then allE x.acl else []).length ≤ 100
   split
   ·next o => exact (oke_iff o).2.2.2.2.2
   ·exact Nat.zero_le _
  ·show (tx.ofL x.users).length ≤ 6000
   have := h.2.2.2.2.1
   omega
theorem like_self (x : GFile) : Like x x := ⟨rfl, rfl, rfl, rfl, fun _ => Iff.rfl, fun o => ⟨o, rfl⟩, fun _ h => .inl h, id⟩
theorem samek_self (x : GFile) : samek x x := ⟨rfl, .inl rfl⟩
/-! ### the order of facts -/
def clsK (k : Int) : Int := if 3 < k then 3 else k
def befB (a b : GFile) : Bool := if clsK a.kind != clsK b.kind then decide (clsK a.kind < clsK b.kind) else tx.lt a.name b.name
theorem before_some {n : Nat} (a b : GFile) : ref17_before n a b = some (befB a b) := by
 show (if clsK a.kind != clsK b.kind then some (decide (clsK a.kind < clsK b.kind)) else some (tx.lt a.name b.name)) = some (befB a b)
 unfold befB
 cases clsK a.kind != clsK b.kind <;> rfl
theorem before_none {a b : GFile} (h1 : befB a b = false) (h2 : befB b a = false) : samek a b := by
 unfold befB at h1 h2
 have hk : clsK a.kind = clsK b.kind := by
  by_cases h : clsK a.kind = clsK b.kind
  ·exact h
  ·rw [bne_iff_ne.2 h, if_pos rfl] at h1
   rw [bne_iff_ne.2 (fun e => h e.symm), if_pos rfl] at h2
   have := of_decide_eq_false h1
   have := of_decide_eq_false h2
   omega
 have e1 : (clsK a.kind != clsK b.kind) = false := by rw [hk, bne_self_eq_false]
 have e2 : (clsK b.kind != clsK a.kind) = false := by rw [hk, bne_self_eq_false]
 rw [e1, if_neg (by decide)] at h1
 rw [e2, if_neg (by decide)] at h2
 refine ⟨tx.total h1 h2, ?_⟩
 unfold clsK at hk
 unfold itemB
 by_cases h : a.kind = b.kind
 ·exact .inl h
 ·refine .inr ⟨decide_eq_true ?_, decide_eq_true ?_⟩ <;> split at hk <;> split at hk <;> omega
/-! ### the loops -/
theorem norm2 {n : Nat} {out : List GFile} {x : GFile} {us : List ByteArray} {ac : List GEntry × Bool} {g : GFile} (hg : g = ⟨x.kind, x.name, us, x.owner, x.group, ac.1, 0⟩) (hl : out.length < 1000000) : ∀ (c k : Nat), k ≤ out.length → k < c → ∃ m : Nat, ref17_Normal_L2 n out x us ac c (k : Int) = some (m : Int) ∧ m ≤ k ∧ ∀ z, 0 < m → out[m - 1]? = some z → befB g z = false
 | 0, _, _, h => by omega
 | c + 1, k, hk, hc => by
  subst hg
  rw [ref17_Normal_L2]
  by_cases h : 0 < k
  ·have hb : k - 1 < out.length := by omega
   have e1 : IntKind.i64.wrap ((k : Int) - 1) = ((k - 1 : Nat) : Int) := by rw [wr (by omega) (by omega)]; omega
   rw [show decide (0 < (k : Int)) = true from decide_eq_true (by omega), if_pos rfl, e1, idxS hb, Option.bind_some, before_some, Option.bind_some]
   cases hbf : befB ⟨x.kind, x.name, us, x.owner, x.group, ac.1, 0⟩ out[k - 1] with
   | true =>
    rw [if_pos rfl]
    obtain ⟨m, h1, h2, h3⟩ := norm2 (n := n) (us := us) (ac := ac) rfl hl c (k - 1) (by omega) (by omega)
    exact ⟨m, h1, by omega, h3⟩
   | false =>
    rw [if_neg (by decide)]
    refine ⟨k, rfl, Nat.le_refl _, fun z _ hz => ?_⟩
    rw [List.getElem?_eq_getElem hb] at hz
    cases hz
    exact hbf
  ·rw [show decide (0 < (k : Int)) = false from decide_eq_false (by omega), if_neg (by decide)]
   exact ⟨k, rfl, Nat.le_refl _, fun z hz => by omega⟩
/-- What the normal form of the first facts holds. -/
structure NormI (l : List GFile) (i : Nat) (out : List GFile) : Prop where
 len : out.length ≤ i
 fromL : ∀ y ∈ out, ∃ x ∈ l, y = nfF x
 toM : ∀ (j : Nat) (x : GFile), j < i → l[j]? = some x → ∃ x' ∈ l, nfF x' ∈ out ∧ samek x' x
theorem norm1 {l : List GFile} (hl : l.length ≤ 20000) (hg : ∀ f ∈ l, goodF f) : ∀ (c i : Nat) (out : List GFile), i ≤ l.length → l.length - i < c → NormI l i out → Tot (ref17_Normal_L1 NF l c (out, (i : Int))) fun m => NormI l l.length m
 | 0, _, _, _, h, _ => by omega
 | c + 1, i, out, hi, hc, hI => by
  have hNF : NF = 30000 := rfl
  rw [ref17_Normal_L1]
  by_cases h : i < l.length
  ·have hm : l[i] ∈ l := List.getElem_mem h
   have hgx := hg _ hm
   have hlen := hI.len
   have hu := hgx.2.2.2.2.1
   have hsz := hgx.siz
   generalize hx : l[i] = x at hm hgx hu hsz
   have hat : l[i]? = some x := by rw [List.getElem?_eq_getElem h, hx]
   have hnf : (⟨x.kind, x.name, tx.ofL x.users, x.owner, x.group, (if OKE x.acl then (allE x.acl, true) else ([], false)).1, 0⟩ : GFile) = nfF x := by
    unfold nfF
    cases OKE x.acl <;> rfl
   rw [dlt h, if_pos rfl, idxS h, Option.bind_some, hx, texts_some NF _ (by omega) (by omega), Option.bind_some, aclNF hsz.1 hsz.2.2, Option.bind_some, wr1 (by omega)]
   obtain ⟨m, h1, h2, h3⟩ := norm2 (n := NF) (out := out) (x := x) (us := tx.ofL x.users) (ac := if OKE x.acl then (allE x.acl, true) else ([], false)) hnf.symm (by omega) NF out.length (Nat.le_refl _) (by omega)
   rw [h1, Option.bind_some, hnf]
   -- the place is known
   have ins : NormI l (i + 1) (out.take m ++ [nfF x] ++ out.drop m) := by
    refine ⟨?_, fun y hy => ?_, fun j z hj hz => ?_⟩
    ·simp only [List.length_append, List.length_take, List.length_drop, List.length_cons, List.length_nil]
     omega
    ·rcases List.mem_append.1 hy with hy | hy
     ·rcases List.mem_append.1 hy with hy | hy
      ·exact hI.fromL y (List.mem_of_mem_take hy)
      ·exact ⟨x, hm, List.mem_singleton.1 hy⟩
     ·exact hI.fromL y (List.mem_of_mem_drop hy)
    ·by_cases e : j = i
     ·subst e
      rw [hat] at hz
      cases hz
      exact ⟨x, hm, List.mem_append_left _ (List.mem_append_right _ (List.mem_singleton.2 rfl)), samek_self x⟩
     ·obtain ⟨x', a1, a2, a3⟩ := hI.toM j z (by omega) hz
      refine ⟨x', a1, ?_, a3⟩
      rw [← List.take_append_drop m out] at a2
      rcases List.mem_append.1 a2 with a2 | a2
      ·exact List.mem_append_left _ (List.mem_append_left _ a2)
      ·exact List.mem_append_right _ a2
   have go : NormI l (i + 1) out → Tot (ref17_Normal_L1 NF l c (out, ((i + 1 : Nat) : Int))) fun m => NormI l l.length m := fun hI2 => norm1 hl hg c (i + 1) out (by omega) (by omega) hI2
   have put : Tot (if (decide (out.length = 0)) then
     (slc ([] : List GFile) 0 (m : Int)).bind fun _ =>
     (slc ([] : List GFile) (m : Int) 0).bind fun _ =>
     ref17_Normal_L1 NF l c ([nfF x], ((i + 1 : Nat) : Int))
    else
     (slc out 0 (m : Int)).bind fun l5 =>
     (app [] l5).bind fun _ =>
     (app l5 [nfF x]).bind fun l7 =>
     (slc out (m : Int) (out.length : Int)).bind fun l8 =>
     (if (decide (Int.toNat (m : Int) < out.length)) then
      (app l7 l8).bind fun l9 =>
      ref17_Normal_L1 NF l c (l9, ((i + 1 : Nat) : Int))
     else
      ref17_Normal_L1 NF l c (l7, ((i + 1 : Nat) : Int)))) fun m => NormI l l.length m := by
    have step := norm1 hl hg c (i + 1) _ (by omega) (by omega) ins
    by_cases h0 : out.length = 0
    ·have hm0 : m = 0 := by omega
     have ho : out = [] := List.length_eq_zero_iff.1 h0
     subst ho
     subst hm0
     exact step
    ·have s1 : slc out 0 (m : Int) = some (out.take m) := slcS (xs := out) (a := 0) (by omega) (by omega)
     have s2 : slc out (m : Int) (out.length : Int) = some (out.drop m) := by
      have := slcS (xs := out) (a := m) (b := out.length) (by omega) (Nat.le_refl _)
      rwa [List.take_length] at this
     have l1 : (out.take m).length = m := by rw [List.length_take]; omega
     have l2 : (out.drop m).length = out.length - m := List.length_drop ..
     rw [decide_eq_false h0, if_neg (by decide), s1, Option.bind_some, appS (by simp; omega), Option.bind_some, appS (by simp; omega), Option.bind_some, s2, Option.bind_some, Int.toNat_natCast]
     by_cases hd : m < out.length
     ·rw [decide_eq_true hd, if_pos rfl, appS (by simp; omega), Option.bind_some]
      exact step
     ·rw [decide_eq_false hd, if_neg (by decide)]
      rw [List.drop_eq_nil_of_le (by omega), List.append_nil] at step
      exact step
   by_cases hm0 : 0 < m
   ·have hb : m - 1 < out.length := by omega
    have e1 : IntKind.i64.wrap ((m : Int) - 1) = ((m - 1 : Nat) : Int) := by rw [wr (by omega) (by omega)]; omega
    rw [show decide (0 < (m : Int)) = true from decide_eq_true (by omega), if_pos rfl, e1, idxS hb, Option.bind_some, before_some, Option.bind_some, Option.bind_some]
    cases hbf : befB out[m - 1] (nfF x) with
    | true => exact put
    | false =>
     have hb2 := h3 _ hm0 (List.getElem?_eq_getElem hb)
     obtain ⟨x', a1, a2⟩ := hI.fromL _ (List.getElem_mem hb)
     rw [a2] at hb2 hbf
     have hs : samek x' x := before_none (a := nfF x') (b := nfF x) hbf hb2
     refine go ⟨by omega, hI.fromL, fun j z hj hz => ?_⟩
     by_cases e : j = i
     ·subst e
      rw [hat] at hz
      cases hz
      exact ⟨x', a1, a2 ▸ List.getElem_mem hb, hs⟩
     ·exact hI.toM j z (by omega) hz
   ·rw [show decide (0 < (m : Int)) = false from decide_eq_false (by omega), if_neg (by decide), Option.bind_some]
    exact put
  ·rw [dnlt (by omega), if_neg (by decide)]
   have e : i = l.length := by omega
   subst e
   exact tot_some hI
theorem normal_tot {l : List GFile} (hl : l.length ≤ 20000) (hg : ∀ f ∈ l, goodF f) : Tot (ref17_Normal NF l) fun m => SimF l m ∧ m.length ≤ l.length := by
 unfold ref17_Normal
 refine tot_bind (norm1 hl hg NF 0 [] (Nat.zero_le _) (show _ < 30000 by omega) ⟨Nat.le_refl _, fun y hy => (by cases hy), fun j x hj => by omega⟩) fun m hm => tot_some ⟨⟨fun y hy => ?_, fun x hx => ?_⟩, hm.len⟩
 ·obtain ⟨x, hx, e⟩ := hm.fromL y hy
  exact ⟨x, hx, e ▸ like_nf x⟩
 ·obtain ⟨j, hj, e⟩ := List.getElem_of_mem hx
  obtain ⟨x', a1, a2, a3⟩ := hm.toM j x hj (by rw [List.getElem?_eq_getElem hj, e])
  exact ⟨x', a1, nfF x', a2, like_nf x', a3⟩
theorem back_loop {l : List GFile} (hl : l.length ≤ 10000) : ∀ (c k : Nat) (out : List GFile), k ≤ l.length → k < c → out.length ≤ 2 * (l.length - k) → (∀ x ∈ out, x ∈ l) → (∀ (j : Nat) (x : GFile), k ≤ j → l[j]? = some x → x ∈ out) → Tot (law20_PermNormal_L1 NF l c (out, (k : Int) - 1)) fun m => m.length ≤ 2 * l.length ∧ ∀ x, x ∈ m ↔ x ∈ l
 | 0, _, _, _, h, _, _, _ => by omega
 | c + 1, k, out, hk, hc, ho, h1, h2 => by
  rw [law20_PermNormal_L1]
  by_cases h : 0 < k
  ·have hb : k - 1 < l.length := by omega
   have e1 : (k : Int) - 1 = ((k - 1 : Nat) : Int) := by omega
   rw [show decide (0 ≤ (k : Int) - 1) = true from decide_eq_true (by omega), if_pos rfl, e1, idxS hb, Option.bind_some, appS (by simp; omega), Option.bind_some, wr (by omega) (by omega)]
   refine back_loop hl c (k - 1) _ (by omega) (by omega) (by simp; omega) (fun x hx => ?_) fun j x hj hx => ?_
   ·rcases List.mem_append.1 hx with hx | hx
    ·exact h1 x hx
    ·have : x = l[k - 1] := by simpa using hx
     rw [this]
     exact List.getElem_mem hb
   ·by_cases e : j = k - 1
    ·subst e
     rw [List.getElem?_eq_getElem hb] at hx
     cases hx
     exact List.mem_append_right _ (List.mem_cons_self ..)
    ·exact List.mem_append_left _ (h2 j x (by omega) hx)
  ·rw [show decide (0 ≤ (k : Int) - 1) = false from decide_eq_false (by omega), if_neg (by decide)]
   refine tot_some ⟨by omega, fun x => ⟨h1 x, fun hx => ?_⟩⟩
   obtain ⟨j, hj, e⟩ := List.getElem_of_mem hx
   exact h2 j x (by omega) (by rw [List.getElem?_eq_getElem hj, e])
theorem law_permNormal (t0 : List Int) (t1 : Int) : law20_PermNormal NF t0 t1 = some true := by
 obtain ⟨l, hv, hg, hl⟩ := valid18 t0
 obtain ⟨u, hu, _⟩ := who_tot NF t1
 obtain ⟨p, hp, _⟩ := where_tot NF (sh t1 8)
 obtain ⟨b, hb, _⟩ := tot_tm (xs := ([1, 2, 4] : List Int)) (m := 3) (t := sh t1 16) (Q := fun _ => True) (by decide) rfl fun _ _ => trivial
 obtain ⟨m, hm, hs, hml⟩ := normal_tot (by omega) hg.1
 obtain ⟨k, hk, hkl, hkm⟩ := back_loop (l := l) (by omega) NF l.length [] (Nat.le_refl _) (show _ < 30000 by omega) (by simp) (fun x hx => by cases hx) fun j x hj hx => by
  have := (List.getElem?_eq_some_iff.1 hx).1
  omega
 have hs2 : SimF l k := ⟨fun y hy => ⟨y, (hkm y).1 hy, like_self y⟩, fun x hx => ⟨x, hx, x, (hkm x).2 hx, like_self x, samek_self x⟩⟩
 have e1 := (may_both hg (by omega) u p b).1
 have e2 := (may_both (sim_good hg hs) (by omega) u p b).1
 have e3 := (may_both (sim_good hg hs2) (by omega) u p b).1
 rw [sim_may hg hs] at e2
 rw [sim_may hg hs2] at e3
 unfold law20_PermNormal
 rw [hv, Option.bind_some, wr (by omega) (by omega), hk, Option.bind_some, hm, Option.bind_some, hu, Option.bind_some, hp, Option.bind_some, show (3 : Int) = ((3 : Nat) : Int) from rfl, hb, Option.bind_some, e1, Option.bind_some, e2, Option.bind_some, beq_self_eq_true, if_pos rfl, e3, Option.bind_some, beq_self_eq_true, if_pos rfl]
 rfl
theorem law_permNormal_ex (t0 : List Int) (t1 : Int) (_ : t0.length ≤ maxLen ∧ ∀ y ∈ t0, (Lit.int .i64 y).wf = true) (_ : (Lit.int .i64 t1).wf = true) : ∃ n, law20_PermNormal n t0 t1 = some true := ⟨NF, law_permNormal t0 t1⟩
end Go.Proofs.YtgmhbmcdlkajdaaGreatDoor.Ab
