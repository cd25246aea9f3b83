/-
 Are facts valid? What the document answers. No program in sight.
-/
import Derived.Test.YtgmhbmcdlkajdaaGreatDoorPte
import Derived.Test.YtgmhbmcdlkajdaaGreatDoorPrx
namespace Go.Proofs.YtgmhbmcdlkajdaaGreatDoor.Ab
open Go.RowKit
theorem texts_shape (n : Nat) (a b : List ByteArray) (c : Nat) (t : List ByteArray) (i k : Int) : ref1_Texts_L1 n a b (c + 1) (t, i, k) =
   (((if decide (i < (a.length : Int)) then some (t, true) else some (t, decide (k < (b.length : Int)))) : Option (List ByteArray × Bool)).bind fun q =>
   (if q.2 then
    (((if k == (b.length : Int) then some (q.1, true) else (if decide (i < (a.length : Int)) then (idx a i).bind fun x => (idx b k).bind fun y => some (q.1, tx.lt x y) else some (q.1, false))) : Option (List ByteArray × Bool)).bind fun w =>
    (if w.2 then (idx a i).bind fun x => (app w.1 [x]).bind fun l => ref1_Texts_L1 n a b c (l, IntKind.i64.wrap (i + 1), k)
    else (if i == (a.length : Int) then (idx b k).bind fun y => (app w.1 [y]).bind fun l => ref1_Texts_L1 n a b c (l, i, IntKind.i64.wrap (k + 1))
     else (idx b k).bind fun y => (idx a i).bind fun x => (if tx.lt y x then (app w.1 [y]).bind fun l => ref1_Texts_L1 n a b c (l, i, IntKind.i64.wrap (k + 1)) else ref1_Texts_L1 n a b c (w.1, IntKind.i64.wrap (i + 1), k)))))
   else some q.1)) := by
 rw [ref1_Texts_L1]
 cases decide (i < (a.length : Int)) <;> cases decide (k < (b.length : Int)) <;> cases (k == (b.length : Int)) <;> cases idx a i <;> cases idx b k <;> rfl
theorem texts_some : ∀ (n : Nat) (l : List ByteArray), l.length + 2 ≤ n → l.length ≤ 4294967296 → ref1_Texts n l = some (tx.ofL l)
 | 0, _, h, _ => by omega
 | n + 1, l, h, hl => by
  have ih := texts_some n
  unfold ref1_Texts
  by_cases h2 : l.length < 2
  ·rw [decide_eq_true (by omega), if_pos rfl, appS (by simp; omega), Zo, ofL_short tx h2]
  ·rw [decide_eq_false (by omega), if_neg (by decide), show Int.tdiv (l.length : Int) 2 = ((l.length / 2 : Nat) : Int) from rfl, wr (by omega) (by omega)]
   have e1 : slc l 0 ((l.length / 2 : Nat) : Int) = some (l.take (l.length / 2)) := slcS (xs := l) (a := 0) (by omega) (by omega)
   have e2 : slc l ((l.length / 2 : Nat) : Int) (l.length : Int) = some (l.drop (l.length / 2)) := by
    have := slcS (xs := l) (a := l.length / 2) (b := l.length) (by omega) (Nat.le_refl _)
    rwa [List.take_length] at this
   have l1 : (l.take (l.length / 2)).length = l.length / 2 := by rw [List.length_take]; omega
   have l2 : (l.drop (l.length / 2)).length = l.length - l.length / 2 := List.length_drop ..
   have k1 := ofL_len tx (l.take (l.length / 2))
   have k2 := ofL_len tx (l.drop (l.length / 2))
   rw [e1, Zo, ih _ (by omega) (by omega), Zo, e2, Zo, ih _ (by omega) (by omega), Zo]
   have m : ref1_Texts_L1 n (tx.ofL (l.take (l.length / 2))) (tx.ofL (l.drop (l.length / 2))) n ([], 0, 0) = _ := merge_loop tx (L := ref1_Texts_L1 n (tx.ofL (l.take (l.length / 2))) (tx.ofL (l.drop (l.length / 2)))) (texts_shape n _ _) n [] 0 0 (by omega) (by omega) (by omega) (by simp; omega) (by omega) (by omega)
   rw [m, Zo, List.nil_append, List.drop_zero, List.drop_zero, tx.mg_ofL, List.take_append_drop]
theorem sameTexts_some {n : Nat} {a b : List ByteArray} (hn : a.length < n) (hx : a.length < 4611686018427387904) : ref1_SameTexts n a b = some (decide (a = b)) := by
 unfold ref1_SameTexts
 by_cases hl : a.length = b.length
 ·have e : ((a.length : Int) != (b.length : Int)) = false := by simp [hl]
  have h : ref1_SameTexts_L1 n a b n 0 = _ := same_loop (L := ref1_SameTexts_L1 n a b) (E := fun x y => x.toList == y.toList) beqS (fun _ _ => rfl) hl hx n 0 (by omega) (by omega)
  rw [e, if_neg (by decide), h, List.drop_zero, List.drop_zero, Zo]
  by_cases e : a = b <;> simp [e]
 ·have e : ((a.length : Int) != (b.length : Int)) = true := by simp; omega
  rw [e, if_pos rfl, decide_eq_false fun h => hl (by rw [h])]
theorem sameAcl_some {n : Nat} {a b : List GEntry} (hn : a.length < n) (hx : a.length < 1000000) : ref17_SameAcl n a b = some (decide (a = b)) := by
 unfold ref17_SameAcl
 by_cases hl : a.length = b.length
 ·have e : ((a.length : Int) != (b.length : Int)) = false := by simp [hl]
  have h : ref17_SameAcl_L1 n a b n 0 = _ := same_loop (L := ref17_SameAcl_L1 n a b) (E := fun x y => ((x.kind == y.kind) && ((x.default == y.default) && ((x.name == y.name) && (x.bits == y.bits))))) (fun x y => by
   obtain ⟨k, d, nm, b⟩ := x
   obtain ⟨k2, d2, nm2, b2⟩ := y
   rw [Bool.eq_iff_iff]
   simp only [Bool.and_eq_true, beq_iff_eq, decide_eq_true_eq, GEntry.mk.injEq]) (fun _ _ => rfl) hl (by omega) n 0 (by omega) (by omega)
  rw [e, if_neg (by decide), h, List.drop_zero, List.drop_zero, Zo]
  by_cases e : a = b <;> simp [e]
 ·have e : ((a.length : Int) != (b.length : Int)) = true := by simp; omega
  rw [e, if_pos rfl, decide_eq_false fun h => hl (by rw [h])]
def itemB (f : GFile) : Bool := decide (3 ≤ f.kind)
def alikeB (a b : GFile) : Bool := (a.kind == b.kind) && (decide (a.owner = b.owner) && (decide (a.group = b.group) && (decide (tx.ofL a.users = tx.ofL b.users) && (!itemB a || (!OKE a.acl || (!OKE b.acl || decide (allE a.acl = allE b.acl)))))))
def sizF (f : GFile) : Prop := f.acl.length ≤ 1000 ∧ f.users.length ≤ 6000 ∧ ∀ e ∈ f.acl, e.name.size ≤ 6000
theorem goodF.siz {f : GFile} (h : goodF f) : sizF f := ⟨by have := h.2.2.2.1; omega, h.2.2.2.2.1, fun e he => by have := textOK_size (h.2.2.1 e he); omega⟩
theorem aclNF {es : List GEntry} (h : es.length ≤ 1000) (hs : ∀ e ∈ es, e.name.size ≤ 6000) : ref17_Acl NF es = some (if OKE es then (allE es, true) else ([], false)) := acl17_some (by omega) (show _ < 30000 by omega) fun x hx => by
 have := hs x hx
 exact ⟨show _ < 30000 by omega, by omega⟩
theorem alike_some {a b : GFile} (ha : sizF a) (hb : sizF b) : ref17_alike NF a b = some (alikeB a b) := by
 have hNF : NF = 30000 := rfl
 unfold ref17_alike alikeB
 have la := ha.2.1
 have lb := hb.2.1
 have oa := ofL_len tx a.users
 rw [aclNF ha.1 ha.2.2, aclNF hb.1 hb.2.2, Zo, Zo, beqS, beqS, texts_some NF a.users (by omega) (by omega), Zo, texts_some NF b.users (by omega) (by omega), Zo, sameTexts_some (by omega) (by omega), Zo]
 rw [show ref17_item NF a = some (itemB a) from rfl, Zo]
 have hacl : OKE a.acl = true → ref17_SameAcl NF (allE a.acl) (allE b.acl) = some (decide (allE a.acl = allE b.acl)) := fun h => sameAcl_some (by have := (oke_iff h).2.2.2.2.2; omega) (by have := (oke_iff h).2.2.2.2.2; omega)
 cases (a.kind == b.kind) <;> cases decide (a.owner = b.owner) <;> cases decide (a.group = b.group) <;> cases decide (tx.ofL a.users = tx.ofL b.users) <;> try rfl
 cases itemB a <;> try rfl
 cases h1 : OKE a.acl <;> try rfl
 cases h2 : OKE b.acl <;> try rfl
 show ((ref17_SameAcl NF (allE a.acl) (allE b.acl)).bind fun t64 => some t64) = _
 rw [hacl h1]
 rfl
def toldB (l : List GFile) (k : Int) (nm : ByteArray) : Bool := l.any fun f => (f.kind == k) && decide (f.name = nm)
theorem told_loop {n : Nat} {l : List GFile} {k : Int} {nm : ByteArray} (hl : l.length < 1000000) : ∀ (c i : Nat), i ≤ l.length → l.length - i < c → ref17_told_L1 n l k nm c (i : Int) = some (if toldB (l.drop i) k nm then .inr true else .inl ())
 | 0, _, _, h => by omega
 | c + 1, i, hi, hc => by
  rw [ref17_told_L1]
  by_cases h : i < l.length
  ·rw [dlt h, if_pos rfl, idxS h, Zo, List.drop_eq_getElem_cons h, beqS, wr1 (by omega), told_loop hl c (i + 1) (by omega) (by omega)]
   unfold toldB
   rw [List.any_cons]
   cases (l[i].kind == k) <;> cases decide (l[i].name = nm) <;> simp
  ·rw [dnlt (by omega), if_neg (by decide), List.drop_eq_nil_of_le (by omega)]
   rfl
theorem told_some {n : Nat} {l : List GFile} {k : Int} {nm : ByteArray} (hl : l.length < 1000000) (hn : l.length < n) : ref17_told n l k nm = some (toldB l k nm) := by
 unfold ref17_told
 have h : ref17_told_L1 n l k nm n 0 = _ := told_loop hl n 0 (by omega) (by omega)
 rw [h, List.drop_zero, Zo]
 cases toldB l k nm <;> rfl
def badE (l : List GFile) (e : GEntry) : Bool := (e.kind == 2 && !toldB l 1 e.name) || (e.kind == 4 && !toldB l 2 e.name)
def unknownB (l : List GFile) (f : GFile) : Bool := (f.users.any fun u => !toldB l 1 u) || (itemB f && ((!toldB l 1 f.owner || !toldB l 2 f.group) || f.acl.any (badE l)))
theorem unk1 {n : Nat} {l : List GFile} {f : GFile} (hl : l.length < 1000000) (hn : l.length < n) (hu : f.users.length < 1000000) : ∀ (c i : Nat), i ≤ f.users.length → f.users.length - i < c → ref17_unknown_L1 n l f c (i : Int) = some (if (f.users.drop i).any (fun u => !toldB l 1 u) then .inr true else .inl ())
 | 0, _, _, h => by omega
 | c + 1, i, hi, hc => by
  rw [ref17_unknown_L1]
  by_cases h : i < f.users.length
  ·rw [dlt h, if_pos rfl, idxS h, Zo, told_some hl hn, Zo, List.drop_eq_getElem_cons h, List.any_cons, wr1 (by omega), unk1 hl hn hu c (i + 1) (by omega) (by omega)]
   cases toldB l 1 f.users[i] <;> simp
  ·rw [dnlt (by omega), if_neg (by decide), List.drop_eq_nil_of_le (by omega)]
   rfl
theorem unk2 {n : Nat} {l : List GFile} {f : GFile} (hl : l.length < 1000000) (hn : l.length < n) (hu : f.acl.length < 1000000) : ∀ (c i : Nat), i ≤ f.acl.length → f.acl.length - i < c → ref17_unknown_L2 n l f c (i : Int) = some (if (f.acl.drop i).any (badE l) then .inr true else .inl ())
 | 0, _, _, h => by omega
 | c + 1, i, hi, hc => by
  rw [ref17_unknown_L2]
  by_cases h : i < f.acl.length
  ·rw [dlt h, if_pos rfl, idxS h, Zo, told_some hl hn, told_some hl hn, Zo, Zo, List.drop_eq_getElem_cons h, List.any_cons, wr1 (by omega), unk2 hl hn hu c (i + 1) (by omega) (by omega)]
   unfold badE
   cases (f.acl[i].kind == 2) <;> cases (f.acl[i].kind == 4) <;> cases toldB l 1 f.acl[i].name <;> cases toldB l 2 f.acl[i].name <;> simp
  ·rw [dnlt (by omega), if_neg (by decide), List.drop_eq_nil_of_le (by omega)]
   rfl
theorem unknown_some {l : List GFile} {f : GFile} (hl : l.length ≤ 20000) (hf : sizF f) : ref17_unknown NF l f = some (unknownB l f) := by
 have hNF : NF = 30000 := rfl
 have h1 := hf.1
 have h2 := hf.2.1
 unfold ref17_unknown unknownB
 have e1 : ref17_unknown_L1 NF l f NF 0 = _ := unk1 (n := NF) (by omega) (by omega) (by omega) NF 0 (by omega) (by omega)
 have e2 : ref17_unknown_L2 NF l f NF 0 = _ := unk2 (n := NF) (by omega) (by omega) (by omega) NF 0 (by omega) (by omega)
 rw [e1, List.drop_zero, Zo]
 cases (f.users.any fun u => !toldB l 1 u) with
 | true => rfl
 | false =>
  rw [if_neg (show ¬ false = true by decide)]
  dsimp only
  rw [show ref17_item NF f = some (itemB f) from rfl, Zo]
  cases itemB f with
  | false => rfl
  | true =>
   rw [if_pos rfl, told_some (by omega) (by omega), Zo, told_some (by omega) (by omega), Zo, e2, List.drop_zero]
   cases toldB l 1 f.owner <;> cases toldB l 2 f.group <;> try rfl
   cases f.acl.any (badE l) <;> rfl
def clash (y x : GFile) : Bool := decide (y.name = x.name) && (((y.kind == x.kind) || (itemB y && itemB x)) && !alikeB y x)
theorem fact_loop {l : List GFile} {x : GFile} (hl : l.length ≤ 20000) (hs : ∀ f ∈ l, sizF f) (hx : sizF x) {m : Nat} (hm : m ≤ l.length) : ∀ (c i : Nat), i ≤ m → m - i < c → ref17_fact_L1 NF l (m : Int) x c (i : Int) = some (if ((l.take m).drop i).any (fun y => clash y x) then .inr 11 else .inl ())
 | 0, _, _, h => by omega
 | c + 1, i, hi, hc => by
  rw [ref17_fact_L1]
  by_cases h : i < m
  ·have hil : i < l.length := by omega
   have hit : i < (l.take m).length := by rw [List.length_take]; omega
   rw [dlt h, if_pos rfl, idxS hil, Zo, beqS, alike_some (hs _ (List.getElem_mem hil)) hx, Zo, show ref17_item NF l[i] = some (itemB l[i]) from rfl, show ref17_item NF x = some (itemB x) from rfl, Zo, Zo, wr1 (by omega), fact_loop hl hs hx hm c (i + 1) (by omega) (by omega), List.drop_eq_getElem_cons hit, List.any_cons, List.getElem_take]
   unfold clash
   cases decide (l[i].name = x.name) <;> cases (l[i].kind == x.kind) <;> cases itemB l[i] <;> cases itemB x <;> cases alikeB l[i] x <;> simp
  ·rw [dnlt (by omega), if_neg (by decide), List.drop_eq_nil_of_le (by rw [List.length_take]; omega)]
   rfl
def lastD (es : List GEntry) : Bool := match (allE es)[(allE es).length - 1]? with
 | some e => e.default
 | none => false
def okItem (f : GFile) : Bool := !itemB f || (OKE f.acl && !(f.kind == 4 && lastD f.acl))
theorem whole_pos {l : List GEntry} (h : whole3 l = true) : 0 < l.length := by
 unfold whole3 at h
 simp only [Bool.and_eq_true] at h
 obtain ⟨x, hx, _⟩ := List.any_eq_true.1 h.1
 exact List.length_pos_of_mem hx
theorem allE_pos {es : List GEntry} (h : OKE es = true) : 0 < (allE es).length := by
 obtain ⟨_, _, w, _⟩ := oke_iff h
 have h1 := whole_pos w
 have h2 := (allE_perm es).length_eq
 have h3 := fl_len false es
 rw [List.length_append] at h2
 omega
theorem fact_some {l : List GFile} {i : Nat} {x : GFile} (hl : l.length ≤ 20000) (hs : ∀ f ∈ l, sizF f) (hx : l[i]? = some x) : Tot (ref17_fact NF l (i : Int)) fun e => (e = 0 ↔ (∀ y ∈ l.take i, clash y x = false) ∧ unknownB l x = false ∧ okItem x = true) := by
 have hNF : NF = 30000 := rfl
 obtain ⟨hi, hg⟩ := List.getElem?_eq_some_iff.1 hx
 have hsx : sizF x := hs x (hg ▸ List.getElem_mem hi)
 unfold ref17_fact
 have hL : ref17_fact_L1 NF l (i : Int) x NF 0 = _ := fact_loop hl hs hsx (m := i) (by omega) NF 0 (by omega) (by omega)
 rw [idxS hi, hg, Zo, hL, List.drop_zero, Zo]
 cases hc : (l.take i).any (fun y => clash y x) with
 | true =>
  refine tot_some ⟨fun h => (by cases h), fun h => ?_⟩
  obtain ⟨y, hy, e⟩ := List.any_eq_true.1 hc
  rw [h.1 y hy] at e
  cases e
 | false =>
  have hc2 : ∀ y ∈ l.take i, clash y x = false := fun y hy => Bool.eq_false_iff.2 (List.any_eq_false.1 hc y hy)
  rw [if_neg (show ¬ false = true by decide)]
  dsimp only
  rw [unknown_some hl hsx, Zo]
  cases hu : unknownB l x with
  | true => exact tot_some ⟨fun h => (by cases h), fun h => (by cases h.2.1)⟩
  | false =>
   rw [if_neg (show ¬ false = true by decide), show ref17_item NF x = some (itemB x) from rfl, Zo]
   unfold okItem
   cases itemB x with
   | false => exact tot_some ⟨fun _ => ⟨hc2, rfl, rfl⟩, fun _ => rfl⟩
   | true =>
    rw [if_pos rfl, aclNF hsx.1 hsx.2.2, Zo]
    cases ho : OKE x.acl with
    | false => exact tot_some ⟨fun h => (by cases h), fun h => (by cases h.2.2)⟩
    | true =>
     rw [if_pos rfl, if_pos rfl]
     dsimp only
     cases hk : (x.kind == 4) with
     | false => exact tot_some ⟨fun _ => ⟨hc2, rfl, rfl⟩, fun _ => rfl⟩
     | true =>
      have hp := allE_pos ho
      have hle := (oke_iff ho).2.2.2.2.2
      rw [if_pos rfl, wr (by omega) (by omega), show (((allE x.acl).length : Int) - 1) = (((allE x.acl).length - 1 : Nat) : Int) by omega, idxS (by omega), Zo]
      unfold lastD
      rw [List.getElem?_eq_getElem (by omega)]
      dsimp only
      cases (allE x.acl)[(allE x.acl).length - 1].default with
      | true => exact tot_some ⟨fun h => (by cases h), fun h => (by cases h.2.2)⟩
      | false => exact tot_some ⟨fun _ => ⟨hc2, rfl, rfl⟩, fun _ => rfl⟩
def parentT (s : ByteArray) : ByteArray := (ref17_Parent NF s).getD { data := #[] }
def okPlace (l : List GFile) (f : GFile) : Bool := if decide (f.name = { data := #[47] }) then !(f.kind == 4) else (!itemB f || toldB l 3 (parentT f.name))
structure ValidF (l : List GFile) : Prop where
 apart : ∀ (i : Nat) (x : GFile), l[i]? = some x → ∀ y ∈ l.take i, clash y x = false
 known : ∀ x ∈ l, unknownB l x = false
 items : ∀ x ∈ l, okItem x = true
 place : ∀ x ∈ l, okPlace l x = true
theorem parent_ok {s : ByteArray} (hp : pathL s.data.toList = true) : ref17_Parent NF s = some (parentT s) := by
 unfold parentT
 by_cases h : s.data.toList = [47]
 ·rw [show s = { data := #[47] } from bytes_inj h, parent_top (show 1000 < NF by decide)]
  rfl
 ·obtain ⟨p, h1, _⟩ := parent_both hp h (show 1000 < NF by decide)
  rw [h1]
  rfl
theorem valid1 {l : List GFile} (hl : l.length ≤ 20000) (hs : ∀ f ∈ l, sizF f) : ∀ (c i : Nat), i ≤ l.length → l.length - i < c → Tot (ref17_Valid_L1 NF l c (i : Int)) fun r => (r = .inl () ∧ ∀ j x, i ≤ j → l[j]? = some x → (∀ y ∈ l.take j, clash y x = false) ∧ unknownB l x = false ∧ okItem x = true) ∨ (∃ v, r = .inr v ∧ v.2 ≠ 0 ∧ ∃ j x, l[j]? = some x ∧ ¬ ((∀ y ∈ l.take j, clash y x = false) ∧ unknownB l x = false ∧ okItem x = true))
 | 0, _, _, h => by omega
 | c + 1, i, hi, hc => by
  rw [ref17_Valid_L1]
  by_cases h : i < l.length
  ·obtain ⟨e, he, hq⟩ := fact_some hl hs (List.getElem?_eq_getElem h)
   rw [dlt h, if_pos rfl, he, Zo, wr1 (by omega)]
   by_cases h0 : e = 0
   ·rw [h0, if_neg (by decide)]
    refine (valid1 hl hs c (i + 1) (by omega) (by omega)).mono fun r hr => ?_
    rcases hr with ⟨h1, h2⟩ | h1
    ·refine .inl ⟨h1, fun j x hj hx => ?_⟩
     by_cases e1 : j = i
     ·subst e1
      rw [List.getElem?_eq_getElem h, Option.some.injEq] at hx
      subst hx
      exact hq.1 h0
     ·exact h2 j x (by omega) hx
    ·exact .inr h1
   ·rw [if_pos (bne_iff_ne.2 h0), idxS h, Zo]
    exact tot_some (.inr ⟨_, rfl, h0, i, _, List.getElem?_eq_getElem h, fun h2 => h0 (hq.2 h2)⟩)
  ·rw [dnlt (by omega), if_neg (by decide)]
   refine tot_some (.inl ⟨rfl, fun j x hj hx => ?_⟩)
   have := (List.getElem?_eq_some_iff.1 hx).1
   omega
theorem valid2 {l : List GFile} (hl : l.length ≤ 20000) (hp : ∀ f ∈ l, 3 ≤ f.kind → pathL f.name.data.toList = true) : ∀ (c i : Nat), i ≤ l.length → l.length - i < c → Tot (ref17_Valid_L2 NF l c (i : Int)) fun r => (r = .inl () ∧ ∀ x ∈ l.drop i, okPlace l x = true) ∨ (∃ v, r = .inr v ∧ v.2 ≠ 0 ∧ ∃ x ∈ l, okPlace l x = false)
 | 0, _, _, h => by omega
 | c + 1, i, hi, hc => by
  have hNF : NF = 30000 := rfl
  rw [ref17_Valid_L2]
  by_cases h : i < l.length
  ·have hm : l[i] ∈ l := List.getElem_mem h
   have hpx := hp _ hm
   have ih := valid2 hl hp c (i + 1) (by omega) (by omega)
   rw [dlt h, if_pos rfl, idxS h, Zo, wr1 (by omega), List.drop_eq_getElem_cons h]
   generalize l[i] = x at hm hpx
   have go : okPlace l x = true → Tot (ref17_Valid_L2 NF l c ((i + 1 : Nat) : Int)) fun r => (r = .inl () ∧ ∀ y ∈ x :: l.drop (i + 1), okPlace l y = true) ∨ (∃ v, r = .inr v ∧ v.2 ≠ 0 ∧ ∃ y ∈ l, okPlace l y = false) := fun ho => ih.mono fun r hr => by
    rcases hr with ⟨h1, h2⟩ | h1
    ·refine .inl ⟨h1, fun y hy => ?_⟩
     rcases List.mem_cons.1 hy with rfl | hy
     ·exact ho
     ·exact h2 y hy
    ·exact .inr h1
   have no : okPlace l x = false → Tot (some (.inr (x.at_, 21)) : Option (Unit ⊕ (Int × Int))) fun r => (r = .inl () ∧ ∀ y ∈ x :: l.drop (i + 1), okPlace l y = true) ∨ (∃ v, r = .inr v ∧ v.2 ≠ 0 ∧ ∃ y ∈ l, okPlace l y = false) := fun ho => tot_some (.inr ⟨_, rfl, show (21 : Int) ≠ 0 by decide, x, hm, ho⟩)
   have key : okPlace l x = if decide (x.name = { data := #[47] }) then !(x.kind == 4) else (!itemB x || toldB l 3 (parentT x.name)) := rfl
   rw [beqS, show ref17_item NF x = some (itemB x) from rfl]
   cases hn : decide (x.name = { data := #[47] }) with
   | true =>
    rw [hn, if_pos rfl] at key
    rw [if_pos rfl]
    cases hk : (x.kind == 4) with
    | true =>
     rw [hk] at key
     exact no key
    | false =>
     rw [hk] at key
     rw [if_neg (show ¬ false = true by decide), Zo]
     cases itemB x <;> exact go key
   | false =>
    rw [hn, if_neg (show ¬ false = true by decide)] at key
    rw [if_neg (show ¬ false = true by decide), Zo]
    cases hi3 : itemB x with
    | false =>
     rw [hi3] at key
     exact go key
    | true =>
     rw [hi3, Bool.not_true, Bool.false_or] at key
     rw [if_pos rfl, parent_ok (hpx (of_decide_eq_true hi3)), Zo, told_some (by omega) (by omega), Zo]
     cases ht : toldB l 3 (parentT x.name) with
     | true =>
      rw [ht] at key
      exact go key
     | false =>
      rw [ht] at key
      exact no key
  ·rw [dnlt (by omega), if_neg (by decide), List.drop_eq_nil_of_le (by omega)]
   exact tot_some (.inl ⟨rfl, fun x hx => by cases hx⟩)
theorem valid_some {l : List GFile} (hl : l.length ≤ 20000) (hs : ∀ f ∈ l, sizF f) (hp : ∀ f ∈ l, 3 ≤ f.kind → pathL f.name.data.toList = true) : Tot (ref17_Valid NF l) fun r => (r.2 = 0 ↔ ValidF l) := by
 have hNF : NF = 30000 := rfl
 unfold ref17_Valid
 have h1 : Tot (ref17_Valid_L1 NF l NF 0) _ := valid1 hl hs NF 0 (by omega) (by omega)
 have h2 : Tot (ref17_Valid_L2 NF l NF 0) _ := valid2 hl hp NF 0 (by omega) (by omega)
 refine tot_bind h1 fun r hr => ?_
 rcases hr with ⟨rfl, a1⟩ | ⟨v, rfl, v1, j, x, hx, hne⟩
 ·dsimp only
  refine tot_bind h2 fun r hr => ?_
  rcases hr with ⟨rfl, a2⟩ | ⟨v, rfl, v1, x, hx, hne⟩
  ·refine tot_some ⟨fun _ => ⟨fun i x hx => (a1 i x (Nat.zero_le _) hx).1, fun x hx => ?_, fun x hx => ?_, fun x hx => a2 x hx⟩, fun _ => rfl⟩
   ·obtain ⟨i, hi⟩ := List.getElem?_of_mem hx
    exact (a1 i x (Nat.zero_le _) hi).2.1
   ·obtain ⟨i, hi⟩ := List.getElem?_of_mem hx
    exact (a1 i x (Nat.zero_le _) hi).2.2
  ·refine tot_some ⟨fun h => absurd h v1, fun h => ?_⟩
   rw [h.place x hx] at hne
   cases hne
 ·refine tot_some ⟨fun h => absurd h v1, fun h => ?_⟩
  have hm := List.mem_of_getElem? hx
  exact absurd ⟨h.apart j x hx, h.known x hm, h.items x hm⟩ hne
end Go.Proofs.YtgmhbmcdlkajdaaGreatDoor.Ab
