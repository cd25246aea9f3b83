/-
 Entries with their mask: what the document answers of a row. No program in sight.
-/
import Derived.Test.YtgmhbmcdlkajdaaGreatDoorPem
namespace Go.Proofs.YtgmhbmcdlkajdaaGreatDoor.Ab
open Go.RowKit Go.Sort Go.Shelf
theorem cnt_one {α : Type} {p : α → Bool} : ∀ {l : List α}, (l.Pairwise fun x y => ¬ (p x = true ∧ p y = true)) → l.countP p = if l.any p then 1 else 0
 | [], _ => rfl
 | x :: l, h => by
  obtain ⟨h1, h2⟩ := List.pairwise_cons.1 h
  have ih := cnt_one h2
  rw [List.countP_cons, List.any_cons, ih]
  cases hp : p x with
  | false => simp
  | true =>
   have : l.any p = false := List.any_eq_false.2 fun y hy e => h1 y hy ⟨hp, e⟩
   rw [this]
   rfl
def has (k : Int) (l : List GEntry) : Bool := l.any fun x => x.kind == k
theorem need_split : ∀ l : List GEntry, l.countP need1 = l.countP (fun x => x.kind == 1) + l.countP (fun x => x.kind == 6) + l.countP (fun x => x.kind == 3)
 | [] => rfl
 | x :: l => by
  rw [List.countP_cons, List.countP_cons, List.countP_cons, List.countP_cons, need_split l]
  unfold need1
  have k13 : (x.kind == 1) = true → (x.kind == 3) = false ∧ (x.kind == 6) = false := fun h => by
   rw [eq_of_beq h]
   decide
  have k63 : (x.kind == 6) = true → (x.kind == 3) = false := fun h => by
   rw [eq_of_beq h]
   decide
  revert k13 k63
  cases (x.kind == 1) <;> cases (x.kind == 6) <;> cases (x.kind == 3) <;> intro k13 k63 <;> simp at k13 k63 ⊢ <;> omega
def rowE (d : Bool) (l : List GEntry) : Prop := (∀ x ∈ l, textOK x = true) ∧ (∀ x ∈ l, x.default = d) ∧ Apart l
theorem plain_name {x : GEntry} {k : Int} (h : textOK x = true) (hk : x.kind = k) (h2 : k ≠ 2) (h4 : k ≠ 4) : x.name = { data := #[] } := by
 refine (textOK_iff h).2.2.2 ?_
 unfold namedE
 rw [hk]
 simp [h2, h4]
theorem rowE.one {d : Bool} {l : List GEntry} (h : rowE d l) {k : Int} (h2 : k ≠ 2) (h4 : k ≠ 4) : l.countP (fun x => x.kind == k) = if has k l then 1 else 0 := by
 obtain ⟨t, e, a⟩ := h
 refine cnt_one (List.Pairwise.imp_of_mem (fun {x y} hx hy hne => ?_) a)
 rintro ⟨p1, p2⟩
 have p1 := eq_of_beq p1
 have p2 := eq_of_beq p2
 exact hne (cfE_zero.2 ⟨(e x hx).trans (e y hy).symm, p1.trans p2.symm, (plain_name (t x hx) p1 h2 h4).trans (plain_name (t y hy) p2 h2 h4).symm⟩)
def whole3 (l : List GEntry) : Bool := has 1 l && (has 3 l && has 6 l)
theorem need_three {d : Bool} {l : List GEntry} (h : rowE d l) : (((l.countP need1 : Nat) : Int) != 3) = !whole3 l := by
 rw [need_split, h.one (by decide) (by decide), h.one (by decide) (by decide), h.one (by decide) (by decide)]
 unfold whole3
 cases has 1 l <;> cases has 3 l <;> cases has 6 l <;> rfl
def maskE (d : Bool) (l : List GEntry) : List GEntry := if l.any isM then [] else [⟨5, d, ByteArray.empty, l.foldl orK 0⟩]
def partE (d : Bool) (l : List GEntry) : List GEntry := srtE (l ++ maskE d l)
theorem kind_lt {x y : GEntry} (hd : x.default = y.default) (h : x.kind < y.kind) : cfE x y < 0 := by
 rw [cfE_def, if_pos (by rw [hd]), if_neg (by omega)]
 exact cmI_neg.2 h
theorem put_mask {d : Bool} {l out : List GEntry} (h : rowE d l) (hs : SSE out) (hp : out.Perm l) (hw : whole3 l = true) (hm : l.any isM = false) (b : Int) : 0 < out.length ∧ ∀ z, out[out.length - 1]? = some z → out.take (out.length - 1) ++ [⟨5, d, ByteArray.empty, b⟩, z] = srtE (l ++ [⟨5, d, ByteArray.empty, b⟩]) := by
 obtain ⟨t, e, a⟩ := h
 unfold whole3 at hw
 simp only [Bool.and_eq_true] at hw
 obtain ⟨y6, m6, k6⟩ := List.any_eq_true.1 hw.2.2
 have k6 := eq_of_beq k6
 have m6 := hp.mem_iff.2 m6
 have h0 : 0 < out.length := List.length_pos_of_mem m6
 refine ⟨h0, fun z hz => ?_⟩
 have hzm : z ∈ out := List.mem_of_getElem? hz
 have hzl := hp.mem_iff.1 hzm
 have hzg : out[out.length - 1] = z := (List.getElem?_eq_some_iff.1 hz).2
 have hz6 : z.kind = 6 := by
  obtain ⟨i, hi⟩ := List.getElem?_of_mem m6
  have hil := (List.getElem?_eq_some_iff.1 hi).1
  have hig := (List.getElem?_eq_some_iff.1 hi).2
  by_cases e1 : i = out.length - 1
  ·rw [e1, hz, Option.some.injEq] at hi
   rw [hi]
   exact k6
  ·have := List.pairwise_iff_getElem.1 hs i (out.length - 1) hil (by omega) (by omega)
   rw [hig, hzg] at this
   have hle := (textOK_iff (t z hzl)).1
   by_cases e2 : z.kind = 6
   ·exact e2
   ·exfalso
    have g := kind_lt (x := z) (y := y6) ((e z hzl).trans (e y6 (hp.mem_iff.1 m6)).symm) (by omega)
    have := pre_E.neg z y6
    omega
 have hsplit : out = out.take (out.length - 1) ++ [z] := by
  conv => lhs; rw [← List.take_append_drop (out.length - 1) out]
  congr 1
  rw [List.drop_eq_getElem_cons (by omega), hzg, List.drop_eq_nil_of_le (by omega)]
 have hs2 := hs
 rw [hsplit] at hs2
 obtain ⟨s1, _, s3⟩ := List.pairwise_append.1 hs2
 refine srtE_of ?_ ?_
 ·refine List.pairwise_append.2 ⟨s1, List.pairwise_cons.2 ⟨fun y hy => ?_, List.pairwise_singleton ..⟩, fun x hx y hy => ?_⟩
  ·obtain rfl := List.mem_singleton.1 hy
   exact kind_lt (e _ hzl).symm (by rw [hz6]; show (5 : Int) < 6; decide)
  ·have hxo : x ∈ out := List.mem_of_mem_take hx
   have hxl := hp.mem_iff.1 hxo
   have hxz := s3 x hx z (List.mem_singleton.2 rfl)
   rcases List.mem_cons.1 hy with rfl | hy
   ·refine kind_lt (e x hxl) ?_
    show x.kind < 5
    have hle := (textOK_iff (t x hxl)).1
    have h5 : x.kind ≠ 5 := fun e5 => by
     have := List.any_eq_false.1 hm x hxl
     apply this
     unfold isM
     rw [e5]
     rfl
    have h6 : x.kind ≠ 6 := fun e6 => by
     have := cfE_zero.2 ⟨(e x hxl).trans (e z hzl).symm, e6.trans hz6.symm, (plain_name (t x hxl) e6 (by decide) (by decide)).trans (plain_name (t z hzl) hz6 (by decide) (by decide)).symm⟩
     omega
    omega
   ·obtain rfl := List.mem_singleton.1 hy
    exact hxz
 ·have h1 : (out.take (out.length - 1) ++ [⟨5, d, ByteArray.empty, b⟩, z]).Perm ((out.take (out.length - 1) ++ [z]) ++ [⟨5, d, ByteArray.empty, b⟩]) := by
   rw [List.append_assoc]
   refine List.Perm.append_left _ ?_
   exact List.Perm.swap ..
  rw [← hsplit] at h1
  exact h1.trans (hp.append_right _)
theorem mem_fl {d : Bool} {l : List GEntry} {x : GEntry} : x ∈ fl d l ↔ x ∈ l ∧ x.default = d := by
 unfold fl
 rw [List.mem_filter]
 simp
theorem masked_some {n : Nat} {es : List GEntry} {d : Bool} (hl : es.length < 1000000) (hn : es.length < n) (ht : ∀ x ∈ es, textOK x = true) :
  ref17_masked n es d = some (if Apart (fl d es) then (if d && (fl d es).isEmpty then ([], true) else if whole3 (fl d es) then (partE d (fl d es), true) else ([], false)) else ([], false)) := by
 unfold ref17_masked
 have hL := masked_loop (n := n) (es := es) (d := d) hl hn n 0 [] 0 false 0 (by omega) (by omega) (by simp) (by omega) List.Pairwise.nil
 rw [List.drop_zero, List.nil_append, Bool.false_or, Nat.zero_add] at hL
 rcases hL with ⟨e, ha⟩ | ⟨out, e, hs, hp⟩
 ·have e : ref17_masked_L1 n es d n ([], 0, false, 0, 0) = _ := e
  rw [e, if_neg ha]
  rfl
 ·have e : ref17_masked_L1 n es d n ([], 0, false, 0, 0) = _ := e
  have ha : Apart (fl d es) := hs.apart.perm hp.symm
  have hok : rowE d (fl d es) := ⟨fun x hx => ht x (mem_fl.1 hx).1, fun x hx => (mem_fl.1 hx).2, ha⟩
  have hlen : out.length = (fl d es).length := hp.length_eq
  have hle : (fl d es).length ≤ es.length := List.length_filter_le ..
  rw [e, if_pos ha, Zo]
  dsimp only
  have e1 : ((if d then some (true, ((out.length : Int) == 0)) else some (false, false)) : Option (Bool × Bool)) = some (d, d && (fl d es).isEmpty) := by
   cases d with
   | false => rfl
   | true =>
    rw [if_pos rfl, Bool.true_and, hlen]
    congr 2
    cases fl true es <;> rfl
  rw [e1, Zo]
  dsimp only
  cases he : (d && (fl d es).isEmpty) with
  | true => rfl
  | false =>
   rw [if_neg (show ¬ false = true by decide), need_three hok, if_neg (show ¬ false = true by decide)]
   cases hw : whole3 (fl d es) with
   | false => rfl
   | true =>
    rw [Bool.not_true, if_neg (by decide), if_pos rfl]
    unfold partE maskE
    cases hm : (fl d es).any isM with
    | true =>
     rw [if_pos rfl, if_pos rfl, List.append_nil, srtE_of hs hp]
    | false =>
     rw [if_neg (show ¬ false = true by decide), if_neg (show ¬ false = true by decide)]
     obtain ⟨h0, hz⟩ := put_mask hok hs hp hw hm ((fl d es).foldl orK 0)
     have hsl : slc out 0 (((out.length - 1 : Nat)) : Int) = some (out.take (out.length - 1)) := by
      have := slcS (xs := out) (a := 0) (b := out.length - 1) (Nat.zero_le _) (by omega)
      rwa [List.drop_zero] at this
     have hlast : out[out.length - 1]? = some (out[out.length - 1]'(by omega)) := List.getElem?_eq_getElem (by omega)
     rw [decide_eq_false (show ¬ out.length = 0 by omega), if_neg (show ¬ false = true by decide), wr (by omega) (by omega), show ((out.length : Int) - 1) = ((out.length - 1 : Nat) : Int) by omega, hsl, Zo, appS (by simp; omega), Zo, idxS (by omega), Zo, appS (by simp; omega), Zo, hz _ hlast]
def OKE (es : List GEntry) : Bool := (es.all textOK) && (decide (Apart (fl false es)) && (whole3 (fl false es) && (decide (Apart (fl true es)) && (((fl true es).isEmpty || whole3 (fl true es)) && decide ((partE false (fl false es)).length + (if (fl true es).isEmpty then [] else partE true (fl true es)).length ≤ 100)))))
def allE (es : List GEntry) : List GEntry := partE false (fl false es) ++ (if (fl true es).isEmpty then [] else partE true (fl true es))
theorem acl_loop {n : Nat} {es : List GEntry} (hl : es.length < 1000000) (hn : 10 < n) (hs : ∀ x ∈ es, x.name.size < n ∧ x.name.size < 4611686018427387904) : ∀ (c i : Nat), i ≤ es.length → es.length - i < c → ref17_Acl_L1 n es c (i : Int) = some (if (es.drop i).all textOK then .inl () else .inr ([], false))
 | 0, _, _, h => by omega
 | c + 1, i, hi, hc => by
  rw [ref17_Acl_L1]
  by_cases h : i < es.length
  ·have hx := hs _ (List.getElem_mem h)
   obtain ⟨r, e, hr⟩ := etext_tot (n := n) (x := es[i]) hx.1 hn hx.2
   rw [dlt h, if_pos rfl, idxS h, Zo, e, Zo, hr, List.drop_eq_getElem_cons h, List.all_cons, wr1 (by omega)]
   cases textOK es[i] with
   | false => rfl
   | true =>
    rw [if_pos rfl, Bool.true_and]
    exact acl_loop hl hn hs c (i + 1) (by omega) (by omega)
  ·rw [dnlt (by omega), if_neg (by decide), List.drop_eq_nil_of_le (by omega)]
   rfl
theorem fl_len (d : Bool) (es : List GEntry) : (fl d es).length ≤ es.length := List.length_filter_le ..
theorem partE_len (d : Bool) (l : List GEntry) : (partE d l).length ≤ l.length + 1 := by
 unfold partE maskE
 rw [srtE_len, List.length_append]
 split <;> simp
theorem acl17_some {n : Nat} {es : List GEntry} (hl : es.length < 1000000) (hn : es.length + 10 < n) (hs : ∀ x ∈ es, x.name.size < n ∧ x.name.size < 4611686018427387904) : ref17_Acl n es = some (if OKE es then (allE es, true) else ([], false)) := by
 unfold ref17_Acl
 have hL : ref17_Acl_L1 n es n 0 = _ := acl_loop hl (by omega) hs n 0 (by omega) (by omega)
 rw [hL, List.drop_zero]
 unfold OKE allE
 cases ht : es.all textOK with
 | false => rfl
 | true =>
  have ht2 : ∀ x ∈ es, textOK x = true := List.all_eq_true.1 ht
  have l1 := fl_len false es
  have l2 := fl_len true es
  have l3 := partE_len false (fl false es)
  have l4 := partE_len true (fl true es)
  rw [if_pos rfl, Zo]
  dsimp only
  rw [masked_some hl (by omega) ht2, masked_some hl (by omega) ht2, Zo, Zo, Bool.false_and, Bool.true_and, Bool.true_and, if_neg (show ¬ false = true by decide)]
  by_cases a1 : Apart (fl false es)
  ·rw [if_pos a1, decide_eq_true a1, Bool.true_and]
   cases w1 : whole3 (fl false es) with
   | false => rfl
   | true =>
    rw [if_pos rfl, Bool.true_and]
    by_cases a2 : Apart (fl true es)
    ·rw [if_pos a2, decide_eq_true a2, Bool.true_and]
     have fin : ∀ b : List GEntry, b.length ≤ es.length + 1 → ((if (decide (100 < (IntKind.i64.wrap (((partE false (fl false es)).length : Int) + (b.length : Int))))) then some ([], false) else (app [] (partE false (fl false es))).bind fun l2 => (app (partE false (fl false es)) b).bind fun l3 => some (l3, true)) : Option (List GEntry × Bool)) = some (if decide ((partE false (fl false es)).length + b.length ≤ 100) then (partE false (fl false es) ++ b, true) else ([], false)) := fun b hb => by
      rw [wr (by omega) (by omega)]
      by_cases h : (partE false (fl false es)).length + b.length ≤ 100
      ·rw [show decide (100 < (((partE false (fl false es)).length : Int) + (b.length : Int))) = false from decide_eq_false (by omega), if_neg (by decide), appS (by simp; omega), Zo, appS (by omega), Zo, decide_eq_true h]
       rfl
      ·rw [show decide (100 < (((partE false (fl false es)).length : Int) + (b.length : Int))) = true from decide_eq_true (by omega), if_pos rfl, decide_eq_false h]
       rfl
     cases e2 : (fl true es).isEmpty with
     | true =>
      rw [if_pos rfl, if_pos rfl, if_pos rfl, Bool.true_or, Bool.true_and]
      exact fin [] (by simp)
     | false =>
      rw [if_neg (show ¬ false = true by decide), Bool.false_or, if_neg (show ¬ false = true by decide)]
      cases w2 : whole3 (fl true es) with
      | false => rfl
      | true =>
       rw [if_pos rfl, if_pos rfl, if_pos rfl, Bool.true_and]
       exact fin (partE true (fl true es)) (by omega)
    ·rw [if_neg a2, decide_eq_false a2]
     rfl
  ·rw [if_neg a1, decide_eq_false a1]
   rfl
end Go.Proofs.YtgmhbmcdlkajdaaGreatDoor.Ab
