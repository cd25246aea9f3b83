/-
 The law's loop over the new entries. No program in sight.
-/
import Derived.Test.YtgmhbmcdlkajdaaGreatDoorGlf
import Derived.Test.YtgmhbmcdlkajdaaGreatDoorGrb
namespace Go.Proofs.YtgmhbmcdlkajdaaGreatDoor.Ab
open Go.RowKit
def isDir (q : ByteArray) (f : GFile) : Bool := (f.kind == 3) && decide (f.name = q)
abbrev StD := Int × ByteArray × List ByteArray × ByteArray × ByteArray × List GEntry × Int
def stD (f : GFile) : StD := (f.kind, f.name, f.users, f.owner, f.group, f.acl, f.at_)
theorem dir_loop {l : List GFile} {p : ByteArray} (hl : l.length < 1000000) (hp : ref17_Parent NF p = some (parentT p)) : ∀ (c i : Nat) (s : StD), i ≤ l.length → l.length - i < c → law19_GainRule_L1 NF l p c (s.1, s.2.1, s.2.2.1, s.2.2.2.1, s.2.2.2.2.1, s.2.2.2.2.2.1, s.2.2.2.2.2.2, (i : Int)) = some ((l.drop i).foldl (fun s f => if isDir (parentT p) f then stD f else s) s)
 | 0, _, _, _, h => by omega
 | c + 1, i, s, hi, hc => by
  rw [law19_GainRule_L1]
  by_cases h : i < l.length
  ·rw [dlt h, if_pos rfl, idxS h, Zo, hp, Zo, beqS, wr1 (by omega), List.drop_eq_getElem_cons h, List.foldl_cons, dir_loop hl hp c (i + 1) s (by omega) (by omega)]
   have ih := dir_loop hl hp c (i + 1) (stD l[i]) (by omega) (by omega)
   unfold stD at ih
   dsimp only at ih
   rw [ih]
   unfold isDir stD
   cases (l[i].kind == 3) <;> cases decide (l[i].name = parentT p) <;> rfl
  ·rw [dnlt (by omega), if_neg (by decide), List.drop_eq_nil_of_le (by omega)]
   rfl
theorem dir_fold {q : ByteArray} : ∀ (l : List GFile) (s : StD), ((∀ f ∈ l, isDir q f = false) ∧ l.foldl (fun s f => if isDir q f then stD f else s) s = s) ∨ ∃ f ∈ l, isDir q f = true ∧ l.foldl (fun s f => if isDir q f then stD f else s) s = stD f
 | [], s => .inl ⟨fun f hf => (by cases hf), rfl⟩
 | x :: l, s => by
  rw [List.foldl_cons]
  cases hx : isDir q x with
  | false =>
   rw [if_neg (by decide)]
   rcases dir_fold (q := q) l s with ⟨h1, h2⟩ | ⟨f, h1, h2, h3⟩
   ·refine .inl ⟨fun f hf => ?_, h2⟩
    rcases List.mem_cons.1 hf with rfl | hf
    ·exact hx
    ·exact h1 f hf
   ·exact .inr ⟨f, List.mem_cons_of_mem _ h1, h2, h3⟩
  | true =>
   rw [if_pos rfl]
   rcases dir_fold (q := q) l (stD x) with ⟨h1, h2⟩ | ⟨f, h1, h2, h3⟩
   ·exact .inr ⟨x, List.mem_cons_self .., hx, h2⟩
   ·exact .inr ⟨f, List.mem_cons_of_mem _ h1, h2, h3⟩
theorem dir_same {l : List GFile} (hg : GoodL l) {p : ByteArray} {f : GFile} (hf : f ∈ l) (hd : isDir (parentT p) f = true) : hasD l p = true ∧ allE (findF l (parentT p)).1.acl = allE f.acl ∧ OKE f.acl = true ∧ f.kind = 3 := by
 unfold isDir at hd
 rw [Bool.and_eq_true] at hd
 have hk : f.kind = 3 := eq_of_beq hd.1
 have hn := of_decide_eq_true hd.2
 have hi : itemB f = true := by
  unfold itemB
  exact decide_eq_true (by omega)
 have h2 : (findF l (parentT p)).2 = true := findF_has.2 ⟨f, hf, hi, hn⟩
 obtain ⟨m1, m2, m3⟩ := findF_mem h2
 obtain ⟨a1, _, _, _, a5⟩ := alike_iff.1 (good_pair hg hf m1 ⟨by rw [hn, m3], .inr ⟨hi, m2⟩⟩)
 refine ⟨?_, (a5 hi (oke_item hg hf hi) (oke_item hg m1 m2)).symm, oke_item hg hf hi, hk⟩
 unfold hasD
 rw [h2, ← a1, hk]
 rfl
theorem dir_none {l : List GFile} {p : ByteArray} (h : ∀ f ∈ l, isDir (parentT p) f = false) : hasD l p = false := by
 cases e : hasD l p with
 | false => rfl
 | true =>
  unfold hasD at e
  rw [Bool.and_eq_true] at e
  obtain ⟨m1, m2, m3⟩ := findF_mem e.1
  have := h _ m1
  unfold isDir at this
  rw [e.2, decide_eq_true m3] at this
  cases this
theorem d2_loop {n : Nat} {t : List GEntry × Bool} (hl : t.1.length < 1000000) : ∀ (c i : Nat) (out : List GEntry), i ≤ t.1.length → t.1.length - i < c → out.length ≤ i → law19_GainRule_L2 n t c (out, (i : Int)) = some (out ++ fl true (t.1.drop i))
 | 0, _, _, _, h, _ => by omega
 | c + 1, i, out, hi, hc, ho => by
  rw [law19_GainRule_L2]
  by_cases h : i < t.1.length
  ·rw [dlt h, if_pos rfl, idxS h, Zo, wr1 (by omega), List.drop_eq_getElem_cons h]
   cases hd : t.1[i].default with
   | false =>
    rw [if_neg (by decide), fl_f hd]
    exact d2_loop hl c (i + 1) out (by omega) (by omega) (by omega)
   | true =>
    have e : (⟨t.1[i].kind, true, t.1[i].name, t.1[i].bits⟩ : GEntry) = t.1[i] := by rw [← hd]
    rw [if_pos rfl, fl_t hd, e, appS (by simp; omega), Zo, d2_loop hl c (i + 1) _ (by omega) (by omega) (by simp; omega), List.append_assoc]
    rfl
  ·rw [dnlt (by omega), if_neg (by decide), List.drop_eq_nil_of_le (by omega)]
   show _ = some (out ++ [])
   rw [List.append_nil]
def mtE (a x : GEntry) : Bool := (x.kind == a.kind) && decide (x.name = a.name)
theorem l4_loop {n : Nat} {d : List GEntry} {a : GEntry} {m : Int} (hl : d.length < 1000000) (hok : ∀ x ∈ d, mtE a x = true → ((a.kind = 2 ∨ a.kind = 3 ∨ a.kind = 4) → x.bits = a.bits) ∧ a.bits = IntKind.i64.wrap (an x.bits m : Int)) : ∀ (c i : Nat) (b : Bool), i ≤ d.length → d.length - i < c → law19_GainRule_L4 n d a m c (b, (i : Int)) = some (.inl (b || (d.drop i).any (mtE a)))
 | 0, _, _, _, h => by omega
 | c + 1, i, b, hi, hc => by
  rw [law19_GainRule_L4]
  by_cases h : i < d.length
  ·have ih := fun b => l4_loop (n := n) (m := m) hl hok c (i + 1) b (by omega) (by omega)
   have ho := hok _ (List.getElem_mem h)
   have hm : ((if (d[i].kind == a.kind) then some (d[i].name.toList == a.name.toList) else some false) : Option Bool) = some (mtE a d[i]) := by
    rw [beqS]
    unfold mtE
    cases (d[i].kind == a.kind) <;> rfl
   have hb : ((if b then some true else some (mtE a d[i])) : Option Bool) = some (b || mtE a d[i]) := by cases b <;> rfl
   rw [dlt h, if_pos rfl, idxS h]
   simp only [Zo]
   rw [hm, Zo, hb, Zo, wr1 (by omega), List.drop_eq_getElem_cons h, List.any_cons, ← Bool.or_assoc]
   cases ht : mtE a d[i] with
   | false => rw [if_neg (by decide), ih]
   | true =>
    obtain ⟨h1, h2⟩ := ho ht
    have e2 : (a.bits != IntKind.i64.wrap (an d[i].bits m : Int)) = false := by rw [← h2, bne, beq_self_eq_true]; rfl
    have e1 : (a.kind = 2 ∨ a.kind = 3 ∨ a.kind = 4) → (d[i].bits != a.bits) = false := fun hk => by rw [h1 hk, bne, beq_self_eq_true]; rfl
    rw [if_pos rfl, e2, ih]
    by_cases k2 : a.kind = 2
    ·rw [e1 (.inl k2), k2]; rfl
    ·rw [show (a.kind == 2) = false from beq_eq_false_iff_ne.2 k2, if_neg (by decide)]
     by_cases k3 : a.kind = 3
     ·rw [e1 (.inr (.inl k3)), k3]; rfl
     ·rw [show (a.kind == 3) = false from beq_eq_false_iff_ne.2 k3, if_neg (by decide)]
      by_cases k4 : a.kind = 4
      ·rw [e1 (.inr (.inr k4)), k4]; rfl
      ·rw [show (a.kind == 4) = false from beq_eq_false_iff_ne.2 k4, if_neg (by decide), if_neg (by decide)]
  ·rw [dnlt (by omega), if_neg (by decide), List.drop_eq_nil_of_le (by omega)]
   simp
def mostL (M : Int) : List Int := [0, sh M 6, 7, 7, 7, IntKind.i64.wrap (an (sh M 3) 7 : Int), IntKind.i64.wrap (an M 7 : Int)]
def mostM (M : Int) (d : List GEntry) (a : GEntry) (m0 : Int) : Int := if d.isEmpty && (a.kind == 3) then IntKind.i64.wrap (an (sh M 3) 7 : Int) else m0
def passE (M : Int) (d : List GEntry) (a : GEntry) : Prop := ∃ m0, idx (mostL M) (Int.tmod (IntKind.i64.wrap (an a.kind 7 : Int)) 7) = some m0 ∧ IntKind.i64.wrap (ann a.bits (mostM M d a m0) : Int) = 0 ∧ (d.isEmpty || d.any (mtE a)) = true ∧ (∀ x ∈ d, mtE a x = true → ((a.kind = 2 ∨ a.kind = 3 ∨ a.kind = 4) → x.bits = a.bits) ∧ a.bits = IntKind.i64.wrap (an x.bits (mostM M d a m0) : Int)) ∧ (d.isEmpty = true → a.name.size = 0)
theorem empty_len (d : List GEntry) : ((d.length : Int) == 0) = d.isEmpty := by
 cases d with
 | nil => rfl
 | cons x l => exact beq_eq_false_iff_ne.2 (by rw [List.length_cons]; omega)
theorem flf_t {x : GEntry} {l : List GEntry} (h : x.default = true) : fl false (x :: l) = fl false l := by
 rw [fl_cons, h]
 rfl
theorem flf_f {x : GEntry} {l : List GEntry} (h : x.default = false) : fl false (x :: l) = x :: fl false l := by
 rw [fl_cons, h]
 rfl
theorem l3_loop {t2 : Int} {t : GFile × Int} {d : List GEntry} (hl : t.1.acl.length < 1000000) (hd : d.length ≤ 20000) (hp : ∀ a ∈ t.1.acl, a.default = false → passE (IntKind.i64.wrap (an t2 511 : Int)) d a) : ∀ (c i k : Nat) (out : List GEntry), i ≤ t.1.acl.length → t.1.acl.length - i < c → out.length ≤ i → k ≤ i → law19_GainRule_L3 NF t2 t d c (out, (k : Int), (i : Int)) = some (.inl (out ++ fl true (t.1.acl.drop i), ((k + (fl false (t.1.acl.drop i)).length : Nat) : Int)))
 | 0, _, _, _, _, h, _, _ => by omega
 | c + 1, i, k, out, hi, hc, ho, hk => by
  have hNF : NF = 30000 := rfl
  rw [law19_GainRule_L3]
  by_cases h : i < t.1.acl.length
  ·have hq := hp _ (List.getElem_mem h)
   rw [dlt h, if_pos rfl, idxS h, Zo, wr1 (by omega), List.drop_eq_getElem_cons h]
   cases hdf : t.1.acl[i].default with
   | true =>
    have e : (⟨t.1.acl[i].kind, true, t.1.acl[i].name, t.1.acl[i].bits⟩ : GEntry) = t.1.acl[i] := by rw [← hdf]
    rw [if_pos rfl, fl_t hdf, flf_t hdf, e, appS (by simp; omega), Zo, l3_loop hl hd hp c (i + 1) k _ (by omega) (by omega) (by simp; omega) (by omega), List.append_assoc]
    rfl
   | false =>
    obtain ⟨m0, q1, q2, q3, q4, q5⟩ := hq hdf
    have hL : law19_GainRule_L4 NF d t.1.acl[i] (mostM (IntKind.i64.wrap (an t2 511 : Int)) d t.1.acl[i] m0) NF (d.isEmpty, 0) = _ := l4_loop (by omega) q4 NF 0 d.isEmpty (by omega) (by omega)
    rw [List.drop_zero, q3] at hL
    have ih := l3_loop hl hd hp c (i + 1) (k + 1) out (by omega) (by omega) (by omega) (by omega)
    have e1 : ((if d.isEmpty then some (t.1.acl[i].kind == 3) else some false) : Option Bool) = some (d.isEmpty && (t.1.acl[i].kind == 3)) := by cases d.isEmpty <;> rfl
    have e2 : ((if (d.isEmpty && (t.1.acl[i].kind == 3)) then some (IntKind.i64.wrap (an (sh (IntKind.i64.wrap (an t2 511 : Int)) 3) 7 : Int)) else some m0) : Option Int) = some (mostM (IntKind.i64.wrap (an t2 511 : Int)) d t.1.acl[i] m0) := by
     unfold mostM
     cases d.isEmpty && (t.1.acl[i].kind == 3) <;> rfl
    rw [if_neg (by decide), fl_f hdf, flf_f hdf]
    unfold mostL at q1
    rw [q1, Zo, empty_len, e1, Zo, e2, Zo, q2, if_neg (by decide), hL, Zo]
    dsimp only
    rw [if_pos rfl, wr1 (by omega), ih, List.length_cons, emptyB]
    have e3 : k + 1 + (fl false (t.1.acl.drop (i + 1))).length = k + ((fl false (t.1.acl.drop (i + 1))).length + 1) := by omega
    rw [e3]
    cases hE : d.isEmpty with
    | true => rw [if_pos rfl, decide_eq_true (q5 hE), if_pos rfl]
    | false => rw [if_neg (by decide)]
  ·rw [dnlt (by omega), if_neg (by decide), List.drop_eq_nil_of_le (by omega)]
   show _ = some (Sum.inl (out ++ [], ((k + 0 : Nat) : Int)))
   rw [List.append_nil]
   rfl
end Go.Proofs.YtgmhbmcdlkajdaaGreatDoor.Ab
