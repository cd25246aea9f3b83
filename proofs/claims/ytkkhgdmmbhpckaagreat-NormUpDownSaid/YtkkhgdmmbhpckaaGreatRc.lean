/-
 What is below what: norm.reach, below, Down, Ring told plainly. No program in sight.
-/
import Derived.Test.YtkkhgdmmbhpckaaGreatNua
import Derived.Test.YtkkhgdmmbhpckaaGreatMl
namespace Go.Proofs.YtkkhgdmmbhpckaaGreat.Ab
open Go.RowKit
attribute [local instance] baLawful
inductive Rch (s : ByteArray → List ByteArray) (a : ByteArray) : ByteArray → Prop
 | refl : Rch s a a
 | step {b c : ByteArray} (h : Rch s a b) (hc : c ∈ s b) : Rch s a c
theorem Rch.trans {s : ByteArray → List ByteArray} {a b c : ByteArray} (h : Rch s a b) (k : Rch s b c) : Rch s a c := by
 induction k with
 | refl => exact h
 | step _ hc ih => exact ih.step hc
theorem Rch.head {s : ByteArray → List ByteArray} {a b c : ByteArray} (h : b ∈ s a) (k : Rch s b c) : Rch s a c := (Rch.refl.step h).trans k
theorem Rch.first {s : ByteArray → List ByteArray} {a c : ByteArray} (h : Rch s a c) : a = c ∨ ∃ b, b ∈ s a ∧ Rch s b c := by
 induction h with
 | refl => exact .inl rfl
 | step h hc ih =>
  rcases ih with rfl | ⟨b, h1, h2⟩
  ·exact .inr ⟨_, hc, .refl⟩
  ·exact .inr ⟨b, h1, h2.step hc⟩
theorem Rch.mono {s t : ByteArray → List ByteArray} {a c : ByteArray} (h : Rch s a c) (k : ∀ x y, y ∈ s x → Rch t x y) : Rch t a c := by
 induction h with
 | refl => exact .refl
 | step _ hc ih => exact ih.trans (k _ _ hc)
theorem nodup_len : ∀ {l U : List ByteArray}, l.Nodup → (∀ x ∈ l, x ∈ U) → l.length ≤ U.length
 | [], U, _, _ => Nat.zero_le _
 | x :: l, U, h, hU => by
  obtain ⟨h1, h2⟩ := List.nodup_cons.1 h
  have hx := hU x (List.mem_cons_self ..)
  have := nodup_len (U := U.erase x) h2 fun y hy => (List.mem_erase_of_ne (by rintro rfl; exact h1 hy)).2 (hU y (List.mem_cons_of_mem _ hy))
  rw [List.length_erase_of_mem hx] at this
  have := List.length_pos_of_mem hx
  rw [List.length_cons]
  omega
def nxt (next : List (ByteArray × List ByteArray)) (x : ByteArray) : List ByteArray := mgetD x [] next
structure Mk (seen : List (ByteArray × Int)) (out : List ByteArray) : Prop where
 m : ∀ x, ((mgetD x 0 seen == 0) = true) ↔ x ∉ out
 d : out.Nodup
theorem Mk.add {seen : List (ByteArray × Int)} {out : List ByteArray} (h : Mk seen out) {x : ByteArray} (hx : x ∉ out) : Mk (mset x 1 seen) (out ++ [x]) where
 m y := by
  rw [mset_get]
  cases e : (y == x) with
  | true =>
   have : y = x := by simpa using e
   subst this
   simp
  | false =>
   have : y ≠ x := by simpa using e
   rw [if_neg (by decide), h.m y]
   simp [this]
 d := List.nodup_append.2 ⟨h.d, by simp, fun a ha b hb => by simp at hb; subst hb; exact fun e => hx (e ▸ ha)⟩
section
variable {n : Nat} {next : List (ByteArray × List ByteArray)} {U : List ByteArray} (hs : ∀ x y, y ∈ nxt next x → y ∈ U) (hb : U.length ≤ 2147483648) (hb2 : ∀ x, (nxt next x).length ≤ 2147483648)
include hs hb hb2 in
theorem reach2 (x : ByteArray) : ∀ (c j : Nat) (seen : List (ByteArray × Int)) (out : List ByteArray), j ≤ (nxt next x).length → (nxt next x).length - j < c → Mk seen out → (∀ y ∈ out, y ∈ U) →
  ∃ seen' out', norm_reach_L2 n next x c (seen, out, (j : Int)) = some (seen', out') ∧ Mk seen' out' ∧ (∀ y, y ∈ out' ↔ y ∈ out ∨ y ∈ (nxt next x).drop j) ∧ out <+: out' ∧ (∀ y ∈ out', y ∈ U)
 | 0, _, _, _, _, h, _, _ => by omega
 | c + 1, j, seen, out, hj, hc, hm, hU => by
  have hl := hb2 x
  rw [norm_reach_L2]
  by_cases h : j < (nxt next x).length
  ·have h' : j < (mgetD x [] next).length := h
   rw [dlt h', if_pos rfl, idxS h', Zo, wr1 (by omega)]
   have hmem : (nxt next x)[j] ∈ nxt next x := List.getElem_mem h
   have hd : (nxt next x).drop j = (nxt next x)[j] :: (nxt next x).drop (j + 1) := List.drop_eq_getElem_cons h
   by_cases hx : (nxt next x)[j] ∈ out
   ·have : ¬ ((mgetD (nxt next x)[j] 0 seen == 0) = true) := fun e => (hm.m _).1 e hx
    obtain ⟨s', o', h1, h2, h3, h4, h5⟩ := reach2 x c (j + 1) seen out (by omega) (by omega) hm hU
    refine ⟨s', o', (if_neg this).trans h1, h2, fun y => (h3 y).trans ?_, h4, h5⟩
    rw [hd, List.mem_cons]
    constructor
    ·rintro (h | h)
     ·exact .inl h
     ·exact .inr (.inr h)
    ·rintro (h | rfl | h)
     ·exact .inl h
     ·exact .inl hx
     ·exact .inr h
   ·have hU2 : ∀ y ∈ out ++ [(nxt next x)[j]], y ∈ U := fun y hy => by
     rcases List.mem_append.1 hy with hy | hy
     ·exact hU y hy
     ·simp at hy; subst hy; exact hs x _ hmem
    have hm2 := hm.add hx
    have hlen := nodup_len hm2.d hU2
    rw [List.length_append, List.length_singleton] at hlen
    obtain ⟨s', o', h1, h2, h3, h4, h5⟩ := reach2 x c (j + 1) _ _ (by omega) (by omega) hm2 hU2
    have happ : app out [(nxt next x)[j]] = some (out ++ [(nxt next x)[j]]) := appS (by simp; omega)
    refine ⟨s', o', (if_pos ((hm.m _).2 hx)).trans ?_, h2, fun y => (h3 y).trans ?_, (List.prefix_append _ _).trans h4, h5⟩
    ·refine (congrArg (fun z => Option.bind z _) happ).trans ?_
     rw [Zo]
     exact h1
    ·rw [hd, List.mem_cons, List.mem_append, List.mem_singleton, or_assoc]
  ·have h' : (mgetD x [] next).length ≤ j := by
    have : ¬ j < (mgetD x [] next).length := h
    omega
   rw [dnlt h', if_neg (by decide)]
   refine ⟨seen, out, rfl, hm, fun y => ?_, List.prefix_refl _, hU⟩
   rw [List.drop_eq_nil_of_le (by omega)]
   simp
include hs hb hb2 in
theorem reach1 {role : ByteArray} (hn2 : ∀ x, (nxt next x).length < n) : ∀ (c i : Nat) (seen : List (ByteArray × Int)) (out : List ByteArray), i ≤ out.length → U.length - i < c → Mk seen out → (∀ y ∈ out, y ∈ U) → (∀ y ∈ out, Rch (nxt next) role y) → (∀ j (hj : j < out.length), j < i → ∀ y ∈ nxt next out[j], y ∈ out) → role ∈ out →
  ∃ out', norm_reach_L1 n next c (seen, out, (i : Int)) = some out' ∧ out'.Nodup ∧ (∀ y, y ∈ out' ↔ Rch (nxt next) role y) ∧ (∀ y ∈ out', y ∈ U)
 | 0, _, _, _, _, h, _, _, _, _, _ => by omega
 | c + 1, i, seen, out, hi, hc, hm, hU, hr, hcl, hro => by
  have hlen := nodup_len hm.d hU
  rw [norm_reach_L1]
  by_cases h : i < out.length
  ·rw [dlt h, if_pos rfl, idxS h, Zo]
   obtain ⟨s', o', h1, h2, h3, h4, h5⟩ := reach2 (n := n) hs hb hb2 out[i] n 0 seen out (Nat.zero_le _) (by have := hn2 out[i]; omega) hm hU
   rw [List.drop_zero] at h3
   have hlen2 := nodup_len h2.d h5
   have h1 : norm_reach_L2 n next out[i] n (seen, out, 0) = some (s', o') := h1
   rw [h1, Zo, wr1 (by omega)]
   obtain ⟨t, rfl⟩ := h4
   refine reach1 hn2 c (i + 1) s' (out ++ t) (by rw [List.length_append]; omega) ?_ h2 h5 (fun y hy => ?_) (fun j hj hji y hy => ?_) (List.mem_append_left _ hro)
   ·have : i < U.length := by omega
    omega
   ·rcases (h3 y).1 hy with hy | hy
    ·exact hr y hy
    ·exact (hr _ (List.getElem_mem h)).step hy
   ·have hj2 : j < out.length := by omega
    rw [List.getElem_append_left hj2] at hy
    rcases Nat.lt_or_ge j i with hlt | hge
    ·exact List.mem_append_left _ (hcl j hj2 hlt y hy)
    ·have : j = i := by omega
     subst this
     exact (h3 y).2 (.inr hy)
  ·rw [dnlt (by omega), if_neg (by decide)]
   refine ⟨out, rfl, hm.d, fun y => ⟨hr y, fun hy => ?_⟩, hU⟩
   induction hy with
   | refl => exact hro
   | step _ hcc ih =>
    obtain ⟨j, hj, e⟩ := List.getElem_of_mem ih
    rw [← e] at hcc
    exact hcl j hj (by omega) _ hcc
include hs hb hb2 in
theorem reach_some {role : ByteArray} (hn : U.length < n) (hn2 : ∀ x, (nxt next x).length < n) (hro : role ∈ U) : ∃ l, norm_reach n role next = some l ∧ tx.Rises l ∧ (∀ y, y ∈ l ↔ Rch (nxt next) role y) := by
 have hm0 : Mk (mset role 1 []) [role] := by
  have := Mk.add (seen := []) (out := []) ⟨fun x => by simp [mgetD, mget], List.nodup_nil⟩ (x := role) (by simp)
  simpa using this
 obtain ⟨o, h1, h2, h3, h4⟩ := reach1 hs hb hb2 hn2 (role := role) n 0 (mset role 1 []) [role] (Nat.zero_le _) (by omega) hm0 (fun y hy => by simp at hy; subst hy; exact hro) (fun y hy => by simp at hy; subst hy; exact .refl) (fun j _ hj => by omega) (List.mem_singleton.2 rfl)
 have h1 : norm_reach_L1 n next n ((mset role 1 []), [role], 0) = some o := h1
 have hlen := nodup_len h2 h4
 have hro2 : role ∈ o := (h3 role).2 .refl
 have hpos := List.length_pos_of_mem hro2
 unfold norm_reach
 rw [h1, Zo, show sort_T n o = some (srtT o) from if_pos ⟨hpos, by omega⟩, Zo]
 refine ⟨srtT o, rfl, ?_, fun y => (srt_mem o y).trans (h3 y)⟩
 have hs2 := srt_sorted o
 have hd2 : (srtT o).Nodup := by
  have hp : ((o.map toT).mergeSort fun x y => decide (x ≤ y)).Perm (o.map toT) := List.mergeSort_perm _ _
  have hp2 : (srtT o).Perm ((o.map toT).map ofT) := hp.map ofT
  have e : (o.map toT).map ofT = o := by
   rw [List.map_map]
   exact (List.map_congr_left fun x _ => rfl).trans (List.map_id _)
  rw [e] at hp2
  exact hp2.nodup_iff.2 h2
 exact (hs2.and hd2).imp fun {a b} ⟨h1, h2⟩ => by
  cases hlt : tx.lt a b with
  | true => rfl
  | false => exact absurd (tx.total hlt h1) h2
end
end Go.Proofs.YtkkhgdmmbhpckaaGreat.Ab
