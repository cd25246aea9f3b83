/-
 The document's normal form, told plainly. No program in sight.
-/
import Derived.Test.YtkkhgdmmbhpckaaSns
namespace Go.Proofs.Ytkkhgdmmbhpckaa.Ab
open Go.RowKit
attribute [local instance] baLawful
theorem in13_loop {n : Nat} {l : List ByteArray} {s : ByteArray} (hl : l.length < 1000000) : ∀ (c i : Nat), i ≤ l.length → l.length - i < c → ref13_in_L1 n l s c (i : Int) = some (if decide (s ∈ l.drop i) then .inr true else .inl ())
 | 0, _, _, h => by omega
 | c + 1, i, hi, hc => by
  rw [ref13_in_L1]
  by_cases h : i < l.length
  ·rw [dlt h, if_pos rfl, idxS h, Zo, beqS, wr1 (by omega), in13_loop hl c (i + 1) (by omega) (by omega), List.drop_eq_getElem_cons h]
   by_cases e : l[i] = s
   ·rw [decide_eq_true e, if_pos rfl, decide_eq_true (by rw [e]; exact List.mem_cons_self ..), if_pos rfl]
   ·have hd : decide (s ∈ l.drop (i + 1)) = decide (s ∈ l[i] :: l.drop (i + 1)) := by
     rw [Bool.eq_iff_iff, decide_eq_true_eq, decide_eq_true_eq, List.mem_cons]
     exact ⟨fun h => .inr h, fun h => h.resolve_left fun h => e h.symm⟩
    rw [decide_eq_false e, if_neg (by decide), hd]
  ·rw [dnlt (by omega), if_neg (by decide), List.drop_eq_nil_of_le (by omega)]
   rfl
theorem in13_some {n : Nat} {l : List ByteArray} {s : ByteArray} (hl : l.length < 1000000) (hn : l.length < n) : ref13_in n l s = some (decide (s ∈ l)) := by
 have h : ref13_in_L1 n l s n 0 = _ := in13_loop hl n 0 (by omega) (by omega)
 unfold ref13_in
 rw [h, List.drop_zero, Zo]
 by_cases e : s ∈ l
 ·rw [decide_eq_true e]
  rfl
 ·rw [decide_eq_false e]
  rfl
section
variable {n : Nat} {l : List GPair} {but : Int} {U : List ByteArray} (hl : l.length < 100000) (hn : 200000 ≤ n) (hb : U.length ≤ 100001) (hU : ∀ x ∈ l, x.b ∈ U)
include hl hn hb hU in
theorem reach2D {out : List ByteArray} {i : Nat} (hi : i < out.length) : ∀ (c k : Nat) (o2 : List ByteArray), k ≤ l.length → l.length - k < c → out <+: o2 → o2.Nodup → (∀ y ∈ o2, y ∈ U) →
  ∃ o3, ref13_reach_L2 n l but (i : Int) c (false, o2, (k : Int)) = some (false, o3) ∧ out <+: o3 ∧ o3.Nodup ∧ (∀ y, y ∈ o3 ↔ y ∈ o2 ∨ ∃ j, k ≤ j ∧ (j : Int) ≠ but ∧ l[j]? = some ⟨out[i], y⟩) ∧ ∀ y ∈ o3, y ∈ U
 | 0, _, _, _, h, _, _, _ => by omega
 | c + 1, k, o2, hk, hc, hp, hd, ho => by
  have hlen := nodup_len hd ho
  rw [ref13_reach_L2]
  by_cases h : k < l.length
  ·have step : ∀ (o4 : List ByteArray), out <+: o4 → o4.Nodup → (∀ y ∈ o4, y ∈ U) → (∀ y, (y ∈ o4 ↔ y ∈ o2 ∨ ((k : Int) ≠ but ∧ l[k] = ⟨out[i], y⟩))) → ∃ o3, ref13_reach_L2 n l but (i : Int) c (false, o4, ((k + 1 : Nat) : Int)) = some (false, o3) ∧ out <+: o3 ∧ o3.Nodup ∧ (∀ y, y ∈ o3 ↔ y ∈ o2 ∨ ∃ j, k ≤ j ∧ (j : Int) ≠ but ∧ l[j]? = some ⟨out[i], y⟩) ∧ ∀ y ∈ o3, y ∈ U := fun o4 q1 q2 q3 q4 => by
    obtain ⟨o3, r1, r2, r3, r4, r5⟩ := reach2D hi c (k + 1) o4 (by omega) (by omega) q1 q2 q3
    refine ⟨o3, r1, r2, r3, fun y => ?_, r5⟩
    rw [r4 y, q4 y]
    constructor
    ·rintro ((h1 | ⟨h1, h2⟩) | ⟨j, h1, h2, h3⟩)
     ·exact .inl h1
     ·exact .inr ⟨k, Nat.le_refl _, h1, by rw [List.getElem?_eq_getElem h, h2]⟩
     ·exact .inr ⟨j, by omega, h2, h3⟩
    ·rintro (h1 | ⟨j, h1, h2, h3⟩)
     ·exact .inl (.inl h1)
     ·by_cases e : j = k
      ·subst e
       rw [List.getElem?_eq_getElem h, Option.some.injEq] at h3
       exact .inl (.inr ⟨h2, h3⟩)
      ·exact .inr ⟨j, by omega, h2, h3⟩
   have hi2 : i < o2.length := by have := hp.length_le; omega
   have hoi : o2[i] = out[i] := by
    obtain ⟨t, rfl⟩ := hp
    exact List.getElem_append_left hi
   rw [dlt h, if_pos rfl, idxS h, Zo, if_neg (by decide), Zo, wr1 (by omega)]
   dsimp only
   by_cases hkb : (k : Int) = but
   ·rw [show ((k : Int) != but) = false by simp [hkb], if_neg (by decide)]
    exact step o2 hp hd ho fun y => ⟨.inl, fun h => h.elim id fun h => absurd hkb h.1⟩
   ·rw [show ((k : Int) != but) = true by simp [hkb], if_pos rfl, idxS hi2, Zo, hoi, beqS]
    by_cases ha : l[k].a = out[i]
    ·rw [decide_eq_true ha, if_pos rfl, in13_some (by omega) (by omega), Zo]
     by_cases hm : l[k].b ∈ o2
     ·rw [decide_eq_true hm, if_pos rfl]
      refine step o2 hp hd ho fun y => ⟨.inl, fun h => h.elim id fun ⟨_, h⟩ => ?_⟩
      rw [h] at hm
      exact hm
     ·have hnd : (o2 ++ [l[k].b]).Nodup := List.nodup_append.2 ⟨hd, by simp, fun a ha b hb => by simp at hb; subst hb; exact fun e => hm (e ▸ ha)⟩
      have hsub : ∀ y ∈ o2 ++ [l[k].b], y ∈ U := fun y hy => by
       rcases List.mem_append.1 hy with hy | hy
       ·exact ho y hy
       ·rw [List.mem_singleton.1 hy]
        exact hU _ (List.getElem_mem h)
      rw [decide_eq_false hm, if_neg (by decide), appS (by rw [List.length_singleton]; omega), Zo]
      refine step _ (hp.trans (List.prefix_append _ _)) hnd hsub fun y => ?_
      rw [List.mem_append, List.mem_singleton]
      refine or_congr_right ⟨fun e => ⟨hkb, ?_⟩, fun ⟨_, e⟩ => ?_⟩
      ·rw [e, ← ha]
      ·rw [e]
    ·rw [decide_eq_false ha, if_neg (by decide)]
     refine step o2 hp hd ho fun y => ⟨.inl, fun h => h.elim id fun ⟨_, h⟩ => ?_⟩
     rw [h] at ha
     exact absurd rfl ha
  ·rw [dnlt (by omega), if_neg (by decide)]
   refine ⟨o2, rfl, hp, hd, fun y => ⟨.inl, fun h => h.elim id fun ⟨j, h1, _, h3⟩ => ?_⟩, ho⟩
   have := (List.getElem?_eq_some_iff.1 h3).1
   omega
include hl hn hb hU in
theorem reach1D {E : List GPair} {role : ByteArray} (hE : ∀ x, x ∈ E ↔ ∃ j : Nat, (j : Int) ≠ but ∧ l[j]? = some x) : ∀ (c i : Nat) (out : List ByteArray), i ≤ out.length → U.length - i < c → out.Nodup → (∀ y ∈ out, y ∈ U) → (∀ y ∈ out, Dn E role y) → (∀ j (hj : j < out.length), j < i → ∀ y, (⟨out[j], y⟩ : GPair) ∈ E → y ∈ out) → role ∈ out →
  ∃ o, ref13_reach_L1 n l but c (false, out, (i : Int)) = some o ∧ (∀ y, y ∈ o ↔ Dn E role y) ∧ o.length ≤ U.length
 | 0, _, _, _, h, _, _, _, _, _ => by omega
 | c + 1, i, out, hi, hc, hd, ho, hr, hcl, hro => by
  have hlen := nodup_len hd ho
  rw [ref13_reach_L1]
  by_cases h : i < out.length
  ·obtain ⟨o3, r1, r2, r3, r4, r5⟩ := reach2D (but := but) hl hn hb hU h n 0 out (Nat.zero_le _) (by omega) (List.prefix_refl _) hd ho
   have r1 : ref13_reach_L2 n l but (i : Int) n (false, out, 0) = some (false, o3) := r1
   have hlen2 := nodup_len r3 r5
   rw [dlt h, if_pos rfl, r1, Zo, wr1 (by omega)]
   have hr4 : ∀ y, y ∈ o3 ↔ y ∈ out ∨ (⟨out[i], y⟩ : GPair) ∈ E := fun y => (r4 y).trans (or_congr_right ((exists_congr fun j => by simp).trans (hE _).symm))
   obtain ⟨t, rfl⟩ := r2
   refine reach1D hE c (i + 1) (out ++ t) (by rw [List.length_append]; omega) (by omega) r3 r5 (fun y hy => ?_) (fun j hj hji y hy => ?_) (List.mem_append_left _ hro)
   ·rcases (hr4 y).1 hy with h1 | h1
    ·exact hr y h1
    ·exact (hr _ (List.getElem_mem h)).step (mem_sB.2 h1)
   ·have hjl : j < out.length := by omega
    rw [List.getElem_append_left hjl] at hy
    by_cases e : j = i
    ·subst e
     exact (hr4 y).2 (.inr hy)
    ·exact List.mem_append_left _ (hcl j hjl (by omega) y hy)
  ·rw [dnlt (by omega), if_neg (by decide)]
   refine ⟨out, rfl, fun y => ⟨hr y, fun hy => ?_⟩, hlen⟩
   induction hy with
   | refl => exact hro
   | step _ hc ih =>
    obtain ⟨j, hj, rfl⟩ := List.getElem_of_mem ih
    exact hcl j hj (by omega) _ (mem_sB.1 hc)
end
theorem reachD_some {n : Nat} {l E : List GPair} {but : Int} (hl : l.length < 100000) (hn : 200000 ≤ n) (hE : ∀ x, x ∈ E ↔ ∃ j : Nat, (j : Int) ≠ but ∧ l[j]? = some x) (role : ByteArray) : ∃ r, ref13_reach n l role false but = some r ∧ (∀ y, y ∈ r ↔ Dn E role y) ∧ r.length ≤ 100001 := by
 have hUl : (role :: l.map fun p => p.b).length = l.length + 1 := by simp
 obtain ⟨o, h1, h2, h3⟩ := reach1D (n := n) (l := l) (but := but) (U := role :: l.map fun p => p.b) hl hn (by omega) (fun x hx => List.mem_cons_of_mem _ (List.mem_map.2 ⟨x, hx, rfl⟩)) (role := role) hE n 0 [role] (Nat.zero_le _) (by omega) (by simp) (fun y hy => by rw [List.mem_singleton.1 hy]; exact List.mem_cons_self ..) (fun y hy => by rw [List.mem_singleton.1 hy]; exact .refl) (fun j _ h => by omega) (List.mem_singleton.2 rfl)
 have h1 : ref13_reach_L1 n l but n (false, [role], 0) = some o := h1
 have hle := ofL_len tx o
 unfold ref13_reach
 rw [h1, Zo, texts_some n o (by omega) (by omega), Zo]
 exact ⟨_, rfl, fun y => tx.mem_ofL.trans (h2 y), by omega⟩
theorem allD_in {l : List GPair} (x : GPair) : x ∈ l ↔ ∃ j : Nat, (j : Int) ≠ -1 ∧ l[j]? = some x := by
 rw [List.mem_iff_getElem?]
 exact exists_congr fun j => ⟨fun h => ⟨by omega, h⟩, fun h => h.2⟩
theorem butD_in {l : List GPair} (i : Nat) (x : GPair) : x ∈ l.eraseIdx i ↔ ∃ j : Nat, (j : Int) ≠ (i : Int) ∧ l[j]? = some x := by
 rw [List.mem_eraseIdx_iff_getElem?]
 exact exists_congr fun j => and_congr_left fun _ => by omega
theorem ring_loop {n : Nat} {l : List GPair} (hl : l.length < 100000) (hn : 200000 ≤ n) : ∀ (c i : Nat), i ≤ l.length → l.length - i < c → ∃ r, ref13_ring_L1 n l c (i : Int) = some r ∧ ((r = .inl () ∧ ∀ x ∈ l.drop i, ¬ Dn l x.b x.a) ∨ (r = .inr true ∧ RingP l))
 | 0, _, _, h => by omega
 | c + 1, i, hi, hc => by
  rw [ref13_ring_L1]
  by_cases h : i < l.length
  ·obtain ⟨r, r1, r2, r3⟩ := reachD_some (n := n) (but := -1) hl hn (E := l) allD_in l[i].b
   rw [dlt h, if_pos rfl, idxS h, Zo, r1, Zo, in13_some (by omega) (by omega), Zo, wr1 (by omega)]
   by_cases hd : Dn l l[i].b l[i].a
   ·rw [decide_eq_true ((r2 _).2 hd), if_pos rfl]
    exact ⟨_, rfl, .inr ⟨rfl, _, List.getElem_mem h, hd⟩⟩
   ·rw [decide_eq_false fun h => hd ((r2 _).1 h), if_neg (by decide)]
    obtain ⟨q, q1, q2⟩ := ring_loop hl hn c (i + 1) (by omega) (by omega)
    refine ⟨q, q1, q2.imp_left fun ⟨e, h2⟩ => ⟨e, fun x hx => ?_⟩⟩
    rw [List.drop_eq_getElem_cons h] at hx
    rcases List.mem_cons.1 hx with rfl | hx
    ·exact hd
    ·exact h2 x hx
  ·rw [dnlt (by omega), if_neg (by decide), List.drop_eq_nil_of_le (by omega)]
   exact ⟨_, rfl, .inl ⟨rfl, fun x hx => by cases hx⟩⟩
theorem ring13_some {n : Nat} {l : List GPair} (hl : l.length < 100000) (hn : 200000 ≤ n) (h : ¬ RingP l) : ref13_ring n l = some false := by
 obtain ⟨r, h1, h2⟩ := ring_loop hl hn n 0 (by omega) (by omega)
 have h1 : ref13_ring_L1 n l n 0 = some r := h1
 unfold ref13_ring
 rw [h1, Zo]
 rcases h2 with ⟨rfl, _⟩ | ⟨rfl, h2⟩
 ·rfl
 ·exact absurd h2 h
theorem least_loop {n : Nat} {q : GRoles} (hl : q.inherit.length < 100000) (hn : 200000 ≤ n) (hr : ¬ RingP q.inherit) (hnd : q.inherit.Nodup) : ∀ (c i : Nat) (st : List GPair), i ≤ q.inherit.length → q.inherit.length - i < c → st.length ≤ i →
  ∃ M, ref13_Normal_L12 n q c (st, (i : Int)) = some (st ++ M) ∧ (∀ x, x ∈ M ↔ x ∈ q.inherit.drop i ∧ ¬ SaidP q.inherit x) ∧ M.length ≤ q.inherit.length - i
 | 0, _, _, _, h, _ => by omega
 | c + 1, i, st, hi, hc, hs => by
  rw [ref13_Normal_L12]
  by_cases h : i < q.inherit.length
  ·obtain ⟨r, r1, r2, r3⟩ := reachD_some (n := n) (but := (i : Int)) hl hn (E := q.inherit.eraseIdx i) (butD_in i) q.inherit[i].a
   rw [dlt h, if_pos rfl, idxS h, Zo, r1, Zo, in13_some (by omega) (by omega), Zo, wr1 (by omega)]
   have hsb := said_but hr hnd h
   by_cases hd : Dn (q.inherit.eraseIdx i) q.inherit[i].a q.inherit[i].b
   ·rw [decide_eq_true ((r2 _).2 hd), if_pos rfl]
    obtain ⟨M, q1, q2, q3⟩ := least_loop hl hn hr hnd c (i + 1) st (by omega) (by omega) (by omega)
    refine ⟨M, q1, fun x => (q2 x).trans ?_, by omega⟩
    rw [List.drop_eq_getElem_cons h, List.mem_cons]
    refine and_congr_left fun hx => ⟨.inr, fun h => h.resolve_left fun e => hx (by rw [e]; exact hsb.1 hd)⟩
   ·rw [decide_eq_false fun h => hd ((r2 _).1 h), if_neg (by decide), appS (by rw [List.length_singleton]; omega), Zo]
    obtain ⟨M, q1, q2, q3⟩ := least_loop hl hn hr hnd c (i + 1) (st ++ [q.inherit[i]]) (by omega) (by omega) (by rw [List.length_append, List.length_singleton]; omega)
    refine ⟨q.inherit[i] :: M, by rw [q1, List.append_assoc]; rfl, fun x => ?_, by rw [List.length_cons]; omega⟩
    rw [List.drop_eq_getElem_cons h, List.mem_cons, List.mem_cons, q2 x]
    constructor
    ·rintro (rfl | ⟨h1, h2⟩)
     ·exact ⟨.inl rfl, fun hx => hd (hsb.2 hx)⟩
     ·exact ⟨.inr h1, h2⟩
    ·rintro ⟨rfl | h1, h2⟩
     ·exact .inl rfl
     ·exact .inr ⟨h1, h2⟩
  ·rw [dnlt (by omega), if_neg (by decide), List.drop_eq_nil_of_le (by omega)]
   exact ⟨[], by rw [List.append_nil], fun x => ⟨fun h => (by cases h), fun h => (by cases h.1)⟩, Nat.zero_le _⟩
theorem fm_one {β : Type} {k : Int} {g : GFact → β} (x : GFact) (l : List GFact) : ((x :: l).filterMap fun f => if f.kind = k then some (g f) else none).length = (if x.kind = k then 1 else 0) + (l.filterMap fun f => if f.kind = k then some (g f) else none).length := by
 by_cases h : x.kind = k
 ·rw [fk_pos h, if_pos h, List.length_cons, Nat.add_comm]
 ·rw [fk_neg h, if_neg h, Nat.zero_add]
theorem sum8 (l : List GFact) : (usersF l).length + ((rolesF l).length + ((inhF l).length + ((asgF l).length + ((grF l).length + ((ssdF l).length + ((dsdF l).length + (sesF l).length)))))) ≤ l.length := by
 induction l with
 | nil => exact Nat.le_refl 0
 | cons x l ih =>
  unfold usersF rolesF inhF asgF grF ssdF dsdF sesF at *
  rw [fm_one, fm_one, fm_one, fm_one, fm_one, fm_one, fm_one, fm_one, List.length_cons]
  have : (if x.kind = 1 then 1 else 0) + (if x.kind = 2 then 1 else 0) + (if x.kind = 3 then 1 else 0) + (if x.kind = 4 then 1 else 0) + (if x.kind = 5 then 1 else 0) + (if x.kind = 6 then 1 else 0) + (if x.kind = 7 then 1 else 0) + (if x.kind = 8 then 1 else 0) ≤ 1 := by
   by_cases k1 : x.kind = 1
   ·simp [k1]
   by_cases k2 : x.kind = 2
   ·simp [k2]
   by_cases k3 : x.kind = 3
   ·simp [k3]
   by_cases k4 : x.kind = 4
   ·simp [k4]
   by_cases k5 : x.kind = 5
   ·simp [k5]
   by_cases k6 : x.kind = 6
   ·simp [k6]
   by_cases k7 : x.kind = 7
   ·simp [k7]
   by_cases k8 : x.kind = 8
   ·simp [k8]
   simp [k1, k2, k3, k4, k5, k6, k7, k8]
  omega
theorem factsP_len (p : GRoles) : (factsP p).length = p.users.length + (p.roles.length + (p.inherit.length + (p.assign.length + (p.grants.length + (p.ssd.length + (p.dsd.length + p.sessions.length)))))) := by
 unfold factsP
 simp only [List.length_append, List.length_map]
theorem normal_some {n : Nat} {l : List GFact} (hn : 200000 ≤ n) (hl : l.length ≤ 2000) (hx : ∀ x ∈ l, x.l.length ≤ 100000) (hr : ¬ RingP (inhF l)) : ∃ q, ref13_Normal n (ofF l) = some q ∧ NorP (ofF l) q ∧ (factsP q).length ≤ 2000 ∧ ∀ x ∈ factsP q, x.l.length ≤ 100000 := by
 have s8 := sum8 l
 have hsm : Sml 2000 (ofF l) := ⟨show (usersF l).length ≤ _ by omega, show (rolesF l).length ≤ _ by omega, show (inhF l).length ≤ _ by omega, show (asgF l).length ≤ _ by omega, show (grF l).length ≤ _ by omega, show (ssdF l).length ≤ _ by omega, show (dsdF l).length ≤ _ by omega, show (sesF l).length ≤ _ by omega, fun d h => by
  obtain ⟨x, h1, _, rfl⟩ := mem_ssdF.1 h
  exact hx x h1, fun d h => by
  obtain ⟨x, h1, _, rfl⟩ := mem_dsdF.1 h
  exact hx x h1, fun d h => by
  obtain ⟨x, h1, _, rfl⟩ := mem_sesF.1 h
  exact hx x h1⟩
 have hfl : (factsP (ofF l)).length ≤ 2000 := by
  rw [factsP_len]
  show (usersF l).length + ((rolesF l).length + ((inhF l).length + ((asgF l).length + ((grF l).length + ((ssdF l).length + ((dsdF l).length + (sesF l).length)))))) ≤ 2000
  omega
 have e1 := (facts_some (n := n) (by omega) hn hsm).2
 have e2 : ref13_Normal_L9 n n (factsP (ofF l), 0) = some (rowsN (ofF l)) := by
  have := set_loop (n := n) (l := factsP (ofF l)) hn (by omega) (fun x h => facts_l hsm h) n 0 (Nat.zero_le _) (by omega)
  rw [List.take_zero, List.drop_zero] at this
  exact this
 have hrl : (rowsN (ofF l)).length ≤ 2000 := by
  unfold rowsN
  rw [List.length_map]
  exact hfl
 have hrx : ∀ x ∈ rowsN (ofF l), x.l.length ≤ 100000 := fun x hx => by
  obtain ⟨y, hy, rfl⟩ := List.mem_map.1 hx
  have := facts_l hsm hy
  have := ofL_len tx y.l
  show (tx.ofL y.l).length ≤ _
  omega
 obtain ⟨R, e3, hR, hRm, hRl⟩ := risF_loop (n := n) (l := rowsN (ofF l)) hn (by omega) hrx (fun x hx => rows_can hx) n 0 [] (Nat.zero_le _) (by omega) List.Pairwise.nil (fun z => by rw [List.take_zero]) (Nat.zero_le _)
 have e3 : ref13_Normal_L10 n (rowsN (ofF l)) n ([], 0) = some R := e3
 have hRx : ∀ x ∈ R, x.l.length ≤ 100000 := fun x h => hrx x ((hRm x).1 h)
 have e4 : ref13_Of n R = some (ofF R) := ofD_some (by omega) (by omega) fun x h => by have := hRx x h; omega
 have hp := of_rows (ofF l)
 have i1 : ∀ x, x ∈ inhF R ↔ x ∈ inhF l := fun x => (fm_congr hRm x).trans (by rw [show (rowsN (ofF l)).filterMap _ = inhF l from congrArg GRoles.inherit hp])
 have hri : ¬ RingP (inhF R) := fun ⟨x, hx, hd⟩ => hr ⟨x, (i1 x).1 hx, dn_sub (fun y hy => (i1 y).1 hy) hd⟩
 have t8 := sum8 R
 have e5 : ref13_ring n (ofF R).inherit = some false := ring13_some (l := inhF R) (by omega) hn hri
 obtain ⟨M, e6, hM, hMl⟩ := least_loop (n := n) (q := ofF R) (show (inhF R).length < _ by omega) hn hri (inh_nodup hR fun x h => rows_can ((hRm x).1 h)) n 0 [] (Nat.zero_le _) (show (inhF R).length - 0 < n by omega) (Nat.zero_le _)
 have e6 : ref13_Normal_L12 n (ofF R) n ([], 0) = some M := e6
 rw [List.drop_zero] at hM
 refine ⟨⟨usersF R, rolesF R, M, asgF R, grF R, ssdF R, dsdF R, sesF R⟩, ?_, ⟨R, hR, hRm, rfl, rfl, rfl, rfl, rfl, rfl, rfl, hM⟩, ?_, fun x hx => ?_⟩
 ·unfold ref13_Normal
  rw [e1, Zo, e2, Zo]
  unfold ref13_Normal_C2_ref13_rising
  rw [e3, Zo, Zo, e4, Zo, e5, Zo, if_neg (by decide), e6, Zo]
  rfl
 ·rw [factsP_len]
  have hMl : M.length ≤ (inhF R).length - 0 := hMl
  dsimp only
  omega
 ·rcases mem_facts.1 hx with ⟨u, hu, rfl⟩ | ⟨u, hu, rfl⟩ | ⟨u, hu, rfl⟩ | ⟨u, hu, rfl⟩ | ⟨u, hu, rfl⟩ | ⟨u, hu, rfl⟩ | ⟨u, hu, rfl⟩ | ⟨u, hu, rfl⟩
  ·exact Nat.zero_le _
  ·exact Nat.zero_le _
  ·exact Nat.zero_le _
  ·exact Nat.zero_le _
  ·exact Nat.zero_le _
  ·obtain ⟨f, f1, _, rfl⟩ := mem_ssdF.1 hu
   exact hRx f f1
  ·obtain ⟨f, f1, _, rfl⟩ := mem_dsdF.1 hu
   exact hRx f f1
  ·obtain ⟨f, f1, _, rfl⟩ := mem_sesF.1 hu
   exact hRx f f1
end Go.Proofs.Ytkkhgdmmbhpckaa.Ab
