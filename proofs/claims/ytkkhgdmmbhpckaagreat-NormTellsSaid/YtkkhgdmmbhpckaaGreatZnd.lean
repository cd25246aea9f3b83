/-
 The document's normal form, told plainly. No program in sight.
-/
import Derived.Test.YtkkhgdmmbhpckaaGreatZnc
namespace Go.Proofs.YtkkhgdmmbhpckaaGreat.Ab
open Go.RowKit
attribute [local instance] baLawful
theorem dn_ {n : Nat} {l : List ByteArray} {s : ByteArray} (hl : l.length < 1000000) : ∀ (c i : Nat), i ≤ l.length → l.length - i < c → xM_ n l s c (i : Int) = some (if decide (s ∈ l.drop i) then .inr true else .inl ())
 | 0, _, _, h => by omega
 | c + 1, i, hi, hc => by
  rw [xM_];by_cases h : i < l.length
  ·rw [dlt h, if_pos rfl, idxS h, Zo, beqS, wr1 (by omega), dn_ hl c (i + 1) (by omega) (by omega), List.drop_eq_getElem_cons h]
   by_cases e : l[i] = s
   ·rw [decide_eq_true e, if_pos rfl, decide_eq_true (by rw [e]; exact List.mem_cons_self ..), if_pos rfl]
   ·have hd : decide (s ∈ l.drop (i + 1)) = decide (s ∈ l[i] :: l.drop (i + 1)) := by
     rw [Bool.eq_iff_iff, decide_eq_true_eq, decide_eq_true_eq, List.mem_cons];exact ⟨fun h => .inr h, fun h => h.resolve_left fun h => e h.symm⟩
    rw [decide_eq_false e, if_neg (by decide), hd]
  ·rw [dnlt (by omega), if_neg (by decide), List.drop_eq_nil_of_le (by omega)]
   rfl
theorem uy_ {n : Nat} {l : List ByteArray} {s : ByteArray} (hl : l.length < 1000000) (hn : l.length < n) : vQ_ n l s = some (decide (s ∈ l)) := by
 have h : xM_ n l s n 0 = _ := dn_ hl n 0 (by omega) (by omega);unfold vQ_;rw [h, List.drop_zero, Zo];by_cases e : s ∈ l
 ·rw [decide_eq_true e]
  rfl
 ·rw [decide_eq_false e]
  rfl
def prU (up : Bool) (x : GPair) : GPair := if up then ⟨x.b, x.a⟩ else x
section
variable {n : Nat} {l : List GPair} {but : Int} {up : Bool} {U : List ByteArray} (hl : l.length < 100000) (hn : 200000 ≤ n) (hb : U.length ≤ 100001) (hU : ∀ x ∈ l, (prU up x).b ∈ U)
include hl hn hb hU in
theorem nP_ {out : List ByteArray} {i : Nat} (hi : i < out.length) : ∀ (c k : Nat) (o2 : List ByteArray), k ≤ l.length → l.length - k < c → out <+: o2 → o2.Nodup → (∀ y ∈ o2, y ∈ U) →
  ∃ o3, qO_ n l but (i : Int) c (up, o2, (k : Int)) = some (up, o3) ∧ out <+: o3 ∧ o3.Nodup ∧ (∀ y, y ∈ o3 ↔ y ∈ o2 ∨ ∃ j, k ≤ j ∧ (j : Int) ≠ but ∧ ∃ x, l[j]? = some x ∧ prU up x = ⟨out[i], y⟩) ∧ ∀ y ∈ o3, y ∈ U
 | 0, _, _, _, h, _, _, _ => by omega
 | c + 1, k, o2, hk, hc, hp, hd, ho => by
  have hlen := x6_ hd ho;rw [qO_];by_cases h : k < l.length
  ·have step : ∀ (o4 : List ByteArray), out <+: o4 → o4.Nodup → (∀ y ∈ o4, y ∈ U) → (∀ y, (y ∈ o4 ↔ y ∈ o2 ∨ ((k : Int) ≠ but ∧ prU up l[k] = ⟨out[i], y⟩))) → ∃ o3, qO_ n l but (i : Int) c (up, o4, ((k + 1 : Nat) : Int)) = some (up, o3) ∧ out <+: o3 ∧ o3.Nodup ∧ (∀ y, y ∈ o3 ↔ y ∈ o2 ∨ ∃ j, k ≤ j ∧ (j : Int) ≠ but ∧ ∃ x, l[j]? = some x ∧ prU up x = ⟨out[i], y⟩) ∧ ∀ y ∈ o3, y ∈ U := fun o4 q1 q2 q3 q4 => by
    obtain ⟨o3, r1, r2, r3, r4, r5⟩ := nP_ hi c (k + 1) o4 (by omega) (by omega) q1 q2 q3;refine ⟨o3, r1, r2, r3, fun y => ?_, r5⟩;rw [r4 y, q4 y];constructor
    ·rintro ((h1 | ⟨h1, h2⟩) | ⟨j, h1, h2, h3⟩)
     ·exact .inl h1
     ·exact .inr ⟨k, Nat.le_refl _, h1, _, List.getElem?_eq_getElem h, h2⟩
     ·exact .inr ⟨j, by omega, h2, h3⟩
    ·rintro (h1 | ⟨j, h1, h2, x, h3, h4⟩)
     ·exact .inl (.inl h1)
     ·by_cases e : j = k
      ·subst e
       rw [List.getElem?_eq_getElem h, Option.some.injEq] at h3;subst h3;exact .inl (.inr ⟨h2, h4⟩)
      ·exact .inr ⟨j, by omega, h2, x, h3, h4⟩
   have hi2 : i < o2.length := by have := hp.length_le; omega
   have hoi : o2[i] = out[i] := by
    obtain ⟨t, rfl⟩ := hp;exact List.getElem_append_left hi
   have hpr : ((if up then some (true, l[k].b, l[k].a) else some (false, l[k].a, l[k].b)) : Option (Bool × ByteArray × ByteArray)) = some (up, (prU up l[k]).a, (prU up l[k]).b) := by cases up <;> rfl
   have hUk := hU _ (List.getElem_mem h);rw [dlt h, if_pos rfl, idxS h, Zo, hpr, Zo, wr1 (by omega)];dsimp only;generalize prU up l[k] = x at step hUk;by_cases hkb : (k : Int) = but
   ·rw [show ((k : Int) != but) = false by simp [hkb], if_neg (by decide)]
    exact step o2 hp hd ho fun y => ⟨.inl, fun h => h.elim id fun h => absurd hkb h.1⟩
   ·rw [show ((k : Int) != but) = true by simp [hkb], if_pos rfl, idxS hi2, Zo, hoi, beqS]
    by_cases ha : x.a = out[i]
    ·rw [decide_eq_true ha, if_pos rfl, uy_ (by omega) (by omega), Zo]
     by_cases hm : x.b ∈ o2
     ·rw [decide_eq_true hm, if_pos rfl]
      refine step o2 hp hd ho fun y => ⟨.inl, fun h => h.elim id fun ⟨_, h⟩ => ?_⟩;rw [h] at hm;exact hm
     ·have hnd : (o2 ++ [x.b]).Nodup := List.nodup_append.2 ⟨hd, by simp, fun a ha b hb => by simp at hb; subst hb; exact fun e => hm (e ▸ ha)⟩
      have hsub : ∀ y ∈ o2 ++ [x.b], y ∈ U := fun y hy => by
       rcases List.mem_append.1 hy with hy | hy
       ·exact ho y hy
       ·rw [List.mem_singleton.1 hy]
        exact hUk
      rw [decide_eq_false hm, if_neg (by decide), appS (by rw [List.length_singleton]; omega), Zo];refine step _ (hp.trans (List.prefix_append _ _)) hnd hsub fun y => ?_;rw [List.mem_append, List.mem_singleton];refine or_congr_right ⟨fun e => ⟨hkb, ?_⟩, fun ⟨_, e⟩ => ?_⟩
      ·rw [e, ← ha]
      ·rw [e]
    ·rw [decide_eq_false ha, if_neg (by decide)]
     refine step o2 hp hd ho fun y => ⟨.inl, fun h => h.elim id fun ⟨_, h⟩ => ?_⟩;rw [h] at ha;exact absurd rfl ha
  ·rw [dnlt (by omega), if_neg (by decide)]
   refine ⟨o2, rfl, hp, hd, fun y => ⟨.inl, fun h => h.elim id fun ⟨j, h1, _, x, h3, _⟩ => ?_⟩, ho⟩;have := (List.getElem?_eq_some_iff.1 h3).1;omega
include hl hn hb hU in
theorem nQ_ {E : List GPair} {role : ByteArray} (hE : ∀ x, x ∈ E ↔ ∃ j : Nat, (j : Int) ≠ but ∧ ∃ y, l[j]? = some y ∧ prU up y = x) : ∀ (c i : Nat) (out : List ByteArray), i ≤ out.length → U.length - i < c → out.Nodup → (∀ y ∈ out, y ∈ U) → (∀ y ∈ out, Dn E role y) → (∀ j (hj : j < out.length), j < i → ∀ y, (⟨out[j], y⟩ : GPair) ∈ E → y ∈ out) → role ∈ out →
  ∃ o, jS_ n l but c (up, out, (i : Int)) = some o ∧ (∀ y, y ∈ o ↔ Dn E role y) ∧ o.length ≤ U.length
 | 0, _, _, _, h, _, _, _, _, _ => by omega
 | c + 1, i, out, hi, hc, hd, ho, hr, hcl, hro => by
  have hlen := x6_ hd ho;rw [jS_];by_cases h : i < out.length
  ·obtain ⟨o3, r1, r2, r3, r4, r5⟩ := nP_ (but := but) hl hn hb hU h n 0 out (Nat.zero_le _) (by omega) (List.prefix_refl _) hd ho
   have r1 : qO_ n l but (i : Int) n (up, out, 0) = some (up, o3) := r1;have hlen2 := x6_ r3 r5;rw [dlt h, if_pos rfl, r1, Zo, wr1 (by omega)];have hr4 : ∀ y, y ∈ o3 ↔ y ∈ out ∨ (⟨out[i], y⟩ : GPair) ∈ E := fun y => (r4 y).trans (or_congr_right ((exists_congr fun j => by simp).trans (hE _).symm));obtain ⟨t, rfl⟩ := r2
   refine nQ_ hE c (i + 1) (out ++ t) (by rw [List.length_append]; omega) (by omega) r3 r5 (fun y hy => ?_) (fun j hj hji y hy => ?_) (List.mem_append_left _ hro)
   ·rcases (hr4 y).1 hy with h1 | h1
    ·exact hr y h1
    ·exact (hr _ (List.getElem_mem h)).step (xD_.2 h1)
   ·have hjl : j < out.length := by omega
    rw [List.getElem_append_left hjl] at hy;by_cases e : j = i
    ·subst e
     exact (hr4 y).2 (.inr hy)
    ·exact List.mem_append_left _ (hcl j hjl (by omega) y hy)
  ·rw [dnlt (by omega), if_neg (by decide)]
   refine ⟨out, rfl, fun y => ⟨hr y, fun hy => ?_⟩, hlen⟩;induction hy with
   | refl => exact hro
   | step _ hc ih =>
    obtain ⟨j, hj, rfl⟩ := List.getElem_of_mem ih;exact hcl j hj (by omega) _ (xD_.1 hc)
end
theorem wR_ {n : Nat} {l E : List GPair} {but : Int} {up : Bool} (hl : l.length < 100000) (hn : 200000 ≤ n) (hE : ∀ x, x ∈ E ↔ ∃ j : Nat, (j : Int) ≠ but ∧ ∃ y, l[j]? = some y ∧ prU up y = x) (role : ByteArray) : ∃ r, xb_ n l role up but = some r ∧ tx.Rises r ∧ (∀ y, y ∈ r ↔ Dn E role y) ∧ r.length ≤ 100001 := by
 have hUl : (role :: l.map fun p => (prU up p).b).length = l.length + 1 := by simp
 obtain ⟨o, h1, h2, h3⟩ := nQ_ (n := n) (l := l) (but := but) (up := up) (U := role :: l.map fun p => (prU up p).b) hl hn (by omega) (fun x hx => List.mem_cons_of_mem _ (List.mem_map.2 ⟨x, hx, rfl⟩)) (role := role) hE n 0 [role] (Nat.zero_le _) (by omega) (by simp) (fun y hy => by rw [List.mem_singleton.1 hy]; exact List.mem_cons_self ..) (fun y hy => by rw [List.mem_singleton.1 hy]; exact .refl) (fun j _ h => by omega) (List.mem_singleton.2 rfl)
 have h1 : jS_ n l but n (up, [role], 0) = some o := h1;have hle := xz_ tx o;unfold xb_;rw [h1, Zo, kT_ n o (by omega) (by omega), Zo];exact ⟨_, rfl, tx.rises_ofL o, fun y => tx.mem_ofL.trans (h2 y), by omega⟩
theorem uz_ {n : Nat} {l E : List GPair} {but : Int} (hl : l.length < 100000) (hn : 200000 ≤ n) (hE : ∀ x, x ∈ E ↔ ∃ j : Nat, (j : Int) ≠ but ∧ l[j]? = some x) (role : ByteArray) : ∃ r, xb_ n l role false but = some r ∧ (∀ y, y ∈ r ↔ Dn E role y) ∧ r.length ≤ 100001 := by
 obtain ⟨r, h1, _, h3, h4⟩ := wR_ (up := false) hl hn (E := E) (but := but) (fun x => (hE x).trans (exists_congr fun j => and_congr_right fun _ => ⟨fun h => ⟨x, h, rfl⟩, fun ⟨y, h1, h2⟩ => by rw [h1]; exact congrArg some h2⟩)) role;exact ⟨r, h1, h3, h4⟩
theorem nR_ {l : List GPair} (x : GPair) : x ∈ l ↔ ∃ j : Nat, (j : Int) ≠ -1 ∧ l[j]? = some x := by
 rw [List.mem_iff_getElem?];exact exists_congr fun j => ⟨fun h => ⟨by omega, h⟩, fun h => h.2⟩
theorem s5_ {l : List GPair} (i : Nat) (x : GPair) : x ∈ l.eraseIdx i ↔ ∃ j : Nat, (j : Int) ≠ (i : Int) ∧ l[j]? = some x := by
 rw [List.mem_eraseIdx_iff_getElem?];exact exists_congr fun j => and_congr_left fun _ => by omega
theorem hP_ {n : Nat} {p : GRoles} (hl : p.inherit.length < 100000) (hn : 200000 ≤ n) (role : ByteArray) : ∃ r, vH_ n p role = some r ∧ tx.Rises r ∧ (∀ y, y ∈ r ↔ Dn p.inherit role y) ∧ r.length ≤ 100001 := by
 obtain ⟨r, h1, h2, h3, h4⟩ := wR_ (n := n) (up := false) (but := -1) hl hn (E := p.inherit) (fun x => (nR_ x).trans (exists_congr fun j => and_congr_right fun _ => ⟨fun h => ⟨x, h, rfl⟩, fun ⟨y, h1, h2⟩ => by rw [h1]; exact congrArg some h2⟩)) role;unfold vH_;rw [h1];exact ⟨r, rfl, h2, h3, h4⟩
theorem rj_ {n : Nat} {p : GRoles} (hl : p.inherit.length < 100000) (hn : 200000 ≤ n) (role : ByteArray) : ∃ r, ks_ n p role = some r ∧ tx.Rises r ∧ (∀ y, y ∈ r ↔ Dn p.inherit y role) ∧ r.length ≤ 100001 := by
 obtain ⟨r, h1, h2, h3, h4⟩ := wR_ (n := n) (up := true) (but := -1) hl hn (E := p.inherit.map (prU true)) (fun x => by
  rw [List.mem_map];constructor
  ·rintro ⟨y, hy, rfl⟩
   obtain ⟨j, hj⟩ := List.getElem?_of_mem hy;exact ⟨j, by omega, y, hj, rfl⟩
  ·rintro ⟨j, _, y, hy, rfl⟩
   exact ⟨y, List.mem_of_getElem? hy, rfl⟩) role
 have hd : ∀ a b, Dn (p.inherit.map (prU true)) a b ↔ Dn p.inherit b a := fun a b => by
  rw [← up_dn (l := p.inherit)];have e : ∀ x y, y ∈ sB (p.inherit.map (prU true)) x ↔ y ∈ sA p.inherit x := fun x y => by
   rw [xD_, fU_, List.mem_map];constructor
   ·rintro ⟨z, hz, e⟩
    have e : (⟨z.b, z.a⟩ : GPair) = ⟨x, y⟩ := e;obtain ⟨e1, e2⟩ := GPair.mk.inj e;rw [← e1, ← e2];exact hz
   ·exact fun h => ⟨⟨y, x⟩, h, rfl⟩
  exact ⟨fun h => Rch.mono h fun x y hy => Rch.refl.step ((e x y).1 hy), fun h => Rch.mono h fun x y hy => Rch.refl.step ((e x y).2 hy)⟩
 unfold ks_;rw [h1];exact ⟨r, rfl, h2, fun y => (h3 y).trans (hd role y), h4⟩
theorem do_ {n : Nat} {l : List GPair} (hl : l.length < 100000) (hn : 200000 ≤ n) : ∀ (c i : Nat), i ≤ l.length → l.length - i < c → ∃ r, xc_ n l c (i : Int) = some r ∧ ((r = .inl () ∧ ∀ x ∈ l.drop i, ¬ Dn l x.b x.a) ∨ (r = .inr true ∧ ym_ l))
 | 0, _, _, h => by omega
 | c + 1, i, hi, hc => by
  rw [xc_];by_cases h : i < l.length
  ·obtain ⟨r, r1, r2, r3⟩ := uz_ (n := n) (but := -1) hl hn (E := l) nR_ l[i].b
   rw [dlt h, if_pos rfl, idxS h, Zo, r1, Zo, uy_ (by omega) (by omega), Zo, wr1 (by omega)];by_cases hd : Dn l l[i].b l[i].a
   ·rw [decide_eq_true ((r2 _).2 hd), if_pos rfl]
    exact ⟨_, rfl, .inr ⟨rfl, _, List.getElem_mem h, hd⟩⟩
   ·rw [decide_eq_false fun h => hd ((r2 _).1 h), if_neg (by decide)]
    obtain ⟨q, q1, q2⟩ := do_ hl hn c (i + 1) (by omega) (by omega);refine ⟨q, q1, q2.imp_left fun ⟨e, h2⟩ => ⟨e, fun x hx => ?_⟩⟩;rw [List.drop_eq_getElem_cons h] at hx;rcases List.mem_cons.1 hx with rfl | hx
    ·exact hd
    ·exact h2 x hx
  ·rw [dnlt (by omega), if_neg (by decide), List.drop_eq_nil_of_le (by omega)]
   exact ⟨_, rfl, .inl ⟨rfl, fun x hx => by cases hx⟩⟩
theorem dZ_ {n : Nat} {l : List GPair} (hl : l.length < 100000) (hn : 200000 ≤ n) : ∃ b, zF_ n l = some b ∧ (b = true ↔ ym_ l) := by
 obtain ⟨r, h1, h2⟩ := do_ hl hn n 0 (by omega) (by omega);have h1 : xc_ n l n 0 = some r := h1;unfold zF_;rw [h1, Zo];rcases h2 with ⟨rfl, h2⟩ | ⟨rfl, h2⟩
 ·rw [List.drop_zero] at h2
  exact ⟨false, rfl, fun h => (by cases h), fun ⟨x, hx, hd⟩ => absurd hd (h2 x hx)⟩
 ·exact ⟨true, rfl, fun _ => h2, fun _ => rfl⟩
theorem kU_ {n : Nat} {q : GRoles} (hl : q.inherit.length < 100000) (hn : 200000 ≤ n) (hr : ¬ ym_ q.inherit) (hnd : q.inherit.Nodup) : ∀ (c i : Nat) (st : List GPair), i ≤ q.inherit.length → q.inherit.length - i < c → st.length ≤ i →
  ∃ M, qX_ n q c (st, (i : Int)) = some (st ++ M) ∧ (∀ x, x ∈ M ↔ x ∈ q.inherit.drop i ∧ ¬ Said q.inherit x) ∧ M.Sublist (q.inherit.drop i)
 | 0, _, _, _, h, _ => by omega
 | c + 1, i, st, hi, hc, hs => by
  rw [qX_];by_cases h : i < q.inherit.length
  ·obtain ⟨r, r1, r2, r3⟩ := uz_ (n := n) (but := (i : Int)) hl hn (E := q.inherit.eraseIdx i) (s5_ i) q.inherit[i].a
   rw [dlt h, if_pos rfl, idxS h, Zo, r1, Zo, uy_ (by omega) (by omega), Zo, wr1 (by omega)];have hsb := rd_ hr hnd h;by_cases hd : Dn (q.inherit.eraseIdx i) q.inherit[i].a q.inherit[i].b
   ·rw [decide_eq_true ((r2 _).2 hd), if_pos rfl]
    obtain ⟨M, q1, q2, q3⟩ := kU_ hl hn hr hnd c (i + 1) st (by omega) (by omega) (by omega);refine ⟨M, q1, fun x => (q2 x).trans ?_, by rw [List.drop_eq_getElem_cons h]; exact q3.cons _⟩;rw [List.drop_eq_getElem_cons h, List.mem_cons];refine and_congr_left fun hx => ⟨.inr, fun h => h.resolve_left fun e => hx (by rw [e]; exact hsb.1 hd)⟩
   ·rw [decide_eq_false fun h => hd ((r2 _).1 h), if_neg (by decide), appS (by rw [List.length_singleton]; omega), Zo]
    obtain ⟨M, q1, q2, q3⟩ := kU_ hl hn hr hnd c (i + 1) (st ++ [q.inherit[i]]) (by omega) (by omega) (by rw [List.length_append, List.length_singleton]; omega);refine ⟨q.inherit[i] :: M, by rw [q1, List.append_assoc]; rfl, fun x => ?_, by rw [List.drop_eq_getElem_cons h]; exact q3.cons_cons _⟩;rw [List.drop_eq_getElem_cons h, List.mem_cons, List.mem_cons, q2 x];constructor
    ·rintro (rfl | ⟨h1, h2⟩)
     ·exact ⟨.inl rfl, fun hx => hd (hsb.2 hx)⟩
     ·exact ⟨.inr h1, h2⟩
    ·rintro ⟨rfl | h1, h2⟩
     ·exact .inl rfl
     ·exact .inr ⟨h1, h2⟩
  ·rw [dnlt (by omega), if_neg (by decide), List.drop_eq_nil_of_le (by omega)]
   exact ⟨[], by rw [List.append_nil], fun x => ⟨fun h => (by cases h), fun h => (by cases h.1)⟩, List.Sublist.refl _⟩
theorem rk_ {n : Nat} {t0 : List GFact} {s : St8} {m : Nat} (h : le8 s m) (hm : m < 4294967296) {x : GFact} (hx : x.l.length ≤ 4294967296) (k : St8 → Option St8) : x5_ n t0 s x k = k (cat8 s [x]) := by
 obtain ⟨s1, s2, s3, s4, s5, s6, s7, s8⟩ := s;obtain ⟨h1, h2, h3, h4, h5, h6, h7, h8⟩ := h;unfold x5_ cat8 zu_ zv_ inhF asgF grF ssdF dsdF sesF;simp only [one8];have hl : app [] x.l = some x.l := appS (by simpa using hx);by_cases k1 : x.kind = 1
 ·simp [k1, app1 h1 hm]
 by_cases k2 : x.kind = 2
 ·simp [k2, app1 h2 hm]
 by_cases k3 : x.kind = 3
 ·simp [k3, app1 h3 hm]
 by_cases k4 : x.kind = 4
 ·simp [k4, app1 h4 hm]
 by_cases k5 : x.kind = 5
 ·simp [k5, app1 h5 hm]
 by_cases k6 : x.kind = 6
 ·simp [k6, app1 h6 hm, hl]
 by_cases k7 : x.kind = 7
 ·simp [k7, app1 h7 hm, hl]
 by_cases k8 : x.kind = 8
 ·simp [k8, app1 h8 hm, hl]
 simp [k1, k2, k3, k4, k5, k6, k7, k8]
theorem f7_ {n : Nat} {t0 : List GFact} : ∀ (xs : List GFact) (s : St8) (m : Nat), le8 s m → m + xs.length ≤ 4294967296 → (∀ x ∈ xs, x.l.length ≤ 4294967296) → jg_ (x5_ n t0) (zC_ n t0) xs s = some (cat8 s xs)
 | [], s, m, _, _, _ => by
  obtain ⟨s1, s2, s3, s4, s5, s6, s7, s8⟩ := s;simp [jg_, zC_, cat8, zu_, zv_, inhF, asgF, grF, ssdF, dsdF, sesF]
 | x :: xs, s, m, h, hm, hx => by
  rw [List.length_cons] at hm;rw [jg_, rk_ h (by omega) (hx x (List.mem_cons_self ..)), b4_ s x xs];exact f7_ xs _ (m + 1) (nk_ h x) (by omega) fun y hy => hx y (List.mem_cons_of_mem _ hy)
theorem f8_ {n : Nat} {l : List GFact} (hn : l.length < n) (hl : l.length ≤ 100000) (hx : ∀ x ∈ l, x.l.length ≤ 4294967296) : ve_ n l = some (ofF l) := by
 unfold ve_;have hL : qR_ n l n ([], [], [], [], [], [], [], [], 0) = _ := yl_ n l (by omega) n ([], [], [], [], [], [], [], []) 0 (Nat.zero_le _) (by omega);rw [hL, List.drop_zero, f7_ l _ 0 nl_ (by omega) hx];rfl
theorem yc_ {β : Type} {k : Int} {g : GFact → β} (x : GFact) (l : List GFact) : ((x :: l).filterMap fun f => if f.kind = k then some (g f) else none).length = (if x.kind = k then 1 else 0) + (l.filterMap fun f => if f.kind = k then some (g f) else none).length := by
 by_cases h : x.kind = k
 ·rw [rD_ h, if_pos h, List.length_cons, Nat.add_comm]
 ·rw [rE_ h, if_neg h, Nat.zero_add]
theorem sum8 (l : List GFact) : (zu_ l).length + ((zv_ l).length + ((inhF l).length + ((asgF l).length + ((grF l).length + ((ssdF l).length + ((dsdF l).length + (sesF l).length)))))) ≤ l.length := by
 induction l with
 | nil => exact Nat.le_refl 0
 | cons x l ih =>
  unfold zu_ zv_ inhF asgF grF ssdF dsdF sesF at *;rw [yc_, yc_, yc_, yc_, yc_, yc_, yc_, yc_, List.length_cons];have : (if x.kind = 1 then 1 else 0) + (if x.kind = 2 then 1 else 0) + (if x.kind = 3 then 1 else 0) + (if x.kind = 4 then 1 else 0) + (if x.kind = 5 then 1 else 0) + (if x.kind = 6 then 1 else 0) + (if x.kind = 7 then 1 else 0) + (if x.kind = 8 then 1 else 0) ≤ 1 := by
   by_cases k1 : x.kind = 1
   ·simp [k1]
   by_cases k2 : x.kind = 2
   ·simp [k2]
   by_cases k3 : x.kind = 3
   ·simp [k3]
   by_cases k4 : x.kind = 4
   ·simp [k4]
   by_cases k5 : x.kind = 5
   ·simp [k5]
   by_cases k6 : x.kind = 6
   ·simp [k6]
   by_cases k7 : x.kind = 7
   ·simp [k7]
   by_cases k8 : x.kind = 8
   ·simp [k8]
   simp [k1, k2, k3, k4, k5, k6, k7, k8]
  omega
theorem dp_ {n : Nat} {l : List GFact} (hn : 200000 ≤ n) (hl : l.length ≤ 2000) (hx : ∀ x ∈ l, x.l.length ≤ 100000) : ∃ R M, jJ_ n (ofF l) = some ⟨zu_ R, zv_ R, M, asgF R, grF R, ssdF R, dsdF R, sesF R⟩ ∧ RisF R ∧ (∀ z, z ∈ R ↔ z ∈ zh_ (ofF l)) ∧ ((ym_ (inhF R) ∧ M = inhF R) ∨ (¬ ym_ (inhF R) ∧ M.Sublist (inhF R) ∧ ∀ x, x ∈ M ↔ x ∈ inhF R ∧ ¬ Said (inhF R) x)) := by
 have s8 := sum8 l;have hsm : Sml 2000 (ofF l) := ⟨show (zu_ l).length ≤ _ by omega, show (zv_ l).length ≤ _ by omega, show (inhF l).length ≤ _ by omega, show (asgF l).length ≤ _ by omega, show (grF l).length ≤ _ by omega, show (ssdF l).length ≤ _ by omega, show (dsdF l).length ≤ _ by omega, show (sesF l).length ≤ _ by omega, fun d h => by
  obtain ⟨x, h1, _, rfl⟩ := fM_.1 h;exact hx x h1, fun d h => by
  obtain ⟨x, h1, _, rfl⟩ := fN_.1 h;exact hx x h1, fun d h => by
  obtain ⟨x, h1, _, rfl⟩ := fO_.1 h;exact hx x h1⟩
 have hfl : (factsP (ofF l)).length ≤ 16000 := gi_ hsm;have e1 := (vU_ (n := n) (by omega) hn hsm).2;have e2 : jw_ n n (factsP (ofF l), 0) = some (zh_ (ofF l)) := by
  have := f6_ (n := n) (l := factsP (ofF l)) hn (by omega) (fun x h => bc_ hsm h) n 0 (Nat.zero_le _) (by omega);rw [List.take_zero, List.drop_zero] at this;exact this
 have hrl : (zh_ (ofF l)).length ≤ 16000 := by
  unfold zh_;rw [List.length_map];exact hfl
 have hrx : ∀ x ∈ zh_ (ofF l), x.l.length ≤ 100000 := fun x hx => by
  obtain ⟨y, hy, rfl⟩ := List.mem_map.1 hx;have := bc_ hsm hy;have := xz_ tx y.l;show (tx.ofL y.l).length ≤ _;omega
 obtain ⟨R, e3, hR, hRm, hRl⟩ := wj_ (n := n) (l := zh_ (ofF l)) hn (by omega) hrx (fun x hx => f5_ hx) n 0 [] (Nat.zero_le _) (by omega) List.Pairwise.nil (fun z => by rw [List.take_zero]) (Nat.zero_le _);have e3 : qI_ n (zh_ (ofF l)) n ([], 0) = some R := e3;have hRx : ∀ x ∈ R, x.l.length ≤ 100000 := fun x h => hrx x ((hRm x).1 h)
 have e4 : ve_ n R = some (ofF R) := f8_ (by omega) (by omega) fun x h => by have := hRx x h; omega
 have t8 := sum8 R;obtain ⟨b, e5, hb⟩ := dZ_ (n := n) (l := inhF R) (by omega) hn;have e5 : zF_ n (ofF R).inherit = some b := e5;cases b with
 | true =>
  refine ⟨R, inhF R, ?_, hR, hRm, .inl ⟨hb.1 rfl, rfl⟩⟩;unfold jJ_;rw [e1, Zo, e2, Zo];unfold ref13_Normal_C2_ref13_rising;rw [e3, Zo, Zo, e4, Zo, e5, Zo, if_pos rfl];rfl
 | false =>
  have hri : ¬ ym_ (inhF R) := fun h => Bool.noConfusion (hb.2 h);obtain ⟨M, e6, hM, hMs⟩ := kU_ (n := n) (q := ofF R) (show (inhF R).length < _ by omega) hn hri (nN_ hR fun x h => f5_ ((hRm x).1 h)) n 0 [] (Nat.zero_le _) (show (inhF R).length - 0 < n by omega) (Nat.zero_le _);have e6 : qX_ n (ofF R) n ([], 0) = some M := e6;rw [List.drop_zero] at hM hMs
  refine ⟨R, M, ?_, hR, hRm, .inr ⟨hri, hMs, hM⟩⟩;unfold jJ_;rw [e1, Zo, e2, Zo];unfold ref13_Normal_C2_ref13_rising;rw [e3, Zo, Zo, e4, Zo, e5, Zo, if_neg (by decide), e6, Zo];rfl
end Go.Proofs.YtkkhgdmmbhpckaaGreat.Ab
