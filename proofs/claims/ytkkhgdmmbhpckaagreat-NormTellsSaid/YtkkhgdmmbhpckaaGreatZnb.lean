/-
 The rows of a policy, each row of texts in order. No program in sight.
-/
import Derived.Test.YtkkhgdmmbhpckaaGreatNop
namespace Go.Proofs.YtkkhgdmmbhpckaaGreat.Ab
open Go.RowKit
abbrev factsP (p : GRoles) : List GFact := jZ_ p
theorem ux_ {p : GRoles} {x : GFact} : x ∈ factsP p ↔ (∃ u ∈ p.users, fU u = x) ∨ (∃ u ∈ p.roles, fR u = x) ∨ (∃ u ∈ p.inherit, fI u = x) ∨ (∃ u ∈ p.assign, fA u = x) ∨ (∃ u ∈ p.grants, fG u = x) ∨ (∃ u ∈ p.ssd, fS u = x) ∨ (∃ u ∈ p.dsd, fD u = x) ∨ (∃ u ∈ p.sessions, fE u = x) := by
 unfold factsP jZ_;simp only [List.mem_append, List.mem_map, or_assoc]
theorem Pre.lt_trans {α : Type} {c : α → α → Int} (h : Pre c) {x y z : α} (h1 : c x y < 0) (h2 : c y z < 0) : c x z < 0 := by
 have a := h.trans x y z (by omega) (by omega);have b := h.neg x z;have d := h.neg x y;have e := h.neg y z;by_cases h0 : c x z = 0
 ·have := h.trans z x y (by omega) (by omega)
  omega
 ·omega
def z7_ (x : GFact) : List ByteArray := if x.kind = 6 ∨ x.kind = 7 then x.l else if x.kind = 8 then x.b :: x.l else [x.b, x.c]
def cmpF : GFact → GFact → Int := lex (fun x y => cmI x.kind y.kind) (lex (fun x y => cmS x.a y.a) (lex (fun x y => cmI x.n_ y.n_) (fun x y => cmL (z7_ x) (z7_ y))))
theorem pre_cmpF : Pre cmpF := Pre.lex (pre_cmI fun x : GFact => x.kind) (Pre.lex (pre_cmS fun x : GFact => x.a) (Pre.lex (pre_cmI fun x : GFact => x.n_) (pre_cmL z7_)))
def CanF (x : GFact) : Prop := x.at_ = 0 ∧ (x.kind = 6 ∨ x.kind = 7 → x.b = ByteArray.empty ∧ x.c = ByteArray.empty) ∧ (x.kind = 8 → x.c = ByteArray.empty) ∧ (¬ (x.kind = 6 ∨ x.kind = 7 ∨ x.kind = 8) → x.l = []) ∧ (x.kind = 3 → x.n_ = 0 ∧ x.c = ByteArray.empty)
theorem nM_ {x y : GFact} (hx : CanF x) (hy : CanF y) (h : cmpF x y = 0) : x = y := by
 obtain ⟨h1, h⟩ := vR_ h;obtain ⟨h2, h⟩ := vR_ h;obtain ⟨h3, h⟩ := vR_ h;have h1 : x.kind = y.kind := kv_ h1;have h2 : x.a = y.a := (jz_ _ _).1 h2;have h3 : x.n_ = y.n_ := kv_ h3;have h4 : z7_ x = z7_ y := yF_ h;obtain ⟨x1, x2, x3, x4, _⟩ := hx;obtain ⟨y1, y2, y3, y4, _⟩ := hy;obtain ⟨xk, xa, xb, xc, xn, xl, xt⟩ := x;obtain ⟨yk, ya, yb, yc, yn, yl, yt⟩ := y;unfold z7_ at h4;dsimp only at *
 subst h1 h2 h3 x1 y1;by_cases k6 : xk = 6 ∨ xk = 7
 ·rw [if_pos k6, if_pos k6] at h4
  obtain ⟨rfl, rfl⟩ := x2 k6;obtain ⟨rfl, rfl⟩ := y2 k6;rw [h4]
 ·rw [if_neg k6, if_neg k6] at h4
  by_cases k8 : xk = 8
  ·rw [if_pos k8, if_pos k8] at h4
   obtain ⟨rfl, rfl⟩ := List.cons.inj h4;rw [x3 k8, y3 k8]
  ·rw [if_neg k8, if_neg k8] at h4
   obtain ⟨rfl, h5⟩ := List.cons.inj h4;obtain ⟨rfl, _⟩ := List.cons.inj h5;have hk : ¬ (xk = 6 ∨ xk = 7 ∨ xk = 8) := fun h => by
    rcases h with h | h | h
    ·exact k6 (.inl h)
    ·exact k6 (.inr h)
    ·exact k8 h
   rw [x4 hk, y4 hk]
def RisF (l : List GFact) : Prop := l.Pairwise fun x y => cmpF x y < 0
theorem ins_ok {out : List GFact} {x : GFact} {k : Nat} (hs : RisF out) (h1 : ∀ y ∈ out.drop k, cmpF x y < 0) (h2 : k = 0 ∨ ∃ y, out[k - 1]? = some y ∧ cmpF y x < 0) : RisF (out.take k ++ [x] ++ out.drop k) := by
 have hsp : (out.take k ++ out.drop k).Pairwise fun x y => cmpF x y < 0 := by rw [List.take_append_drop]; exact hs
 obtain ⟨s1, s2, s3⟩ := List.pairwise_append.1 hsp;have hlow : ∀ a ∈ out.take k, cmpF a x < 0 := fun a ha => by
  obtain ⟨i, hi⟩ := List.getElem?_of_mem ha;have hil := (List.getElem?_eq_some_iff.1 hi).1;rw [List.length_take] at hil;rw [List.getElem?_take, if_pos (by omega)] at hi;rcases h2 with h2 | ⟨y, hy, hyx⟩
  ·omega
  ·by_cases e : i = k - 1
   ·rw [e, hy, Option.some.injEq] at hi
    rw [← hi];exact hyx
   ·obtain ⟨i1, i2⟩ := List.getElem?_eq_some_iff.1 hi
    obtain ⟨k1, k2⟩ := List.getElem?_eq_some_iff.1 hy;have := List.pairwise_iff_getElem.1 hs i (k - 1) i1 k1 (by omega);rw [i2, k2] at this;exact pre_cmpF.lt_trans this hyx
 refine List.pairwise_append.2 ⟨List.pairwise_append.2 ⟨s1, List.pairwise_singleton .., fun a ha b hb => ?_⟩, s2, fun a ha b hb => ?_⟩
 ·rw [List.mem_singleton.1 hb]
  exact hlow a ha
 ·rcases List.mem_append.1 ha with ha | ha
  ·exact s3 a ha b hb
  ·rw [List.mem_singleton.1 ha]
   exact h1 b hb
theorem s3_ {out : List GFact} {x z : GFact} {k : Nat} : z ∈ out.take k ++ [x] ++ out.drop k ↔ z = x ∨ z ∈ out := by
 conv => rhs; rw [← List.take_append_drop k out]
 simp only [List.mem_append, List.mem_singleton];constructor
 ·rintro ((h | h) | h)
  ·exact .inr (.inl h)
  ·exact .inl h
  ·exact .inr (.inr h)
 ·rintro (h | h | h)
  ·exact .inl (.inr h)
  ·exact .inl (.inl h)
  ·exact .inr h
theorem dk_ {q : GRoles} {x : GFact} (hx : x ∈ factsP q) : CanF x := by
 rcases ux_.1 hx with ⟨u, hu, rfl⟩ | ⟨u, hu, rfl⟩ | ⟨u, hu, rfl⟩ | ⟨u, hu, rfl⟩ | ⟨u, hu, rfl⟩ | ⟨u, hu, rfl⟩ | ⟨u, hu, rfl⟩ | ⟨u, hu, rfl⟩
 ·exact ⟨rfl, fun h => (by rcases h with h | h <;> cases h), fun h => (by cases h), fun _ => rfl, fun h => (by cases h)⟩
 ·exact ⟨rfl, fun h => (by rcases h with h | h <;> cases h), fun h => (by cases h), fun _ => rfl, fun h => (by cases h)⟩
 ·exact ⟨rfl, fun h => (by rcases h with h | h <;> cases h), fun h => (by cases h), fun _ => rfl, fun _ => ⟨rfl, rfl⟩⟩
 ·exact ⟨rfl, fun h => (by rcases h with h | h <;> cases h), fun h => (by cases h), fun _ => rfl, fun h => (by cases h)⟩
 ·exact ⟨rfl, fun h => (by rcases h with h | h <;> cases h), fun h => (by cases h), fun _ => rfl, fun h => (by cases h)⟩
 ·exact ⟨rfl, fun _ => ⟨rfl, rfl⟩, fun h => (by cases h), fun h => absurd (.inl rfl) h, fun h => (by cases h)⟩
 ·exact ⟨rfl, fun _ => ⟨rfl, rfl⟩, fun h => (by cases h), fun h => absurd (.inr (.inl rfl)) h, fun h => (by cases h)⟩
 ·exact ⟨rfl, fun h => (by rcases h with h | h <;> cases h), fun _ => rfl, fun h => absurd (.inr (.inr rfl)) h, fun h => (by cases h)⟩
attribute [local instance] baLawful
def rowL (x : GFact) : GFact := ⟨x.kind, x.a, x.b, x.c, x.n_, tx.ofL x.l, x.at_⟩
def zh_ (p : GRoles) : List GFact := (factsP p).map rowL
theorem f5_ {p : GRoles} {x : GFact} (hx : x ∈ zh_ p) : CanF x := by
 obtain ⟨y, hy, rfl⟩ := List.mem_map.1 hx;obtain ⟨h1, h2, h3, h4, h5⟩ := dk_ hy;exact ⟨h1, h2, h3, fun h => by
  show tx.ofL y.l = [];rw [h4 h];rfl, h5⟩
theorem yb_ {β : Type} {k : Int} {g : GFact → β} (l : List GFact) : (l.map rowL).filterMap (fun f => if f.kind = k then some (g f) else none) = l.filterMap (fun f => if f.kind = k then some (g (rowL f)) else none) := by
 rw [List.filterMap_map];rfl
theorem dY_ {α β : Type} {k : Int} {g : GFact → α} {h : α → β} (l : List GFact) : l.filterMap (fun f => if f.kind = k then some (h (g f)) else none) = (l.filterMap fun f => if f.kind = k then some (g f) else none).map h := by
 rw [List.map_filterMap];congr 1
 funext f;split <;> rfl
def sodQ (d : GSod) : GSod := ⟨d.name, d.n_, tx.ofL d.roles⟩
def sesQ (s : GSession) : GSession := ⟨s.name, s.user, tx.ofL s.roles⟩
theorem s4_ (p : GRoles) : ofF (zh_ p) = ⟨p.users, p.roles, p.inherit, p.assign, p.grants, p.ssd.map sodQ, p.dsd.map sodQ, p.sessions.map sesQ⟩ := by
 have hp := g0_ p;have e1 : zu_ (zh_ p) = p.users := (yb_ (k := 1) (g := fun f => f.a) (factsP p)).trans (congrArg GRoles.users hp);have e2 : zv_ (zh_ p) = p.roles := (yb_ (k := 2) (g := fun f => f.a) (factsP p)).trans (congrArg GRoles.roles hp);have e3 : inhF (zh_ p) = p.inherit := (yb_ (k := 3) (g := fun f => (⟨f.a, f.b⟩ : GPair)) (factsP p)).trans (congrArg GRoles.inherit hp)
 have e4 : asgF (zh_ p) = p.assign := (yb_ (k := 4) (g := fun f => (⟨f.a, f.b⟩ : GPair)) (factsP p)).trans (congrArg GRoles.assign hp);have e5 : grF (zh_ p) = p.grants := (yb_ (k := 5) (g := fun f => (⟨f.a, f.b, f.c⟩ : GGrant)) (factsP p)).trans (congrArg GRoles.grants hp)
 have e6 : ssdF (zh_ p) = p.ssd.map sodQ := ((yb_ (k := 6) (g := fun f => (⟨f.a, f.n_, f.l⟩ : GSod)) (factsP p)).trans (dY_ (k := 6) (g := fun f => (⟨f.a, f.n_, f.l⟩ : GSod)) (h := sodQ) (factsP p))).trans (congrArg (List.map sodQ) (congrArg GRoles.ssd hp))
 have e7 : dsdF (zh_ p) = p.dsd.map sodQ := ((yb_ (k := 7) (g := fun f => (⟨f.a, f.n_, f.l⟩ : GSod)) (factsP p)).trans (dY_ (k := 7) (g := fun f => (⟨f.a, f.n_, f.l⟩ : GSod)) (h := sodQ) (factsP p))).trans (congrArg (List.map sodQ) (congrArg GRoles.dsd hp))
 have e8 : sesF (zh_ p) = p.sessions.map sesQ := ((yb_ (k := 8) (g := fun f => (⟨f.a, f.b, f.l⟩ : GSession)) (factsP p)).trans (dY_ (k := 8) (g := fun f => (⟨f.a, f.b, f.l⟩ : GSession)) (h := sesQ) (factsP p))).trans (congrArg (List.map sesQ) (congrArg GRoles.sessions hp));unfold ofF;rw [e1, e2, e3, e4, e5, e6, e7, e8]
theorem vh_ {β : Type} {g : GFact → Option β} {R L : List GFact} (h : ∀ x, x ∈ R ↔ x ∈ L) (y : β) : y ∈ R.filterMap g ↔ y ∈ L.filterMap g := by
 simp only [List.mem_filterMap, h]
theorem nN_ {R : List GFact} (h : RisF R) (hc : ∀ x ∈ R, CanF x) : (inhF R).Nodup := by
 have hz : ∀ x ∈ R, ∀ y ∈ R, x.kind = 3 → y.kind = 3 → (⟨x.a, x.b⟩ : GPair) = ⟨y.a, y.b⟩ → x = y := fun x hx y hy k1 k2 e => by
  obtain ⟨x1, _, _, x4, x5⟩ := hc x hx;obtain ⟨y1, _, _, y4, y5⟩ := hc y hy;obtain ⟨x6, x7⟩ := x5 k1;obtain ⟨y6, y7⟩ := y5 k2;have x4 := x4 (by omega);have y4 := y4 (by omega);obtain ⟨e1, e2⟩ := GPair.mk.inj e;obtain ⟨xk, xa, xb, xc, xn, xl, xt⟩ := x;obtain ⟨yk, ya, yb, yc, yn, yl, yt⟩ := y;dsimp only at *;rw [e1, e2, k1, k2, x1, y1, x6, y6, x7, y7, x4, y4]
 unfold inhF List.Nodup;rw [List.pairwise_filterMap];refine List.Pairwise.imp_of_mem (fun {x y} hx hy hlt b hb b' hb' e => ?_) h;split at hb
 ·split at hb'
  ·next k1 k2 =>
   have := hz x hx y hy k1 k2 ((Option.some.inj hb).trans (e.trans (Option.some.inj hb').symm));subst this;have := pre_cmpF.neg x x;omega
  ·cases hb'
 ·cases hb
end Go.Proofs.YtkkhgdmmbhpckaaGreat.Ab
