/-
 What is below what: pairs added one by one, ranks of pairs without a ring, the pairs that are needed. No program in sight.
-/
import Derived.Test.YtkkhgdmmbhpckaaGreatRc
namespace Go.Proofs.YtkkhgdmmbhpckaaGreat.Ab
open Go.RowKit
attribute [local instance] baLawful
def sB (l : List GPair) (x : ByteArray) : List ByteArray := (l.filter fun p => x == p.a).map fun p => p.b
theorem xD_ {l : List GPair} {x y : ByteArray} : y ∈ sB l x ↔ ⟨x, y⟩ ∈ l := by
 unfold sB;rw [List.mem_map];constructor
 ·rintro ⟨⟨a, b⟩, h1, rfl⟩
  obtain ⟨h1, h2⟩ := List.mem_filter.1 h1;have : x = a := by simpa using h2
  subst this;exact h1
 ·intro h
  exact ⟨⟨x, y⟩, List.mem_filter.2 ⟨h, by simp⟩, rfl⟩
theorem nz_ (l : List GPair) (x : ByteArray) : (sB l x).length ≤ l.length := by
 unfold sB;rw [List.length_map];exact List.length_filter_le ..
def Dn (l : List GPair) : ByteArray → ByteArray → Prop := Rch (sB l)
def mB (l : List GPair) : List (ByteArray × List ByteArray) := l.foldl (fun es p => madd p.a [p.b] es) []
theorem rK_ (l : List GPair) : nxt (mB l) = sB l := by
 funext x;exact (gZ_ (fun p : GPair => p.a) (fun p => p.b) x l []).trans (List.nil_append _)
theorem rc_ (l : List GPair) : small l.length (mB l) := by
 have := kK_ (fun p : GPair => p.a) (fun p => p.b) l 0 [] kb_;rwa [Nat.zero_add] at this
theorem gg_ {n : Nat} (l0 : List GPair) : ∀ (l : List GPair) (m : Nat) (es : List (ByteArray × List ByteArray)), small m es → m + l.length < 2147483648 →
  jg_ (xU_ n l0) (zT_ n l0) l es = some (l.foldl (fun es p => madd p.a [p.b] es) es)
 | [], m, es, h, hm => by
  rw [jg_];exact uG_ (h.dec (by simp at hm; omega))
 | p :: l, m, es, h, hm => by
  rw [List.length_cons] at hm;have h2 := h.add p.a p.b;rw [jg_];unfold xU_;dsimp only;rw [uG_ (h.dec (by omega)), uG_ (h.fam (by omega) p.a), Zo, uG_ (h2.dec (by omega))];exact gg_ l0 l (m + 1) _ h2 (by omega)
theorem kR_ {n : Nat} {l : List GPair} (hn : l.length < n) (hl : l.length < 2147483648) : zc_ n l = some (mB l) := by
 unfold zc_;have hL : j4_ n l n ([], 0) = _ := kf_ n l (by omega) n [] 0 (Nat.zero_le _) (by omega);rw [hL, List.drop_zero, gg_ l l 0 [] kb_ (by omega), Zo];exact uG_ ((rc_ l).dec (by omega))
theorem rL_ {n : Nat} {l : List GPair} (hn : l.length + 1 < n) (hl : l.length < 1073741824) (role : ByteArray) : ∃ r, jW_ n role (mB l) = some r ∧ tx.Rises r ∧ ∀ y, y ∈ r ↔ Dn l role y := by
 have e := rK_ l;have h := gf_ (n := n) (next := mB l) (U := role :: l.map fun p => p.b) (role := role);rw [e] at h;refine h (fun x y hy => ?_) (by simp; omega) (fun x => by have := nz_ l x; omega) (by simp; omega) (fun x => by have := nz_ l x; omega) (List.mem_cons_self ..);exact List.mem_cons_of_mem _ (List.mem_map.2 ⟨⟨x, y⟩, xD_.1 hy, rfl⟩)
theorem db_ {n : Nat} {p : GRoles} (hn : p.inherit.length + 1 < n) (hl : p.inherit.length < 1073741824) (role : ByteArray) : ∃ r, zU_ n p role = some r ∧ tx.Rises r ∧ ∀ y, y ∈ r ↔ Dn p.inherit role y := by
 obtain ⟨r, h1, h2⟩ := rL_ hn hl role;refine ⟨r, ?_, h2⟩;unfold zU_;rw [kR_ (by omega) (by omega), Zo, h1];rfl
theorem nA_ {l : List ByteArray} (h : tx.Rises l) {U : List ByteArray} (hU : ∀ x ∈ l, x ∈ U) : l.length ≤ U.length := x6_ (tx.nodup h) hU
theorem dn_in {l : List GPair} {a b : ByteArray} (h : Dn l a b) : b ∈ a :: l.map fun p => p.b := by
 cases h with
 | refl => exact List.mem_cons_self ..
 | step _ hc => exact List.mem_cons_of_mem _ (List.mem_map.2 ⟨⟨_, _⟩, xD_.1 hc, rfl⟩)
theorem nB_ {n : Nat} {l : List ByteArray} {u : ByteArray} (hn : l.length < n) (hl : l.length < 4611686018427387904) : qD_ n l u = some (l.any fun x => decide (u = x)) := by
 obtain ⟨r, e, h⟩ := g5_ (L := qM_ n l u) (xs := l) (P := fun x => some (u.toList == x.toList)) (fun x => decide (u = x)) (fun _ _ => rfl) (fun x _ => by rw [beqS]) hl n 0 (by omega) (by omega);have e : qM_ n l u n 0 = some r := e;rw [List.drop_zero] at h;unfold qD_ xa_;rw [e, Zo];rcases h with ⟨h1, k, rfl⟩ | ⟨h1, rfl⟩
 ·rw [h1]
  simp
 ·rw [h1]
  simp
theorem isB {n : Nat} {l : List GPair} (hn : l.length + 1 < n) (hl : l.length < 1073741824) (a u : ByteArray) : ∃ r b, jW_ n a (mB l) = some r ∧ qD_ n r u = some b ∧ (b = true ↔ Dn l a u) := by
 obtain ⟨r, h1, h2, h3⟩ := rL_ hn hl a;have hlen := nA_ h2 (U := a :: l.map fun p => p.b) fun x hx => dn_in ((h3 x).1 hx);rw [List.length_cons, List.length_map] at hlen;refine ⟨r, _, h1, nB_ (by omega) (by omega), ?_⟩;rw [List.any_eq_true];constructor
 ·rintro ⟨x, hx, e⟩
  have : u = x := of_decide_eq_true e;subst this;exact (h3 _).1 hx
 ·exact fun h => ⟨u, (h3 u).2 h, decide_eq_true rfl⟩
theorem dc_ {n : Nat} {l : List GPair} (hn : l.length + 1 < n) (hl : l.length < 1073741824) : ∀ (xs : List GPair), ∃ r, jg_ (zk_ n l (mB l)) (vn_ n l (mB l)) xs () = some r ∧ ((r = .inr true ∧ ∃ x ∈ xs, Dn l x.b x.a) ∨ (r = .inl () ∧ ∀ x ∈ xs, ¬ Dn l x.b x.a))
 | [] => ⟨_, rfl, .inr ⟨rfl, fun _ h => by cases h⟩⟩
 | x :: xs => by
  obtain ⟨r, b, h1, h2, h3⟩ := isB hn hl x.b x.a;rw [jg_];unfold zk_;dsimp only;rw [h1, Zo, h2, Zo];cases b with
  | true => exact ⟨_, rfl, .inl ⟨rfl, x, List.mem_cons_self .., h3.1 rfl⟩⟩
  | false =>
   obtain ⟨r, k1, k2⟩ := dc_ hn hl xs;refine ⟨r, k1, k2.imp (fun ⟨e, y, hy, hd⟩ => ⟨e, y, List.mem_cons_of_mem _ hy, hd⟩) fun ⟨e, hd⟩ => ⟨e, fun y hy => ?_⟩⟩;rcases List.mem_cons.1 hy with rfl | hy
   ·exact fun h => Bool.noConfusion (h3.2 h)
   ·exact hd y hy
def ym_ (l : List GPair) : Prop := ∃ x ∈ l, Dn l x.b x.a
theorem nC_ {n : Nat} {l : List GPair} (hn : l.length + 1 < n) (hl : l.length < 1073741824) : ∃ b, wf_ n l = some b ∧ (b = true ↔ ym_ l) := by
 obtain ⟨r, h1, h2⟩ := dc_ hn hl l;unfold wf_;have hL : xw_ n l (mB l) n 0 = _ := kO_ n l (mB l) (by omega) n () 0 (Nat.zero_le _) (by omega);rw [kR_ (by omega) (by omega), Zo, hL, List.drop_zero, h1, Zo];rcases h2 with ⟨rfl, h⟩ | ⟨rfl, h⟩
 ·exact ⟨true, rfl, fun _ => h, fun _ => rfl⟩
 ·exact ⟨false, rfl, fun e => (by cases e), fun ⟨x, hx, hd⟩ => absurd hd (h x hx)⟩
def Said (l : List GPair) (x : GPair) : Prop := ∃ s, ⟨x.a, s⟩ ∈ l ∧ s ≠ x.b ∧ Dn l s x.b
theorem s2_ {n : Nat} {l : List GPair} (hn : l.length + 1 < n) (hl : l.length < 1073741824) (x : GPair) : ∃ b, ql_ n (jh_ x.a [] (mB l)) x (mB l) = some b ∧ (b = true ↔ Said l x) := by
 have hc : ∀ s, ∃ b, xC_ n s x (mB l) = some b ∧ (b = true ↔ s ≠ x.b ∧ Dn l s x.b) := by
  intro s;unfold xC_;rw [beqS];by_cases e : s = x.b
  ·rw [decide_eq_true e, if_pos rfl]
   exact ⟨false, rfl, ⟨fun h => (by cases h), fun h => absurd e h.1⟩⟩
  ·obtain ⟨r, b, h1, h2, h3⟩ := isB hn hl s x.b
   rw [decide_eq_false e, if_neg (by decide), h1, Zo, h2];exact ⟨b, rfl, fun h => ⟨e, h3.1 h⟩, fun h => h3.2 h.2⟩
 obtain ⟨q, hq⟩ := Classical.axiomOfChoice hc;have hnx : jh_ x.a [] (mB l) = sB l x.a := congrFun (rK_ l) x.a;rw [hnx];have hlen := nz_ l x.a;obtain ⟨r, e, h⟩ := g5_ (L := qk_ n (sB l x.a) x (mB l)) (xs := sB l x.a) (P := fun s => xC_ n s x (mB l)) q (fun _ _ => rfl) (fun s _ => (hq s).1) (by omega) n 0 (by omega) (by omega);have e : qk_ n (sB l x.a) x (mB l) n 0 = some r := e
 rw [List.drop_zero] at h;have hany : (sB l x.a).any q = true ↔ Said l x := by
  rw [List.any_eq_true];exact ⟨fun ⟨s, hs, h⟩ => ⟨s, xD_.1 hs, (hq s).2.1 h⟩, fun ⟨s, hs, h⟩ => ⟨s, xD_.2 hs, (hq s).2.2 h⟩⟩
 unfold ql_ qB_;rw [e, Zo];rcases h with ⟨h1, k, rfl⟩ | ⟨h1, rfl⟩
 ·exact ⟨true, by simp, fun _ => hany.1 h1, fun _ => rfl⟩
 ·refine ⟨false, by simp, fun h => (by cases h), fun h => ?_⟩
  have := hany.2 h;rw [h1] at this;exact this
theorem kS_ {n : Nat} {l : List GPair} (hn : l.length + 1 < n) (hl : l.length < 1073741824) : ∀ (xs out : List GPair), out.length + xs.length ≤ l.length →
  ∃ M, jg_ (x3_ n l (mB l)) (x4_ n l (mB l)) xs out = some (out ++ M) ∧ M.Sublist xs ∧ ∀ x, x ∈ M ↔ x ∈ xs ∧ ¬ Said l x
 | [], out, _ => ⟨[], by simp [jg_, x4_], .slnil, fun x => by simp⟩
 | x :: xs, out, h => by
  rw [List.length_cons] at h;obtain ⟨b, h1, h2⟩ := s2_ hn hl x;rw [jg_];unfold x3_;dsimp only;rw [h1, Zo];cases b with
  | true =>
   obtain ⟨M, k1, k2, k3⟩ := kS_ hn hl xs out (by omega);refine ⟨M, k1, k2.cons x, fun y => (k3 y).trans ⟨fun ⟨a, b⟩ => ⟨List.mem_cons_of_mem _ a, b⟩, fun ⟨a, b⟩ => ⟨?_, b⟩⟩⟩;rcases List.mem_cons.1 a with rfl | a
   ·exact absurd (h2.1 rfl) b
   ·exact a
  | false =>
   have hx : ¬ Said l x := fun h => Bool.noConfusion (h2.2 h);have happ : app out [x] = some (out ++ [x]) := appS (by simp; omega);obtain ⟨M, k1, k2, k3⟩ := kS_ hn hl xs (out ++ [x]) (by rw [List.length_append, List.length_singleton]; omega);refine ⟨x :: M, ?_, k2.cons_cons x, fun y => ?_⟩
   ·rw [if_neg (by decide), happ, Zo]
    refine k1.trans ?_;simp
   ·rw [List.mem_cons, List.mem_cons, k3 y]
    constructor
    ·rintro (rfl | ⟨a, b⟩)
     ·exact ⟨.inl rfl, hx⟩
     ·exact ⟨.inr a, b⟩
    ·rintro ⟨rfl | a, b⟩
     ·exact .inl rfl
     ·exact .inr ⟨a, b⟩
theorem hD_ {n : Nat} {l : List GPair} (hn : l.length + 1 < n) (hl : l.length < 1073741824) : ∃ M, vE_ n l = some M ∧ M.Sublist (tOpr.ofL l) ∧ ((ym_ (tOpr.ofL l) ∧ M = tOpr.ofL l) ∨ (¬ ym_ (tOpr.ofL l) ∧ ∀ x, x ∈ M ↔ x ∈ tOpr.ofL l ∧ ¬ Said (tOpr.ofL l) x)) := by
 have hle := xz_ tOpr l;unfold vE_;rw [show zG_ n l = some (tOpr.ofL l) from if_pos (by omega), Zo];obtain ⟨b, h1, h2⟩ := nC_ (n := n) (l := tOpr.ofL l) (by omega) (by omega);rw [h1, Zo];cases b with
 | true => exact ⟨_, if_pos rfl, List.Sublist.refl _, .inl ⟨h2.1 rfl, rfl⟩⟩
 | false =>
  obtain ⟨M, k1, k2, k3⟩ := kS_ (n := n) (l := tOpr.ofL l) (by omega) (by omega) (tOpr.ofL l) [] (by simp);have hL : jH_ n (tOpr.ofL l) (mB (tOpr.ofL l)) n ([], 0) = _ := kp_ n (tOpr.ofL l) (mB (tOpr.ofL l)) (by omega) n [] 0 (Nat.zero_le _) (by omega);rw [if_neg (by decide), kR_ (by omega) (by omega), Zo, hL, List.drop_zero, k1];exact ⟨M, rfl, k2, .inr ⟨fun h => Bool.noConfusion (h2.2 h), k3⟩⟩
attribute [local instance] baLawful
theorem rM_ {l m : List GPair} (h : ∀ x ∈ l, x ∈ m) {u v : ByteArray} (k : Dn l u v) : Dn m u v := k.mono fun _ _ hy => Rch.refl.step (xD_.2 (h _ (xD_.1 hy)))
section
variable {P M : List GPair} {rk : ByteArray → Nat} (hr : ∀ p ∈ P, rk p.a < rk p.b)
include hr in
theorem dn_le {a b : ByteArray} (h : Dn P a b) : rk a ≤ rk b ∧ (a = b ∨ rk a < rk b) := by
 induction h with
 | refl => exact ⟨Nat.le_refl _, .inl rfl⟩
 | step _ hc ih =>
  have := hr _ (xD_.1 hc);simp only at this;exact ⟨by omega, .inr (by omega)⟩
end
theorem rd_ {P : List GPair} (h : ¬ ym_ P) (hnd : P.Nodup) {i : Nat} (hi : i < P.length) : Dn (P.eraseIdx i) P[i].a P[i].b ↔ Said P P[i] := by
 have hx : P[i] ∈ P := List.getElem_mem hi;have hne : ∀ y, y ∈ P.eraseIdx i ↔ y ∈ P ∧ y ≠ P[i] := by
  intro y;rw [List.mem_eraseIdx_iff_getElem];constructor
  ·rintro ⟨j, hj, k, rfl⟩
   exact ⟨List.getElem_mem hj, fun e => k ((List.getElem_inj hnd).1 e)⟩
  ·rintro ⟨h1, h2⟩
   obtain ⟨j, hj, rfl⟩ := List.getElem_of_mem h1;exact ⟨j, hj, fun e => h2 (by subst e; rfl), rfl⟩
 constructor
 ·intro hd
  rcases Rch.first hd with e | ⟨s, h1, h2⟩
  ·exact absurd ⟨P[i], hx, by rw [e]; exact .refl⟩ h
  ·have h1 := (hne _).1 (xD_.1 h1)
   exact ⟨s, h1.1, fun e => h1.2 (by rw [e]), rM_ (fun y hy => ((hne y).1 hy).1) h2⟩
 ·rintro ⟨s, h1, h2, h3⟩
  have hs : ¬ Dn P s P[i].a := fun hd => h ⟨_, h1, hd⟩;have h4 : ∀ {t}, Dn P s t → Dn (P.eraseIdx i) s t := by
   intro t ht;induction ht with
   | refl => exact .refl
   | step hb hc ih =>
    refine ih.step (xD_.2 ((hne _).2 ⟨xD_.1 hc, fun e => hs ?_⟩));rw [← e];exact hb
  exact Rch.head (xD_.2 ((hne _).2 ⟨h1, fun e => h2 (by rw [← e])⟩)) (h4 h3)
end Go.Proofs.YtkkhgdmmbhpckaaGreat.Ab
