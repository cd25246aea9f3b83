/-
 The program's normal form is the document's. No program in sight.
-/
import Derived.Test.YtkkhgdmmbhpckaaGreatZnd
namespace Go.Proofs.YtkkhgdmmbhpckaaGreat.Ab
open Go.RowKit
attribute [local instance] baLawful
theorem nS_ {p : GRoles} {x : GFact} (hx : x ∈ zh_ p) : (x.kind = 1 ∨ x.kind = 2 → x.b = ByteArray.empty ∧ x.c = ByteArray.empty ∧ x.n_ = 0) ∧ (x.kind = 3 ∨ x.kind = 4 → x.c = ByteArray.empty ∧ x.n_ = 0) ∧ (x.kind = 5 ∨ x.kind = 8 → x.n_ = 0) := by
 obtain ⟨y, hy, rfl⟩ := List.mem_map.1 hx;rcases ux_.1 hy with ⟨u, hu, rfl⟩ | ⟨u, hu, rfl⟩ | ⟨u, hu, rfl⟩ | ⟨u, hu, rfl⟩ | ⟨u, hu, rfl⟩ | ⟨u, hu, rfl⟩ | ⟨u, hu, rfl⟩ | ⟨u, hu, rfl⟩
 ·exact ⟨fun _ => ⟨rfl, rfl, rfl⟩, fun h => (by rcases h with h | h <;> cases h), fun h => (by rcases h with h | h <;> cases h)⟩
 ·exact ⟨fun _ => ⟨rfl, rfl, rfl⟩, fun h => (by rcases h with h | h <;> cases h), fun h => (by rcases h with h | h <;> cases h)⟩
 ·exact ⟨fun h => (by rcases h with h | h <;> cases h), fun _ => ⟨rfl, rfl⟩, fun h => (by rcases h with h | h <;> cases h)⟩
 ·exact ⟨fun h => (by rcases h with h | h <;> cases h), fun _ => ⟨rfl, rfl⟩, fun h => (by rcases h with h | h <;> cases h)⟩
 ·exact ⟨fun h => (by rcases h with h | h <;> cases h), fun h => (by rcases h with h | h <;> cases h), fun _ => rfl⟩
 ·exact ⟨fun h => (by rcases h with h | h <;> cases h), fun h => (by rcases h with h | h <;> cases h), fun h => (by rcases h with h | h <;> cases h)⟩
 ·exact ⟨fun h => (by rcases h with h | h <;> cases h), fun h => (by rcases h with h | h <;> cases h), fun h => (by rcases h with h | h <;> cases h)⟩
 ·exact ⟨fun h => (by rcases h with h | h <;> cases h), fun h => (by rcases h with h | h <;> cases h), fun _ => rfl⟩
theorem uA_ {x y : GFact} (k : x.kind = y.kind) : cmpF x y = if cmS x.a y.a = 0 then (if cmI x.n_ y.n_ = 0 then cmL (z7_ x) (z7_ y) else cmI x.n_ y.n_) else cmS x.a y.a := by
 unfold cmpF lex;dsimp only;rw [if_pos (show cmI x.kind y.kind = 0 by rw [k]; exact yG_ _)]
theorem gj_ {x y : GFact} (k : x.kind = y.kind) (hn : x.n_ = y.n_) : cmpF x y = cmL (x.a :: z7_ x) (y.a :: z7_ y) := by
 rw [uA_ k, if_pos (show cmI x.n_ y.n_ = 0 by rw [hn]; exact yG_ _)];rw [cmL]
theorem d0_ : ∀ {x y : List ByteArray}, x.length = y.length → cmL x y = cfL x y
 | [], [], _ => rfl
 | [], _ :: _, h => by cases h
 | _ :: _, [], h => by cases h
 | a :: x, b :: y, h => by
  have ih := d0_ (x := x) (y := y) (by simpa using h);rw [cmL, ih];unfold cfL;rw [List.zipWith_cons_cons];show _ = if cmS a b = 0 then _ else _
  rfl
theorem vp_ {x : GFact} (h : ¬ (x.kind = 6 ∨ x.kind = 7)) (h8 : ¬ x.kind = 8) : z7_ x = [x.b, x.c] := by
 unfold z7_;rw [if_neg h, if_neg h8]
theorem bd_ {x : GFact} (h : x.kind = 6 ∨ x.kind = 7) : z7_ x = x.l := by
 unfold z7_;rw [if_pos h]
theorem nT_ {x : GFact} (h : x.kind = 8) : z7_ x = x.b :: x.l := by
 unfold z7_;rw [if_neg (by omega), if_pos h]
theorem vi_ {β : Type} (O : Lin β) {k : Int} {g : GFact → β} {R : List GFact} (hR : RisF R) (h : ∀ x ∈ R, ∀ y ∈ R, x.kind = k → y.kind = k → cmpF x y < 0 → O.lt (g x) (g y) = true) : O.Rises (R.filterMap fun f => if f.kind = k then some (g f) else none) := by
 unfold Lin.Rises;rw [List.pairwise_filterMap];refine List.Pairwise.imp_of_mem (fun {x y} hx hy hlt b hb b' hb' => ?_) hR;split at hb
 ·split at hb'
  ·next k1 k2 =>
   rw [← Option.some.inj hb, ← Option.some.inj hb'];exact h x hx y hy k1 k2 hlt
  ·cases hb'
 ·cases hb
theorem lt_tx {a b c d : ByteArray} {e f : ByteArray} (h1 : c = e) (h2 : d = f) (h : cmL [a, c, d] [b, e, f] < 0) : tx.lt a b = true := by
 subst h1 h2;rw [cmL] at h;rw [← gV_];refine decide_eq_true ?_;split at h
 ·rw [g6_] at h
  omega
 ·exact h
theorem lt_pr {a b c d e f : ByteArray} (h2 : e = f) (h : cmL [a, c, e] [b, d, f] < 0) : tOpr.lt ⟨a, c⟩ ⟨b, d⟩ = true := by
 subst h2;have h1 : cmL [a, c] [b, d] < 0 := by
  rw [cmL, cmL] at h ⊢;split
  ·next e1 =>
   rw [if_pos e1] at h;split
   ·next e2 =>
    rw [if_pos e2, g6_] at h;omega
   ·next e2 =>
    rw [if_neg e2] at h;exact h
  ·next e1 =>
   rw [if_neg e1] at h;exact h
 rw [d0_ (x := [a, c]) (y := [b, d]) rfl] at h1;exact decide_eq_true h1
theorem lt_gt {a b c d e f : ByteArray} (h : cmL [a, c, e] [b, d, f] < 0) : tOgt.lt ⟨a, c, e⟩ ⟨b, d, f⟩ = true := by
 rw [d0_ (x := [a, c, e]) (y := [b, d, f]) rfl] at h;exact decide_eq_true h
theorem s6_ {p : GRoles} {R : List GFact} (hR : RisF R) (hm : ∀ z, z ∈ R ↔ z ∈ zh_ p) : zu_ R = tx.ofL p.users ∧ zv_ R = tx.ofL p.roles ∧ inhF R = tOpr.ofL p.inherit ∧ asgF R = tOpr.ofL p.assign ∧ grF R = tOgt.ofL p.grants ∧ ssdF R = dO_ p.ssd ∧ dsdF R = dO_ p.dsd ∧ sesF R = sesN p.sessions := by
 have hp := s4_ p;have hk : ∀ x ∈ R, _ := fun x hx => nS_ ((hm x).1 hx);refine ⟨?_, ?_, ?_, ?_, ?_, ?_, ?_, ?_⟩
 ·refine (tx.ofL_eq (vi_ tx hR fun x hx y hy k1 k2 hlt => ?_) fun x => (vh_ hm x).trans (by rw [show (zh_ p).filterMap _ = p.users from congrArg GRoles.users hp])).symm
  obtain ⟨a1, a2, a3⟩ := (hk x hx).1 (.inl k1);obtain ⟨b1, b2, b3⟩ := (hk y hy).1 (.inl k2);rw [gj_ (by rw [k1, k2]) (by rw [a3, b3]), vp_ (by omega) (by omega), vp_ (by omega) (by omega)] at hlt;exact lt_tx (by rw [a1, b1]) (by rw [a2, b2]) hlt
 ·refine (tx.ofL_eq (vi_ tx hR fun x hx y hy k1 k2 hlt => ?_) fun x => (vh_ hm x).trans (by rw [show (zh_ p).filterMap _ = p.roles from congrArg GRoles.roles hp])).symm
  obtain ⟨a1, a2, a3⟩ := (hk x hx).1 (.inr k1);obtain ⟨b1, b2, b3⟩ := (hk y hy).1 (.inr k2);rw [gj_ (by rw [k1, k2]) (by rw [a3, b3]), vp_ (by omega) (by omega), vp_ (by omega) (by omega)] at hlt;exact lt_tx (by rw [a1, b1]) (by rw [a2, b2]) hlt
 ·refine (tOpr.ofL_eq (vi_ tOpr hR fun x hx y hy k1 k2 hlt => ?_) fun x => (vh_ hm x).trans (by rw [show (zh_ p).filterMap _ = p.inherit from congrArg GRoles.inherit hp])).symm
  obtain ⟨a2, a3⟩ := (hk x hx).2.1 (.inl k1);obtain ⟨b2, b3⟩ := (hk y hy).2.1 (.inl k2);rw [gj_ (by rw [k1, k2]) (by rw [a3, b3]), vp_ (by omega) (by omega), vp_ (by omega) (by omega)] at hlt;exact lt_pr (by rw [a2, b2]) hlt
 ·refine (tOpr.ofL_eq (vi_ tOpr hR fun x hx y hy k1 k2 hlt => ?_) fun x => (vh_ hm x).trans (by rw [show (zh_ p).filterMap _ = p.assign from congrArg GRoles.assign hp])).symm
  obtain ⟨a2, a3⟩ := (hk x hx).2.1 (.inr k1);obtain ⟨b2, b3⟩ := (hk y hy).2.1 (.inr k2);rw [gj_ (by rw [k1, k2]) (by rw [a3, b3]), vp_ (by omega) (by omega), vp_ (by omega) (by omega)] at hlt;exact lt_pr (by rw [a2, b2]) hlt
 ·refine (tOgt.ofL_eq (vi_ tOgt hR fun x hx y hy k1 k2 hlt => ?_) fun x => (vh_ hm x).trans (by rw [show (zh_ p).filterMap _ = p.grants from congrArg GRoles.grants hp])).symm
  have a3 := (hk x hx).2.2 (.inl k1);have b3 := (hk y hy).2.2 (.inl k2);rw [gj_ (by rw [k1, k2]) (by rw [a3, b3]), vp_ (by omega) (by omega), vp_ (by omega) (by omega)] at hlt;exact lt_gt hlt
 ·refine (tOsd.ofL_eq (vi_ tOsd hR fun x hx y hy k1 k2 hlt => ?_) fun x => (vh_ hm x).trans (by rw [show (zh_ p).filterMap _ = p.ssd.map vZ_ from congrArg GRoles.ssd hp])).symm
  rw [uA_ (by rw [k1, k2]), bd_ (.inl k1), bd_ (.inl k2)] at hlt;exact decide_eq_true hlt
 ·refine (tOsd.ofL_eq (vi_ tOsd hR fun x hx y hy k1 k2 hlt => ?_) fun x => (vh_ hm x).trans (by rw [show (zh_ p).filterMap _ = p.dsd.map vZ_ from congrArg GRoles.dsd hp])).symm
  rw [uA_ (by rw [k1, k2]), bd_ (.inr k1), bd_ (.inr k2)] at hlt;exact decide_eq_true hlt
 ·refine (tOse.ofL_eq (vi_ tOse hR fun x hx y hy k1 k2 hlt => ?_) fun x => (vh_ hm x).trans (by rw [show (zh_ p).filterMap _ = p.sessions.map wM_ from congrArg GRoles.sessions hp])).symm
  have a3 := (hk x hx).2.2 (.inr k1);have b3 := (hk y hy).2.2 (.inr k2);rw [gj_ (by rw [k1, k2]) (by rw [a3, b3]), nT_ k1, nT_ k2, cmL, cmL] at hlt;exact decide_eq_true hlt
theorem s7_ {n : Nat} {l : List GFact} (hn : 200000 ≤ n) (hl : l.length ≤ 2000) (hx : ∀ x ∈ l, x.l.length ≤ 100000) : ∃ q, xK_ n (ofF l) = some q ∧ jJ_ n (ofF l) = some q ∧ Mid q := by
 have hm : Mid (ofF l) := dP_ (by omega) hx;obtain ⟨M, e1, h1⟩ := ul_ (n := n) hn hm;obtain ⟨R, M2, e2, hR, hRm, h2⟩ := dp_ (n := n) hn hl hx;obtain ⟨r1, r2, r3, r4, r5, r6, r7, r8⟩ := s6_ hR hRm;rw [r3] at h2;have hL : LeastP (ofF l).inherit M2 := by
  rcases h2 with ⟨a, b⟩ | ⟨a, b, c⟩
  ·exact ⟨by rw [b]; exact List.Sublist.refl _, .inl ⟨a, b⟩⟩
  ·exact ⟨b, .inr ⟨a, c⟩⟩
 have hM : M = M2 := h1.one hL fun _ => Iff.rfl;subst hM;refine ⟨norN (ofF l) M, e1, ?_, fT_ hm h1⟩;rw [e2, r1, r2, r4, r5, r6, r7, r8];rfl
theorem nU_ {α : Type} [DecidableEq α] {L : Nat → Int → Option (Unit ⊕ Bool)} {xs ys : List α} {E : α → α → Option Bool} (hE : ∀ x ∈ xs, ∀ y ∈ ys, E x y = some (decide (x = y))) (h0 : ∀ c i, L (c + 1) i = if decide (i < (xs.length : Int)) then (idx xs i).bind fun x => (idx ys i).bind fun y => (E x y).bind fun b => if b then L c (IntKind.i64.wrap (i + 1)) else some (.inr false) else some (.inl ()))
  (hl : xs.length = ys.length) (hx : xs.length < 4611686018427387904) : ∀ (c j : Nat), j ≤ xs.length → xs.length - j < c → L c (j : Int) = some (if decide (xs.drop j = ys.drop j) then .inl () else .inr false)
 | 0, _, _, h => by omega
 | c + 1, j, hj, hc => by
  rw [h0];by_cases hlt : j < xs.length
  ·have hlt2 : j < ys.length := by omega
   rw [dlt hlt, if_pos rfl, idxS hlt, Zo, idxS hlt2, Zo, hE _ (List.getElem_mem hlt) _ (List.getElem_mem hlt2), Zo, wr1 (by omega), List.drop_eq_getElem_cons hlt, List.drop_eq_getElem_cons hlt2, nU_ hE h0 hl hx c (j + 1) (by omega) (by omega)];by_cases e : xs[j] = ys[j]
   ·have hd : decide (xs.drop (j + 1) = ys.drop (j + 1)) = decide (xs[j] :: xs.drop (j + 1) = ys[j] :: ys.drop (j + 1)) := by
     rw [Bool.eq_iff_iff, decide_eq_true_eq, decide_eq_true_eq];exact ⟨fun h => by rw [e, h], fun h => (List.cons.inj h).2⟩
    rw [decide_eq_true e, if_pos rfl, hd]
   ·rw [decide_eq_false e, if_neg (by decide), decide_eq_false (fun h => e (List.cons.inj h).1), if_neg (by decide)]
  ·rw [dnlt (by omega), if_neg (by decide), List.drop_eq_nil_of_le (by omega), List.drop_eq_nil_of_le (by omega), decide_eq_true rfl, if_pos rfl]
theorem gk_ {α : Type} [DecidableEq α] {L : Nat → Int → Option (Unit ⊕ Bool)} {xs ys : List α} {E : α → α → Option Bool} {n : Nat} (hn : xs.length < n) (hE : ∀ x ∈ xs, ∀ y ∈ ys, E x y = some (decide (x = y))) (h0 : ∀ c i, L (c + 1) i = if decide (i < (xs.length : Int)) then (idx xs i).bind fun x => (idx ys i).bind fun y => (E x y).bind fun b => if b then L c (IntKind.i64.wrap (i + 1)) else some (.inr false) else some (.inl ())) (hx : xs.length < 4611686018427387904) :
  (if ((xs.length : Int) != (ys.length : Int)) then some false else (L n 0 : Option (Unit ⊕ Bool)).bind fun | .inl _ => some true | .inr r => some r) = some (decide (xs = ys)) := by
 by_cases hl : xs.length = ys.length
 ·have e : L n 0 = _ := nU_ hE h0 hl hx n 0 (Nat.zero_le _) (by omega)
  rw [show ((xs.length : Int) != (ys.length : Int)) = false by simp [hl], if_neg (by decide), e, List.drop_zero, List.drop_zero, Zo];by_cases h : xs = ys
  ·rw [decide_eq_true h]
   rfl
  ·rw [decide_eq_false h]
   rfl
 ·rw [show ((xs.length : Int) != (ys.length : Int)) = true by simp; omega, if_pos rfl, decide_eq_false fun h => hl (by rw [h])]
section
variable {n : Nat} (hn : 200000 ≤ n)
include hn in
theorem be_ {a b : List ByteArray} (hl : a.length ≤ 100000) : qv_ n a b = some (decide (a = b)) := by
 unfold qv_;exact gk_ (L := qy_ n a b) (E := fun x y => some (x.toList == y.toList)) (by omega) (fun x _ y _ => by rw [beqS]) (fun _ _ => rfl) (by omega)
include hn in
theorem nV_ {a b : List GPair} (hl : a.length ≤ 100000) : ju_ n a b = some (decide (a = b)) := by
 unfold ju_;refine gk_ (L := ji_ n a b) (E := fun x y => some ((x.a == y.a) && (x.b == y.b))) (by omega) (fun x _ y _ => ?_) (fun _ _ => rfl) (by omega);congr 1
 rw [Bool.eq_iff_iff, decide_eq_true_eq, Bool.and_eq_true, beq_iff_eq, beq_iff_eq, GPair.mk.injEq]
include hn in
theorem s8_ {a b : List GGrant} (hl : a.length ≤ 100000) : jI_ n a b = some (decide (a = b)) := by
 unfold jI_;refine gk_ (L := q1_ n a b) (E := fun x y => some ((x.role == y.role) && ((x.op == y.op) && (x.obj == y.obj)))) (by omega) (fun x _ y _ => ?_) (fun _ _ => rfl) (by omega);congr 1
 rw [Bool.eq_iff_iff, decide_eq_true_eq, Bool.and_eq_true, Bool.and_eq_true, beq_iff_eq, beq_iff_eq, beq_iff_eq, GGrant.mk.injEq]
include hn in
theorem s9_ {x y : GSod} (hl : x.roles.length ≤ 100000) : xu_ n x y = some (decide (x = y)) := by
 obtain ⟨a, b, c⟩ := x;obtain ⟨d, e, f⟩ := y;unfold xu_;dsimp only at *;rw [beqS, be_ hn hl, Zo];by_cases h1 : a = d <;> by_cases h2 : b = e <;> by_cases h3 : c = f <;> simp [h1, h2, h3]
include hn in
theorem ta_ {x y : GSession} (hl : x.roles.length ≤ 100000) : je_ n x y = some (decide (x = y)) := by
 obtain ⟨a, b, c⟩ := x;obtain ⟨d, e, f⟩ := y;unfold je_;dsimp only at *;rw [beqS, beqS, be_ hn hl, Zo];by_cases h1 : a = d <;> by_cases h2 : b = e <;> by_cases h3 : c = f <;> simp [h1, h2, h3]
include hn in
theorem nW_ {a b : List GSod} (hl : a.length ≤ 100000) (hr : ∀ x ∈ a, x.roles.length ≤ 100000) : qd_ n a b = some (decide (a = b)) := by
 unfold qd_;exact gk_ (L := qe_ n a b) (E := fun x y => xu_ n x y) (by omega) (fun x hx y _ => s9_ hn (hr x hx)) (fun _ _ => rfl) (by omega)
include hn in
theorem tb_ {a b : List GSession} (hl : a.length ≤ 100000) (hr : ∀ x ∈ a, x.roles.length ≤ 100000) : qc_ n a b = some (decide (a = b)) := by
 unfold qc_;exact gk_ (L := qb_ n a b) (E := fun x y => je_ n x y) (by omega) (fun x hx y _ => ta_ hn (hr x hx)) (fun _ _ => rfl) (by omega)
include hn in
theorem bf_ {p q : GRoles} (h : Mid p) : z3_ n p q = some (decide (p = q)) := by
 obtain ⟨h1, h2, h3, h4, h5, h6, h7, h8, h9, h10, h11⟩ := h;obtain ⟨a1, a2, a3, a4, a5, a6, a7, a8⟩ := p;obtain ⟨b1, b2, b3, b4, b5, b6, b7, b8⟩ := q;unfold z3_;dsimp only at *;rw [be_ hn (by omega), be_ hn (by omega), nV_ hn (by omega), nV_ hn (by omega), s8_ hn (by omega), nW_ hn (by omega) h9, nW_ hn (by omega) h10, tb_ hn (by omega) h11];simp only [Zo]
 by_cases e1 : a1 = b1 <;> by_cases e2 : a2 = b2 <;> by_cases e3 : a3 = b3 <;> by_cases e4 : a4 = b4 <;> by_cases e5 : a5 = b5 <;> by_cases e6 : a6 = b6 <;> by_cases e7 : a7 = b7 <;> by_cases e8 : a8 = b8 <;> simp [e1, e2, e3, e4, e5, e6, e7, e8]
include hn in
theorem bg_ {a b : List GFact} (hl : a.length ≤ 100000) (hx : ∀ x ∈ a, x.l.length ≤ 100000) (ha : ∀ x ∈ a, x.at_ = 0) (hb : ∀ x ∈ b, x.at_ = 0) : q2_ n a b = some (decide (a = b)) := by
 unfold q2_;refine gk_ (L := jd_ n a b) (E := fun x y => (if (x.kind != y.kind) then some false else (if (x.a.toList == y.a.toList) then (if (x.b.toList == y.b.toList) then (if (x.c.toList == y.c.toList) then (if (x.n_ != y.n_) then some false else qJ_ n x.l y.l) else some false) else some false) else some false))) (by omega) (fun x h1 y h2 => ?_) (fun c i => ?_) (by omega)
 ·have k1 := ha x h1
  have k2 := hb y h2;have k3 := hx x h1;obtain ⟨x1, x2, x3, x4, x5, x6, x7⟩ := x;obtain ⟨y1, y2, y3, y4, y5, y6, y7⟩ := y;dsimp only at *;subst k1 k2;rw [beqS, beqS, beqS, xH_ (by omega) (by omega)];by_cases e1 : x1 = y1 <;> by_cases e2 : x2 = y2 <;> by_cases e3 : x3 = y3 <;> by_cases e4 : x4 = y4 <;> by_cases e5 : x5 = y5 <;> by_cases e6 : x6 = y6 <;> simp [e1, e2, e3, e4, e5, e6]
 ·rw [jd_]
  cases decide (i < (a.length : Int)) with
  | false => rfl
  | true =>
   cases idx a i with
   | none => rfl
   | some x =>
    cases idx b i with
    | none => rfl
    | some y =>
     rw [if_pos rfl, if_pos rfl, Zo, Zo, Zo, Zo];cases (x.kind != y.kind) <;> cases (x.a.toList == y.a.toList) <;> cases (x.b.toList == y.b.toList) <;> cases (x.c.toList == y.c.toList) <;> cases (x.n_ != y.n_) <;> rfl
end
theorem bh_ {p : GRoles} (h : Mid p) : Sml 10000 p := ⟨h.u, h.r, h.i, h.a, h.g, h.s, h.d, h.e, h.sr, h.dr, h.er⟩
theorem f9_ {p : GRoles} {x : GFact} (hx : x ∈ factsP p) : x.at_ = 0 := (dk_ hx).1
theorem dq_ {n : Nat} (hn : 200000 ≤ n) {p q : GRoles} (hp : Mid p) : q2_ n (factsP p) (factsP q) = some (decide (p = q)) := by
 have hs := bh_ hp;have hlen := gi_ hs;rw [bg_ hn (by omega) (fun x hx => bc_ hs hx) (fun x hx => f9_ hx) (fun x hx => f9_ hx)];congr 1
 rw [Bool.eq_iff_iff, decide_eq_true_eq, decide_eq_true_eq];exact ⟨fun h => by rw [← g0_ p, ← g0_ q, show jZ_ p = jZ_ q from h], fun h => by rw [h]⟩
theorem uB_ {n : Nat} (hn : 200000 ≤ n) {p q : GRoles} (hp : Mid p) (hq : Mid q) : zf_ n p q = some (decide (p = q)) := by
 unfold zf_;rw [(vU_ (by omega) hn (bh_ hp)).1, Zo, (vU_ (by omega) hn (bh_ hq)).1, Zo, dq_ hn hp];rfl
end Go.Proofs.YtkkhgdmmbhpckaaGreat.Ab
