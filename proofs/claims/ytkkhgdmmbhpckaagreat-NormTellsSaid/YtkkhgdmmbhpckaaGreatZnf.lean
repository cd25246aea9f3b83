/-
 NormTells: the law. No program in sight.
-/
import Derived.Test.YtkkhgdmmbhpckaaGreatZne
namespace Go.Proofs.YtkkhgdmmbhpckaaGreat.Ab
open Go.RowKit
attribute [local instance] baLawful
theorem rP_ {n : Nat} {t0 : List GFact} {i : Nat} (hi : i < t0.length) (hl : t0[i].l.length ≤ 10) : ∀ (c k : Nat), k ≤ t0[i].l.length → t0[i].l.length - k < c → ∃ r, jP_ n t0 (i : Int) c (k : Int) = some r ∧ (r = .inl () ∨ r = .inr false)
 | 0, _, _, h => by omega
 | c + 1, k, hk, hc => by
  rw [jP_, idxS hi, Zo];by_cases h : k < t0[i].l.length
  ·rw [dlt h, if_pos rfl, idxS h, Zo, wr1 (by omega)]
   cases decide (60 < ((t0[i].l[k]).size : Int)) with
   | true => exact ⟨_, rfl, .inr rfl⟩
   | false =>
    rw [if_neg (by decide)];exact rP_ hi hl c (k + 1) (by omega) (by omega)
  ·rw [dnlt (by omega), if_neg (by decide)]
   exact ⟨_, rfl, .inl rfl⟩
theorem rQ_ {n : Nat} {t0 : List GFact} (hn : 100 ≤ n) (hl : t0.length ≤ 40) : ∀ (c i : Nat), i ≤ t0.length → t0.length - i < c → ∃ r, jQ_ n t0 c (i : Int) = some r ∧ ((r = .inl () ∧ ∀ x ∈ t0.drop i, x.l.length ≤ 10) ∨ r = .inr false)
 | 0, _, _, h => by omega
 | c + 1, i, hi, hc => by
  rw [jQ_];by_cases h : i < t0.length
  ·obtain ⟨b, e, hb⟩ : ∃ b : Bool, (((idx t0 (i : Int)).bind fun x6 => (if (decide (200 < (IntKind.i64.wrap ((IntKind.i64.wrap ((x6.a.size : Int) + (x6.b.size : Int))) + (x6.c.size : Int))))) then some true else (if (decide (10 < (x6.l.length : Int))) then some true else (if (decide (x6.n_ < 0)) then some true else some (decide (99 < x6.n_)))))) : Option Bool) = some b ∧ (b = false → t0[i].l.length ≤ 10) := by
    rw [idxS h, Zo];split
    ·exact ⟨_, rfl, fun h => (by cases h)⟩
    ·by_cases h10 : 10 < t0[i].l.length
     ·rw [decide_eq_true (show (10 : Int) < (t0[i].l.length : Int) by omega), if_pos rfl]
      exact ⟨_, rfl, fun h => (by cases h)⟩
     ·rw [decide_eq_false (show ¬ (10 : Int) < (t0[i].l.length : Int) by omega), if_neg (by decide)]
      split
      ·exact ⟨_, rfl, fun _ => by omega⟩
      ·exact ⟨_, rfl, fun _ => by omega⟩
   rw [dlt h, if_pos rfl, e, Zo];cases b with
   | true =>
    rw [if_pos rfl];exact ⟨_, rfl, .inr rfl⟩
   | false =>
    have h10 := hb rfl;obtain ⟨r, r1, r2⟩ := rP_ (n := n) h h10 n 0 (Nat.zero_le _) (by omega);have r1 : jP_ n t0 (i : Int) n 0 = some r := r1;rw [if_neg (by decide), r1, Zo];rcases r2 with rfl | rfl
    ·dsimp only
     rw [wr1 (by omega)];obtain ⟨q, q1, q2⟩ := rQ_ hn hl c (i + 1) (by omega) (by omega);refine ⟨q, q1, q2.imp_left fun ⟨e, h2⟩ => ⟨e, fun x hx => ?_⟩⟩;rw [List.drop_eq_getElem_cons h] at hx;rcases List.mem_cons.1 hx with rfl | hx
     ·exact h10
     ·exact h2 x hx
    ·exact ⟨_, rfl, .inr rfl⟩
  ·rw [dnlt (by omega), if_neg (by decide), List.drop_eq_nil_of_le (by omega)]
   exact ⟨_, rfl, .inl ⟨rfl, fun x hx => by cases hx⟩⟩
theorem nX_ {n : Nat} {t0 : List GFact} (hn : 100 ≤ n) : ∃ b, z4_ n t0 = some b ∧ (b = true → t0.length ≤ 40 ∧ ∀ x ∈ t0, x.l.length ≤ 10) := by
 unfold z4_;by_cases h : 40 < t0.length
 ·rw [decide_eq_true (show (40 : Int) < (t0.length : Int) by omega), if_pos rfl]
  exact ⟨_, rfl, fun h => by cases h⟩
 ·rw [decide_eq_false (show ¬ (40 : Int) < (t0.length : Int) by omega), if_neg (by decide)]
  obtain ⟨r, r1, r2⟩ := rQ_ (n := n) (t0 := t0) hn (by omega) n 0 (Nat.zero_le _) (by omega);have r1 : jQ_ n t0 n 0 = some r := r1;rw [r1, Zo];rcases r2 with ⟨rfl, h2⟩ | rfl
  ·rw [List.drop_zero] at h2
   exact ⟨_, rfl, fun _ => ⟨by omega, h2⟩⟩
  ·exact ⟨_, rfl, fun h => by cases h⟩
def tA : ByteArray := { data := #[97] }
def tB : ByteArray := { data := #[98] }
def tC : ByteArray := { data := #[99] }
def tU : ByteArray := { data := #[117] }
def kz_ : List GPair := [⟨tA, tB⟩, ⟨tB, tC⟩, ⟨tA, tC⟩]
def fs14 : List GFact := [⟨3, tA, tB, ByteArray.empty, 0, [], 0⟩, ⟨3, tB, tC, ByteArray.empty, 0, [], 0⟩, ⟨3, tA, tC, ByteArray.empty, 0, [], 0⟩, ⟨1, tU, ByteArray.empty, ByteArray.empty, 0, [], 0⟩, ⟨1, tU, ByteArray.empty, ByteArray.empty, 0, [], 0⟩]
theorem of14 : ofF fs14 = ⟨[tU, tU], [], kz_, [], [], [], [], []⟩ := rfl
def rk14 (x : ByteArray) : Nat := if x = tA then 0 else if x = tB then 1 else 2
theorem nY_ : ∀ p ∈ kz_, rk14 p.a < rk14 p.b := by decide
theorem mem14 {l : List GPair} (h : ∀ x, x ∈ l ↔ x ∈ kz_) {a b : ByteArray} (hd : Dn l a b) : rk14 a ≤ rk14 b := by
 refine (dn_le (P := l) (rk := rk14) (fun p hp => nY_ p ((h p).1 hp)) hd).1
theorem down14 (y : ByteArray) : Dn kz_ tB y ↔ y = tB ∨ y = tC := by
 constructor
 ·intro h
  rcases Rch.first h with e | ⟨s, h1, h2⟩
  ·exact .inl e.symm
  ·have h1 := xD_.1 h1
   have hs : s = tC := by
    revert h1;unfold kz_;simp only [List.mem_cons, GPair.mk.injEq, List.not_mem_nil, or_false];rintro (⟨e, _⟩ | ⟨_, e⟩ | ⟨e, _⟩)
    ·exact absurd e (by decide)
    ·exact e
    ·exact absurd e (by decide)
   subst hs;rcases Rch.first h2 with e | ⟨s, h3, _⟩
   ·exact .inr e.symm
   ·have h3 := xD_.1 h3
    revert h3;unfold kz_;simp only [List.mem_cons, GPair.mk.injEq, List.not_mem_nil, or_false];rintro (⟨e, _⟩ | ⟨e, _⟩ | ⟨e, _⟩)
    ·exact absurd e (by decide)
    ·exact absurd e (by decide)
    ·exact absurd e (by decide)
 ·rintro (rfl | rfl)
  ·exact .refl
  ·exact Rch.refl.step (xD_.2 (by decide))
theorem up14 (y : ByteArray) : Dn kz_ y tB ↔ y = tA ∨ y = tB := by
 constructor
 ·intro h
  rcases Rch.first h with e | ⟨s, h1, h2⟩
  ·exact .inr e
  ·have h1 := xD_.1 h1
   have hr := mem14 (fun _ => Iff.rfl) h2;revert h1 hr;unfold kz_;simp only [List.mem_cons, GPair.mk.injEq, List.not_mem_nil, or_false];rintro (⟨e, _⟩ | ⟨_, rfl⟩ | ⟨e, _⟩)
   ·exact fun _ => .inl e
   ·exact fun hr => absurd hr (by decide)
   ·exact fun _ => .inl e
 ·rintro (rfl | rfl)
  ·exact Rch.refl.step (xD_.2 (by decide))
  ·exact .refl
theorem tc_ {M : List GPair} (h : LeastP kz_ M) : M = [⟨tA, tB⟩, ⟨tB, tC⟩] := by
 have hI : ∀ x, x ∈ tOpr.ofL kz_ ↔ x ∈ kz_ := fun x => tOpr.mem_ofL;have hrise : tOpr.Rises [⟨tA, tB⟩, ⟨tB, tC⟩] := by
  refine List.pairwise_cons.2 ⟨fun x hx => ?_, List.pairwise_singleton ..⟩;rw [List.mem_singleton.1 hx];kernel_rfl
 refine tOpr.ext h.rises hrise fun x => ?_;rcases h.2 with ⟨⟨y, hy, hd⟩, _⟩ | ⟨_, hM⟩
 ·have h1 := mem14 hI hd
  have h2 := nY_ y ((hI y).1 hy);omega
 ·rw [hM x, hI x]
  constructor
  ·rintro ⟨h1, h2⟩
   unfold kz_ at h1;simp only [List.mem_cons, List.not_mem_nil, or_false] at h1 ⊢;rcases h1 with rfl | rfl | rfl
   ·exact .inl rfl
   ·exact .inr rfl
   ·exact absurd ⟨tB, (hI _).2 (by decide), by decide, Rch.refl.step (xD_.2 ((hI _).2 (by decide)))⟩ h2
  ·intro h1
   simp only [List.mem_cons, List.not_mem_nil, or_false] at h1;rcases h1 with rfl | rfl
   ·refine ⟨by decide, ?_⟩
    rintro ⟨s, h1, h2, h3⟩;have hr := mem14 hI h3;have h1 := (hI _).1 h1;revert h1;unfold kz_;simp only [List.mem_cons, GPair.mk.injEq, List.not_mem_nil, or_false];rintro (⟨_, e⟩ | ⟨e, _⟩ | ⟨_, rfl⟩)
    ·exact h2 e
    ·exact absurd e (by decide)
    ·exact absurd hr (by decide)
   ·refine ⟨by decide, ?_⟩
    rintro ⟨s, h1, h2, _⟩;have h1 := (hI _).1 h1;revert h1;unfold kz_;simp only [List.mem_cons, GPair.mk.injEq, List.not_mem_nil, or_false];rintro (⟨e, _⟩ | ⟨_, e⟩ | ⟨e, _⟩)
    ·exact absurd e (by decide)
    ·exact h2 e
    ·exact absurd e (by decide)
theorem td_ {n : Nat} (hn : 1000000 ≤ n) : ze_ n = some true := by
 have hx : ∀ x ∈ fs14, x.l.length ≤ 100000 := by decide
 have hm : Mid (ofF fs14) := dP_ (by decide) hx;obtain ⟨M, e2, hM⟩ := ul_ (n := n) (by omega) hm;have hMe : M = [⟨tA, tB⟩, ⟨tB, tC⟩] := tc_ hM;have hq := fT_ hm hM;have hnq : norN (ofF fs14) M = ⟨[tU], [], [⟨tA, tB⟩, ⟨tB, tC⟩], [], [], [], [], []⟩ := by
  rw [hMe, of14];unfold norN dO_ sesN;rw [show tx.ofL [tU, tU] = [tU] by kernel_rfl];rfl
 have e1 : vO_ n fs14 = some (ofF fs14) := fW_ (by show 5 < n; omega) (by decide) fun x h => by have := hx x h; omega
 obtain ⟨r, d1, d2, d3⟩ := db_ (n := n) (p := ofF fs14) (by show 3 + 1 < n; omega) (by decide) tB;obtain ⟨u, u1, u2, u3⟩ := nj_ (n := n) (p := ofF fs14) (by show 3 + 1 < n; omega) (by decide) tB;have hr : r = [tB, tC] := tx.ext d2 (List.pairwise_cons.2 ⟨fun x hx => by rw [List.mem_singleton.1 hx]; kernel_rfl, List.pairwise_singleton ..⟩) fun y => (d3 y).trans ((down14 y).trans (by simp))
 have hu : u = [tA, tB] := tx.ext u2 (List.pairwise_cons.2 ⟨fun x hx => by rw [List.mem_singleton.1 hx]; kernel_rfl, List.pairwise_singleton ..⟩) fun y => (u3 y).trans ((up14 y).trans (by simp));have e4 := u8_ (n := n) (by omega) hq;have e5 := bf_ (n := n) (p := norN (ofF fs14) M) (q := norN (ofF fs14) M) (by omega) hq;have e6 := bf_ (n := n) (p := norN (ofF fs14) M) (q := ofF fs14) (by omega) hq
 have hne : norN (ofF fs14) M ≠ ofF fs14 := by
  rw [hnq, of14];intro h;have := congrArg (fun p : GRoles => p.users.length) h;cases this
 have e1 : vO_ n [(⟨3, { data := #[97] }, { data := #[98] }, ByteArray.empty, 0, [], 0⟩ : GFact), (⟨3, { data := #[98] }, { data := #[99] }, ByteArray.empty, 0, [], 0⟩ : GFact), (⟨3, { data := #[97] }, { data := #[99] }, ByteArray.empty, 0, [], 0⟩ : GFact), (⟨1, { data := #[117] }, ByteArray.empty, ByteArray.empty, 0, [], 0⟩ : GFact), (⟨1, { data := #[117] }, ByteArray.empty, ByteArray.empty, 0, [], 0⟩ : GFact)] = some (ofF fs14) := e1
 have d1 : zU_ n (ofF fs14) { data := #[98] } = some r := d1;have u1 : wN_ n (ofF fs14) { data := #[98] } = some u := u1;have s1 : qJ_ n r ([{ data := #[98] }, { data := #[99] }] : List ByteArray) = some true := by
  rw [xH_ (by rw [hr]; show 2 < n; omega) (by rw [hr]; decide), hr];rfl
 have s2 : qJ_ n u ([{ data := #[97] }, { data := #[98] }] : List ByteArray) = some true := by
  rw [xH_ (by rw [hu]; show 2 < n; omega) (by rw [hu]; decide), hu];rfl
 unfold ze_
 rw [e1, Zo, e2, Zo, if_pos (show (((ofF fs14).inherit.length : Int) == 3) = true by rw [of14]; rfl), if_pos (show (((ofF fs14).users.length : Int) == 2) = true by rw [of14]; rfl), if_pos (show (((norN (ofF fs14) M).inherit.length : Int) == 2) = true by rw [hnq]; rfl), if_pos (show (((norN (ofF fs14) M).users.length : Int) == 1) = true by rw [hnq]; rfl), d1, Zo, s1, Zo, if_pos rfl, u1, Zo, s2, Zo, if_pos rfl, e4, Zo, if_pos (show (((jZ_ (norN (ofF fs14) M)).length : Int) == 3) = true by rw [hnq]; rfl), e5, Zo, decide_eq_true rfl, if_pos rfl, e6, Zo, decide_eq_false hne]
 rfl
theorem gl_ {n : Nat} {t1 : List Int} (hn : 1000000 ≤ n) : ∀ (c i : Nat) (role : ByteArray) (f : List GFact), i ≤ 2 → 2 - i < c → f.length ≤ 2000 → (∀ x ∈ f, x.l.length ≤ 100000) → qV_ n t1 c (role, f, (i : Int)) = some (.inl ())
 | 0, _, _, _, _, h, _, _ => by omega
 | c + 1, i, role, f, hi, hc, hl, hx => by
  rw [qV_];by_cases h : i < 2
  ·have hm : Mid (ofF f) := dP_ (by omega) hx
   obtain ⟨q, q1, q2, hq⟩ := s7_ (n := n) (l := f) (by omega) hl hx;have e1 : vO_ n f = some (ofF f) := fW_ (by omega) (by omega) fun x h => by have := hx x h; omega
   have e2 : ve_ n f = some (ofF f) := f8_ (by omega) (by omega) fun x h => by have := hx x h; omega
   have e3 := uB_ (n := n) (by omega) hm hm;have e4 := u8_ (n := n) (by omega) hm;have e5 := (vU_ (n := n) (by omega) (by omega) (bh_ hm)).1;have e6 : q2_ n (jZ_ (ofF f)) (factsP (ofF f)) = some (decide (ofF f = ofF f)) := dq_ (by omega) hm;have e7 := uB_ (n := n) (by omega) hq hq;have e8 := bf_ (n := n) (q := q) (by omega) hm;have e9 := uB_ (n := n) (by omega) hm hq
   have hin : (ofF f).inherit.length ≤ 10000 := hm.i;obtain ⟨r, d1, d2, d3⟩ := db_ (n := n) (p := ofF f) (by omega) (by omega) role;obtain ⟨s, d4, d5, d6, d7⟩ := hP_ (n := n) (p := ofF f) (by omega) (by omega) role;obtain ⟨u, u1, u2, u3⟩ := nj_ (n := n) (p := ofF f) (by omega) (by omega) role;obtain ⟨v, u4, u5, u6, u7⟩ := rj_ (n := n) (p := ofF f) (by omega) (by omega) role
   have hrs : r = s := tx.ext d2 d5 fun y => (d3 y).trans (d6 y).symm;have huv : u = v := tx.ext u2 u5 fun y => (u3 y).trans (u6 y).symm;subst hrs huv;obtain ⟨w, g, a, e, f1, f2, f3, f4⟩ := rb_ (n := n) (by omega) t1
   obtain ⟨x, x1, _⟩ := z6_ (xs := ([{ data := #[114] }, { data := #[115] }, { data := #[116] }, { data := #[113] }, { data := #[122] }] : List ByteArray)) (i := Int.tmod (t1.length : Int) 5) (Q := fun _ => True) (by rw [Int.tmod_eq_emod_of_nonneg (by omega)]; omega) (by rw [Int.tmod_eq_emod_of_nonneg (by omega)]; show (t1.length : Int) % 5 < 5; omega) (fun _ _ => trivial)
   rw [decide_eq_true (show ((i : Int)) < 2 by omega), if_pos rfl, e1, Zo, e2, Zo, e3, Zo, decide_eq_true rfl, if_pos rfl, e4, Zo, e5, Zo, e6, Zo, decide_eq_true rfl, if_pos rfl, q1, Zo, q2, Zo, e7, Zo, decide_eq_true rfl, if_pos rfl, Zo, e8, Zo, Zo, e9, Zo, beq_self_eq_true, Bool.not_true, Zo, if_neg (by decide), d1, Zo, d4, Zo, xH_ (by omega) (by omega), Zo, decide_eq_true rfl, if_pos rfl, u1, Zo, u4, Zo, xH_ (by omega) (by omega), Zo, decide_eq_true rfl, Bool.not_true, Zo, if_neg (by decide), f1, Zo, f2, Zo, x1, Zo, wr1 (by omega)]
   exact gl_ hn c (i + 1) x g (by omega) (by omega) f3 fun y hy => by have := f4 y hy; omega
  ·rw [decide_eq_false (show ¬ ((i : Int)) < 2 by omega), if_neg (by decide)]
theorem nZ_ {n : Nat} (hn : 1000000 ≤ n) (t0 : List GFact) (t1 : List Int) (t2 : ByteArray) : xy_ n t0 t1 t2 = some true := by
 obtain ⟨b, e, hb⟩ := nX_ (n := n) (t0 := t0) (by omega);have aw := td_ hn;unfold xy_;rw [e, Zo];cases b with
 | false =>
  rw [if_neg (by decide), Zo, if_pos rfl, aw];rfl
 | true =>
  obtain ⟨h1, h2⟩ := hb rfl;have hL : qV_ n t1 n (t2, t0, 0) = _ := gl_ (t1 := t1) hn n 0 t2 t0 (by omega) (by omega) (by omega) fun x hx => by have := h2 x hx; omega
  rw [if_pos rfl, Zo];cases decide (100 < (t2.size : Int)) with
  | true =>
   rw [if_pos rfl, aw];rfl
  | false =>
   rw [if_neg (by decide), hL, Zo];dsimp only;rw [aw];rfl
theorem law_tells_ex {p q r : Prop} (a0 : List GFact) (a1 : List Int) (a2 : ByteArray) (_ : p) (_ : q) (_ : r) : ∃ n, xy_ n a0 a1 a2 = some true := ⟨1000000, nZ_ (Nat.le_refl _) a0 a1 a2⟩
end Go.Proofs.YtkkhgdmmbhpckaaGreat.Ab
