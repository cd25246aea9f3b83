/-
 The document's facts of a policy, its order of facts, and what rises, told plainly. No program in sight.
-/
import Derived.Test.YtkkhgdmmbhpckaaGreatZnb
import Derived.Test.YtkkhgdmmbhpckaaGreatTx
namespace Go.Proofs.YtkkhgdmmbhpckaaGreat.Ab
open Go.RowKit
theorem jO_ {α β : Type} {L : Nat → (List β × Int) → Option (List β)} {xs : List α} {h : α → β} (hb : xs.length < 1000000) (hs : ∀ c st (i : Nat) (hi : i < xs.length), L (c + 1) (st, (i : Int)) = (app st [h xs[i]]).bind fun l => L c (l, IntKind.i64.wrap ((i : Int) + 1))) (he : ∀ c st (i : Nat), xs.length ≤ i → L (c + 1) (st, (i : Int)) = some st) :
  ∀ (c i : Nat) (st : List β), i ≤ xs.length → xs.length - i < c → st.length ≤ 100000000 + i → L c (st, (i : Int)) = some (st ++ (xs.drop i).map h)
 | 0, _, _, _, h, _ => by omega
 | c + 1, i, st, hi, hc, hl => by
  by_cases hlt : i < xs.length
  ·rw [hs c st i hlt, appS (by simp; omega), Zo, wr1 (by omega), jO_ hb hs he c (i + 1) _ (by omega) (by omega) (by rw [List.length_append, List.length_singleton]; omega), List.drop_eq_getElem_cons hlt, List.map_cons, List.append_assoc]
   rfl
  ·rw [he c st i (by omega), List.drop_eq_nil_of_le (by omega)]
   simp
structure Sml (m : Nat) (p : GRoles) : Prop where
 u : p.users.length ≤ m
 r : p.roles.length ≤ m
 i : p.inherit.length ≤ m
 a : p.assign.length ≤ m
 g : p.grants.length ≤ m
 s : p.ssd.length ≤ m
 d : p.dsd.length ≤ m
 e : p.sessions.length ≤ m
 sl : ∀ x ∈ p.ssd, x.roles.length ≤ 100000
 dl : ∀ x ∈ p.dsd, x.roles.length ≤ 100000
 el : ∀ x ∈ p.sessions, x.roles.length ≤ 100000
theorem gi_ {m : Nat} {p : GRoles} (h : Sml m p) : (factsP p).length ≤ 8 * m := by
 have := h.u; have := h.r; have := h.i; have := h.a; have := h.g; have := h.s; have := h.d; have := h.e;unfold factsP jZ_;simp only [List.length_append, List.length_map];omega
theorem bc_ {m : Nat} {p : GRoles} (h : Sml m p) {x : GFact} (hx : x ∈ factsP p) : x.l.length ≤ 100000 := by
 rcases ux_.1 hx with ⟨u, hu, rfl⟩ | ⟨u, hu, rfl⟩ | ⟨u, hu, rfl⟩ | ⟨u, hu, rfl⟩ | ⟨u, hu, rfl⟩ | ⟨u, hu, rfl⟩ | ⟨u, hu, rfl⟩ | ⟨u, hu, rfl⟩
 ·exact Nat.zero_le _
 ·exact Nat.zero_le _
 ·exact Nat.zero_le _
 ·exact Nat.zero_le _
 ·exact Nat.zero_le _
 ·exact h.sl u hu
 ·exact h.dl u hu
 ·exact h.el u hu
theorem vU_ {n m : Nat} {p : GRoles} (hm : m ≤ 100000) (hn : 200000 ≤ n) (h : Sml m p) : xL_ n p = some (factsP p) ∧ ref13_Normal_C1_ref13_Facts n p = some (factsP p) := by
 have u := h.u; have r := h.r; have i := h.i; have a := h.a; have g := h.g; have s := h.s; have d := h.d; have e := h.e;have rl : ∀ {l : List ByteArray}, l.length ≤ 100000 → app [] l = some l := fun {l} hl => appS (by simp; omega)
 have a1 : ∀ st : List GFact, st.length ≤ 100000000 → jl_ n p n (st, 0) = some (st ++ p.users.map fU) ∧ q3_ n p n (st, 0) = some (st ++ p.users.map fU) := fun st hst => by
  have k1 := jO_ (L := jl_ n p) (xs := p.users) (h := fU) (by omega) (fun c st i hi => by rw [jl_, dlt hi, if_pos rfl, idxS hi, Zo]; rfl) (fun c st i hi => by rw [jl_, dnlt hi, if_neg (by decide)]) n 0 st (by omega) (by omega) (by omega)
  have k2 := jO_ (L := q3_ n p) (xs := p.users) (h := fU) (by omega) (fun c st i hi => by rw [q3_, dlt hi, if_pos rfl, idxS hi, Zo]; rfl) (fun c st i hi => by rw [q3_, dnlt hi, if_neg (by decide)]) n 0 st (by omega) (by omega) (by omega);exact ⟨k1, k2⟩
 have a2 : ∀ st : List GFact, st.length ≤ 100000000 → jm_ n p n (st, 0) = some (st ++ p.roles.map fR) ∧ q4_ n p n (st, 0) = some (st ++ p.roles.map fR) := fun st hst => by
  have k1 := jO_ (L := jm_ n p) (xs := p.roles) (h := fR) (by omega) (fun c st i hi => by rw [jm_, dlt hi, if_pos rfl, idxS hi, Zo]; rfl) (fun c st i hi => by rw [jm_, dnlt hi, if_neg (by decide)]) n 0 st (by omega) (by omega) (by omega)
  have k2 := jO_ (L := q4_ n p) (xs := p.roles) (h := fR) (by omega) (fun c st i hi => by rw [q4_, dlt hi, if_pos rfl, idxS hi, Zo]; rfl) (fun c st i hi => by rw [q4_, dnlt hi, if_neg (by decide)]) n 0 st (by omega) (by omega) (by omega);exact ⟨k1, k2⟩
 have a3 : ∀ st : List GFact, st.length ≤ 100000000 → jn_ n p n (st, 0) = some (st ++ p.inherit.map fI) ∧ q5_ n p n (st, 0) = some (st ++ p.inherit.map fI) := fun st hst => by
  have k1 := jO_ (L := jn_ n p) (xs := p.inherit) (h := fI) (by omega) (fun c st i hi => by rw [jn_, dlt hi, if_pos rfl, idxS hi, Zo]; rfl) (fun c st i hi => by rw [jn_, dnlt hi, if_neg (by decide)]) n 0 st (by omega) (by omega) (by omega)
  have k2 := jO_ (L := q5_ n p) (xs := p.inherit) (h := fI) (by omega) (fun c st i hi => by rw [q5_, dlt hi, if_pos rfl, idxS hi, Zo]; rfl) (fun c st i hi => by rw [q5_, dnlt hi, if_neg (by decide)]) n 0 st (by omega) (by omega) (by omega);exact ⟨k1, k2⟩
 have a4 : ∀ st : List GFact, st.length ≤ 100000000 → jo_ n p n (st, 0) = some (st ++ p.assign.map fA) ∧ q6_ n p n (st, 0) = some (st ++ p.assign.map fA) := fun st hst => by
  have k1 := jO_ (L := jo_ n p) (xs := p.assign) (h := fA) (by omega) (fun c st i hi => by rw [jo_, dlt hi, if_pos rfl, idxS hi, Zo]; rfl) (fun c st i hi => by rw [jo_, dnlt hi, if_neg (by decide)]) n 0 st (by omega) (by omega) (by omega)
  have k2 := jO_ (L := q6_ n p) (xs := p.assign) (h := fA) (by omega) (fun c st i hi => by rw [q6_, dlt hi, if_pos rfl, idxS hi, Zo]; rfl) (fun c st i hi => by rw [q6_, dnlt hi, if_neg (by decide)]) n 0 st (by omega) (by omega) (by omega);exact ⟨k1, k2⟩
 have a5 : ∀ st : List GFact, st.length ≤ 100000000 → jp_ n p n (st, 0) = some (st ++ p.grants.map fG) ∧ q7_ n p n (st, 0) = some (st ++ p.grants.map fG) := fun st hst => by
  have k1 := jO_ (L := jp_ n p) (xs := p.grants) (h := fG) (by omega) (fun c st i hi => by rw [jp_, dlt hi, if_pos rfl, idxS hi, Zo]; rfl) (fun c st i hi => by rw [jp_, dnlt hi, if_neg (by decide)]) n 0 st (by omega) (by omega) (by omega)
  have k2 := jO_ (L := q7_ n p) (xs := p.grants) (h := fG) (by omega) (fun c st i hi => by rw [q7_, dlt hi, if_pos rfl, idxS hi, Zo]; rfl) (fun c st i hi => by rw [q7_, dnlt hi, if_neg (by decide)]) n 0 st (by omega) (by omega) (by omega);exact ⟨k1, k2⟩
 have a6 : ∀ st : List GFact, st.length ≤ 100000000 → jq_ n p n (st, 0) = some (st ++ p.ssd.map fS) ∧ q8_ n p n (st, 0) = some (st ++ p.ssd.map fS) := fun st hst => by
  have k1 := jO_ (L := jq_ n p) (xs := p.ssd) (h := fS) (by omega) (fun c st i hi => by rw [jq_, dlt hi, if_pos rfl, idxS hi, Zo, rl (h.sl _ (List.getElem_mem hi)), Zo]; rfl) (fun c st i hi => by rw [jq_, dnlt hi, if_neg (by decide)]) n 0 st (by omega) (by omega) (by omega)
  have k2 := jO_ (L := q8_ n p) (xs := p.ssd) (h := fS) (by omega) (fun c st i hi => by rw [q8_, dlt hi, if_pos rfl, idxS hi, Zo, rl (h.sl _ (List.getElem_mem hi)), Zo]; rfl) (fun c st i hi => by rw [q8_, dnlt hi, if_neg (by decide)]) n 0 st (by omega) (by omega) (by omega);exact ⟨k1, k2⟩
 have a7 : ∀ st : List GFact, st.length ≤ 100000000 → jr_ n p n (st, 0) = some (st ++ p.dsd.map fD) ∧ q9_ n p n (st, 0) = some (st ++ p.dsd.map fD) := fun st hst => by
  have k1 := jO_ (L := jr_ n p) (xs := p.dsd) (h := fD) (by omega) (fun c st i hi => by rw [jr_, dlt hi, if_pos rfl, idxS hi, Zo, rl (h.dl _ (List.getElem_mem hi)), Zo]; rfl) (fun c st i hi => by rw [jr_, dnlt hi, if_neg (by decide)]) n 0 st (by omega) (by omega) (by omega)
  have k2 := jO_ (L := q9_ n p) (xs := p.dsd) (h := fD) (by omega) (fun c st i hi => by rw [q9_, dlt hi, if_pos rfl, idxS hi, Zo, rl (h.dl _ (List.getElem_mem hi)), Zo]; rfl) (fun c st i hi => by rw [q9_, dnlt hi, if_neg (by decide)]) n 0 st (by omega) (by omega) (by omega);exact ⟨k1, k2⟩
 have a8 : ∀ st : List GFact, st.length ≤ 100000000 → js_ n p n (st, 0) = some (st ++ p.sessions.map fE) ∧ ja_ n p n (st, 0) = some (st ++ p.sessions.map fE) := fun st hst => by
  have k1 := jO_ (L := js_ n p) (xs := p.sessions) (h := fE) (by omega) (fun c st i hi => by rw [js_, dlt hi, if_pos rfl, idxS hi, Zo, rl (h.el _ (List.getElem_mem hi)), Zo]; rfl) (fun c st i hi => by rw [js_, dnlt hi, if_neg (by decide)]) n 0 st (by omega) (by omega) (by omega)
  have k2 := jO_ (L := ja_ n p) (xs := p.sessions) (h := fE) (by omega) (fun c st i hi => by rw [ja_, dlt hi, if_pos rfl, idxS hi, Zo, rl (h.el _ (List.getElem_mem hi)), Zo]; rfl) (fun c st i hi => by rw [ja_, dnlt hi, if_neg (by decide)]) n 0 st (by omega) (by omega) (by omega);exact ⟨k1, k2⟩
 have b1 := a1 [] (by simp);have b2 := a2 ([] ++ p.users.map fU) (by simp; omega);have b3 := a3 ([] ++ p.users.map fU ++ p.roles.map fR) (by simp; omega);have b4 := a4 ([] ++ p.users.map fU ++ p.roles.map fR ++ p.inherit.map fI) (by simp; omega);have b5 := a5 ([] ++ p.users.map fU ++ p.roles.map fR ++ p.inherit.map fI ++ p.assign.map fA) (by simp; omega)
 have b6 := a6 ([] ++ p.users.map fU ++ p.roles.map fR ++ p.inherit.map fI ++ p.assign.map fA ++ p.grants.map fG) (by simp; omega);have b7 := a7 ([] ++ p.users.map fU ++ p.roles.map fR ++ p.inherit.map fI ++ p.assign.map fA ++ p.grants.map fG ++ p.ssd.map fS) (by simp; omega)
 have b8 := a8 ([] ++ p.users.map fU ++ p.roles.map fR ++ p.inherit.map fI ++ p.assign.map fA ++ p.grants.map fG ++ p.ssd.map fS ++ p.dsd.map fD) (by simp; omega);have fin : [] ++ p.users.map fU ++ p.roles.map fR ++ p.inherit.map fI ++ p.assign.map fA ++ p.grants.map fG ++ p.ssd.map fS ++ p.dsd.map fD ++ p.sessions.map fE = factsP p := by
  unfold factsP jZ_;simp only [List.nil_append, List.append_assoc]
 constructor
 ·unfold xL_
  rw [b1.1, Zo, b2.1, Zo, b3.1, Zo, b4.1, Zo, b5.1, Zo, b6.1, Zo, b7.1, Zo, b8.1, Zo, fin]
 ·unfold ref13_Normal_C1_ref13_Facts
  rw [b1.2, Zo, b2.2, Zo, b3.2, Zo, b4.2, Zo, b5.2, Zo, b6.2, Zo, b7.2, Zo, b8.2, Zo, fin]
theorem f6_ {n : Nat} {l : List GFact} (hn : 200000 ≤ n) (hl : l.length < 1000000) (hx : ∀ x ∈ l, x.l.length ≤ 100000) : ∀ (c i : Nat), i ≤ l.length → l.length - i < c → jw_ n c ((l.take i).map rowL ++ l.drop i, (i : Int)) = some (l.map rowL)
 | 0, _, _, h => by omega
 | c + 1, i, hi, hc => by
  have hlen : ((l.take i).map rowL ++ l.drop i).length = l.length := by
   rw [List.length_append, List.length_map, List.length_take, List.length_drop];omega
  have hti : ((l.take i).map rowL).length = i := by
   rw [List.length_map, List.length_take];omega
  rw [jw_];by_cases h : i < l.length
  ·have hlt : i < ((l.take i).map rowL ++ l.drop i).length := by omega
   have hg : ((l.take i).map rowL ++ l.drop i)[i] = l[i] := by
    rw [List.getElem_append_right (by omega)];simp only [hti, Nat.sub_self, List.getElem_drop];rfl
   rw [dlt hlt, if_pos rfl, idxS hlt, Zo, hg, kT_ n l[i].l (by have := hx _ (List.getElem_mem h); omega) (by have := hx _ (List.getElem_mem h); omega), Zo, Zo, wr1 (by omega), Int.toNat_natCast];have e : List.set ((l.take i).map rowL ++ l.drop i) i (rowL l[i]) = (l.take (i + 1)).map rowL ++ l.drop (i + 1) := by
    rw [List.set_append, if_neg (by omega), hti, Nat.sub_self, List.drop_eq_getElem_cons h, List.set_cons_zero, List.take_succ_eq_append_getElem h, List.map_append, List.append_assoc];rfl
   have e : List.set ((l.take i).map rowL ++ l.drop i) i (⟨l[i].kind, l[i].a, l[i].b, l[i].c, l[i].n_, tx.ofL l[i].l, l[i].at_⟩ : GFact) = _ := e;rw [e];exact f6_ hn hl hx c (i + 1) (by omega) (by omega)
  ·rw [hlen] at *
   rw [dnlt (by omega), if_neg (by decide), List.take_of_length_le (by omega), List.drop_eq_nil_of_le (by omega), List.append_nil]
theorem wy_ {n : Nat} {a b : List ByteArray} (ha : a.length < 1000000) : ∀ (c i : Nat), i ≤ a.length → i ≤ b.length → a.length - i < c → ∃ r, qU_ n a b c (i : Int) = some r ∧ ((r = .inl () ∧ (a.length < b.length ↔ cmL (a.drop i) (b.drop i) < 0)) ∨ r = .inr (decide (cmL (a.drop i) (b.drop i) < 0)))
 | 0, _, _, _, h => by omega
 | c + 1, i, hi, hj, hc => by
  rw [qU_];by_cases h1 : i < a.length
  ·by_cases h2 : i < b.length
   ·rw [dlt h1, if_pos rfl, dlt h2, Zo, if_pos rfl, idxS h1, Zo, idxS h2, Zo, beqS, wr1 (by omega), List.drop_eq_getElem_cons h1, List.drop_eq_getElem_cons h2]
    unfold cmL;by_cases e : a[i] = b[i]
    ·rw [decide_eq_true e, if_pos rfl, if_pos ((jz_ _ _).2 e)]
     exact wy_ ha c (i + 1) (by omega) (by omega) (by omega)
    ·rw [decide_eq_false e, if_neg (by decide), if_neg (fun h => e ((jz_ _ _).1 h))]
     refine ⟨_, rfl, .inr ?_⟩;rw [gV_];rfl
   ·rw [dlt h1, if_pos rfl, dnlt (by omega), Zo, if_neg (by decide), List.drop_eq_nil_of_le (show b.length ≤ i by omega), List.drop_eq_getElem_cons h1]
    exact ⟨_, rfl, .inl ⟨rfl, by unfold cmL; omega⟩⟩
  ·rw [dnlt (by omega), if_neg (by decide), Zo, if_neg (by decide), List.drop_eq_nil_of_le (show a.length ≤ i by omega)]
   refine ⟨_, rfl, .inl ⟨rfl, ?_⟩⟩;by_cases h2 : i < b.length
   ·rw [List.drop_eq_getElem_cons h2]
    unfold cmL;omega
   ·rw [List.drop_eq_nil_of_le (by omega)]
    unfold cmL;omega
theorem wz_ {n : Nat} {a b : List ByteArray} (hn : a.length < n) (ha : a.length < 1000000) : xx_ n a b = some (decide (cmL a b < 0)) := by
 obtain ⟨r, h1, h2⟩ := wy_ (n := n) (a := a) (b := b) ha n 0 (by omega) (by omega) (by omega);have h1 : qU_ n a b n 0 = some r := h1;unfold xx_;rw [h1, Zo];rw [List.drop_zero, List.drop_zero] at h2;rcases h2 with ⟨rfl, h2⟩ | rfl
 ·show some _ = _
  rw [dI];congr 1
  rw [Bool.eq_iff_iff, decide_eq_true_eq, decide_eq_true_eq];exact h2
 ·rfl
theorem yH_ {n : Nat} {f : GFact} (h : f.l.length ≤ 1000000) : vF_ n f = some (f.a :: z7_ f) := by
 unfold vF_ z7_;by_cases k6 : f.kind = 6
 ·rw [k6, if_pos (by decide), Zo, if_pos rfl, appS (by simp; omega), if_pos (.inl rfl)]
  rfl
 ·by_cases k7 : f.kind = 7
  ·rw [k7, if_neg (by decide), Zo, if_pos (by decide), appS (by simp; omega), if_pos (.inr rfl)]
   rfl
  ·rw [show (f.kind == 6) = false by simp [k6], if_neg (by decide), show (f.kind == 7) = false by simp [k7], Zo, if_neg (by decide)]
   by_cases k8 : f.kind = 8
   ·rw [k8, if_pos (by decide), appS (by simp; omega), if_neg (by decide), if_pos rfl]
    rfl
   ·rw [show (f.kind == 8) = false by simp [k8], if_neg (by decide), if_neg (fun h => Or.elim h k6 k7), if_neg k8]
theorem ri_ {f : GFact} (h : f.l.length ≤ 100000) : (z7_ f).length ≤ 100002 := by
 unfold z7_;split
 ·omega
 ·split
  ·rw [List.length_cons]; omega
  ·exact Nat.le_trans (Nat.le_refl 2) (by omega)
theorem nO_ {a b : Int} : cmI a b < 0 ↔ a < b := by unfold cmI; split <;> (try split) <;> omega
theorem dl_ {n : Nat} {x y : GFact} (hn : 200000 ≤ n) (hx : x.l.length ≤ 100000) (hy : y.l.length ≤ 100000) : jR_ n x y = some (decide (cmpF x y < 0)) := by
 have hr := ri_ hx;unfold jR_ cmpF lex;dsimp only;by_cases k : x.kind = y.kind
 ·rw [show (x.kind != y.kind) = false by simp [k], if_neg (by decide), if_pos (show cmI x.kind y.kind = 0 by rw [k]; exact yG_ _), beqS]
  by_cases e : x.a = y.a
  ·rw [decide_eq_true e, if_pos rfl, if_pos ((jz_ _ _).2 e), Zo]
   by_cases m : x.n_ = y.n_
   ·rw [show (x.n_ != y.n_) = false by simp [m], if_neg (by decide), yH_ (by omega), yH_ (by omega), Zo, Zo, wz_ (by rw [List.length_cons]; omega) (by rw [List.length_cons]; omega), Zo, if_pos (show cmI x.n_ y.n_ = 0 by rw [m]; exact yG_ _)]
    unfold cmL;rw [if_pos ((jz_ _ _).2 e)];cases z7_ x <;> cases z7_ y <;> rfl
   ·rw [show (x.n_ != y.n_) = true by simp [m], if_pos rfl, if_neg (fun h => m (kv_ h))]
    congr 1
    rw [Bool.eq_iff_iff, decide_eq_true_eq, decide_eq_true_eq, nO_]
  ·rw [decide_eq_false e, if_neg (by decide), Zo, if_neg (by decide), yH_ (by omega), yH_ (by omega), Zo, Zo, wz_ (by rw [List.length_cons]; omega) (by rw [List.length_cons]; omega), Zo, if_neg (fun h => e ((jz_ _ _).1 h))]
   unfold cmL;rw [if_neg (fun h => e ((jz_ _ _).1 h))]
 ·rw [show (x.kind != y.kind) = true by simp [k], if_pos rfl, if_neg (fun h => k (kv_ h))]
  congr 1
  rw [Bool.eq_iff_iff, decide_eq_true_eq, decide_eq_true_eq, nO_]
theorem dm_ {n : Nat} {l out : List GFact} {i : Nat} (hn : 200000 ≤ n) (hi : i < l.length) (hx : ∀ x ∈ l, x.l.length ≤ 100000) (ho : ∀ x ∈ out, x.l.length ≤ 100000) (hol : out.length < 1000000) : ∀ (c k : Nat), k ≤ out.length → k < c → (∀ y ∈ out.drop k, cmpF l[i] y < 0) →
  ∃ j : Nat, jA_ n l out (i : Int) c (k : Int) = some (j : Int) ∧ j ≤ out.length ∧ (∀ y ∈ out.drop j, cmpF l[i] y < 0) ∧ (j = 0 ∨ ∃ y, out[j - 1]? = some y ∧ ¬ cmpF l[i] y < 0)
 | 0, _, _, h, _ => by omega
 | c + 1, k, hk, hc, hd => by
  rw [jA_];by_cases h0 : 0 < k
  ·have hk1 : k - 1 < out.length := by omega
   rw [decide_eq_true (show (0 : Int) < (k : Int) by omega), if_pos rfl, idxS hi, Zo, wr (by omega) (by omega), show ((k : Int) - 1) = ((k - 1 : Nat) : Int) by omega, idxS hk1, Zo, dl_ hn (hx _ (List.getElem_mem hi)) (ho _ (List.getElem_mem hk1)), Zo];by_cases hlt : cmpF l[i] out[k - 1] < 0
   ·rw [decide_eq_true hlt, if_pos rfl]
    refine dm_ hn hi hx ho hol c (k - 1) (by omega) (by omega) fun y hy => ?_;rw [List.drop_eq_getElem_cons hk1] at hy;rcases List.mem_cons.1 hy with rfl | hy
    ·exact hlt
    ·rw [show k - 1 + 1 = k by omega] at hy
     exact hd y hy
   ·rw [decide_eq_false hlt, if_neg (by decide)]
    exact ⟨k, rfl, hk, hd, .inr ⟨_, List.getElem?_eq_getElem hk1, hlt⟩⟩
  ·rw [decide_eq_false (show ¬ (0 : Int) < (k : Int) by omega), if_neg (by decide)]
   exact ⟨k, rfl, hk, hd, .inl (by omega)⟩
theorem wj_ {n : Nat} {l : List GFact} (hn : 200000 ≤ n) (hl : l.length < 150000) (hx : ∀ x ∈ l, x.l.length ≤ 100000) (hc0 : ∀ x ∈ l, CanF x) : ∀ (c i : Nat) (out : List GFact), i ≤ l.length → l.length - i < c → RisF out → (∀ z, z ∈ out ↔ z ∈ l.take i) → out.length ≤ i →
  ∃ R, qI_ n l c (out, (i : Int)) = some R ∧ RisF R ∧ (∀ z, z ∈ R ↔ z ∈ l) ∧ R.length ≤ l.length
 | 0, _, _, _, h, _, _, _ => by omega
 | c + 1, i, out, hi, hc, hr, hm, hlen => by
  rw [qI_];by_cases h : i < l.length
  ·have q1 : i + 1 ≤ l.length := h
   have q2 : l.length - (i + 1) < c := by omega
   have q3 : out.length ≤ i + 1 := by omega
   have hin : ∀ z ∈ out, z ∈ l := fun z hz => List.mem_of_mem_take ((hm z).1 hz);have ho : ∀ z ∈ out, z.l.length ≤ 100000 := fun z hz => hx z (hin z hz);have htk : ∀ z, z ∈ l.take (i + 1) ↔ z = l[i] ∨ z ∈ l.take i := fun z => by
    rw [List.take_succ_eq_append_getElem h, List.mem_append, List.mem_singleton];exact Or.comm
   obtain ⟨j, e1, e2, e3, e4⟩ := dm_ (n := n) (i := i) hn h hx ho (by omega) n out.length (Nat.le_refl _) (by omega) (by rw [List.drop_length]; exact fun y hy => by cases hy);rw [dlt h, if_pos rfl, e1, Zo, wr1 (by omega)]
   obtain ⟨b, f1, f2⟩ : ∃ b : Bool, ((if (decide (0 < (j : Int))) then (idx out (IntKind.i64.wrap ((j : Int) - 1))).bind fun x24 => (idx l (i : Int)).bind fun x25 => (jR_ n x24 x25).bind fun t432 => some (!t432) else some false) : Option Bool) = some b ∧ (b = true ↔ ∃ y, 0 < j ∧ out[j - 1]? = some y ∧ ¬ cmpF y l[i] < 0) := by
    by_cases h0 : 0 < j
    ·have hj1 : j - 1 < out.length := by omega
     rw [decide_eq_true (show (0 : Int) < (j : Int) by omega), if_pos rfl, wr (by omega) (by omega), show ((j : Int) - 1) = ((j - 1 : Nat) : Int) by omega, idxS hj1, Zo, idxS h, Zo, dl_ hn (ho _ (List.getElem_mem hj1)) (hx _ (List.getElem_mem h)), Zo];refine ⟨_, rfl, ?_⟩;rw [Bool.not_eq_true', decide_eq_false_iff_not];constructor
     ·exact fun h => ⟨_, h0, List.getElem?_eq_getElem hj1, h⟩
     ·rintro ⟨y, _, hy, h⟩
      rw [List.getElem?_eq_getElem hj1, Option.some.injEq] at hy;rw [hy];exact h
    ·rw [decide_eq_false (show ¬ (0 : Int) < (j : Int) by omega), if_neg (by decide)]
     exact ⟨false, rfl, fun h => (by cases h), fun ⟨_, h, _⟩ => absurd h h0⟩
   rw [f1, Zo];cases b with
   | true =>
    rw [if_pos rfl];obtain ⟨y, h0, hy, hny⟩ := f2.1 rfl;have heq : l[i] = y := by
     rcases e4 with e4 | ⟨y2, hy2, hn2⟩
     ·omega
     ·rw [hy, Option.some.injEq] at hy2
      subst hy2;have hneg := pre_cmpF.neg l[i] y;exact nM_ (hc0 _ (List.getElem_mem h)) (hc0 _ (hin _ (List.mem_of_getElem? hy))) (by omega)
    refine wj_ hn hl hx hc0 c (i + 1) out q1 q2 hr (fun z => ?_) q3;rw [htk, hm z];constructor
    ·exact .inr
    ·rintro (rfl | h)
     ·rw [← hm, heq]
      exact List.mem_of_getElem? hy
     ·exact h
   | false =>
    rw [if_neg (by decide)];have hlow : j = 0 ∨ ∃ y, out[j - 1]? = some y ∧ cmpF y l[i] < 0 := by
     by_cases h0 : j = 0
     ·exact .inl h0
     ·refine .inr ⟨out[j - 1]'(by omega), List.getElem?_eq_getElem (by omega), ?_⟩
      refine Classical.byContradiction fun hc => ?_;have := f2.2 ⟨_, by omega, List.getElem?_eq_getElem (show j - 1 < out.length by omega), hc⟩;cases this
    have hins := ins_ok hr e3 hlow;have hmem : ∀ z, z ∈ out.take j ++ [l[i]] ++ out.drop j ↔ z ∈ l.take (i + 1) := fun z => by
     rw [s3_, htk, hm z]
    have hlen2 : (out.take j ++ [l[i]] ++ out.drop j).length ≤ i + 1 := by
     simp only [List.length_append, List.length_take, List.length_drop, List.length_singleton];omega
    by_cases h0 : out.length = 0
    ·have hout : out = [] := List.eq_nil_of_length_eq_zero h0
     subst hout;have hj : j = 0 := by simpa using e2
     subst hj;have s1 : slc ([] : List GFact) 0 ((0 : Nat) : Int) = some [] := rfl;have s2 : slc ([] : List GFact) ((0 : Nat) : Int) 0 = some [] := rfl;rw [decide_eq_true h0, if_pos rfl, s1, Zo, idxS h, Zo, s2, Zo];exact wj_ hn hl hx hc0 c (i + 1) [l[i]] q1 q2 hins hmem hlen2
    ·have s1 : slc out 0 (j : Int) = some (out.take j) := by
      have := slcS (xs := out) (a := 0) (b := j) (Nat.zero_le _) e2;rwa [List.drop_zero] at this
     have s2 : slc out (j : Int) (out.length : Int) = some (out.drop j) := by
      have := slcS (xs := out) (a := j) (b := out.length) e2 (Nat.le_refl _);rwa [List.take_length] at this
     have htl : (out.take j).length ≤ 150000 := by rw [List.length_take]; omega
     rw [decide_eq_false h0, if_neg (by decide), s1, Zo, appS (by simp; omega), Zo, idxS h, Zo, appS (by rw [List.length_singleton]; omega), Zo, s2, Zo, Int.toNat_natCast];by_cases hjl : j < out.length
     ·rw [decide_eq_true hjl, if_pos rfl, appS (by rw [List.length_append, List.length_singleton, List.length_drop]; omega), Zo]
      exact wj_ hn hl hx hc0 c (i + 1) _ q1 q2 hins hmem hlen2
     ·rw [decide_eq_false hjl, if_neg (by decide)]
      rw [List.drop_eq_nil_of_le (show out.length ≤ j by omega), List.append_nil] at hins hmem hlen2;exact wj_ hn hl hx hc0 c (i + 1) _ q1 q2 hins hmem hlen2
  ·rw [dnlt (by omega), if_neg (by decide)]
   refine ⟨out, rfl, hr, fun z => ?_, by omega⟩;rw [hm z, List.take_of_length_le (by omega)]
end Go.Proofs.YtkkhgdmmbhpckaaGreat.Ab
