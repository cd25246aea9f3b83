/-
 The search for one subject, told plainly: all that is reached, what hangs on what, the least answer, rank by rank. No program in sight.
-/
import Derived.Test.YtjkdbakgnnhdnaaGreatSkd
namespace Go.Proofs.YtjkdbakgnnhdnaaGreat.Ab
open Go.RowKit
inductive Rch (D : GRef → List GRef) : GRef → GRef → Prop
 | refl (r : GRef) : Rch D r r
 | step {r d e : GRef} (h : d ∈ D r) (h2 : Rch D d e) : Rch D r e
theorem Rch.trans {D : GRef → List GRef} {a b c : GRef} (h : Rch D a b) (h2 : Rch D b c) : Rch D a c := by
 induction h with
 | refl => exact h2
 | step h _ ih => exact .step h (ih h2)
theorem findP_iff {r : GRef} {N : List PN} : (findP r N).isSome = true ↔ r ∈ N.map (·.k) := by
 constructor
 ·intro h
  obtain ⟨p, hp⟩ := Option.isSome_iff_exists.1 h
  obtain ⟨h1, h2⟩ := findP_mem hp
  exact List.mem_map.2 ⟨p, h1, h2⟩
 ·intro h
  obtain ⟨p, hp⟩ := findP_some h
  rw [hp]
  rfl
theorem sum_without {α : Type} [DecidableEq α] (g : α → Nat) (p : α → Bool) (r : α) : ∀ {U : List α}, U.Nodup → r ∈ U → p r = true → ((U.filter fun x => p x && decide (x ≠ r)).map g).sum + g r = ((U.filter p).map g).sum
 | [], _, h, _ => by cases h
 | x :: l, hn, h, hp => by
  rw [List.nodup_cons] at hn
  by_cases e : x = r
  ·subst e
   have h1 : (l.filter fun y => p y && decide (y ≠ x)) = l.filter p := by
    refine List.filter_congr fun y hy => ?_
    have : y ≠ x := fun e => hn.1 (e ▸ hy)
    simp [this]
   rw [List.filter_cons, List.filter_cons, h1]
   simp [hp]
   omega
  ·have h2 : r ∈ l := by
    rcases List.mem_cons.1 h with h | h
    ·exact absurd h.symm e
    ·exact h
   have ih := sum_without g p r hn.2 h2 hp
   rw [List.filter_cons, List.filter_cons]
   cases hx : p x with
   | true => simp [e]; simp at ih; omega
   | false => simpa using ih
def unseen (D : GRef → List GRef) (U : List GRef) (N : List PN) : Nat := ((U.filter fun r => decide (r ∉ N.map (·.k))).map fun r => (D r).length).sum
theorem nodup_len {α : Type} [DecidableEq α] : ∀ {l U : List α}, l.Nodup → (∀ x ∈ l, x ∈ U) → l.length ≤ U.length
 | [], _, _, _ => Nat.zero_le _
 | x :: l, U, hn, h => by
  rw [List.nodup_cons] at hn
  have h1 : x ∈ U := h x (List.mem_cons_self ..)
  have h2 := nodup_len (l := l) (U := U.erase x) hn.2 fun y hy => (List.mem_erase_of_ne fun e => hn.1 (by rw [← e]; exact hy)).2 (h y (List.mem_cons_of_mem _ hy))
  rw [List.length_erase_of_mem h1] at h2
  have := List.length_pos_of_mem h1
  simp only [List.length_cons]
  omega
section
variable {nd : GRef → Option (Int × List GRef)} {D : GRef → List GRef} {rk : GRef → Int} {U : List GRef}
def mkP (rk : GRef → Int) (D : GRef → List GRef) (r : GRef) : PN := ⟨r, rk r, D r, [], false⟩
theorem reachM_some (hU : U.Nodup) (hl : U.length < 4294967296) (hnd : ∀ r ∈ U, nd r = some (rk r, D r)) (hD : ∀ r ∈ U, ∀ d ∈ D r, d ∈ U) : ∀ (f : Nat) (ks w : List GRef), ks.Nodup → (∀ r ∈ ks, r ∈ U) → (∀ r ∈ w, r ∈ U) → w.length + unseen D U (ks.map (mkP rk D)) < f → w.length + unseen D U (ks.map (mkP rk D)) ≤ 4294967296 →
  ∃ rs : List GRef, reachM nd f (ks.map (mkP rk D)) w = some (rs.map (mkP rk D)) ∧ rs.Nodup ∧ (∀ r ∈ rs, r ∈ U) ∧ (∀ r ∈ ks, r ∈ rs) ∧ (∀ r ∈ w, r ∈ rs) ∧ ((∀ r ∈ ks, ∀ d ∈ D r, d ∈ ks ∨ d ∈ w) → ∀ r ∈ rs, ∀ d ∈ D r, d ∈ rs) ∧ ∀ r ∈ rs, r ∈ ks ∨ ∃ r0 ∈ w, Rch D r0 r
 | 0, _, _, _, _, _, h, _ => absurd h (Nat.not_lt_zero _)
 | f + 1, ks, [], hn, hk, _, _, _ => ⟨ks, rfl, hn, hk, (fun _ h => h), (fun _ h => nomatch h), (fun h r hr d hd => (h r hr d hd).elim id fun h => nomatch h), fun r h => .inl h⟩
 | f + 1, ks, r :: w, hn, hk, hw, hf, hb => by
  have hkk : (ks.map (mkP rk D)).map (·.k) = ks := by simp [mkP, Function.comp_def]
  by_cases hr : r ∈ ks
  ·have h1 : (findP r (ks.map (mkP rk D))).isSome = true := findP_iff.2 (by rw [hkk]; exact hr)
   simp only [List.length_cons] at hf hb
   obtain ⟨rs, e1, e2, e3, e4, e5, e6, e7⟩ := reachM_some hU hl hnd hD f ks w hn hk (fun x hx => hw x (List.mem_cons_of_mem _ hx)) (by omega) (by omega)
   refine ⟨rs, ?_, e2, e3, e4, fun x hx => ?_, fun h => e6 fun x hx d hd => ?_, fun x hx => ?_⟩
   ·unfold reachM
    rw [if_pos h1, e1]
   ·rcases List.mem_cons.1 hx with rfl | hx
    ·exact e4 x hr
    ·exact e5 x hx
   ·rcases h x hx d hd with h | h
    ·exact .inl h
    ·rcases List.mem_cons.1 h with rfl | h
     ·exact .inl hr
     ·exact .inr h
   ·rcases e7 x hx with h | ⟨r0, h, h2⟩
    ·exact .inl h
    ·exact .inr ⟨r0, List.mem_cons_of_mem _ h, h2⟩
  ·have h1 : ¬ (findP r (ks.map (mkP rk D))).isSome = true := fun h => hr (by have := findP_iff.1 h; rw [hkk] at this; exact this)
   have hrU := hw r (List.mem_cons_self ..)
   have hn2 : (ks ++ [r]).Nodup := List.nodup_append.2 ⟨hn, List.nodup_cons.2 ⟨List.not_mem_nil, List.nodup_nil⟩, fun a ha b hb e => hr (by rw [← List.mem_singleton.1 hb, ← e]; exact ha)⟩
   have hun : unseen D U ((ks ++ [r]).map (mkP rk D)) + (D r).length = unseen D U (ks.map (mkP rk D)) := by
    unfold unseen
    have h2 : ((ks ++ [r]).map (mkP rk D)).map (·.k) = ks ++ [r] := by simp [mkP, Function.comp_def]
    rw [hkk, h2, ← sum_without (fun r => (D r).length) (fun x => decide (x ∉ ks)) r hU hrU (by simpa using hr)]
    congr 4
    funext x
    simp [Bool.and_comm]
   have hlen : ks.length < 4294967296 := Nat.lt_of_le_of_lt (nodup_len hn hk) hl
   simp only [List.length_cons] at hf hb
   obtain ⟨rs, e1, e2, e3, e4, e5, e6, e7⟩ := reachM_some hU hl hnd hD f (ks ++ [r]) ((D r).reverse ++ w) hn2 (fun x hx => by
    rcases List.mem_append.1 hx with h | h
    ·exact hk x h
    ·rw [List.mem_singleton.1 h]
     exact hrU) (fun x hx => by
    rcases List.mem_append.1 hx with h | h
    ·exact hD r hrU x (List.mem_reverse.1 h)
    ·exact hw x (List.mem_cons_of_mem _ h)) (by rw [List.length_append, List.length_reverse]; omega) (by rw [List.length_append, List.length_reverse]; omega)
   refine ⟨rs, ?_, e2, e3, fun x hx => e4 x (List.mem_append_left _ hx), fun x hx => ?_, fun h => e6 fun x hx d hd => ?_, fun x hx => ?_⟩
   ·unfold reachM
    rw [if_neg h1, hnd r hrU, Zo, if_pos ⟨by simp only; omega, by rw [List.length_map]; exact hlen⟩]
    rw [List.map_append] at e1
    exact e1
   ·rcases List.mem_cons.1 hx with rfl | hx
    ·exact e4 x (List.mem_append_right _ (List.mem_singleton.2 rfl))
    ·exact e5 x (List.mem_append_right _ hx)
   ·rcases List.mem_append.1 hx with hx | hx
    ·rcases h x hx d hd with h | h
     ·exact .inl (List.mem_append_left _ h)
     ·rcases List.mem_cons.1 h with rfl | h
      ·exact .inl (List.mem_append_right _ (List.mem_singleton.2 rfl))
      ·exact .inr (List.mem_append_right _ h)
    ·rw [List.mem_singleton.1 hx] at hd
     exact .inr (List.mem_append_left _ (List.mem_reverse.2 hd))
   ·rcases e7 x hx with h | ⟨r0, h, h2⟩
    ·rcases List.mem_append.1 h with h | h
     ·exact .inl h
     ·rw [List.mem_singleton.1 h]
      exact .inr ⟨r, List.mem_cons_self .., .refl r⟩
    ·rcases List.mem_append.1 h with h | h
     ·exact .inr ⟨r, List.mem_cons_self .., .step (List.mem_reverse.1 h) h2⟩
     ·exact .inr ⟨r0, List.mem_cons_of_mem _ h, h2⟩
end
def addL (f : GRef → List GRef) (N : List PN) : List PN := N.map fun p => { p with above := p.above ++ f p.k }
theorem addL_nil (N : List PN) : addL (fun _ => []) N = N := by
 unfold addL
 refine (List.map_congr_left fun p _ => ?_).trans (List.map_id _)
 simp
theorem addL_addL (f g : GRef → List GRef) (N : List PN) : addL g (addL f N) = addL (fun x => f x ++ g x) N := by
 unfold addL
 rw [List.map_map]
 refine List.map_congr_left fun p _ => ?_
 simp
theorem addL_congr {f g : GRef → List GRef} (N : List PN) (h : ∀ x, f x = g x) : addL f N = addL g N := by rw [show f = g from funext h]
theorem addL_k (f : GRef → List GRef) (N : List PN) : (addL f N).map (·.k) = N.map (·.k) := by simp [addL, Function.comp_def]
theorem addAb_L (d r : GRef) (N : List PN) : addAb d r N = addL (fun x => if d == x then [r] else []) N := by
 unfold addAb addL
 refine List.map_congr_left fun p _ => ?_
 by_cases h : (d == p.k) = true
 ·simp [h]
 ·simp [h]
theorem aboD_some (r : GRef) : ∀ (l : List GRef) (N : List PN), (∀ d ∈ l, d ∈ N.map (·.k)) → (∀ p ∈ N, p.above.length + l.length ≤ 4294967296) → aboD r l N = some (addL (fun x => (l.filter (· == x)).map fun _ => r) N)
 | [], N, _, _ => by
  exact congrArg some ((addL_congr N (g := fun _ => []) fun x => rfl).trans (addL_nil N)).symm
 | d :: l, N, hk, hb => by
  obtain ⟨p, hp⟩ := findP_some (hk d (List.mem_cons_self ..))
  have hpm := (findP_mem hp).1
  have hb2 := hb p hpm
  simp only [List.length_cons] at hb2 hb
  unfold aboD
  rw [hp, Zo, if_pos (by omega), aboD_some r l _ (by rw [addAb_k]; exact fun x hx => hk x (List.mem_cons_of_mem _ hx)) fun p2 hp2 => by
   rw [addAb_L] at hp2
   obtain ⟨p3, h3, rfl⟩ := List.mem_map.1 hp2
   have := hb p3 h3
   simp only [List.length_append]
   split <;> simp <;> omega]
  rw [addAb_L, addL_addL]
  congr 1
  refine addL_congr N fun x => ?_
  rw [List.filter_cons]
  split <;> simp
def hangs (D : GRef → List GRef) (l : List GRef) (x : GRef) : List GRef := l.flatMap fun r => ((D r).filter (· == x)).map fun _ => r
theorem mem_hangs {D : GRef → List GRef} {l : List GRef} {x r : GRef} : r ∈ hangs D l x ↔ r ∈ l ∧ x ∈ D r := by
 unfold hangs
 rw [List.mem_flatMap]
 constructor
 ·rintro ⟨s, h1, h2⟩
  obtain ⟨d, h3, rfl⟩ := List.mem_map.1 h2
  obtain ⟨h4, h5⟩ := List.mem_filter.1 h3
  rw [eq_of_beq h5] at h4
  exact ⟨h1, h4⟩
 ·rintro ⟨h1, h2⟩
  exact ⟨r, h1, List.mem_map.2 ⟨x, List.mem_filter.2 ⟨h2, beq_self_eq_true _⟩, rfl⟩⟩
def total (D : GRef → List GRef) (l : List GRef) : Nat := (l.map fun r => (D r).length).sum
theorem aboM_some (D : GRef → List GRef) : ∀ (l : List GRef) (N : List PN), (∀ r ∈ l, r ∈ N.map (·.k)) → (∀ p ∈ N, p.deps = D p.k ∧ ∀ d ∈ D p.k, d ∈ N.map (·.k)) → (∀ p ∈ N, p.above.length + total D l ≤ 4294967296) → aboM l N = some (addL (hangs D l) N)
 | [], N, _, _, _ => by
  exact congrArg some ((addL_congr N (g := fun _ => []) fun x => rfl).trans (addL_nil N)).symm
 | r :: l, N, hk, hd, hb => by
  obtain ⟨p, hp⟩ := findP_some (hk r (List.mem_cons_self ..))
  obtain ⟨hpm, hpk⟩ := findP_mem hp
  obtain ⟨e1, e2⟩ := hd p hpm
  rw [hpk] at e1 e2
  have ht : total D (r :: l) = (D r).length + total D l := by simp [total]
  have hb2 := hb p hpm
  unfold aboM
  rw [hp, Zo, if_pos (by rw [e1]; omega), e1, aboD_some r (D r) N e2 fun q hq => by have := hb q hq; omega, Zo, aboM_some D l _ (by rw [addL_k]; exact fun x hx => hk x (List.mem_cons_of_mem _ hx)) (fun q hq => ?_) fun q hq => ?_]
  ·rw [addL_addL]
   rfl
  ·obtain ⟨q0, h0, rfl⟩ := List.mem_map.1 hq
   rw [addL_k]
   exact hd q0 h0
  ·obtain ⟨q0, h0, rfl⟩ := List.mem_map.1 hq
   have := hb q0 h0
   have h2 : (((D r).filter (· == q0.k)).map fun _ => r).length ≤ (D r).length := by rw [List.length_map]; exact List.length_filter_le _ _
   simp only [List.length_append]
   omega
def withIs (S : GRef → Bool) (P : List PN) : List PN := P.map fun p => { p with is := S p.k }
theorem findP_is (S : GRef → Bool) (r : GRef) : ∀ P : List PN, findP r (withIs S P) = (findP r P).map fun p => { p with is := S p.k }
 | [] => rfl
 | p :: l => by
  have ih := findP_is S r l
  show (if r == p.k then some _ else findP r (withIs S l)) = (if r == p.k then some p else findP r l).map _
  split
  ·rfl
  ·exact ih
theorem setIs_is (S : GRef → Bool) (d : GRef) (P : List PN) : setIs d (withIs S P) = withIs (fun x => S x || d == x) P := by
 unfold setIs withIs
 rw [List.map_map]
 refine List.map_congr_left fun p _ => ?_
 simp only [Function.comp]
 by_cases h : (d == p.k) = true
 ·rw [if_pos h, h, Bool.or_true]
 ·rw [if_neg h, show (d == p.k) = false by simpa using h, Bool.or_false]
structure NowB (K : List GRef) (D : GRef → List GRef) (rk : GRef → Int) (nwB : (GRef → Bool) → GRef → Bool) : Prop where
 loc : ∀ S T r, r ∈ K → (∀ d ∈ D r, S d = T d) → nwB S r = nwB T r
 mono : ∀ S T r, r ∈ K → (∀ d ∈ D r, rk d < rk r → S d = T d) → (∀ d ∈ D r, rk d = rk r → S d = true → T d = true) → nwB S r = true → nwB T r = true
 rkD : ∀ r ∈ K, ∀ d ∈ D r, rk d ≤ rk r
 DK : ∀ r ∈ K, ∀ d ∈ D r, d ∈ K
structure KInv (K : List GRef) (rk : GRef → Int) (nwB : (GRef → Bool) → GRef → Bool) (S : GRef → Bool) (done w : List GRef) (k : Int) : Prop where
 a : ∀ r ∈ K, S r = true → nwB S r = true
 b : ∀ r ∈ done, nwB S r = true → S r = true ∨ (r ∈ w ∧ rk r = k)
 c : ∀ r ∈ K, S r = true → rk r ≤ k
 d : ∀ (j : Int) (T : GRef → Bool), (∀ r ∈ K, rk r < j → T r = S r) → (∀ r ∈ K, rk r = j → nwB T r = true → T r = true) → ∀ r ∈ K, rk r = j → S r = true → T r = true
 e : ∀ r ∈ done, r ∈ K ∧ rk r ≤ k
section
variable {K : List GRef} {D : GRef → List GRef} {rk : GRef → Int} {nwB : (GRef → Bool) → GRef → Bool} {S : GRef → Bool} {done w : List GRef} {k : Int}
theorem KInv.pop (hN : NowB K D rk nwB) {r : GRef} (h : KInv K rk nwB S done (r :: w) k) (h2 : rk r ≠ k ∨ S r = true ∨ nwB S r = false) : KInv K rk nwB S done w k :=
 ⟨h.a, fun x hx hn => by
  rcases h.b x hx hn with h3 | ⟨h3, h4⟩
  ·exact .inl h3
  ·rcases List.mem_cons.1 h3 with rfl | h3
   ·rcases h2 with h2 | h2 | h2
    ·exact absurd h4 h2
    ·exact .inl h2
    ·rw [hn] at h2
     cases h2
   ·exact .inr ⟨h3, h4⟩, h.c, h.d, h.e⟩
theorem KInv.set (hN : NowB K D rk nwB) {r : GRef} {ab : List GRef} (h : KInv K rk nwB S done (r :: w) k) (hr : r ∈ K) (hk : rk r = k) (hn : nwB S r = true) (hab : ∀ x, x ∈ K → r ∈ D x → x ∈ ab) : KInv K rk nwB (fun x => S x || r == x) done (ab.reverse ++ w) k where
 a := fun x hx hs => by
  have h1 : nwB S x = true ∧ rk x ≤ k := by
   simp only [Bool.or_eq_true] at hs
   rcases hs with hs | hs
   ·exact ⟨h.a x hx hs, h.c x hx hs⟩
   ·rw [← eq_of_beq hs]
    exact ⟨hn, by omega⟩
  refine hN.mono S _ x hx (fun d hd hlt => ?_) (fun d hd he hs => by simp [hs]) h1.1
  have : (r == d) = false := by
   rw [beq_eq_false_iff_ne]
   intro e
   subst e
   omega
  simp [this]
 b := fun x hx hs => by
  obtain ⟨hxK, hxk⟩ := h.e x hx
  by_cases hrx : r ∈ D x
  ·have h1 := hab x hxK hrx
   have h2 := hN.rkD x hxK r hrx
   exact .inr ⟨List.mem_append_left _ (List.mem_reverse.2 h1), by omega⟩
  ·rw [← hN.loc S _ x hxK fun d hd => by
    have : (r == d) = false := by
     rw [beq_eq_false_iff_ne]
     intro e
     subst e
     exact hrx hd
    simp [this]] at hs
   rcases h.b x hx hs with h3 | ⟨h3, h4⟩
   ·exact .inl (by simp [h3])
   ·rcases List.mem_cons.1 h3 with rfl | h3
    ·exact .inl (by simp)
    ·exact .inr ⟨List.mem_append_right _ h3, h4⟩
 c := fun x hx hs => by
  simp only [Bool.or_eq_true] at hs
  rcases hs with hs | hs
  ·exact h.c x hx hs
  ·rw [← eq_of_beq hs]
   omega
 d := fun j T h1 h2 x hx hj hs => by
  have h3 : ∀ y ∈ K, rk y < j → rk y < k ∨ k < j := fun y _ hy => by omega
  by_cases hjk : k < j
  ·simp only [Bool.or_eq_true] at hs
   rcases hs with hs | hs
   ·have := h.c x hx hs
    omega
   ·have := eq_of_beq hs
    subst this
    omega
  ·have h4 : ∀ y ∈ K, rk y < j → T y = S y := fun y hy hlt => by
    rw [h1 y hy hlt]
    have : (r == y) = false := by
     rw [beq_eq_false_iff_ne]
     intro e
     subst e
     omega
    simp [this]
   simp only [Bool.or_eq_true] at hs
   rcases hs with hs | hs
   ·exact h.d j T h4 h2 x hx hj hs
   ·have := eq_of_beq hs
    subst this
    refine h2 r hr hj (hN.mono S T r hr (fun d hd hlt => (h4 d (hN.DK r hr d hd) (by omega)).symm) (fun d hd he hs => ?_) hn)
    exact h.d j T h4 h2 d (hN.DK r hr d hd) (by omega) hs
 e := h.e
def owed (P : List PN) (S : GRef → Bool) : Nat := ((P.filter fun p => !S p.k).map fun p => p.above.length).sum
theorem owed_set {P : List PN} (hn : (P.map (·.k)).Nodup) {p : PN} (hp : p ∈ P) (hs : S p.k = false) : owed P (fun x => S x || p.k == x) + p.above.length = owed P S := by
 unfold owed
 induction P with
 | nil => cases hp
 | cons q l ih =>
  rw [List.map_cons, List.nodup_cons] at hn
  rcases List.mem_cons.1 hp with rfl | hp
  ·have h1 : (l.filter fun x => !(S x.k || p.k == x.k)) = l.filter fun x => !S x.k := by
    refine List.filter_congr fun y hy => ?_
    have : (p.k == y.k) = false := by
     rw [beq_eq_false_iff_ne]
     intro e
     exact hn.1 (by rw [e]; exact List.mem_map_of_mem hy)
    simp [this]
   rw [List.filter_cons, List.filter_cons, h1]
   simp [hs]
   omega
  ·have := ih hn.2 hp
   dsimp only at this
   have hne : (p.k == q.k) = false := by
    rw [beq_eq_false_iff_ne]
    intro e
    exact hn.1 (by rw [← e]; exact List.mem_map_of_mem hp)
   have h1 : ∀ b : Bool, (!(b || p.k == q.k)) = !b := fun b => by rw [hne, Bool.or_false]
   rw [List.filter_cons, List.filter_cons]
   simp only [h1]
   cases hq : S q.k with
   | true => exact this
   | false =>
    simp only [Bool.not_false, if_true, List.map_cons, List.sum_cons]
    omega
theorem workM_some {nw : List PN → GRef → Option Bool} {P : List PN} (hN : NowB (P.map (·.k)) D rk nwB) (hnd : (P.map (·.k)).Nodup) (hP : ∀ p ∈ P, p.rank = rk p.k ∧ ∀ x, x ∈ p.above ↔ x ∈ P.map (·.k) ∧ p.k ∈ D x) (hnw : ∀ S r, r ∈ P.map (·.k) → nw (withIs S P) r = some (nwB S r)) :
  ∀ (f : Nat) (S : GRef → Bool) (w : List GRef), (∀ r ∈ w, r ∈ P.map (·.k)) → w.length + owed P S < f → w.length + owed P S ≤ 4294967296 → KInv (P.map (·.k)) rk nwB S done w k → ∃ S', workM nw k f (withIs S P) w = some (withIs S' P) ∧ KInv (P.map (·.k)) rk nwB S' done [] k ∧ owed P S' ≤ owed P S
 | 0, _, _, _, h, _, _ => absurd h (Nat.not_lt_zero _)
 | f + 1, S, [], _, _, _, hi => ⟨S, rfl, hi, Nat.le_refl _⟩
 | f + 1, S, r :: w, hw, hf, hb, hi => by
  have hrK := hw r (List.mem_cons_self ..)
  obtain ⟨p, hp⟩ := findP_some hrK
  obtain ⟨hpm, hpk⟩ := findP_mem hp
  obtain ⟨hr, hab⟩ := hP p hpm
  simp only [List.length_cons] at hf hb
  have hw2 : ∀ x ∈ w, x ∈ P.map (·.k) := fun x hx => hw x (List.mem_cons_of_mem _ hx)
  have e0 : findP r (withIs S P) = some { p with is := S p.k } := by rw [findP_is, hp]; rfl
  unfold workM
  rw [e0, Zo]
  by_cases hk : rk r = k
  ·have h1 : (p.rank != k) = false := by rw [hr, hpk, hk]; simp
   simp only [h1, Bool.false_eq_true, if_false]
   cases hs : S p.k with
   | true =>
    rw [if_pos rfl]
    obtain ⟨S', q1, q2, q3⟩ := workM_some hN hnd hP hnw f S w hw2 (by omega) (by omega) (hi.pop hN (.inr (.inl (hpk ▸ hs))))
    exact ⟨S', q1, q2, q3⟩
   | false =>
    rw [if_neg (by simp), hnw S r hrK, Zo]
    cases hnb : nwB S r with
    | false =>
     rw [if_neg (by simp)]
     exact workM_some hN hnd hP hnw f S w hw2 (by omega) (by omega) (hi.pop hN (.inr (.inr hnb)))
    | true =>
     rw [if_pos rfl]
     have ho := owed_set hnd hpm hs
     rw [if_pos (show w.length + p.above.length ≤ 4294967296 by omega), setIs_is]
     rw [hpk] at ho hab
     obtain ⟨S', q1, q2, q3⟩ := workM_some hN hnd hP hnw f (fun x => S x || r == x) (p.above.reverse ++ w) (fun x hx => by
      rcases List.mem_append.1 hx with h | h
      ·exact ((hab x).1 (List.mem_reverse.1 h)).1
      ·exact hw2 x h) (by rw [List.length_append, List.length_reverse]; omega) (by rw [List.length_append, List.length_reverse]; omega) (hi.set hN hrK hk hnb fun x h1 h2 => (hab x).2 ⟨h1, h2⟩)
     exact ⟨S', q1, q2, by omega⟩
  ·have h1 : (p.rank != k) = true := by rw [hr, hpk]; simpa using hk
   simp only [h1, if_true]
   exact workM_some hN hnd hP hnw f S w hw2 (by omega) (by omega) (hi.pop hN (.inl hk))
theorem rankM_some {nw : List PN → GRef → Option Bool} {P : List PN} {f : Nat} (hN : NowB (P.map (·.k)) D rk nwB) (hnd : (P.map (·.k)).Nodup) (hP : ∀ p ∈ P, p.rank = rk p.k ∧ ∀ x, x ∈ p.above ↔ x ∈ P.map (·.k) ∧ p.k ∈ D x) (hnw : ∀ S r, r ∈ P.map (·.k) → nw (withIs S P) r = some (nwB S r)) :
  ∀ (l : List GRef) (S : GRef → Bool) (done : List GRef) (k : Int), (∀ r ∈ l, r ∈ P.map (·.k) ∧ k ≤ rk r) → (l.Pairwise fun a b => rk a ≤ rk b) → 1 + owed P S < f → 1 + owed P S ≤ 4294967296 → KInv (P.map (·.k)) rk nwB S done [] k → ∃ S' k', rankM nw f l (withIs S P) = some (withIs S' P) ∧ KInv (P.map (·.k)) rk nwB S' (done ++ l) [] k'
 | [], S, done, k, _, _, _, _, hi => ⟨S, k, rfl, by rw [List.append_nil]; exact hi⟩
 | r :: l, S, done, k, hl, hp, hf, hb, hi => by
  obtain ⟨hrK, hrk⟩ := hl r (List.mem_cons_self ..)
  rw [List.pairwise_cons] at hp
  obtain ⟨p, hpf⟩ := findP_some hrK
  obtain ⟨hpm, hpk⟩ := findP_mem hpf
  have hr := (hP p hpm).1
  rw [hpk] at hr
  have hi2 : KInv (P.map (·.k)) rk nwB S (done ++ [r]) [r] (rk r) :=
   {
    a := hi.a
    b := fun x hx hn => by
     rcases List.mem_append.1 hx with h | h
     ·rcases hi.b x h hn with h | ⟨h, _⟩
      ·exact .inl h
      ·cases h
     ·rw [List.mem_singleton.1 h]
      exact .inr ⟨List.mem_singleton.2 rfl, rfl⟩
    c := fun x hx hs => by have := hi.c x hx hs; omega
    d := hi.d
    e := fun x hx => by
     rcases List.mem_append.1 hx with h | h
     ·obtain ⟨h1, h2⟩ := hi.e x h
      exact ⟨h1, by omega⟩
     ·rw [List.mem_singleton.1 h]
      exact ⟨hrK, by omega⟩ }
  obtain ⟨S', q1, q2, q3⟩ := workM_some hN hnd hP hnw f S [r] (fun x hx => by rw [List.mem_singleton.1 hx]; exact hrK) (by simp only [List.length_singleton]; omega) (by simp only [List.length_singleton]; omega) hi2
  obtain ⟨S2, k2, q4, q5⟩ := rankM_some hN hnd hP hnw l S' (done ++ [r]) (rk r) (fun x hx => ⟨(hl x (List.mem_cons_of_mem _ hx)).1, hp.1 x hx⟩) hp.2 (f := f) (by omega) (by omega) q2
  refine ⟨S2, k2, ?_, by rw [List.append_assoc] at q5; exact q5⟩
  unfold rankM
  rw [findP_is, hpf, Option.map_some, Zo]
  show (workM nw p.rank f (withIs S P) [r]).bind _ = _
  rw [hr, q1, Zo]
  exact q4
end
end Go.Proofs.YtjkdbakgnnhdnaaGreat.Ab
