/-
 Few are sorted by insertion; what the search answers. No program in sight.
-/
import Derived.Test.YtjkdbakgnnhdnaaGreatSkp
namespace Go.Proofs.YtjkdbakgnnhdnaaGreat.Ab
open Go.RowKit
theorem ltC_rank {α : Type} (rk : α → Int) (x y : α) : ltC (fun a b => cmpI (rk a) (rk b)) x y = decide (rk x < rk y) := by
 unfold ltC cmpI
 by_cases h : rk x < rk y
 ·simp [h]
 ·simp only [h, if_false, decide_false, decide_eq_false_iff_not]
  split <;> omega
section
variable {α : Type} {rk : α → Int} {lt : α → α → Bool} (hlt : ∀ x y, lt x y = decide (rk x < rk y))
include hlt
theorem insIn_some : ∀ (j f : Nat) (A : List α) (x : α) (C : List α), A.length = j → (A.Pairwise fun a b => rk a ≤ rk b) → j < f → ∃ B, insIn lt f (A ++ x :: C) 0 j = some (B ++ C) ∧ B.Perm (A ++ [x]) ∧ (B.Pairwise fun a b => rk a ≤ rk b)
 | _, 0, _, _, _, _, _, h => absurd h (Nat.not_lt_zero _)
 | 0, f + 1, A, x, C, hA, hp, _ => by
  have : A = [] := List.length_eq_zero_iff.1 hA
  subst this
  exact ⟨[x], rfl, .refl _, List.pairwise_singleton _ _⟩
 | j + 1, f + 1, A, x, C, hA, hp, hf => by
  obtain ⟨A', y, rfl⟩ : ∃ A' y, A = A' ++ [y] := ⟨A.dropLast, A.getLast (fun e => by rw [e] at hA; cases hA), (List.dropLast_concat_getLast _).symm⟩
  have hA' : A'.length = j := by simpa using hA
  rw [List.pairwise_append] at hp
  obtain ⟨p1, _, p3⟩ := hp
  have g1 : ((A' ++ [y]) ++ x :: C)[j + 1]? = some x := by
   rw [List.getElem?_append_right (by simp; omega)]
   simp [hA']
  have g2 : ((A' ++ [y]) ++ x :: C)[j]? = some y := by
   rw [List.append_assoc, List.getElem?_append_right (by omega)]
   simp [hA']
  unfold insIn
  rw [if_pos (by omega), g1, Zo, g2, Zo, hlt]
  by_cases h : rk x < rk y
  ·rw [if_pos (by simpa using h)]
   have e1 : (((A' ++ [y]) ++ x :: C).set (j + 1) y).set j x = A' ++ x :: (y :: C) := by
    rw [List.append_assoc, List.set_append_right _ _ (by omega), List.set_append_right _ _ (by omega), hA']
    simp
   rw [e1]
   obtain ⟨B, q1, q2, q3⟩ := insIn_some j f A' x (y :: C) hA' p1 (by omega)
   refine ⟨B ++ [y], by rw [q1, List.append_assoc]; rfl, ?_, ?_⟩
   ·refine (q2.append_right [y]).trans ?_
    rw [List.append_assoc, List.append_assoc]
    exact List.Perm.append_left A' (List.Perm.swap y x [])
   ·rw [List.pairwise_append]
    refine ⟨q3, List.pairwise_singleton _ _, fun a ha b hb => ?_⟩
    rw [List.mem_singleton.1 hb]
    rcases List.mem_append.1 (q2.mem_iff.1 ha) with ha | ha
    ·exact p3 a ha y (List.mem_singleton.2 rfl)
    ·rw [List.mem_singleton.1 ha]
     omega
  ·rw [if_neg (by simpa using h)]
   refine ⟨(A' ++ [y]) ++ [x], by rw [List.append_assoc (A' ++ [y])]; rfl, .refl _, ?_⟩
   rw [List.pairwise_append]
   refine ⟨List.pairwise_append.2 ⟨p1, List.pairwise_singleton _ _, p3⟩, List.pairwise_singleton _ _, fun a ha b hb => ?_⟩
   rw [List.mem_singleton.1 hb]
   rcases List.mem_append.1 ha with ha | ha
   ·have := p3 a ha y (List.mem_singleton.2 rfl)
    omega
   ·rw [List.mem_singleton.1 ha]
    omega
theorem insOut_some {L : Nat} : ∀ (m f i : Nat) (A C : List α), m = L - i → A.length = i → A.length + C.length = L → (A.Pairwise fun a b => rk a ≤ rk b) → L + m < f → ∃ ys, insOut lt f (A ++ C) 0 i L = some ys ∧ ys.Perm (A ++ C) ∧ (ys.Pairwise fun a b => rk a ≤ rk b)
 | _, 0, _, _, _, _, _, _, _, h => absurd h (Nat.not_lt_zero _)
 | m, f + 1, i, A, [], hm, hA, hl, hp, _ => by
  refine ⟨A, ?_, by simp, hp⟩
  simp only [List.length_nil] at hl
  unfold insOut
  rw [if_neg (by omega), List.append_nil]
 | m, f + 1, i, A, x :: C, hm, hA, hl, hp, hf => by
  simp only [List.length_cons] at hl
  obtain ⟨B, q1, q2, q3⟩ := insIn_some hlt i (f + 1) A x C hA hp (by omega)
  have hB : B.length = i + 1 := by rw [q2.length_eq, List.length_append, hA]; rfl
  obtain ⟨ys, r1, r2, r3⟩ := insOut_some (L := L) (m - 1) f (i + 1) B C (by omega) hB (by omega) q3 (by omega)
  refine ⟨ys, ?_, r2.trans ((q2.append_right C).trans (by simp)), r3⟩
  unfold insOut
  rw [if_pos (by omega), q1, Zo]
  exact r1
theorem insAll_some {f : Nat} (xs : List α) (hf : 2 * xs.length + 1 < f) : ∃ ys, insOut lt f xs 0 1 xs.length = some ys ∧ ys.Perm xs ∧ (ys.Pairwise fun a b => rk a ≤ rk b) := by
 cases xs with
 | nil =>
  obtain ⟨f, rfl⟩ : ∃ g, f = g + 1 := ⟨f - 1, by omega⟩
  exact ⟨[], rfl, .refl _, List.Pairwise.nil⟩
 | cons x l => exact insOut_some hlt ((x :: l).length - 1) f 1 [x] l rfl rfl (by simp; omega) (List.pairwise_singleton _ _) (by simp only [List.length_cons] at hf ⊢; omega)
end
theorem total_sub {D : GRef → List GRef} : ∀ {l U : List GRef}, l.Nodup → (∀ r ∈ l, r ∈ U) → total D l ≤ total D U
 | [], _, _, _ => Nat.zero_le _
 | x :: l, U, h1, h2 => by
  rw [List.nodup_cons] at h1
  have hx := h2 x (List.mem_cons_self ..)
  have h3 := total_sub (D := D) (l := l) (U := U.erase x) h1.2 fun r hr => (List.mem_erase_of_ne fun e => h1.1 (by rw [← e]; exact hr)).2 (h2 r (List.mem_cons_of_mem _ hr))
  have h4 : total D U = total D (x :: U.erase x) := ((List.perm_cons_erase hx).map fun r => (D r).length).sum_nat
  rw [h4]
  simp only [total, List.map_cons, List.sum_cons] at h3 ⊢
  omega
structure Least (K : List GRef) (rk : GRef → Int) (nwB : (GRef → Bool) → GRef → Bool) (S : GRef → Bool) : Prop where
 fix : ∀ r ∈ K, S r = nwB S r
 low : ∀ (j : Int) (T : GRef → Bool), (∀ r ∈ K, rk r < j → T r = S r) → (∀ r ∈ K, rk r = j → nwB T r = true → T r = true) → ∀ r ∈ K, rk r = j → S r = true → T r = true
theorem hangs_total {D : GRef → List GRef} : ∀ {l K : List GRef}, K.Nodup → (K.map fun x => (hangs D l x).length).sum ≤ total D l
 | [], K, _ => by
  simp only [hangs, List.flatMap_nil, List.length_nil, total]
  have : ∀ K : List GRef, (K.map fun _ => 0).sum = 0 := fun K => by
   induction K with
   | nil => rfl
   | cons x l ih => simpa using ih
  rw [this]
  exact Nat.zero_le _
 | r :: l, K, hn => by
  have ih := hangs_total (D := D) (l := l) hn
  have h1 : ∀ (ds : List GRef) (K : List GRef), K.Nodup → (K.map fun x => (ds.filter (· == x)).length).sum ≤ ds.length := fun ds => by
   induction ds with
   | nil =>
    intro K _
    simp only [List.filter_nil, List.length_nil]
    have : ∀ K : List GRef, (K.map fun _ => 0).sum = 0 := fun K => by
     induction K with
     | nil => rfl
     | cons x l ih => simpa using ih
    rw [this]
    exact Nat.zero_le _
   | cons d ds ih =>
    intro K hK
    have h2 := ih K hK
    have h3 : ∀ K : List GRef, K.Nodup → (K.map fun x => ((d :: ds).filter (· == x)).length).sum ≤ (K.map fun x => (ds.filter (· == x)).length).sum + 1 := fun K => by
     induction K with
     | nil => intro _; simp
     | cons x K ihK =>
      intro hK
      rw [List.nodup_cons] at hK
      simp only [List.map_cons, List.sum_cons]
      by_cases e : (d == x) = true
      ·have h4 : (K.map fun x => ((d :: ds).filter (· == x)).length) = K.map fun x => (ds.filter (· == x)).length := List.map_congr_left fun y hy => by
        rw [List.filter_cons_of_neg (p := fun z => z == y)]
        intro e2
        exact hK.1 (by rw [← eq_of_beq e, eq_of_beq e2]; exact hy)
       rw [h4, List.filter_cons_of_pos (p := fun z => z == x) e]
       simp only [List.length_cons]
       omega
      ·rw [List.filter_cons_of_neg (p := fun z => z == x) e]
       have := ihK hK.2
       omega
    have := h3 K hK
    simp only [List.length_cons]
    omega
  have h5 := h1 (D r) K hn
  have h6 : ∀ K : List GRef, (K.map fun x => (hangs D (r :: l) x).length).sum = (K.map fun x => ((D r).filter (· == x)).length).sum + (K.map fun x => (hangs D l x).length).sum := fun K => by
   induction K with
   | nil => rfl
   | cons x K ih =>
    have h7 : (hangs D (r :: l) x).length = ((D r).filter (· == x)).length + (hangs D l x).length := by simp [hangs]
    simp only [List.map_cons, List.sum_cons]
    omega
  rw [h6]
  simp only [total, List.map_cons, List.sum_cons] at ih ⊢
  omega
theorem has_some {n : Nat} {G : SeekGraph} {o : GObj} {rel : ByteArray} {s : GSub} {U : List GRef} {D : GRef → List GRef} {rk : GRef → Int} {nwB : (GRef → Bool) → GRef → Bool} (hU : U.Nodup) (hl : U.length < 20) (hr : (⟨o, rel⟩ : GRef) ∈ U) (hnd : ∀ r ∈ U, nodeM n G r = some (rk r, D r)) (hD : ∀ r ∈ U, ∀ d ∈ D r, d ∈ U) (ht : total D U ≤ 1000000) (hn : 1000100 < n)
  (hN : NowB U D rk nwB) (hrk : ∀ r ∈ U, 0 ≤ rk r) (hnw : ∀ (K : List GRef) (S : GRef → Bool) (N : List PN), (∀ r ∈ K, r ∈ U) → N.map (·.k) = K → (∀ p ∈ N, p.deps = D p.k ∧ p.is = S p.k) → (∀ r ∈ K, ∀ d ∈ D r, d ∈ K) → ∀ r ∈ K, nowD n G s N r = some (nwB S r)) :
  ∃ (K : List GRef) (S : GRef → Bool), seek_Graph_Has n G o rel s = some (S ⟨o, rel⟩) ∧ (⟨o, rel⟩ : GRef) ∈ K ∧ (∀ r ∈ K, r ∈ U) ∧ (∀ r ∈ K, ∀ d ∈ D r, d ∈ K) ∧ Least K rk nwB S := by
 have hun : unseen D U [] ≤ total D U := by
  unfold unseen total
  rw [show (U.filter fun r => decide (r ∉ ([] : List PN).map (·.k))) = U from List.filter_eq_self.2 fun _ _ => by simp]
  exact Nat.le_refl _
 obtain ⟨K, k1, k2, k3, _, k5, k6, _⟩ := reachM_some (nd := nodeM n G) hU (by omega) hnd hD n [] [⟨o, rel⟩] List.nodup_nil (fun _ h => nomatch h) (fun r h => by rw [List.mem_singleton.1 h]; exact hr) (by simp only [List.length_singleton, List.map_nil]; omega) (by simp only [List.length_singleton, List.map_nil]; omega)
 have k6 := k6 fun _ h => nomatch h
 have k5 := k5 _ (List.mem_singleton.2 rfl)
 have hkk : (K.map (mkP rk D)).map (·.k) = K := by simp [mkP, Function.comp_def]
 have htK := Nat.le_trans (total_sub (D := D) k2 k3) ht
 have e2 : aboM K (K.map (mkP rk D)) = some (addL (hangs D K) (K.map (mkP rk D))) := aboM_some D K _ (by rw [hkk]; exact fun _ h => h) (fun p hp => by
  obtain ⟨r, hr, rfl⟩ := List.mem_map.1 hp
  rw [hkk]
  exact ⟨rfl, k6 r hr⟩) fun p hp => by
  obtain ⟨r, hr, rfl⟩ := List.mem_map.1 hp
  simp only [mkP, List.length_nil]
  omega
 obtain ⟨P, eP⟩ : ∃ P, P = addL (hangs D K) (K.map (mkP rk D)) := ⟨_, rfl⟩
 have hPk : P.map (·.k) = K := by rw [eP, addL_k, hkk]
 have hPm : ∀ p ∈ P, p.k ∈ K ∧ p = ⟨p.k, rk p.k, D p.k, hangs D K p.k, false⟩ := fun p hp => by
  rw [eP] at hp
  obtain ⟨q, hq, rfl⟩ := List.mem_map.1 hp
  obtain ⟨r, hr, rfl⟩ := List.mem_map.1 hq
  exact ⟨hr, rfl⟩
 have hPis : P = withIs (fun _ => false) P := by
  unfold withIs
  refine ((List.map_congr_left fun p hp => ?_).trans (List.map_id _)).symm
  have := (hPm p hp).2
  rw [this]
  rfl
 have hKl : K.length < 20 := Nat.lt_of_le_of_lt (nodup_len k2 k3) hl
 have hrkP : ∀ r ∈ K, rankP P r = rk r := fun r hr => by
  obtain ⟨p, hp⟩ := findP_some (N := P) (r := r) (by rw [hPk]; exact hr)
  obtain ⟨h1, h2⟩ := findP_mem hp
  unfold rankP
  rw [hp]
  have := (hPm p h1).2
  rw [this]
  exact congrArg rk h2
 obtain ⟨ord, o1, o2, o3⟩ := insAll_some (f := n) (ltC_rank (rankP P)) K (by omega)
 have oK : ∀ r ∈ ord, r ∈ K := fun r hr => o2.mem_iff.1 hr
 have o4 : ord.Pairwise fun a b => rk a ≤ rk b := List.Pairwise.imp_of_mem (fun {a b} ha hb h => by rw [hrkP a (oK a ha), hrkP b (oK b hb)] at h; exact h) o3
 have hNK : NowB (P.map (·.k)) D rk nwB := by
  rw [hPk]
  exact ⟨fun S T r hr => hN.loc S T r (k3 r hr), fun S T r hr => hN.mono S T r (k3 r hr), fun r hr => hN.rkD r (k3 r hr), k6⟩
 have how : owed P (fun _ => false) ≤ 1000000 := by
  unfold owed
  rw [show (P.filter fun p => !(fun _ => false) p.k) = P from List.filter_eq_self.2 fun p _ => rfl]
  have h1 : (P.map fun p => p.above.length) = K.map fun x => (hangs D K x).length := by
   rw [← hPk, List.map_map]
   refine List.map_congr_left fun p hp => ?_
   have := (hPm p hp).2
   simp only [Function.comp]
   rw [hPk]
   exact congrArg (fun q : PN => q.above.length) this
  rw [h1]
  exact Nat.le_trans (hangs_total k2) htK
 obtain ⟨S, k, r1, r2⟩ := rankM_some (f := n) hNK (by rw [hPk]; exact k2) (fun p hp => by
  obtain ⟨h1, h2⟩ := hPm p hp
  refine ⟨by rw [h2], fun x => ?_⟩
  rw [h2, hPk]
  exact mem_hangs) (fun S r hr => by
  rw [hPk] at hr
  refine hnw K S _ k3 (by rw [withIs, List.map_map]; exact hPk) (fun p hp => ?_) k6 r hr
  obtain ⟨q, hq, rfl⟩ := List.mem_map.1 hp
  refine ⟨?_, rfl⟩
  have := (hPm q hq).2
  exact congrArg PN.deps this) ord (fun _ => false) [] 0 (fun r hr => by rw [hPk]; exact ⟨oK r hr, hrk r (k3 r (oK r hr))⟩) o4 (by omega) (by omega) ⟨fun _ _ h => (by cases h), fun _ h => (nomatch h), fun _ _ h => (by cases h), fun _ _ _ _ _ _ _ h => (by cases h), fun _ h => (nomatch h)⟩
 rw [hPk, List.nil_append] at r2
 refine ⟨K, S, ?_, k5, k3, k6, ?_⟩
 ·unfold seek_Graph_Has
  rw [show ([] : List PN) = ([] : List GRef).map (mkP rk D) from rfl, k1, Zo, hkk, e2, Zo, ← eP]
  unfold sortF
  rw [List.length_map, if_pos hKl, hkk, o1, Zo]
  rw [hPis, r1, Zo, if_neg (by
   cases K with
   | nil => cases k5
   | cons _ _ => simp), findP_is]
  obtain ⟨p, hp⟩ := findP_some (N := P) (r := ⟨o, rel⟩) (by rw [hPk]; exact k5)
  rw [hp]
  show some (S p.k) = _
  rw [(findP_mem hp).2]
 ·refine ⟨fun r hr => ?_, r2.d⟩
  have h1 := r2.a r hr
  have h2 := r2.b r (o2.mem_iff.2 hr)
  cases hs : S r with
  | true => rw [h1 hs]
  | false =>
   cases hb : nwB S r with
   | false => rfl
   | true =>
    rcases h2 hb with h | ⟨h, _⟩
    ·rw [hs] at h
     cases h
    ·cases h
end Go.Proofs.YtjkdbakgnnhdnaaGreat.Ab
