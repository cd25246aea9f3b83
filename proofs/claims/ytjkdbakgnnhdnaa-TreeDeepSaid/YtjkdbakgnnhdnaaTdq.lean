/-
 Groups, each in the one before: how their tree grows. No program in sight.
-/
import Derived.Test.YtjkdbakgnnhdnaaTdp
namespace Go.Proofs.Ytjkdbakgnnhdnaa.Ab
open Go.RowKit
section
variable {K V : Type} [BEq K] [LawfulBEq K]
theorem mget_set (k k' : K) (v : V) : ∀ m : List (K × V), mget k (mset k' v m) = if k == k' then some v else mget k m
 | [] => by
  simp only [mset, mget]
 | p :: r => by
  have ih := mget_set k k' v r
  simp only [mset, mget]
  by_cases h : k' == p.1
  ·rw [if_pos h]
   obtain rfl := eq_of_beq h
   simp only [mget]
   split <;> rfl
  ·rw [if_neg h]
   simp only [mget]
   rw [ih]
   by_cases h2 : k == p.1
   ·rw [if_pos h2, if_pos h2]
    obtain rfl := eq_of_beq h2
    rw [if_neg]
    intro h3
    rw [eq_of_beq h3] at h
    exact h (beq_self_eq_true _)
   ·rw [if_neg h2, if_neg h2]
theorem mdel_set (k : K) (v : V) : ∀ m : List (K × V), mget k m = none → mdel k (mset k v m) = m
 | [], _ => by simp [mset, mdel]
 | p :: r, h => by
  simp only [mget] at h
  split at h
  ·cases h
  ·rename_i hk
   simp only [mset]
   rw [if_neg hk]
   simp only [mdel]
   rw [if_neg hk, mdel_set k v r h]
end
theorem bM_ne : (bM.toList == ByteArray.empty.toList) = false := by kernel_rfl
theorem kids_sN (i : Nat) (l : List GSub) : kidsOf (sN i :: l) = rD i :: kidsOf l := by
 rw [kidsOf_cons]
 exact if_neg (show ¬ (bM.toList == ByteArray.empty.toList) = true by rw [bM_ne]; decide)
theorem subs_sN (i : Nat) (l : List GSub) : subsOf (sN i :: l) = subsOf l := by
 rw [subsOf_cons]
 exact if_neg (show ¬ (bM.toList == ByteArray.empty.toList) = true by rw [bM_ne]; decide)
theorem kids_sA : kidsOf [sA] = [] := by
 rw [kidsOf_cons]
 exact if_pos (beq_self_eq_true ByteArray.empty.toList)
theorem subs_sA : subsOf [sA] = [sA] := by
 rw [subsOf_cons]
 exact if_pos (beq_self_eq_true ByteArray.empty.toList)
section
variable {m : Nat} {ring : Bool} (hm : m < 222)
theorem begin_in {d c : Nat} {ab : List (GRef × Int)} (hd : d ≤ 200) (hc : c < 1000) : beginM (d : Int) ⟨ab, (c : Int), 0⟩ = (true, ⟨ab, ((c + 1 : Nat) : Int), 0⟩) := by
 have h1 : ¬ (200 : Int) < (d : Int) := by omega
 have h2 : ¬ (20000 : Int) < ((c + 1 : Nat) : Int) := by omega
 unfold beginM
 dsimp only
 rw [if_pos (by rfl), decide_eq_false h1, if_neg (by decide), w64a (by omega), decide_eq_false h2, if_neg (by decide)]
theorem begin_out {d c : Nat} {ab : List (GRef × Int)} (hd : 200 < d) (hc : c < 1000) : beginM (d : Int) ⟨ab, (c : Int), 0⟩ = (false, ⟨ab, ((c + 1 : Nat) : Int), 10⟩) := by
 have h1 : (200 : Int) < (d : Int) := by omega
 unfold beginM
 dsimp only
 rw [if_pos (by rfl), decide_eq_true h1, if_pos rfl, w64a (by omega)]
theorem begin_bad {d : Int} {ab : List (GRef × Int)} {c : Int} : beginM d ⟨ab, c, 10⟩ = (false, ⟨ab, c, 10⟩) := if_neg (show ¬ ((10 : Int) == 0) = true by decide)
theorem ref_bad {f : Nat} {d : Int} {ab : List (GRef × Int)} {c : Int} {G : SeekGraph} {r : GRef} : refM nTd G (f + 1) d ⟨ab, c, 10⟩ r = some (nodeZ, ⟨ab, c, 10⟩) := by
 unfold refM
 rw [begin_bad]
 rfl
theorem ref_deep {f d c : Nat} {ab : List (GRef × Int)} {G : SeekGraph} {r : GRef} (hd : 200 < d) (hc : c < 1000) : refM nTd G (f + 1) (d : Int) ⟨ab, (c : Int), 0⟩ r = some (nodeZ, ⟨ab, ((c + 1 : Nat) : Int), 10⟩) := by
 unfold refM
 rw [begin_out hd hc]
 rfl
theorem ref_back {f d c : Nat} {ab : List (GRef × Int)} {G : SeekGraph} {r : GRef} (hd : d ≤ 200) (hc : c < 1000) (h : mget r ab = some 1) : refM nTd G (f + 1) (d : Int) ⟨ab, (c : Int), 0⟩ r = some (⟨6, r, [], []⟩, ⟨ab, ((c + 1 : Nat) : Int), 0⟩) := by
 unfold refM
 rw [begin_in hd hc]
 have h1 : mgetD r 0 ab = 1 := by unfold mgetD; rw [h]; rfl
 dsimp only
 rw [if_pos rfl, h1]
 rfl
theorem ref_in {f d c i : Nat} {ab : List (GRef × Int)} (hd : d ≤ 200) (hc : c < 1000) (h : mget (rD i) ab = none) :
  refM nTd (gD m ring) (f + 1) (d : Int) ⟨ab, (c : Int), 0⟩ (rD i) = (leafM nTd (gD m ring) (refM nTd (gD m ring) f ((d + 1 : Nat) : Int)) (rD i) ⟨mset (rD i) 1 ab, ((c + 1 : Nat) : Int), 0⟩).map fun p => (p.1, ⟨mdel (rD i) p.2.ab, p.2.cnt, p.2.e⟩) := by
 rw [refM, begin_in hd hc]
 have h1 : mgetD (rD i) 0 ab = 0 := by unfold mgetD; rw [h]; rfl
 dsimp only
 rw [if_pos rfl, h1, if_neg (by decide), w64a (by omega), show well_Schema_Rel nTd (gD m ring).schema (rD i).obj.type_ (rD i).rel = some (relG, true) from rfl, Zo]
 rfl
include hm
theorem leaf_of {rf : Gro → GRef → Option (GNode × Gro)} {i : Nat} {w : Gro} {ss : List GSub} (h : fSubs (tO.ofL (rowsD m ring)) ⟨bG, nmD i⟩ bM = ss) (hl : ss.length < 1000000000) : leafM nTd (gD m ring) rf (rD i) w = (refsM rf (kidsOf ss) w).map fun q => (⟨1, rD i, subsOf ss, q.1⟩, q.2) := by
 unfold leafM
 rw [show look_left_Subs nTd (gD m ring).index.left (rD i).obj (rD i).rel = some ss from (lookDs hm _ _).trans (congrArg some h), Zo, if_pos hl]
omit hm
theorem one_kid {rf : Gro → GRef → Option (GNode × Gro)} {r : GRef} {w : Gro} {p : GNode × Gro} (h : rf w r = some p) : refsM rf [r] w = some ([p.1], p.2) := by
 simp only [refsM, h, Zo, Option.map_some]
theorem two_kids {rf : Gro → GRef → Option (GNode × Gro)} {r r2 : GRef} {w : Gro} {p q : GNode × Gro} (h : rf w r = some p) (h2 : rf p.2 r2 = some q) : refsM rf [r, r2] w = some ([p.1, q.1], q.2) := by
 simp only [refsM, h, h2, Zo, Option.map_some]
theorem hasO_one {r : GRef} {subs : List GSub} {kids : List GNode} {bs : List Bool} (h1 : subs.length < 3) (h2 : kids.length < 3) (hb : hasOs sA kids = some bs) : hasO sA ⟨1, r, subs, kids⟩ = some (decide (toS3 sA ∈ subs.map toS3) || bs.any id) := by
 rw [hasO, if_pos ⟨by omega, by omega⟩, hb]
 rfl
theorem backs_one {f : Nat} {k : Int} {r : GRef} {subs : List GSub} {kids : List GNode} {b : Bool} (h2 : kids.length < 3) (hb : anyO (law10_backs f) kids = some b) : law10_backs (f + 1) ⟨k, r, subs, kids⟩ = some (b || k == 6) := by
 rw [law10_backs, if_pos (show kids.length < 1000000000 by omega), hb]
 rfl
include hm
theorem grow_ok (h2 : 5 < m) (hm2 : m ≤ 200) : ∀ (t i f c : Nat) (ab : List (GRef × Int)), i + t + 1 = m → t + 1 < f → c + 2 * (t + 2) ≤ 900 → (∀ j, i ≤ j → j < m → mget (rD j) ab = none) → (i = 1 → mget (rD 0) ab = some 1) →
  ∃ (x : GNode) (c' : Nat), refM nTd (gD m ring) f ((i + 1 : Nat) : Int) ⟨ab, (c : Int), 0⟩ (rD i) = some (x, ⟨ab, (c' : Int), 0⟩) ∧ c' ≤ c + 2 * (t + 2) ∧ hasO sA x = some true ∧ ∀ fb, t + 1 < fb → law10_backs fb x = some (ring && decide (i ≤ 1))
 | 0, i, f, c, ab, hi, hf, hc, hab, h0 => by
  obtain ⟨f, rfl⟩ : ∃ k, f = k + 1 := ⟨f - 1, by omega⟩
  refine ⟨⟨1, rD i, [sA], []⟩, c + 1, ?_, by omega, rfl, fun fb hfb => ?_⟩
  ·rw [ref_in (by omega) (by omega) (hab i (Nat.le_refl _) (by omega)), leaf_of hm (subs_last hm (by omega) (by omega)) (by decide), kids_sA, subs_sA]
   show some (_, (⟨mdel (rD i) (mset (rD i) 1 ab), _, _⟩ : Gro)) = _
   rw [mdel_set _ _ _ (hab i (Nat.le_refl _) (by omega))]
  ·obtain ⟨fb, rfl⟩ : ∃ k, fb = k + 1 := ⟨fb - 1, by omega⟩
   rw [backs_one (by decide) rfl, decide_eq_false (by omega), Bool.and_false]
   rfl
 | t + 1, i, f, c, ab, hi, hf, hc, hab, h0 => by
  obtain ⟨f, rfl⟩ : ∃ k, f = k + 1 := ⟨f - 1, by omega⟩
  have hn := hab i (Nat.le_refl _) (by omega)
  have hset : ∀ j, j ≠ i → j < m → mget (rD j) (mset (rD i) 1 ab) = mget (rD j) ab := fun j h1 h2 => by
   rw [mget_set, if_neg]
   intro e
   exact h1 (rD_inj (by omega) (by omega) (eq_of_beq e))
  have hself : mget (rD i) (mset (rD i) 1 ab) = some 1 := by rw [mget_set, if_pos (beq_self_eq_true _)]
  have hnx : ∀ j, i + 1 ≤ j → j < m → mget (rD j) (mset (rD i) 1 ab) = none := fun j h1 h2 => by rw [hset j (by omega) h2]; exact hab j (by omega) h2
  have hr0 : i + 1 = 1 → mget (rD 0) (mset (rD i) 1 ab) = some 1 := fun e => by
   obtain rfl : i = 0 := by omega
   exact hself
  by_cases hring : ring = true ∧ i = 1
  ·obtain ⟨hrt, rfl⟩ := hring
   have h00 : mget (rD 0) (mset (rD 1) 1 ab) = some 1 := by rw [hset 0 (by omega) (by omega)]; exact h0 rfl
   obtain ⟨f, rfl⟩ : ∃ k, f = k + 1 := ⟨f - 1, by omega⟩
   rcases subs_ring hrt hm (by omega) with hs | hs
   ·obtain ⟨x, c', e1, e2, e3, e4⟩ := grow_ok h2 hm2 t 2 (f + 1) (c + 1) (mset (rD 1) 1 ab) (by omega) (by omega) (by omega) hnx hr0
    refine ⟨⟨1, rD 1, [], [x, ⟨6, rD 0, [], []⟩]⟩, c' + 1, ?_, by omega, ?_, fun fb hfb => ?_⟩
    ·rw [ref_in (by omega) (by omega) hn, leaf_of hm hs (by simp), kids_sN, kids_sN, subs_sN, subs_sN, show kidsOf [] = [] from rfl, show subsOf [] = [] from rfl, two_kids e1 (ref_back (by omega) (by omega) h00)]
     show some (_, (⟨mdel (rD 1) (mset (rD 1) 1 ab), _, _⟩ : Gro)) = _
     rw [mdel_set _ _ _ hn]
    ·rw [hasO_one (by decide) (by simp) (by rw [hasOs, e3]; rfl)]
     rfl
    ·obtain ⟨fb, rfl⟩ : ∃ k, fb = k + 2 := ⟨fb - 2, by omega⟩
     rw [hrt, backs_one (b := true) (by simp) (by rw [anyO, e4 _ (by omega), hrt]; rfl)]
     rfl
   ·obtain ⟨x, c', e1, e2, e3, e4⟩ := grow_ok h2 hm2 t 2 (f + 1) (c + 2) (mset (rD 1) 1 ab) (by omega) (by omega) (by omega) hnx hr0
    refine ⟨⟨1, rD 1, [], [⟨6, rD 0, [], []⟩, x]⟩, c', ?_, by omega, ?_, fun fb hfb => ?_⟩
    ·rw [ref_in (by omega) (by omega) hn, leaf_of hm hs (by simp), kids_sN, kids_sN, subs_sN, subs_sN, show kidsOf [] = [] from rfl, show subsOf [] = [] from rfl, two_kids (ref_back (by omega) (by omega) h00) e1]
     show some (_, (⟨mdel (rD 1) (mset (rD 1) 1 ab), _, _⟩ : Gro)) = _
     rw [mdel_set _ _ _ hn]
    ·rw [hasO_one (by decide) (by simp) (by rw [hasOs, hasOs, e3]; rfl)]
     rfl
    ·obtain ⟨fb, rfl⟩ : ∃ k, fb = k + 2 := ⟨fb - 2, by omega⟩
     rw [hrt, backs_one (b := true) (by simp) rfl]
     rfl
  ·have hs := subs_mid (ring := ring) hm (i := i) (by omega) fun e1 e2 => hring ⟨e1, e2⟩
   obtain ⟨x, c', e1, e2, e3, e4⟩ := grow_ok h2 hm2 t (i + 1) f (c + 1) (mset (rD i) 1 ab) (by omega) (by omega) (by omega) hnx hr0
   refine ⟨⟨1, rD i, [], [x]⟩, c', ?_, by omega, ?_, fun fb hfb => ?_⟩
   ·rw [ref_in (by omega) (by omega) hn, leaf_of hm hs (by simp), kids_sN, subs_sN, show kidsOf [] = [] from rfl, show subsOf [] = [] from rfl, one_kid e1]
    show some (_, (⟨mdel (rD i) (mset (rD i) 1 ab), _, _⟩ : Gro)) = _
    rw [mdel_set _ _ _ hn]
   ·rw [hasO_one (by decide) (by simp) (by rw [hasOs, e3]; rfl)]
    rfl
   ·obtain ⟨fb, rfl⟩ : ∃ k, fb = k + 1 := ⟨fb - 1, by omega⟩
    rw [backs_one (b := ring && decide (i + 1 ≤ 1)) (by simp) (by rw [anyO, e4 _ (by omega)]; cases (ring && decide (i + 1 ≤ 1)) <;> rfl)]
    cases hrg : ring with
    | false => rfl
    | true =>
     have : i ≠ 1 := fun e => hring ⟨hrg, e⟩
     by_cases h : i = 0
     ·subst h; rfl
     ·rw [decide_eq_false (by omega), decide_eq_false (by omega)]
      rfl
theorem grow_deep (hm2 : 200 < m) : ∀ (t i f c : Nat) (ab : List (GRef × Int)), i + t = 200 → t + 1 < f → c + 2 * (t + 2) ≤ 900 → (∀ j, i ≤ j → j < m → mget (rD j) ab = none) → (i = 1 → mget (rD 0) ab = some 1) →
  ∃ (x : GNode) (c' : Nat), refM nTd (gD m ring) f ((i + 1 : Nat) : Int) ⟨ab, (c : Int), 0⟩ (rD i) = some (x, ⟨ab, (c' : Int), 10⟩)
 | 0, i, f, c, ab, hi, hf, hc, hab, h0 => by
  obtain ⟨f, rfl⟩ : ∃ k, f = k + 1 := ⟨f - 1, by omega⟩
  exact ⟨nodeZ, c + 1, ref_deep (by omega) (by omega)⟩
 | t + 1, i, f, c, ab, hi, hf, hc, hab, h0 => by
  obtain ⟨f, rfl⟩ : ∃ k, f = k + 1 := ⟨f - 1, by omega⟩
  have hn := hab i (Nat.le_refl _) (by omega)
  have hset : ∀ j, j ≠ i → j < m → mget (rD j) (mset (rD i) 1 ab) = mget (rD j) ab := fun j h1 h2 => by
   rw [mget_set, if_neg]
   intro e
   exact h1 (rD_inj (by omega) (by omega) (eq_of_beq e))
  have hself : mget (rD i) (mset (rD i) 1 ab) = some 1 := by rw [mget_set, if_pos (beq_self_eq_true _)]
  have hnx : ∀ j, i + 1 ≤ j → j < m → mget (rD j) (mset (rD i) 1 ab) = none := fun j h1 h2 => by rw [hset j (by omega) h2]; exact hab j (by omega) h2
  have hr0 : i + 1 = 1 → mget (rD 0) (mset (rD i) 1 ab) = some 1 := fun e => by
   obtain rfl : i = 0 := by omega
   exact hself
  by_cases hring : ring = true ∧ i = 1
  ·obtain ⟨hrt, rfl⟩ := hring
   have h00 : mget (rD 0) (mset (rD 1) 1 ab) = some 1 := by rw [hset 0 (by omega) (by omega)]; exact h0 rfl
   obtain ⟨f, rfl⟩ : ∃ k, f = k + 1 := ⟨f - 1, by omega⟩
   rcases subs_ring hrt hm (by omega) with hs | hs
   ·obtain ⟨x, c', e1⟩ := grow_deep hm2 t 2 (f + 1) (c + 1) (mset (rD 1) 1 ab) (by omega) (by omega) (by omega) hnx hr0
    refine ⟨⟨1, rD 1, [], [x, nodeZ]⟩, c', ?_⟩
    rw [ref_in (by omega) (by omega) hn, leaf_of hm hs (by simp), kids_sN, kids_sN, subs_sN, subs_sN, show kidsOf [] = [] from rfl, show subsOf [] = [] from rfl, two_kids e1 ref_bad]
    show some (_, (⟨mdel (rD 1) (mset (rD 1) 1 ab), _, _⟩ : Gro)) = _
    rw [mdel_set _ _ _ hn]
   ·obtain ⟨x, c', e1⟩ := grow_deep hm2 t 2 (f + 1) (c + 2) (mset (rD 1) 1 ab) (by omega) (by omega) (by omega) hnx hr0
    refine ⟨⟨1, rD 1, [], [⟨6, rD 0, [], []⟩, x]⟩, c', ?_⟩
    rw [ref_in (by omega) (by omega) hn, leaf_of hm hs (by simp), kids_sN, kids_sN, subs_sN, subs_sN, show kidsOf [] = [] from rfl, show subsOf [] = [] from rfl, two_kids (ref_back (by omega) (by omega) h00) e1]
    show some (_, (⟨mdel (rD 1) (mset (rD 1) 1 ab), _, _⟩ : Gro)) = _
    rw [mdel_set _ _ _ hn]
  ·have hs := subs_mid (ring := ring) hm (i := i) (by omega) fun e1 e2 => hring ⟨e1, e2⟩
   obtain ⟨x, c', e1⟩ := grow_deep hm2 t (i + 1) f (c + 1) (mset (rD i) 1 ab) (by omega) (by omega) (by omega) hnx hr0
   refine ⟨⟨1, rD i, [], [x]⟩, c', ?_⟩
   rw [ref_in (by omega) (by omega) hn, leaf_of hm hs (by simp), kids_sN, subs_sN, show kidsOf [] = [] from rfl, show subsOf [] = [] from rfl, one_kid e1]
   show some (_, (⟨mdel (rD i) (mset (rD i) 1 ab), _, _⟩ : Gro)) = _
   rw [mdel_set _ _ _ hn]
end
end Go.Proofs.Ytjkdbakgnnhdnaa.Ab
