/-
 The tree's grower: a leaf.
-/
import Derived.Test.YtjkdbakgnnhdnaaTrs
namespace Go.Proofs.Ytjkdbakgnnhdnaa.Ab
open Go.RowKit
def offO (b : Bool) (i : Nat) (hp : Hp) : Hp := if b then upd i none hp else hp
theorem offO_ne {b : Bool} {i j : Nat} {hp : Hp} (h : b = true → j ≠ i) : offO b i hp j = hp j := by
 unfold offO
 split
 ·rename_i e
  exact upd_ne _ _ (h e)
 ·rfl
theorem offO_at {b : Bool} {i : Nat} {hp : Hp} (h : b = true) : offO b i hp i = none := by
 unfold offO
 rw [if_pos h, upd_same]
theorem offO_or {b : Bool} {i j : Nat} {hp : Hp} : offO b i hp j = none ∨ offO b i hp j = hp j := by
 unfold offO
 split
 ·by_cases e : j = i
  ·exact .inl (by rw [e, upd_same])
  ·exact .inr (upd_ne _ _ e)
 ·exact .inr rfl
theorem dc_row {α : Type} {f : α → List D} {xs : List α} {hp hp' : Hp} {id ver sz : Nat} (h : xs ≠ [] → hp id = some (.rw (xs.map f) sz ver false false)) (h' : xs ≠ [] → hp' id = none) : DatC hp hp' (accV id ver (xs.map f)) (.d (.sl (xs.map f)) false) := by
 cases xs with
 | nil => exact dc_nil
 | cons a u => exact dc_acc (h (by simp)) (h' (by simp)) fun e => e
abbrev zN : List AV := [.v (.int .i64 0), .v (.string ByteArray.empty), .v (.string ByteArray.empty), .v (.string ByteArray.empty), .v (.slice none 0 0), .v (.slice none 0 0)]
theorem subsOf_cons (s : GSub) (l : List GSub) : subsOf (s :: l) = if (s.rel.toList == ByteArray.empty.toList) = true then s :: subsOf l else subsOf l := List.filter_cons
theorem kidsOf_cons (s : GSub) (l : List GSub) : kidsOf (s :: l) = if (s.rel.toList == ByteArray.empty.toList) = true then kidsOf l else refOf s :: kidsOf l := by
 unfold kidsOf
 rw [List.filter_cons]
 cases (s.rel.toList == ByteArray.empty.toList) <;> rfl
set_option maxRecDepth 8000 in
theorem leaf_ok {n : Nat} {bl : Bool} {G : SeekGraph} {d : Int} {rf : Gro → GRef → Option (GNode × Gro)} (hrf : ∀ r vr, refV r vr → GroI bl G 13 GNode ndV (IntKind.i64.wrap (d + 1)) (fun w => rf w r) vr) {r : GRef} {vr : AV} (hv : refV r vr) :
  GroI bl G 31 GNode ndV d (leafM n G rf r) vr := by
 intro hp nx q m dl w x hf hq hm hd h
 have hqn := lt_new hf hq
 have hmn := lt_new hf hm
 unfold leafM at h
 obtain ⟨ss, hss, h⟩ := zbi h
 split at h
 rotate_left
 ·cases h
 rename_i hsl
 obtain ⟨z, hz, hx⟩ := Option.map_eq_some_iff.1 h
 subst hx
 unfold refV at hv
 refine inl_runR tab_ok Try.func31 (by rfl) (by kernel_rfl) (by kernel_rfl) (by exact Nat.le_of_ble_eq_true rfl) ?_
 refine zsq (ZT 1 ?_)
 refine Z1 hv ?_
 refine zsq (ZT 1 ?_)
 refine Z1 (show (nx = nx + 1) = False from eq_false (by omega)) ?_
 generalize eA : (upd (nx + 2 + 2) (some _) _ : Hp) = hpA
 have ao : hpA (nx + 2 + 2) = some (.bx [.v (.int .i64 1), .v (.string r.obj.type_), .v (.string r.obj.id_), .v (.string r.rel), .v (.slice none 0 0), .v (.slice none 0 0)]) := by rw [← eA, upd_same]
 have aa : ∀ j, j ≠ nx + 2 + 2 → j ≠ nx + 1 → j ≠ nx → hpA j = hp j := fun j h1 h2 h3 => by rw [← eA, upd_ne _ _ h1, upd_ne _ _ h1, upd_ne _ _ h2, upd_ne _ _ h3]
 have a6 : hpA (nx + 1) = some (.bx zN) := by rw [← eA, upd_ne _ _ (by omega), upd_ne _ _ (by omega), upd_same]
 have ar : hpA nx = some (.bx [.v (.string r.obj.type_), .v (.string r.obj.id_), .v (.string r.rel)]) := by rw [← eA, upd_ne _ _ (by omega), upd_ne _ _ (by omega), upd_ne _ _ (by omega), upd_same]
 have aq : hpA q = some (boxG bl G m w.cnt w.e) := by rw [aa q (by omega) (by omega) (by omega)]; exact hq
 clear eA
 refine zsq (ZT 1 ?_)
 refine Z0 ?_
 refine zsq (zsq ?_)
 refine ZT 1 ?_
 refine Z1 (And.intro aq ar) ?_
 refine onCallD_pureX (b := bl) [] (fun hp1 h1 => by exact (PW.cons (ToXA.d (ToXV.one (ToX.rbE 2 (ToX.one (b' := bl) (is := []) rfl (fun h => h)) (by rfl)) rfl)) (PW.cons (ToXA.d (ToXV.agP (PW.cons (ToX.one (b' := false) (is := []) rfl (fun h => nomatch h)) (PW.cons (ToX.one (b' := false) (is := []) rfl (fun h => nomatch h)) PW.nil)))) (PW.cons (ToXA.d (ToXV.one (ToX.one (b' := false) (is := []) rfl (fun h => nomatch h)) rfl)) PW.nil)))) (PureA.of_pure (look_left_Subs_ok hss)) ?_
 refine Z1 (And.intro aq ar) ?_
 refine Rd_endF (by rfl) ?_
 refine Z0 ?_
 refine zjn (α := { t : Nat × Hp × Nat // (∀ j, j < nx → t.2.1 j = hp j) ∧ (∀ j, t.2.2 ≤ j → t.2.1 j = none) ∧ nx + 2 + 4 ≤ t.2.2 ∧ t.2.1 (nx + 2 + 2) = some (.bx [.v (.int .i64 1), .v (.string r.obj.type_), .v (.string r.obj.id_), .v (.string r.rel), .d (.sl ((subsOf ss).map eGSub)) false, .v (.slice none 0 0)]) ∧ t.2.1 (nx + 1) = some (.bx zN) })
  (fun t => ⟨upd 0 (.pt q 0) (upd 2 (.v (.int .i64 d)) (upd 6 (.pt (nx + 1) 0) (upd 7 (.pt (nx + 2 + 2) 0) (upd 8 (.d (.sl ((kidsOf ss).map eGRef)) false) noFr)))), t.1.2.1, t.1.2.2⟩) ?_ ?_
 ·refine zbk ?_
  refine zlp (α := { t : (Nat × List GSub × List GRef) × (Nat × Nat × Nat × Nat) × Hp × Nat // t.1.1 ≤ ss.length ∧ t.1.2.1 ++ subsOf (ss.drop t.1.1) = subsOf ss ∧ t.1.2.2 ++ kidsOf (ss.drop t.1.1) = kidsOf ss ∧ t.1.2.1.length ≤ t.1.1 ∧ t.1.2.2.length ≤ t.1.1 ∧ nx ≤ t.2.1.1 ∧ nx ≤ t.2.1.2.2.1 ∧ (t.1.2.1 ≠ [] → t.1.2.2 ≠ [] → t.2.1.1 ≠ t.2.1.2.2.1)
   ∧ t.2.2.1 (nx + 2 + 2) = some (.bx [.v (.int .i64 1), .v (.string r.obj.type_), .v (.string r.obj.id_), .v (.string r.rel), accV t.2.1.1 t.2.1.2.1 (t.1.2.1.map eGSub), .v (.slice none 0 0)]) ∧ (t.1.2.1 ≠ [] → t.2.2.1 t.2.1.1 = some (.rw (t.1.2.1.map eGSub) 3 t.2.1.2.1 false false)) ∧ (t.1.2.2 ≠ [] → t.2.2.1 t.2.1.2.2.1 = some (.rw (t.1.2.2.map eGRef) 3 t.2.1.2.2.2 false false))
   ∧ (∀ j, j < nx → t.2.2.1 j = hp j) ∧ (∀ j, t.2.2.2 ≤ j → t.2.2.1 j = none) ∧ nx + 2 + 4 ≤ t.2.2.2 ∧ t.2.2.1 (nx + 1) = some (.bx zN) })
   (fun t => ⟨upd 0 (.pt q 0) (upd 2 (.v (.int .i64 d)) (upd 6 (.pt (nx + 1) 0) (upd 7 (.pt (nx + 2 + 2) 0) (upd 8 (accV t.1.2.1.2.2.1 t.1.2.1.2.2.2 (t.1.1.2.2.map eGRef)) (upd 26 (.d (.sl (ss.map eGSub)) false) (upd 27 (.v (.int .i64 (ss.length : Int))) (upd 28 (.v (.int .i64 (t.1.1.1 : Int))) noFr))))))), t.1.2.2.1, t.1.2.2.2⟩) (fun t => ss.length - t.1.1.1)
   ⟨((0, [], []), (nx, 0, nx, 0), hpA, nx + 2 + 4 + 1 + 16), Nat.zero_le _, rfl, rfl, Nat.le_refl _, Nat.le_refl _, Nat.le_refl _, Nat.le_refl _, fun h => absurd rfl h, ao, fun h => absurd rfl h, fun h => absurd rfl h, fun j hj => aa j (by omega) (by omega) (by omega), fun j hj => (aa j (by dsimp only at hj; omega) (by dsimp only at hj; omega) (by dsimp only at hj; omega)).trans (hf j (by dsimp only at hj; omega)), by dsimp only; omega, a6⟩ ?_ ?_
  ·exact wkI (wk_upd rfl (wk_upd rfl (wk_upd rfl (wk_upd rfl (wk_upd rfl (wk_upd rfl (wk_upd rfl (wk_upd rfl (wk_no _)))))))))
  ·rintro ⟨⟨⟨i, S, K⟩, ⟨sid, sver, kid, kver⟩, hpi, nxi⟩, hi, hS, hK, lS, lK, nS, nK, hne, hbo, hrS, hrK, hfr, hnew, hnx, hz6⟩
   dsimp only at hi hS hK lS lK nS nK hne hbo hrS hrK hfr hnew hnx hz6
   refine zsq (ZT 1 ?_)
   by_cases hlt : i < ss.length
   ·have c1 : (decide ((i : Int) < (ss.length : Int))) = true := decide_eq_true (by omega)
    have e1 : ss[i]? = some ss[i] := List.getElem?_eq_getElem hlt
    have e2 : (ss.map eGSub)[i]? = some (eGSub ss[i]) := map_at eGSub e1
    have ed : ss.drop i = ss[i] :: ss.drop (i + 1) := List.drop_eq_getElem_cons hlt
    rw [ed] at hS hK
    generalize ss[i] = s at e2 hS hK
    refine Z1 c1 ?_
    refine zsq (ZT 1 ?_)
    refine Z0 ?_
    refine zsq (zbk ?_)
    refine zsq (ZT 1 ?_)
    have wn := And.intro e2 (And.intro (zno .i64 (show (0 : Int) ≤ (i : Int) by omega)) (show ((i : Int)).toNat = i from Int.toNat_natCast _))
    refine Z1 wn ?_
    generalize eB : (upd (nxi + 1 + 2) (some _) _ : Hp) = hpB
    have b1 : hpB (nxi + 1 + 2) = some (.bx [.v (.string s.type_), .v (.string s.id_), .v (.string s.rel)]) := by rw [← eB, upd_same]
    have bb : ∀ j, j ≠ nxi + 1 + 2 → hpB j = hpi j := fun j h1 => by rw [← eB, upd_ne _ _ h1, upd_ne _ _ h1]
    clear eB
    have hbo2 := (bb _ (by omega)).trans hbo
    refine zsq (ZT 1 ?_)
    cases hr : (s.rel.toList == ByteArray.empty.toList) with
    | true =>
     have hr2 : (s.rel.toList == ({ data := #[] } : ByteArray).toList) = true := hr
     have hS2 : (S ++ [s]) ++ subsOf (ss.drop (i + 1)) = subsOf ss := by
      rw [← hS, subsOf_cons, hr]; simp
     have hK2 : K ++ kidsOf (ss.drop (i + 1)) = kidsOf ss := by
      rw [← hK, kidsOf_cons, hr]; simp
     refine Z1 (And.intro b1 hr2) ?_
     refine runR_condT (c := true) rfl rfl ?_
     refine ZT 1 ?_
     cases S with
     | nil =>
      have g1 : (nx + 2 + 2 = nxi + 1 + 4 + 3 + 3) = False := eq_false (by omega)
      have g2 : (nx + 2 + 2 = nxi + 1 + 4 + 3 + 4) = False := eq_false (by omega)
      have g3 : (nxi + 1 + 2 = nxi + 1 + 4 + 3 + 3) = False := eq_false (by omega)
      refine Z1 (And.intro b1 (And.intro hbo2 (And.intro g1 (And.intro g2 g3)))) ?_
      generalize eC : (upd (nx + 2 + 2) (some _) _ : Hp) = hpC
      have c2 : hpC (nx + 2 + 2) = some (.bx [.v (.int .i64 1), .v (.string r.obj.type_), .v (.string r.obj.id_), .v (.string r.rel), accV (nxi + 1 + 4 + 3 + 4) (0) ([s].map eGSub), .v (.slice none 0 0)]) := by rw [← eC, upd_same]; simp [accV]
      have c3 : hpC (nxi + 1 + 4 + 3 + 4) = some (.rw ([s].map eGSub) 3 (0) false false) := by rw [← eC, upd_ne _ _ (by omega), upd_same]; simp
      have cc : ∀ j, j ≠ nx + 2 + 2 → j ≠ nxi + 1 + 4 + 3 + 4 → j ≠ nxi + 1 + 4 + 3 + 3 → hpC j = hpB j := fun j h1 h2 h3 => by rw [← eC, upd_ne _ _ h1, upd_ne _ _ h2, upd_ne _ _ h3]
      clear eC
      refine ZT 1 ?_
      refine Z1 (w64a (n := i) (by omega)) ?_
      have ho : K ≠ [] → hpC kid = some (.rw (K.map eGRef) 3 kver false false) := fun hn => by
       have h1 := hrK hn
       have h2 := lt_new hnew h1
       have h3 : kid ≠ nx + 2 + 2 := fun e => by rw [e, hbo] at h1; cases h1
       rw [cc kid h3 (by omega) (by omega), bb kid (by omega)]
       exact h1
      exact ⟨⟨((i + 1, [s], K), (nxi + 1 + 4 + 3 + 4, 0, kid, kver), hpC, nxi + 1 + 4 + 3 + 7 + 2), hlt, hS2, hK2, by simp only [List.length_append, List.length_cons, List.length_nil] at *; omega, by dsimp only; omega, by dsimp only; omega, nK, fun h1 h2 => by have := lt_new hnew (hrK h2); dsimp only; omega, c2, fun _ => c3, ho, fun j hj => (cc j (by omega) (by omega) (by omega)).trans ((bb j (by omega)).trans (hfr j hj)), fun j hj => (cc j (by dsimp only at hj; omega) (by dsimp only at hj; omega) (by dsimp only at hj; omega)).trans ((bb j (by dsimp only at hj; omega)).trans (hnew j (by dsimp only at hj; omega))), by dsimp only; omega, (cc (nx + 1) (by omega) (by omega) (by omega)).trans ((bb (nx + 1) (by omega)).trans hz6)⟩, wkI (wk_upd rfl (wk_upd rfl (wk_upd rfl (wk_upd rfl (wk_upd (by simp [accV, upd]) (wk_upd rfl (wk_upd rfl (wk_upd rfl (wk_no _))))))))), by dsimp only; omega⟩
     | cons a u =>
      have hS1 := hrS (by simp)
      have hsn := lt_new hnew hS1
      have hso : sid ≠ nx + 2 + 2 := fun e => by rw [e, hbo] at hS1; cases hS1
      have hs6 : sid ≠ nx + 1 := fun e => by rw [e, hz6] at hS1; cases hS1
      have hs1 := (bb sid (by omega)).trans hS1
      have g1 : (u.length + 1 + 1 ≤ 4294967296) = True := eq_true (by simp only [List.length_cons] at lS; omega)
      have g2 : (sid = nxi + 1 + 4 + 3 + 3) = False := eq_false (by omega)
      have g3 : (nx + 2 + 2 = nxi + 1 + 4 + 3 + 3) = False := eq_false (by omega)
      have g4 : (nx + 2 + 2 = sid) = False := eq_false (Ne.symm hso)
      refine Z1 (And.intro b1 (And.intro hbo2 (And.intro hs1 (And.intro g1 (And.intro g2 (And.intro g3 g4)))))) ?_
      generalize eC : (upd (nx + 2 + 2) (some _) _ : Hp) = hpC
      have c2 : hpC (nx + 2 + 2) = some (.bx [.v (.int .i64 1), .v (.string r.obj.type_), .v (.string r.obj.id_), .v (.string r.rel), accV (sid) (sver + 1) (((a :: u) ++ [s]).map eGSub), .v (.slice none 0 0)]) := by rw [← eC, upd_same]; simp [accV]
      have c3 : hpC (sid) = some (.rw (((a :: u) ++ [s]).map eGSub) 3 (sver + 1) false false) := by rw [← eC, upd_ne _ _ (by omega), upd_same]; simp
      have cc : ∀ j, j ≠ nx + 2 + 2 → j ≠ sid → j ≠ nxi + 1 + 4 + 3 + 3 → hpC j = hpB j := fun j h1 h2 h3 => by rw [← eC, upd_ne _ _ h1, upd_ne _ _ h2, upd_ne _ _ h3]
      clear eC
      refine ZT 1 ?_
      refine Z1 (w64a (n := i) (by omega)) ?_
      have ho : K ≠ [] → hpC kid = some (.rw (K.map eGRef) 3 kver false false) := fun hn => by
       have h1 := hrK hn
       have h2 := lt_new hnew h1
       have h3 : kid ≠ nx + 2 + 2 := fun e => by rw [e, hbo] at h1; cases h1
       have h4 := hne (by simp) hn
       rw [cc kid h3 (by omega) (by omega), bb kid (by omega)]
       exact h1
      exact ⟨⟨((i + 1, ((a :: u) ++ [s]), K), (sid, sver + 1, kid, kver), hpC, nxi + 1 + 4 + 3 + 7 + 2), hlt, hS2, hK2, by simp only [List.length_append, List.length_cons, List.length_nil] at *; omega, by dsimp only; omega, by dsimp only; omega, nK, fun h1 h2 => hne (by simp) h2, c2, fun _ => c3, ho, fun j hj => (cc j (by omega) (by omega) (by omega)).trans ((bb j (by omega)).trans (hfr j hj)), fun j hj => (cc j (by dsimp only at hj; omega) (by dsimp only at hj; omega) (by dsimp only at hj; omega)).trans ((bb j (by dsimp only at hj; omega)).trans (hnew j (by dsimp only at hj; omega))), by dsimp only; omega, (cc (nx + 1) (by omega) (by omega) (by omega)).trans ((bb (nx + 1) (by omega)).trans hz6)⟩, wkI (wk_upd rfl (wk_upd rfl (wk_upd rfl (wk_upd rfl (wk_upd (by simp [accV, upd]) (wk_upd rfl (wk_upd rfl (wk_upd rfl (wk_no _))))))))), by dsimp only; omega⟩
    | false =>
     have hr2 : (s.rel.toList == ({ data := #[] } : ByteArray).toList) = false := hr
     have hS2 : S ++ subsOf (ss.drop (i + 1)) = subsOf ss := by
      rw [← hS, subsOf_cons, hr]; simp
     have hK2 : (K ++ [refOf s]) ++ kidsOf (ss.drop (i + 1)) = kidsOf ss := by
      rw [← hK, kidsOf_cons, hr]; simp
     refine Z1 (And.intro b1 hr2) ?_
     refine runR_condF (c := false) rfl rfl ?_
     refine ZT 1 ?_
     cases K with
     | nil =>
      refine Z1 b1 ?_
      generalize eC : (upd (nxi + 1 + 4 + 3 + 10) (some _) _ : Hp) = hpC
      have c3 : hpC (nxi + 1 + 4 + 3 + 10) = some (.rw ([refOf s].map eGRef) 3 (0) false false) := by rw [← eC, upd_same]; simp [refOf]
      have cc : ∀ j, j ≠ nxi + 1 + 4 + 3 + 10 → j ≠ nxi + 1 + 4 + 3 + 9 → hpC j = hpB j := fun j h1 h2 => by rw [← eC, upd_ne _ _ h1, upd_ne _ _ h2]
      clear eC
      refine ZT 1 ?_
      refine Z1 (w64a (n := i) (by omega)) ?_
      have ho : S ≠ [] → hpC sid = some (.rw (S.map eGSub) 3 sver false false) := fun hn => by
       have h1 := hrS hn
       have h2 := lt_new hnew h1
       have h3 : sid ≠ nx + 2 + 2 := fun e => by rw [e, hbo] at h1; cases h1
       rw [cc sid (by omega) (by omega), bb sid (by omega)]
       exact h1
      have c2 := (cc (nx + 2 + 2) (by omega) (by omega)).trans hbo2
      exact ⟨⟨((i + 1, S, [refOf s]), (sid, sver, nxi + 1 + 4 + 3 + 10, 0), hpC, nxi + 1 + 4 + 3 + 12 + 2), hlt, hS2, hK2, by dsimp only; omega, by simp only [List.length_append, List.length_cons, List.length_nil] at *; omega, nS, by dsimp only; omega, fun h1 h2 => by have := lt_new hnew (hrS h1); dsimp only; omega, c2, ho, fun _ => c3, fun j hj => (cc j (by omega) (by omega)).trans ((bb j (by omega)).trans (hfr j hj)), fun j hj => (cc j (by dsimp only at hj; omega) (by dsimp only at hj; omega)).trans ((bb j (by dsimp only at hj; omega)).trans (hnew j (by dsimp only at hj; omega))), by dsimp only; omega, (cc (nx + 1) (by omega) (by omega)).trans ((bb (nx + 1) (by omega)).trans hz6)⟩, wkI (wk_upd rfl (wk_upd rfl (wk_upd rfl (wk_upd rfl (wk_upd (by simp [accV, upd]) (wk_upd rfl (wk_upd rfl (wk_upd rfl (wk_no _))))))))), by dsimp only; omega⟩
     | cons a u =>
      have hK1 := hrK (by simp)
      have hkn := lt_new hnew hK1
      have hko : kid ≠ nx + 2 + 2 := fun e => by rw [e, hbo] at hK1; cases hK1
      have hk6 : kid ≠ nx + 1 := fun e => by rw [e, hz6] at hK1; cases hK1
      have hk1 := (bb kid (by omega)).trans hK1
      have g1 : (u.length + 1 + 1 ≤ 4294967296) = True := eq_true (by simp only [List.length_cons] at lK; omega)
      have g2 : (kid = nxi + 1 + 4 + 3 + 9) = False := eq_false (by omega)
      refine Z1 (And.intro b1 (And.intro hk1 (And.intro g1 g2))) ?_
      generalize eC : (upd (kid) (some _) _ : Hp) = hpC
      have c3 : hpC (kid) = some (.rw (((a :: u) ++ [refOf s]).map eGRef) 3 (kver + 1) false false) := by rw [← eC, upd_same]; simp [refOf]
      have cc : ∀ j, j ≠ kid → j ≠ nxi + 1 + 4 + 3 + 9 → hpC j = hpB j := fun j h1 h2 => by rw [← eC, upd_ne _ _ h1, upd_ne _ _ h2]
      clear eC
      refine ZT 1 ?_
      refine Z1 (w64a (n := i) (by omega)) ?_
      have ho : S ≠ [] → hpC sid = some (.rw (S.map eGSub) 3 sver false false) := fun hn => by
       have h1 := hrS hn
       have h2 := lt_new hnew h1
       have h3 : sid ≠ nx + 2 + 2 := fun e => by rw [e, hbo] at h1; cases h1
       have h4 := hne hn (by simp)
       rw [cc sid (by omega) (by omega), bb sid (by omega)]
       exact h1
      have c2 := (cc (nx + 2 + 2) (by omega) (by omega)).trans hbo2
      exact ⟨⟨((i + 1, S, ((a :: u) ++ [refOf s])), (sid, sver, kid, kver + 1), hpC, nxi + 1 + 4 + 3 + 12 + 2), hlt, hS2, hK2, by dsimp only; omega, by simp only [List.length_append, List.length_cons, List.length_nil] at *; omega, nS, by dsimp only; omega, fun h1 h2 => hne h1 (by simp), c2, ho, fun _ => c3, fun j hj => (cc j (by omega) (by omega)).trans ((bb j (by omega)).trans (hfr j hj)), fun j hj => (cc j (by dsimp only at hj; omega) (by dsimp only at hj; omega)).trans ((bb j (by dsimp only at hj; omega)).trans (hnew j (by dsimp only at hj; omega))), by dsimp only; omega, (cc (nx + 1) (by omega) (by omega)).trans ((bb (nx + 1) (by omega)).trans hz6)⟩, wkI (wk_upd rfl (wk_upd rfl (wk_upd rfl (wk_upd rfl (wk_upd (by simp [accV, upd]) (wk_upd rfl (wk_upd rfl (wk_upd rfl (wk_no _))))))))), by dsimp only; omega⟩
   ·have c1 : (decide ((i : Int) < (ss.length : Int))) = false := decide_eq_false (by omega)
    obtain rfl : i = ss.length := by omega
    rw [List.drop_length] at hS hK
    refine Z1 c1 ?_
    refine zsq (ZT 1 ?_)
    refine Z0 ?_
    obtain rfl : S = subsOf ss := by simpa [subsOf] using hS
    obtain rfl : K = kidsOf ss := by simpa [kidsOf] using hK
    have hsX : subsOf ss ≠ [] → sid ≠ nx + 2 + 2 ∧ sid ≠ nx + 1 := fun h => ⟨fun e => (by have := hrS h; rw [e, hbo] at this; cases this), fun e => (by have := hrS h; rw [e, hz6] at this; cases this)⟩
    have hkX : kidsOf ss ≠ [] → kid ≠ nx + 2 + 2 ∧ kid ≠ nx + 1 := fun h => ⟨fun e => (by have := hrK h; rw [e, hbo] at this; cases this), fun e => (by have := hrK h; rw [e, hz6] at this; cases this)⟩
    generalize subsOf ss = S at *
    generalize kidsOf ss = K at *
    have ofr : ∀ j, (S ≠ [] → j ≠ sid) → (K ≠ [] → j ≠ kid) → offO (!S.isEmpty) sid (offO (!K.isEmpty) kid hpi) j = hpi j := fun j h1 h2 => by rw [offO_ne (fun e => h1 (by simpa using e)), offO_ne (fun e => h2 (by simpa using e))]
    have oor : ∀ j, offO (!S.isEmpty) sid (offO (!K.isEmpty) kid hpi) j = none ∨ offO (!S.isEmpty) sid (offO (!K.isEmpty) kid hpi) j = hpi j := fun j => by
     rcases offO_or (b := !S.isEmpty) (i := sid) (j := j) (hp := offO (!K.isEmpty) kid hpi) with h | h
     ·exact .inl h
     ·rw [h]; exact offO_or
    have oS : S ≠ [] → offO (!S.isEmpty) sid (offO (!K.isEmpty) kid hpi) sid = none := fun h => offO_at (by simpa using h)
    have oK : K ≠ [] → offO (!S.isEmpty) sid (offO (!K.isEmpty) kid hpi) kid = none := fun h => by
     rw [offO_ne (fun e => (hne (by simpa using e) h).symm)]
     exact offO_at (by simpa using h)
    generalize (offO (!S.isEmpty) sid (offO (!K.isEmpty) kid hpi) : Hp) = hpX at ofr oor oS oK
    refine ⟨⟨(0, upd (nx + 2 + 2) (some (.bx [.v (.int .i64 1), .v (.string r.obj.type_), .v (.string r.obj.id_), .v (.string r.rel), .d (.sl (S.map eGSub)) false, .v (.slice none 0 0)])) hpX, nxi + 1), fun j hj => ?_, fun j hj => ?_, by dsimp only; omega, upd_same _ _ _, ?_⟩, dat_mk (Nat.le_refl _) (df_upd (dv_same rfl) (df_upd (dv_same rfl) (df_upd (dv_same rfl) (df_upd (dv_same rfl) (df_upd (dv_c (show _ = accV kid kver (K.map eGRef) from rfl) (dc_row hrK fun h => ?_)) (df_no _)))))) (dh_upd (dh_bx hbo (dl_cons (dc_same rfl) (dl_cons (dc_same rfl) (dl_cons (dc_same rfl) (dl_cons (dc_same rfl) (dl_cons (dc_row hrS fun h => ?_) (dl_cons (dc_same rfl) dl_nil))))))) fun i o' e => ?_)⟩
    ·dsimp only
     rw [upd_ne _ _ (by omega), ofr j (fun h => by omega) (fun h => by omega)]
     exact hfr j hj
    ·dsimp only at hj ⊢
     rw [upd_ne _ _ (by omega)]
     rcases oor j with h | h
     ·exact h
     ·exact h.trans (hnew j (by omega))
    ·dsimp only
     rw [upd_ne _ _ (by omega), ofr _ (fun h => (hsX h).2.symm) (fun h => (hkX h).2.symm)]
     exact hz6
    ·dsimp only
     rw [upd_ne _ _ (hkX h).1]
     exact oK h
    ·dsimp only
     rw [upd_ne _ _ (hsX h).1]
     exact oS h
    ·rcases oor i with h | h
     ·rw [h] at e; cases e
     ·exact ⟨o', h ▸ e, .same _⟩
 ·rintro ⟨⟨_, hpj, nxj⟩, hfr, hnew, hnx, hbo, hz6⟩
  dsimp only at hfr hnew hnx hbo hz6 hz ⊢
  have hkl : (kidsOf ss).length < 1000000000 := by
   unfold kidsOf
   rw [List.length_map]
   exact Nat.lt_of_le_of_lt (List.length_filter_le _ _) hsl
  have jq := (hfr q hqn).trans hq
  have jm := (hfr m hmn).trans hm
  refine zsq (ZT 1 ?_)
  refine Z0 ?_
  refine onCall_inl ((refs_ok hrf hkl (q := q) (m := m) (dl := dl) (w := w) (x := z) (fun j hj => hnew j (by dsimp only at hj; omega)) jq jm hd hz).mono ?_)
  rintro v hp2 nx2 ⟨rfl, hP⟩
  dsimp only at hP ⊢
  have hn2 := hP.5
  have kbo := (hP.3 (nx + 2 + 2) (by omega) (by omega) (by omega)).trans hbo
  have kz6 := (hP.3 (nx + 1) (by omega) (by omega) (by omega)).trans hz6
  refine Z1 (And.intro kbo kz6) ?_
  refine ZT 1 ?_
  have g1 : (nx + 1 = nx + 2 + 2) = False := eq_false (by omega)
  refine Z1 (And.intro kbo (And.intro kz6 g1)) ?_
  refine ⟨_, _, by simp -implicitDefEqProofs only [go_sem, ↓reduceIte, Try.f31, upd_same, reduceCtorEq, Nat.reduceEqDiff] <;> rfl, ⟨fun _ => .inr rfl⟩, rfl, ?_, ?_, fun j h1 h2 h3 => ?_, fun j hj => ?_, by dsimp only; omega⟩
  ·dsimp only
   rw [upd_ne _ _ (by omega), upd_ne _ _ (by omega)]
   exact hP.1
  ·obtain ⟨d2, h2⟩ := hP.2
   refine ⟨d2, ?_⟩
   dsimp only
   rw [upd_ne _ _ (by omega), upd_ne _ _ (by omega)]
   exact h2
  ·dsimp only
   rw [upd_ne _ _ (by omega), upd_ne _ _ (by omega), hP.3 j (by omega) h2 h3]
   exact hfr j h1
  ·dsimp only at hj ⊢
   rw [upd_ne _ _ (by omega), upd_ne _ _ (by omega)]
   exact hP.4 j (by omega)
end Go.Proofs.Ytjkdbakgnnhdnaa.Ab
