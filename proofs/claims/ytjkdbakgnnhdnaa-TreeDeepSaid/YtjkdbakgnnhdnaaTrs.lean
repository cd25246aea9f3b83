/-
 The tree's grower: a list of nodes.
-/
import Derived.Test.YtjkdbakgnnhdnaaTrw
namespace Go.Proofs.Ytjkdbakgnnhdnaa.Ab
open Go.RowKit
abbrev ndV (x : GNode) : AV := .ag [.v (.int .i64 x.kind), .v (.string x.ref.obj.type_), .v (.string x.ref.obj.id_), .v (.string x.ref.rel), .d (.sl (x.subs.map eGSub)) false, .d (.sl (x.kids.map eGNode)) false]
structure GroP (bl : Bool) (G : SeekGraph) (q m : Nat) (hp : Hp) (nx : Nat) (w : Gro) (hp2 : Hp) (nx2 : Nat) : Prop where
 box : hp2 q = some (boxG bl G m w.cnt w.e)
 map : ∃ dl, hp2 m = some (.mo (encM kGRef vI w.ab) dl)
 fr : ∀ j, j < nx → j ≠ q → j ≠ m → hp2 j = hp j
 new : ∀ j, nx2 ≤ j → hp2 j = none
 le : nx ≤ nx2
abbrev GroI (bl : Bool) (G : SeekGraph) (f : FuncId) (α : Type) (vo : α → AV) (d : Int) (rf : Gro → Option (α × Gro)) (vr : AV) : Prop :=
 ∀ {hp : Hp} {nx q m : Nat} {dl : Bool} {w : Gro} {x : α × Gro}, (∀ j, nx ≤ j → hp j = none) → hp q = some (boxG bl G m w.cnt w.e) → hp m = some (.mo (encM kGRef vI w.ab) dl) → q ≠ m → rf w = some x →
  InlOK Try.prog f [.pt q 0, vr, .v (.int .i64 d)] hp nx fun v hp2 nx2 => v = vo x.1 ∧ GroP bl G q m hp nx x.2 hp2 nx2
abbrev refV (r : GRef) (vr : AV) : Prop := cellsA vr = some [.v (.string r.obj.type_), .v (.string r.obj.id_), .v (.string r.rel)]
set_option maxRecDepth 8000 in
theorem refs_ok {bl : Bool} {G : SeekGraph} {d : Int} {rf : Gro → GRef → Option (GNode × Gro)} (hrf : ∀ r vr, refV r vr → GroI bl G 13 GNode ndV d (fun w => rf w r) vr) {l : List GRef} (hl : l.length < 1000000000) :
  GroI bl G 45 (List GNode) (fun ns => .d (.sl (ns.map eGNode)) false) d (refsM rf l) (.d (.sl (l.map eGRef)) false) := by
 intro hp nx q m dl w x hf hq hm hd h
 have hqn := lt_new hf hq
 have hmn := lt_new hf hm
 refine InlOK.weakR (R := fun v hp2 nx2 => ∃ oid over, v = accV oid over (x.1.map eGNode) ∧ nx ≤ oid ∧ (x.1 ≠ [] → hp2 oid = some (.rw (x.1.map eGNode) 6 over false false)) ∧ GroP bl G q m hp nx x.2 hp2 nx2) ?_ ?_
 ·refine inl_runR tab_ok Try.func45 (by rfl) (by kernel_rfl) (by kernel_rfl) (by exact Nat.le_of_ble_eq_true rfl) ?_
  refine zsq (ZT 1 ?_)
  refine Z0 ?_
  refine zsq (ZT 1 ?_)
  refine Z0 ?_
  refine zsq (zsq ?_)
  refine ZT 1 ?_
  refine Z0 ?_
  refine zbk ?_
  refine zlp (α := { t : Nat × List GNode × Gro × Nat × Nat × Hp × Nat // t.1 ≤ l.length ∧ t.2.1.length ≤ t.1 ∧ nx ≤ t.2.2.2.1 ∧ (t.2.1 ≠ [] → t.2.2.2.2.2.1 t.2.2.2.1 = some (.rw (t.2.1.map eGNode) 6 t.2.2.2.2.1 false false)) ∧ GroP bl G q m hp nx t.2.2.1 t.2.2.2.2.2.1 t.2.2.2.2.2.2 ∧ (refsM rf (l.drop t.1) t.2.2.1).map (fun p => (t.2.1 ++ p.1, p.2)) = some x })
   (fun t => ⟨upd 0 (.pt q 0) (upd 2 (.v (.int .i64 d)) (upd 7 (accV t.1.2.2.2.1 t.1.2.2.2.2.1 (t.1.2.1.map eGNode)) (upd 10 (.d (.sl (l.map eGRef)) false) (upd 11 (.v (.int .i64 (l.length : Int))) (upd 12 (.v (.int .i64 (t.1.1 : Int))) noFr))))), t.1.2.2.2.2.2.1, t.1.2.2.2.2.2.2⟩) (fun t => l.length - t.1.1)
   ⟨(0, [], w, nx, 0, hp, nx + 5), Nat.zero_le _, Nat.le_refl _, Nat.le_refl _, fun hn => absurd rfl hn, ⟨hq, ⟨dl, hm⟩, fun _ _ _ _ => rfl, fun j hj => hf j (by dsimp only at hj; omega), by dsimp only; omega⟩, by simpa using h⟩ ?_ ?_
  ·exact wkI (wk_upd rfl (wk_upd rfl (wk_upd rfl (wk_upd rfl (wk_upd rfl (wk_upd rfl (wk_no _)))))))
  ·rintro ⟨⟨i, ns, wi, oid, over, hpi, nxi⟩, hi, hnl, hoi, hor, hP, hr⟩
   dsimp only at hi hnl hoi hor hP hr
   refine zsq (ZT 1 ?_)
   by_cases hlt : i < l.length
   ·have c1 : (decide ((i : Int) < (l.length : Int))) = true := decide_eq_true (by omega)
    have e1 : l[i]? = some l[i] := List.getElem?_eq_getElem hlt
    have e2 : (l.map eGRef)[i]? = some (eGRef l[i]) := map_at eGRef e1
    have ed : l.drop i = l[i] :: l.drop (i + 1) := List.drop_eq_getElem_cons hlt
    rw [ed] at hr
    generalize l[i] = r at e2 hr
    refine Z1 c1 ?_
    refine zsq (ZT 1 ?_)
    refine Z0 ?_
    unfold refsM at hr
    obtain ⟨z, hz, hr2⟩ := Option.map_eq_some_iff.1 hr
    obtain ⟨y, hy, hz⟩ := zbi hz
    obtain ⟨z2, hz2, hz⟩ := Option.map_eq_some_iff.1 hz
    refine zsq (zbk ?_)
    refine zsq (ZT 1 ?_)
    have wn := And.intro e2 (And.intro (zno .i64 (show (0 : Int) ≤ (i : Int) by omega)) (show ((i : Int)).toNat = i from Int.toNat_natCast _))
    refine Z1 wn ?_
    generalize eA : (upd (nxi + 1 + 2) (some _) _ : Hp) = hpA
    have a1 : hpA (nxi + 1 + 2) = some (.bx [.v (.string r.obj.type_), .v (.string r.obj.id_), .v (.string r.rel)]) := by rw [← eA, upd_same]
    have aa : ∀ j, j ≠ nxi + 1 + 2 → hpA j = hpi j := fun j h1 => by rw [← eA, upd_ne _ _ h1, upd_ne _ _ h1]
    have hn := hP.5
    obtain ⟨dli, hmi⟩ := hP.2
    refine ZT 1 ?_
    refine Z1 a1 ?_
    refine onCall_inl ((hrf r (.ag [.v (.string r.obj.type_), .v (.string r.obj.id_), .v (.string r.rel)]) rfl (q := q) (m := m) (dl := dli) (w := wi) (x := y) ?_ ?_ ?_ hd hy).mono ?_)
    ·intro j hj
     dsimp only at hj ⊢
     rw [aa j (by omega)]
     exact hP.4 j (by omega)
    ·dsimp only
     rw [aa q (by omega)]
     exact hP.1
    ·dsimp only
     rw [aa m (by omega)]
     exact hmi
    rintro v hp2 nx2 ⟨rfl, hP2⟩
    dsimp only at hP2
    have hn2 := hP2.5
    have hi1 : i + 1 ≤ l.length := hlt
    obtain rfl : (y.1 :: z2.1, z2.2) = z := hz
    have hr3 : (refsM rf (l.drop (i + 1)) y.2).map (fun p => ((ns ++ [y.1]) ++ p.1, p.2)) = some x := by rw [hz2, ← hr2]; simp
    have hf2 : ∀ j, j < nx → j ≠ q → j ≠ m → hp2 j = hp j := fun j h1 h2 h3 => by rw [hP2.3 j (by omega) h2 h3, aa j (by omega)]; exact hP.3 j h1 h2 h3
    cases ns with
    | nil =>
     refine Z0 ?_
     generalize eB : (upd (nxi + 1 + 4 + 6) (some _) _ : Hp) = hpB
     have b1 : hpB (nxi + 1 + 4 + 6) = some (.rw ([y.1].map eGNode) 6 0 false false) := by rw [← eB, upd_same]; simp [eGNode_eq]
     have bb : ∀ j, j ≠ nxi + 1 + 4 + 6 → j ≠ nxi + 1 + 4 + 5 → hpB j = hp2 j := fun j h1 h2 => by rw [← eB, upd_ne _ _ h1, upd_ne _ _ h2]
     refine ZT 1 ?_
     refine Z1 (w64a (n := i) (by omega)) ?_
     refine ⟨⟨(i + 1, [y.1], y.2, nxi + 1 + 4 + 6, 0, hpB, nx2 + 2), hi1, by simp, by dsimp only; omega, fun _ => b1, ⟨(bb q (by omega) (by omega)).trans hP2.1, ?_, fun j h1 h2 h3 => (bb j (by omega) (by omega)).trans (hf2 j h1 h2 h3), fun j hj => (bb j (by dsimp only at hj; omega) (by dsimp only at hj; omega)).trans (hP2.4 j (by dsimp only at hj; omega)), by dsimp only; omega⟩, hr3⟩, wkI (wk_upd rfl (wk_upd rfl (wk_upd (by simp [accV, upd]) (wk_upd rfl (wk_upd rfl (wk_upd rfl (wk_no _))))))), by dsimp only; omega⟩
     obtain ⟨d2, h2⟩ := hP2.2
     exact ⟨d2, (bb m (by omega) (by omega)).trans h2⟩
    | cons a u =>
     have ho1 := hor (by simp)
     have hon := lt_new hP.4 ho1
     have ho2 : hp2 oid = some (.rw ((a :: u).map eGNode) 6 over false false) := by
      rw [hP2.3 oid (by omega) (by omega) (by omega), aa oid (by omega)]
      exact ho1
     have g1 : (u.length + 1 + 1 ≤ 4294967296) = True := eq_true (by simp only [List.length_cons] at hnl; omega)
     have g2 : (oid = nxi + 1 + 4 + 5) = False := eq_false (by omega)
     refine Z1 (And.intro ho2 (And.intro g1 g2)) ?_
     generalize eB : (upd oid (some _) _ : Hp) = hpB
     have b1 : hpB oid = some (.rw (((a :: u) ++ [y.1]).map eGNode) 6 (over + 1) false false) := by rw [← eB, upd_same]; simp [eGNode_eq]
     have bb : ∀ j, j ≠ oid → j ≠ nxi + 1 + 4 + 5 → hpB j = hp2 j := fun j h1 h2 => by rw [← eB, upd_ne _ _ h1, upd_ne _ _ h2]
     refine ZT 1 ?_
     refine Z1 (w64a (n := i) (by omega)) ?_
     refine ⟨⟨(i + 1, (a :: u) ++ [y.1], y.2, oid, over + 1, hpB, nx2 + 2), hi1, by rw [List.length_append, List.length_singleton]; omega, hoi, fun _ => b1, ⟨(bb q (by omega) (by omega)).trans hP2.1, ?_, fun j h1 h2 h3 => (bb j (by omega) (by omega)).trans (hf2 j h1 h2 h3), fun j hj => (bb j (by dsimp only at hj; omega) (by dsimp only at hj; omega)).trans (hP2.4 j (by dsimp only at hj; omega)), by dsimp only; omega⟩, hr3⟩, wkI (wk_upd rfl (wk_upd rfl (wk_upd (by simp [accV, upd]) (wk_upd rfl (wk_upd rfl (wk_upd rfl (wk_no _))))))), by dsimp only; omega⟩
     obtain ⟨d2, h2⟩ := hP2.2
     exact ⟨d2, (bb m (by omega) (by omega)).trans h2⟩
   ·have c1 : (decide ((i : Int) < (l.length : Int))) = false := decide_eq_false (by omega)
    obtain rfl : i = l.length := by omega
    rw [List.drop_length] at hr
    refine Z1 c1 ?_
    refine zsq (ZT 1 ?_)
    refine Z0 ?_
    refine ZT 1 ?_
    refine Z0 ?_
    obtain rfl : (ns, wi) = x := by simpa [refsM] using hr
    exact ⟨_, hpi, by simp -implicitDefEqProofs only [go_sem, ↓reduceIte, Try.f45, upd_same] <;> rfl, ⟨fun _ => .inr rfl⟩, oid, over, rfl, hoi, hor, hP.1, hP.2, hP.3, fun j hj => hP.4 j (by dsimp only at hj; omega), by have := hP.5; dsimp only; omega⟩
 ·rintro v hp2 nx2 ⟨oid, over, rfl, ho, hrw, hP⟩ hn
  obtain ⟨ns, w2⟩ := x
  dsimp only at hrw hP ⊢
  cases ns with
  | nil => exact ⟨_, hp2, nx2, dat_mk (Nat.le_refl _) (df_upd (dv_c rfl (dc_nil (f := eGNode))) (df_no _)) fun i o' e => ⟨o', e, .same _⟩, rfl, hP⟩
  | cons a u =>
   have hrw := hrw (by simp)
   refine ⟨_, upd oid none hp2, nx2, dat_mk (Nat.le_refl _) (df_upd (dv_c (upd_same _ _ _) (dc_acc (sz := 6) (ver := over) (br := false) hrw (upd_same _ _ _) fun h => h)) (df_no _)) (dh_upd (fun _ h => by cases h) fun i o' e => ⟨o', e, .same _⟩), rfl, ?_⟩
   obtain ⟨d2, h2⟩ := hP.2
   exact ⟨(upd_ne _ _ (by omega)).trans hP.1, ⟨d2, (upd_ne _ _ (by omega)).trans h2⟩, fun j h1 h2 h3 => (upd_ne _ _ (by omega)).trans (hP.3 j h1 h2 h3), fun j hj => by
    by_cases e : j = oid
    ·rw [e, upd_same]
    ·rw [upd_ne _ _ e]
     exact hP.4 j hj, hP.5⟩
end Go.Proofs.Ytjkdbakgnnhdnaa.Ab
