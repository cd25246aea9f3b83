/-
 The tree's grower: a node.
-/
import Derived.Test.YtjkdbakgnnhdnaaTrl
namespace Go.Proofs.Ytjkdbakgnnhdnaa.Ab
open Go.RowKit
abbrev ndZ (k : Int) (r : GRef) : AV := .ag [.v (.int .i64 k), .v (.string r.obj.type_), .v (.string r.obj.id_), .v (.string r.rel), .v (.slice none 0 0), .v (.slice none 0 0)]
theorem ref_look (r : GRef) (m : List (GRef × Int)) : lookA (true, [.string, .string, .string]) (.agg #[.string r.obj.type_, .string r.obj.id_, .string r.rel]) (.v (.int .i64 0)) false (encM kGRef vI m) = some (.v (.int .i64 (mgetD r 0 m)), []) := lookA_map key_GRef r 0 false m
theorem ref_put (r : GRef) (m : List (GRef × Int)) : mput (true, [.string, .string, .string]) (.agg #[.string r.obj.type_, .string r.obj.id_, .string r.rel]) (.v (.int .i64 1)) (encM kGRef vI m) = some (encM kGRef vI (mset r 1 m)) := mput_map key_GRef r 1 m
theorem ref_del {hp : Hp} {i : Nat} {dl : Bool} (r : GRef) {m : List (GRef × Int)} (h : hp i = some (.mo (encM kGRef vI m) dl)) :
  delO (some (true, [.string, .string, .string])) (some (.agg #[.string r.obj.type_, .string r.obj.id_, .string r.rel])) (.mo i) hp = some (.tu [], if mhas r m then [(i, .mo (encM kGRef vI (mdel r m)) true)] else []) ∧ (mhas r m = false → mdel r m = m) := by
 have hw : wfKey (true, [.string, .string, .string]) (.agg #[.string r.obj.type_, .string r.obj.id_, .string r.rel]) := rfl
 unfold delO
 simp only [hw, if_true, h]
 rcases mfind_del (ev := vI) key_GRef r m with ⟨h1, j, v, h2, h3⟩ | ⟨h1, h2, h3⟩
 ·have h2 : mfind (true, [.string, .string, .string]) (.agg #[.string r.obj.type_, .string r.obj.id_, .string r.rel]) (encM kGRef vI m) = _ := h2
  rw [h2]
  simp only [h1, if_true, h3]
  exact ⟨trivial, fun e => by cases e⟩
 ·have h2 : mfind (true, [.string, .string, .string]) (.agg #[.string r.obj.type_, .string r.obj.id_, .string r.rel]) (encM kGRef vI m) = _ := h2
  rw [h2]
  simp only [h1, Bool.false_eq_true, if_false]
  exact ⟨trivial, fun _ => h3⟩
set_option maxRecDepth 8000 in
theorem ref_ok {n : Nat} {bl : Bool} {G : SeekGraph} : ∀ (f : Nat) (d : Int) (r : GRef) (vr : AV), refV r vr → GroI bl G 13 GNode ndV d (fun w => refM n G f d w r) vr
 | 0, _, _, _, _ => fun _ _ _ _ h => by cases h
 | f + 1, d, r, vr, hv => by
  intro hf hq hm hd h
  rename_i hp nx q m dl w x
  have ih : GroI bl G 31 GNode ndV d (leafM n G (refM n G f (IntKind.i64.wrap (d + 1))) r) (.ag [.v (.string r.obj.type_), .v (.string r.obj.id_), .v (.string r.rel)]) := leaf_ok (ref_ok f (IntKind.i64.wrap (d + 1))) rfl
  have hqn := lt_new hf hq
  have hmn := lt_new hf hm
  dsimp only at h
  unfold refM at h
  unfold refV at hv
  refine InlOK.weakR (R := fun v hp2 nx2 => (v = ndV x.1 ∨ ∃ k r, x.1 = ⟨k, r, [], []⟩ ∧ v = ndZ k r) ∧ GroP bl G q m hp nx x.2 hp2 nx2) ?_ ?_
  ·refine inl_runR tab_ok Try.func13 (by rfl) (by kernel_rfl) (by kernel_rfl) (by exact Nat.le_of_ble_eq_true rfl) ?_
   refine zsq (ZT 1 ?_)
   refine Z1 hv ?_
   generalize eA : (upd (nx + 1) (some _) _ : Hp) = hpA
   have a6 : hpA (nx + 1) = some (.bx zN) := by rw [← eA, upd_same]
   have ar : hpA nx = some (.bx [.v (.string r.obj.type_), .v (.string r.obj.id_), .v (.string r.rel)]) := by rw [← eA, upd_ne _ _ (by omega), upd_same]
   have aa : ∀ j, j ≠ nx + 1 → j ≠ nx → hpA j = hp j := fun j h2 h3 => by rw [← eA, upd_ne _ _ h2, upd_ne _ _ h3]
   clear eA
   have aq := (aa q (by omega) (by omega)).trans hq
   have am := (aa m (by omega) (by omega)).trans hm
   refine zsq (ZT 1 ?_)
   refine Z0 ?_
   refine onCall_inl ((begin_ok (m := m) (w := w) aq).mono ?_)
   rintro v hpB nxB ⟨rfl, eB, hnB⟩
   dsimp only at hnB
   have b6 : hpB (nx + 1) = some (.bx zN) := by rw [eB, upd_ne _ _ (by omega)]; exact a6
   have br : hpB nx = some (.bx [.v (.string r.obj.type_), .v (.string r.obj.id_), .v (.string r.rel)]) := by rw [eB, upd_ne _ _ (by omega)]; exact ar
   have bm : hpB m = some (.mo (encM kGRef vI w.ab) dl) := by rw [eB, upd_ne _ _ (Ne.symm hd)]; exact am
   have bq : hpB q = some (boxG bl G m (beginM d w).2.cnt (beginM d w).2.e) := by rw [eB, upd_same]
   have bb : ∀ j, j ≠ q → j ≠ nx + 1 → j ≠ nx → hpB j = hp j := fun j h1 h2 h3 => by rw [eB, upd_ne _ _ h1]; exact aa j h2 h3
   have eab : (beginM d w).2.ab = w.ab := by
    unfold beginM
    repeat' split
    all_goals rfl
   clear eB
   generalize beginM d w = bw at *
   obtain ⟨ok, w1⟩ := bw
   dsimp only at h bq eab ⊢
   rw [← eab] at bm
   cases ok with
   | false =>
    rw [if_neg (by decide)] at h
    cases h
    refine Z1 b6 ?_
    refine ⟨_, _, by simp -implicitDefEqProofs only [go_sem, ↓reduceIte, Try.f13, upd_same, reduceCtorEq, Nat.reduceEqDiff] <;> rfl, ⟨fun _ => .inr rfl⟩, .inr ⟨0, refZ, rfl, rfl⟩, ?_, ⟨dl, ?_⟩, fun j h1 h2 h3 => ?_, fun j hj => ?_, by dsimp only; omega⟩
    ·dsimp only
     rw [upd_ne _ _ (by omega)]
     exact bq
    ·dsimp only
     rw [upd_ne _ _ (by omega)]
     exact bm
    ·dsimp only
     rw [upd_ne _ _ (by omega)]
     exact bb j h2 (by omega) (by omega)
    ·dsimp only at hj ⊢
     rw [upd_ne _ _ (by omega)]
     exact (bb j (by omega) (by omega) (by omega)).trans (hf j (by omega))
   | true =>
    rw [if_pos rfl] at h
    refine Z0 ?_
    have hl := ref_look r w1.ab
    refine zsq (ZT 1 ?_)
    cases hz : decide (0 < mgetD r 0 w1.ab) with
    | true =>
     rw [hz, if_pos rfl] at h
     cases h
     refine Z1 (And.intro bq (And.intro br (And.intro bm (And.intro hl hz)))) ?_
     refine Rd_endF (by rfl) ?_
     refine Z1 (And.intro br b6) ?_
     refine ⟨_, _, by simp -implicitDefEqProofs only [go_sem, ↓reduceIte, Try.f13, upd_same, reduceCtorEq, Nat.reduceEqDiff] <;> rfl, ⟨fun _ => .inr rfl⟩, .inr ⟨6, r, rfl, rfl⟩, ?_, ⟨dl, ?_⟩, fun j h1 h2 h3 => ?_, fun j hj => ?_, by dsimp only; omega⟩
     ·dsimp only
      rw [upd_ne _ _ (by omega)]
      exact bq
     ·dsimp only
      rw [upd_ne _ _ (by omega)]
      exact bm
     ·dsimp only
      rw [upd_ne _ _ (by omega)]
      exact bb j h2 (by omega) (by omega)
     ·dsimp only at hj ⊢
      rw [upd_ne _ _ (by omega)]
      exact (bb j (by omega) (by omega) (by omega)).trans (hf j (by omega))
    | false =>
     rw [hz, if_neg (by decide)] at h
     obtain ⟨rel, hrel, h⟩ := zbi h
     split at h
     rotate_left
     ·cases h
     rename_i hre
     obtain ⟨y, hy, hx⟩ := Option.map_eq_some_iff.1 h
     subst hx
     refine Z1 (And.intro bq (And.intro br (And.intro bm (And.intro hl hz)))) ?_
     refine Rd_endF (by rfl) ?_
     refine Z0 ?_
     have hpu := ref_put r w1.ab
     refine zsq (ZT 1 ?_)
     refine Z1 (And.intro bq (And.intro br (And.intro bm hpu))) ?_
     have v1 : nw4 q nx m 0 q = 1 := by simp [nw4]
     have v2 : nw4 q nx m 0 nx = 2 := by unfold nw4; rw [if_neg (by omega), if_pos rfl]
     have v3 : nw4 q nx m 0 m = 3 := by unfold nw4; rw [if_neg (Ne.symm hd), if_neg (by omega), if_pos rfl]
     refine Rd_endM (nw4 q nx m 0) _ rfl (by simp only [List.reverse_cons, List.reverse_nil, List.nil_append, List.cons_append, List.map_cons, List.map_nil, mpRec, v1, v2, v3]; rfl) (by rfl) ?_
     refine Z0 ?_
     generalize eC : (upd m (some _) hpB : Hp) = hpC
     have cm : hpC m = some (.mo (encM kGRef vI (mset r 1 w1.ab)) dl) := by rw [← eC, upd_same]
     have cc : ∀ j, j ≠ m → hpC j = hpB j := fun j h1 => by rw [← eC, upd_ne _ _ h1]
     clear eC
     have cq := (cc q hd).trans bq
     have cr := (cc nx (by omega)).trans br
     have c6 := (cc (nx + 1) (by omega)).trans b6
     obtain ⟨⟨rn, rs, re⟩, ro⟩ := rel
     obtain rfl : re = [] := by simpa using hre
     refine zsq (ZT 1 ?_)
     refine Z1 (And.intro cq cr) ?_
     refine ZD0 (well_Schema_Rel_ok hrel) ?_
     have f1 : (q = nxB + 7 + 6 + 16) = False := eq_false (by omega)
     have f2 : (nx = nxB + 7 + 6 + 16) = False := eq_false (by omega)
     refine Z1 (And.intro cq (And.intro cr (And.intro f1 f2))) ?_
     have w1_ : nw4 q nx (nxB + 7 + 6 + 16) 0 q = 1 := by simp [nw4]
     have w2 : nw4 q nx (nxB + 7 + 6 + 16) 0 nx = 2 := by unfold nw4; rw [if_neg (by omega), if_pos rfl]
     have w3 : nw4 q nx (nxB + 7 + 6 + 16) 0 (nxB + 7 + 6 + 16) = 3 := by unfold nw4; rw [if_neg (by omega), if_neg (by omega), if_pos rfl]
     refine Rd_endM (nw4 q nx (nxB + 7 + 6 + 16) 0) _ rfl (by simp only [List.reverse_cons, List.reverse_nil, List.nil_append, List.cons_append, List.map_cons, List.map_nil, mpRec, w1_, w2, w3]; rfl) (by rfl) ?_
     refine Z0 ?_
     generalize eD : (upd (nxB + 7 + 6 + 16) (some _) _ : Hp) = hpD
     have dt : hpD (nxB + 7 + 6 + 16) = some (.bx [.v (.string rn), .d (.sl (rs.map eGSub)) bl, .d (.sl []) bl]) := by rw [← eD, upd_same]; rfl
     have dd : ∀ j, j ≠ nxB + 7 + 6 + 16 → hpD j = hpC j := fun j h1 => by rw [← eD, upd_ne _ _ h1]; try rw [upd_ne _ _ h1]
     clear eD
     refine zsq (ZT 1 ?_)
     refine Z0 ?_
     generalize eE : (upd (nxB + 32) (some _) _ : Hp) = hpE
     have ez : hpE (nxB + 32) = some (.bx zN) := by rw [← eE, upd_same]
     have ee : ∀ j, j ≠ nxB + 32 → hpE j = hpD j := fun j h1 => by rw [← eE, upd_ne _ _ h1]
     clear eE
     have et := (ee _ (by omega)).trans dt
     have er := (ee nx (by omega)).trans ((dd nx (by omega)).trans cr)
     have eq := (ee q (by omega)).trans ((dd q (by omega)).trans cq)
     have em := (ee m (by omega)).trans ((dd m (by omega)).trans cm)
     have e6 := (ee (nx + 1) (by omega)).trans ((dd (nx + 1) (by omega)).trans c6)
     have eo : ∀ j, j < nx → j ≠ q → j ≠ m → hpE j = hp j := fun j h1 h2 h3 => by rw [ee j (by omega), dd j (by omega), cc j h3, bb j h2 (by omega) (by omega)]
     have en : ∀ j, nxB + 33 ≤ j → hpE j = none := fun j h1 => by rw [ee j (by omega), dd j (by omega), cc j (by omega), bb j (by omega) (by omega) (by omega)]; exact hf j (by omega)
     refine zsq (ZT 1 ?_)
     refine Z1 (And.intro et er) ?_
     refine onCall_inl ((ih (q := q) (m := m) (dl := dl) (w := ⟨mset r 1 w1.ab, w1.cnt, w1.e⟩) (x := y) (fun j hj => en j (by dsimp only at hj; omega)) eq em hd hy).mono ?_)
     rintro v hpF nxF ⟨rfl, hP⟩
     dsimp only at hP ⊢
     have hnF := hP.5
     have fz := (hP.3 (nxB + 32) (by omega) (by omega) (by omega)).trans ez
     have fr := (hP.3 nx (by omega) (by omega) (by omega)).trans er
     have f6 := (hP.3 (nx + 1) (by omega) (by omega) (by omega)).trans e6
     have fq := hP.1
     obtain ⟨dl2, fm⟩ := hP.2
     have fo : ∀ j, j < nx → j ≠ q → j ≠ m → hpF j = hp j := fun j h1 h2 h3 => (hP.3 j (by omega) h2 h3).trans (eo j h1 h2 h3)
     have fn := hP.4
     refine Z1 fz ?_
     generalize eH : (upd (nxB + 32) (some _) _ : Hp) = hpH
     have hz9 : hpH (nxB + 32) = some (.bx [.v (.int .i64 y.1.kind), .v (.string y.1.ref.obj.type_), .v (.string y.1.ref.obj.id_), .v (.string y.1.ref.rel), .d (.sl (y.1.subs.map eGSub)) false, .d (.sl (y.1.kids.map eGNode)) false]) := by rw [← eH, upd_same]
     have hh : ∀ j, j ≠ nxB + 32 → hpH j = hpF j := fun j h1 => by rw [← eH, upd_ne _ _ h1]
     clear eH
     have hq2 := (hh q (by omega)).trans fq
     have hm2 := (hh m (by omega)).trans fm
     have hr2 := (hh nx (by omega)).trans fr
     have h62 := (hh (nx + 1) (by omega)).trans f6
     obtain ⟨hdel, hnd⟩ := ref_del r hm2
     refine zsq (ZT 1 ?_)
     cases hmh : mhas r y.2.ab with
     | true =>
      rw [hmh, if_pos rfl] at hdel
      refine Z1 (And.intro hq2 (And.intro hr2 hdel)) ?_
      refine Rd_endM (nw4 q nx m 0) _ rfl (by simp only [List.reverse_cons, List.reverse_nil, List.nil_append, List.cons_append, List.map_cons, List.map_nil, mpRec, v1, v2, v3]; rfl) (by rfl) ?_
      refine Z0 ?_
      generalize eK : (upd m (some _) hpH : Hp) = hpK
      have km : ∃ dk, hpK m = some (.mo (encM kGRef vI (mdel r y.2.ab)) dk) := ⟨true, by rw [← eK, upd_same]⟩
      have kk : ∀ j, j ≠ m → hpK j = hpH j := fun j h1 => by rw [← eK, upd_ne _ _ h1]
      clear eK
      have kz := (kk _ (by omega)).trans hz9
      have k6 := (kk _ (by omega)).trans h62
      have kq := (kk _ hd).trans hq2
      have ko : ∀ j, j < nx → j ≠ q → j ≠ m → hpK j = hp j := fun j h1 h2 h3 => (kk j h3).trans ((hh j (by omega)).trans (fo j h1 h2 h3))
      have kn : ∀ j, nxF ≤ j → hpK j = none := fun j h1 => (kk j (by omega)).trans ((hh j (by omega)).trans (fn j h1))
      have g1 : (nx + 1 = nxB + 32) = False := eq_false (by omega)
      refine ZT 1 ?_
      refine Z1 (And.intro kz (And.intro k6 g1)) ?_
      refine ⟨_, _, by simp -implicitDefEqProofs only [go_sem, ↓reduceIte, Try.f13, upd_same, reduceCtorEq, Nat.reduceEqDiff] <;> rfl, ⟨fun _ => .inr rfl⟩, .inl rfl, ?_, ?_, fun j h1 h2 h3 => ?_, fun j hj => ?_, by dsimp only; omega⟩
      ·dsimp only
       rw [upd_ne _ _ (by omega)]
       exact kq
      ·obtain ⟨dk, hk⟩ := km
       refine ⟨dk, ?_⟩
       dsimp only
       rw [upd_ne _ _ (by omega)]
       exact hk
      ·dsimp only
       rw [upd_ne _ _ (by omega)]
       exact ko j h1 h2 h3
      ·dsimp only at hj ⊢
       rw [upd_ne _ _ (by omega)]
       exact kn j (by omega)
     | false =>
      rw [hmh, if_neg (by decide)] at hdel
      refine Z1 (And.intro hq2 (And.intro hr2 hdel)) ?_
      refine Rd_endM (nw4 q nx m 0) _ rfl (by simp only [List.reverse_cons, List.reverse_nil, List.nil_append, List.cons_append, List.map_cons, List.map_nil, mpRec, v1, v2, v3]; rfl) (by rfl) ?_
      refine Z0 ?_
      have km : ∃ dk, hpH m = some (.mo (encM kGRef vI (mdel r y.2.ab)) dk) := ⟨dl2, by rw [hnd hmh]; exact hm2⟩
      have kz := hz9
      have k6 := h62
      have kq := hq2
      have ko : ∀ j, j < nx → j ≠ q → j ≠ m → hpH j = hp j := fun j h1 h2 h3 => (hh j (by omega)).trans (fo j h1 h2 h3)
      have kn : ∀ j, nxF ≤ j → hpH j = none := fun j h1 => (hh j (by omega)).trans (fn j h1)
      have g1 : (nx + 1 = nxB + 32) = False := eq_false (by omega)
      refine ZT 1 ?_
      refine Z1 (And.intro kz (And.intro k6 g1)) ?_
      refine ⟨_, _, by simp -implicitDefEqProofs only [go_sem, ↓reduceIte, Try.f13, upd_same, reduceCtorEq, Nat.reduceEqDiff] <;> rfl, ⟨fun _ => .inr rfl⟩, .inl rfl, ?_, ?_, fun j h1 h2 h3 => ?_, fun j hj => ?_, by dsimp only; omega⟩
      ·dsimp only
       rw [upd_ne _ _ (by omega)]
       exact kq
      ·obtain ⟨dk, hk⟩ := km
       refine ⟨dk, ?_⟩
       dsimp only
       rw [upd_ne _ _ (by omega)]
       exact hk
      ·dsimp only
       rw [upd_ne _ _ (by omega)]
       exact ko j h1 h2 h3
      ·dsimp only at hj ⊢
       rw [upd_ne _ _ (by omega)]
       exact kn j (by omega)
  ·rintro v hp2 nx2 ⟨h1, hP⟩ hn
   rcases h1 with rfl | ⟨k, r, e, rfl⟩
   ·exact ⟨_, hp2, nx2, .weak ⟨fun _ => .inr rfl, fun _ => .inr rfl, Nat.le_refl _⟩, rfl, hP⟩
   ·refine ⟨_, hp2, nx2, dat_mk (Nat.le_refl _) (df_upd (dv_ag (show _ = ndZ k r from rfl) (dl_cons (dc_same rfl) (dl_cons (dc_same rfl) (dl_cons (dc_same rfl) (dl_cons (dc_same rfl) (dl_cons (dc_nil (f := eGSub)) (dl_cons (dc_nil (f := eGNode)) dl_nil))))))) (df_no _)) fun i o' e => ⟨o', e, .same _⟩, by rw [e], hP⟩
end Go.Proofs.Ytjkdbakgnnhdnaa.Ab
