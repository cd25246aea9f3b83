/-
 Functions, read off the code.
-/
import Derived.Test.YtachgkhleoodaaaGreatSga
namespace Go.Proofs.YtachgkhleoodaaaGreat.Ab
open Go.RowKit
def seek_Of_L1 (n : Nat) (rows_ : List GTuple) (t13 : WellSchema × Int) : Nat → (List GTuple × Int) → Option (List GTuple)
 | 0, _ => none
 | c + 1, (fit, t21) =>
  (if (decide (t21 < (rows_.length : Int))) then
   (idx rows_ t21).bind fun x2 =>
   (well_Schema_Fits n (⟨t13.1.types, t13.1.rels, t13.1.ranks⟩ : WellSchema) x2).bind fun t272 =>
   (if t272 then
    (app fit [x2]).bind fun l2 =>
    seek_Of_L1 n rows_ t13 c (l2, (IntKind.i64.wrap (t21 + 1)))
   else
    seek_Of_L1 n rows_ t13 c (fit, (IntKind.i64.wrap (t21 + 1))))
  else
   some fit)
def seek_Of_L1_f (n : Nat) (_ : List GTuple) (t13 : WellSchema × Int) (st : List GTuple) (x2 : GTuple) (k : List GTuple → Option (List GTuple)) : Option (List GTuple) :=
 match st with
 | fit =>
  (well_Schema_Fits n (⟨t13.1.types, t13.1.rels, t13.1.ranks⟩ : WellSchema) x2).bind fun t272 =>
  (if t272 then
   (app fit [x2]).bind fun l2 =>
   k l2
  else
   k fit)
def seek_Of_L1_e (_ : Nat) (_ : List GTuple) (_ : WellSchema × Int) (st : List GTuple) : Option (List GTuple) :=
 match st with
 | fit => some fit
theorem seek_Of_L1_list (n : Nat) (rows_ : List GTuple) (t13 : WellSchema × Int) (hx : rows_.length < 4611686018427387904) (c : Nat) (st : List GTuple) (ix : Nat) (hi : ix ≤ rows_.length) (hc : rows_.length - ix < c) : seek_Of_L1 n rows_ t13 c (match st, (ix : Int) with | fit, ix => (fit, ix)) = foldK (seek_Of_L1_f n rows_ t13) (seek_Of_L1_e n rows_ t13) (rows_.drop ix) st :=
 loop_list (fun c st ix => seek_Of_L1 n rows_ t13 c (match st, ix with | fit, ix => (fit, ix))) rows_ (seek_Of_L1_f n rows_ t13) (seek_Of_L1_e n rows_ t13) (fun _ _ _ => rfl) hx c st ix hi hc
def seek_Of (n : Nat) (l : List GType) (rows_ : List GTuple) : Option (SeekGraph × Int) :=
 (well_Of n l).bind fun t13 =>
 (if (t13.2 != 0) then
  none
 else
  (
   seek_Of_L1 n rows_ t13 n ([], 0) : Option (List GTuple)).bind fun fit3 =>
  (look_Of n fit3).bind fun t35 =>
  (if (decide (fit3.length = 0)) then
   some ((⟨(⟨t13.1.types, t13.1.rels, t13.1.ranks⟩ : WellSchema), t35, []⟩ : SeekGraph), 0)
  else
   some ((⟨(⟨t13.1.types, t13.1.rels, t13.1.ranks⟩ : WellSchema), t35, fit3⟩ : SeekGraph), 0)))
theorem seek_Of_ok {n : Nat} {l : List GType} {rows_ : List GTuple} {r : SeekGraph × Int} (H : seek_Of n l rows_ = some r) : PureA Tryz.prog 9 [.d (D.sl (List.map eGType l)), .d (D.sl (List.map eGTuple rows_))] (D.tu [D.pt (eSeekGraph r.1) 0, D.v (.int .i64 r.2)]) false := by
 unfold seek_Of at H
 refine ZPX tab_ok fol (rs := #[.tmp 4, .tmp 5]) Tryz.func9 ?_
 refine zsq (ZT 1 ?_)
 refine Z0 ?_
 refine zsq (ZT 1 ?_)
 obtain ⟨t13, b1, H2⟩ := zbi H
 refine Z0 ?_
 refine ZC0 (well_Of_ok b1) ?_
 refine Z0 ?_
 refine zsq (ZT 1 ?_)
 refine Z0 ?_
 rcases zit H2 with ⟨c3, H4⟩ | ⟨c3, H4⟩
 ·refine Z1 c3 ?_
  cases H4
 ·refine Z1 c3 ?_
  refine zsq (ZT 1 ?_)
  refine Z1 c3 ?_
  refine zsq (zsq ?_)
  refine ZT 1 ?_
  refine Z1 c3 ?_
  obtain ⟨e_, E5, H6⟩ := zbi H4
  refine zjn (α := { y : List GTuple // e_ = y } × Nat) (fun | ⟨⟨fit3, _⟩, g3⟩ => ⟨upd 6 (.d (.pt [.mp (encMp Value.string false eI t13.1.types), .mp (encMp kWellName true eGRel t13.1.rels), .mp (encMp kWellName false eI t13.1.ranks)] 0) true) (upd 8 (accV 0 g3 (List.map eGTuple fit3)) noFr), upd 0 (accO 6 g3 false (List.map eGTuple fit3)) noHp, 1⟩) ?_ ?_
  ·refine zbk ?_
   refine zlp (α := { q : (Nat × (List GTuple × Int)) × Nat // seek_Of_L1 n rows_ t13 q.1.1 q.1.2 = some e_ }) (fun | ⟨⟨⟨c, ⟨fit, t21⟩⟩, g⟩, _⟩ => ⟨upd 6 (.d (.pt [.mp (encMp Value.string false eI t13.1.types), .mp (encMp kWellName true eGRel t13.1.rels), .mp (encMp kWellName false eI t13.1.ranks)] 0) true) (upd 8 (accV 0 g (List.map eGTuple fit)) (upd 19 (.d (.sl (List.map eGTuple rows_)) true) (upd 20 (.v (.int .i64 (rows_.length : Int))) (upd 21 (.v (.int .i64 t21)) noFr)))), upd 0 (accO 6 g false (List.map eGTuple fit)) noHp, 1⟩) (fun q => q.1.1.1) ⟨((n, ([], 0)), 0), E5⟩ ?_ ?_
   ·exact ZR []
   ·rintro ⟨⟨⟨c, ⟨fit, t21⟩⟩, g⟩, L7⟩
    rcases c with _ | c
    ·exact Zx L7
    ·unfold seek_Of_L1 at L7
     try dsimp only at L7
     refine ZT 1 ?_
     refine Z0 ?_
     rcases zit L7 with ⟨c20, H21⟩ | ⟨c20, H21⟩
     ·obtain ⟨x2, b22, H23⟩ := zbi H21
      obtain ⟨h24, h25⟩ := zix b22
      try simp only [Int.reduceToNat, Int.toNat_natCast] at h25
      have h26 := map_at eGTuple h25
      obtain ⟨t272, b28, H29⟩ := zbi H23
      refine Z1 (Y3 c20 (zno .i64 h24) h26) ?_
      refine ZC0 (well_Schema_Fits_ok b28) ?_
      refine Z1 (Y3 c20 (zno .i64 h24) h26) ?_
      rcases zit H29 with ⟨c30, H31⟩ | ⟨c30, H31⟩
      ·obtain ⟨l2, b32, H33⟩ := zbi H31
       obtain ⟨h34, h35⟩ := app_inv b32
       have h34 : fit.length + 1 ≤ 4294967296 := h34
       have h36 : List.map eGTuple fit ++ [[.v (.string x2.obj.type_), .v (.string x2.obj.id_), .v (.string x2.rel), .v (.string x2.sub_.type_), .v (.string x2.sub_.id_), .v (.string x2.sub_.rel)]] = List.map eGTuple l2 := app_map eGTuple h35
       have h37 : fit.length + 1 = l2.length := app_len h35
       have h38 : l2.length ≤ 4294967296 := by omega
       have q39 : 0 < l2.length := by omega
       refine Z1 (Y2 (Y6 c20 (zno .i64 h24) h26 c30 h34 h36) (Y2 h37 h38)) ?_
       rcases fit with _ | ⟨q0, q1⟩
       ·try simp only [List.map_nil, accI, accN]
        exact ⟨⟨((c, (l2, (IntKind.i64.wrap (t21 + 1)))), 0), H33⟩, ZR [(0, 12)], Nat.lt_succ_self _⟩
       ·try simp only [List.map_cons, accI, accN]
        exact ⟨⟨((c, (l2, (IntKind.i64.wrap (t21 + 1)))), (g + 1)), H33⟩, ZR [(0, 0)], Nat.lt_succ_self _⟩
      ·refine Z1 (Y4 c20 (zno .i64 h24) h26 c30) ?_
       exact ⟨⟨((c, (fit, (IntKind.i64.wrap (t21 + 1)))), g), H31⟩, ZR [(0, 0)], Nat.lt_succ_self _⟩
     ·refine Z1 c20 ?_
      obtain rfl := Zi H21
      exact ⟨⟨⟨fit, rfl⟩, g⟩, ZR [(0, 0)]⟩
  ·rintro ⟨⟨fit3, he48⟩, g3⟩
   obtain rfl := he48.symm
   try dsimp only at H6
   refine ZT 1 ?_
   obtain ⟨t35, b40, H41⟩ := zbi H6
   refine Z0 ?_
   refine ZA0 (look_Of_ok b40) ?_
   refine Z0 ?_
   rcases zit H41 with ⟨c42, H43⟩ | ⟨c42, H43⟩
   ·have e44 : fit3 = [] := List.eq_nil_of_length_eq_zero (of_decide_eq_true c42)
    subst e44
    simp only [List.map_nil, accV_nil, accO_nil]
    try simp only [accK, accB]
    refine Z0 ?_
    obtain rfl := Zi H43
    exact endX_ret (b := true) (v := .tu [.pt 6 0, .v (.int .i64 0)]) (by first | (simp -implicitDefEqProofs only [go_sem, Nat.reduceEqDiff, ↓reduceIte] <;> rfl) | rfl) (ToXR.tu (PW.cons (ToXV.one (ToX.place (by rfl) (PW.cons (ToX.one (b' := true) (is := []) rfl (fun _ => rfl)) (PW.cons (ToX.one (b' := false) (is := []) rfl (fun _ => rfl)) (PW.cons (ToX.one (b' := false) (is := []) rfl (fun _ => rfl)) PW.nil)))) rfl) (PW.cons (ToXV.one (ToX.one (b' := false) (is := []) rfl (fun _ => rfl)) rfl) PW.nil))) (by intro h; first | rfl | cases h)
   ·have q45 : 0 < fit3.length := by have := of_decide_eq_false c42; omega
    have h46 : ∀ i, accK i (List.map eGTuple fit3) = [i] := fun i => by cases hx : fit3 with | nil => (rw [hx] at q45; simp at q45) | cons a r => rfl
    have h47 : ∀ b, accB b (List.map eGTuple fit3) = b := fun b => by cases hx : fit3 with | nil => (rw [hx] at q45; simp at q45) | cons a r => rfl
    refine Z1 (Y6 c42 h46 h47 q45 (YV (f := eGTuple) q45) (YO (f := eGTuple) q45)) ?_
    obtain rfl := Zi H43
    exact endX_ret (b := true) (v := .tu [.pt 6 0, .v (.int .i64 0)]) (by first | (simp -implicitDefEqProofs only [go_sem, Nat.reduceEqDiff, ↓reduceIte] <;> rfl) | rfl) (ToXR.tu (PW.cons (ToXV.one (ToX.place (by rfl) (PW.cons (ToX.one (b' := true) (is := []) rfl (fun _ => rfl)) (PW.cons (ToX.one (b' := false) (is := []) rfl (fun _ => rfl)) (PW.cons (ToX.one (b' := false) (is := [0]) (by first | rfl | (simp -implicitDefEqProofs only [go_sem, reduceCtorEq, ↓reduceIte]; done) | (simp -implicitDefEqProofs only [go_sem, Bool.false_and, Int.reduceToNat, Int.reduceLT, Int.reduceLE, Int.reduceBEq, Int.reduceBNe, Nat.reduceLT, Nat.reduceBEq, Int.reduceEq, Nat.reduceEqDiff, Nat.reduceAdd, Nat.reduceSub, Nat.reduceMul, Nat.reduceLeDiff, reduceCtorEq, ↓reduceIte, eGType, eGTuple, eGRel, eGObj, eGSub, eGStep, eGRef, eWellSchema, eWellName, eLookIndex, eLookLeft, eLookRight, eSeekGraph, c42, h46, h47, q45, accV_pos (f := eGTuple) q45, accO_pos (f := eGTuple) q45]; rfl)) (fun _ => rfl)) PW.nil)))) rfl) (PW.cons (ToXV.one (ToX.one (b' := false) (is := []) rfl (fun _ => rfl)) rfl) PW.nil))) (by intro h; first | rfl | cases h)
def seek_Graph_Known (n : Nat) (g : SeekGraph) (typ : ByteArray) (rel : ByteArray) : Option Bool :=
 (well_Schema_Rel n g.schema typ rel).bind fun t16 =>
 some t16.2
theorem seek_Graph_Known_ok {n : Nat} {g : SeekGraph} {typ : ByteArray} {rel : ByteArray} {r : Bool} (H : seek_Graph_Known n g typ rel = some r) : PureOK Tryz.prog 10 [D.pt (eSeekGraph g) 0, D.v (.string typ), D.v (.string rel)] (D.v (.bool r)) true := by
 unfold seek_Graph_Known at H
 refine ZP tab_ok fol (rs := #[.tmp 6]) Tryz.func10 ?_
 refine ZT 1 ?_
 obtain ⟨t16, b1, H2⟩ := zbi H
 refine Z0 ?_
 refine ZC0 (well_Schema_Rel_ok b1) ?_
 refine Z0 ?_
 obtain rfl := Zi H2
 exact ZE0
def seek_Check (n : Nat) (l : List GType) (rows_ : List GTuple) (o : GObj) (rel : ByteArray) (s : GSub) : Option (Bool × Int) :=
 (seek_Of n l rows_).bind fun t17 =>
 (if (t17.2 != 0) then
  some (false, t17.2)
 else
  (if (s.rel.toList == ({ data := #[] } : ByteArray).toList) then
   (seek_Graph_Known n (⟨(⟨t17.1.schema.types, t17.1.schema.rels, t17.1.schema.ranks⟩ : WellSchema), (⟨(⟨t17.1.index.left.subs, t17.1.index.left.objs⟩ : LookLeft), (⟨t17.1.index.right.refs, t17.1.index.right.users⟩ : LookRight)⟩ : LookIndex), t17.1.rows_⟩ : SeekGraph) o.type_ rel).bind fun t33 =>
   (if t33 then
    (seek_Graph_Has n (⟨(⟨t17.1.schema.types, t17.1.schema.rels, t17.1.schema.ranks⟩ : WellSchema), (⟨(⟨t17.1.index.left.subs, t17.1.index.left.objs⟩ : LookLeft), (⟨t17.1.index.right.refs, t17.1.index.right.users⟩ : LookRight)⟩ : LookIndex), t17.1.rows_⟩ : SeekGraph) o rel s).bind fun t39 =>
    some (t39, 0)
   else
    some (false, 12))
  else
   some (false, 13)))
theorem seek_Check_ok {n : Nat} {l : List GType} {rows_ : List GTuple} {o : GObj} {rel : ByteArray} {s : GSub} {r : Bool × Int} (H : seek_Check n l rows_ o rel s = some r) : PureOK Tryz.prog 6 [D.sl (List.map eGType l), D.sl (List.map eGTuple rows_), D.ag (eGObj o), D.v (.string rel), D.ag (eGSub s)] (D.tu [D.v (.bool r.1), D.v (.int .i64 r.2)]) true := by
 unfold seek_Check at H
 refine ZP tab_ok fol (rs := #[.tmp 10, .tmp 11]) Tryz.func6 ?_
 refine ZT 1 ?_
 obtain ⟨t17, b1, H2⟩ := zbi H
 refine Z0 ?_
 refine ZA0 (seek_Of_ok b1) ?_
 refine Z0 ?_
 rcases zit H2 with ⟨c3, H4⟩ | ⟨c3, H4⟩
 ·refine Z1 c3 ?_
  obtain rfl := Zi H4
  exact ZE0
 ·refine Z1 c3 ?_
  rcases zit H4 with ⟨c5, H6⟩ | ⟨c5, H6⟩
  ·obtain ⟨t33, b7, H8⟩ := zbi H6
   refine Z1 (Y2 c3 c5) ?_
   refine ZC0 (seek_Graph_Known_ok b7) ?_
   refine Z1 (Y2 c3 c5) ?_
   rcases zit H8 with ⟨c9, H10⟩ | ⟨c9, H10⟩
   ·obtain ⟨t39, b11, H12⟩ := zbi H10
    refine Z1 (Y3 c3 c5 c9) ?_
    refine ZC0 (seek_Graph_Has_ok b11) ?_
    refine Z1 (Y3 c3 c5 c9) ?_
    obtain rfl := Zi H12
    exact ZE0
   ·refine Z1 (Y3 c3 c5 c9) ?_
    obtain rfl := Zi H10
    exact ZE0
  ·refine Z1 (Y2 c3 c5) ?_
   obtain rfl := Zi H6
   exact ZE0
def law9_SeekGroups_L1 (n : Nat) (t0 : List Int) : Nat → (List GTuple × List Bool × List Bool × Int) → Option (List GTuple × List Bool × List Bool)
 | 0, _ => none
 | c + 1, (t6, t72, t82, t10) =>
  (
   (if (decide (t10 < (t0.length : Int))) then
    some (decide (t10 < 20))
   else
    some false) : Option (Bool)).bind fun t302 =>
  (if t302 then
   (idx t0 t10).bind fun x2 =>
   (law9_SeekGroups_c1 n (IntKind.i64.wrap (an (sh x2 3) 7 : Int))).bind fun t472 =>
   (law9_SeekGroups_c1 n (IntKind.i64.wrap (an x2 7 : Int))).bind fun t512 =>
   (app t6 [(⟨(⟨{ data := #[103] }, t472⟩ : GObj), { data := #[109] }, (⟨{ data := #[103] }, t512, { data := #[109] }⟩ : GSub)⟩ : GTuple)]).bind fun l2 =>
   (aix 8 (IntKind.i64.wrap (an x2 7 : Int))).bind fun k4 =>
   (aix 8 (IntKind.i64.wrap (an (sh x2 3) 7 : Int))).bind fun k5 =>
   (bset t72 (k4 * 8 + k5) true).bind fun l3 =>
   law9_SeekGroups_L1 n t0 c (l2, l3, t82, (IntKind.i64.wrap (t10 + 1)))
  else
   some (t6, t72, t82))
def law9_SeekGroups_L4 (n : Nat) (t74 : List Bool) (t153 : Int) : Nat → (List Bool × Int) → Option (List Bool)
 | 0, _ => none
 | c + 1, (t819, t167) =>
  (if (decide (t167 < 8)) then
   (aix 8 t167).bind fun k13 =>
   (t819[k13]?).bind fun u18 =>
   (if u18 then
    (bset t819 k13 true).bind fun l25 =>
    law9_SeekGroups_L4 n t74 t153 c (l25, (IntKind.i64.wrap (t167 + 1)))
   else
    (aix 8 t153).bind fun k14 =>
    (t819[k14]?).bind fun u19 =>
    (if u19 then
     (t74[k14 * 8 + k13]?).bind fun u20 =>
     (bset t819 k13 u20).bind fun l26 =>
     law9_SeekGroups_L4 n t74 t153 c (l26, (IntKind.i64.wrap (t167 + 1)))
    else
     (bset t819 k13 false).bind fun l27 =>
     law9_SeekGroups_L4 n t74 t153 c (l27, (IntKind.i64.wrap (t167 + 1)))))
  else
   some t819)
def law9_SeekGroups_L3 (n : Nat) (t74 : List Bool) : Nat → (List Bool × Int) → Option (List Bool)
 | 0, _ => none
 | c + 1, (t818, t153) =>
  (if (decide (t153 < 8)) then
   (
    law9_SeekGroups_L4 n t74 t153 n (t818, 0) : Option (List Bool)).bind fun t821 =>
   law9_SeekGroups_L3 n t74 c (t821, (IntKind.i64.wrap (t153 + 1)))
  else
   some t818)
def law9_SeekGroups_L2 (n : Nat) (t74 : List Bool) : Nat → (List Bool × Int) → Option (List Bool)
 | 0, _ => none
 | c + 1, (t814, t14) =>
  (if (decide (t14 < 8)) then
   (
    law9_SeekGroups_L3 n t74 n (t814, 0) : Option (List Bool)).bind fun t823 =>
   law9_SeekGroups_L2 n t74 c (t823, (IntKind.i64.wrap (t14 + 1)))
  else
   some t814)
def law9_SeekGroups_L5 (n : Nat) (t22 : List GType) (l4 : List GTuple) (t825 : List Bool) : Nat → Int → Option ((Unit) ⊕ Bool)
 | 0, _ => none
 | c + 1, t17 =>
  (if (decide (t17 < 8)) then
   (law9_SeekGroups_c1 n t17).bind fun t1112 =>
   (seek_Check n t22 l4 (⟨{ data := #[103] }, t1112⟩ : GObj) ({ data := #[109] }) (⟨{ data := #[117] }, { data := #[120] }, ByteArray.empty⟩ : GSub)).bind fun t1142 =>
   (law9_SeekGroups_c1 n t17).bind fun t1222 =>
   (seek_Check n t22 l4 (⟨{ data := #[103] }, t1222⟩ : GObj) ({ data := #[109] }) (⟨{ data := #[117] }, { data := #[121] }, ByteArray.empty⟩ : GSub)).bind fun t1252 =>
   (if (t1142.2 != 0) then
    some (.inr false)
   else
    (if (t1252.2 != 0) then
     some (.inr false)
    else
     (aix 8 t17).bind fun k15 =>
     (t825[k15]?).bind fun u22 =>
     (if (t1142.1 == u22) then
      (if t1252.1 then
       some (.inr false)
      else
       law9_SeekGroups_L5 n t22 l4 t825 c (IntKind.i64.wrap (t17 + 1)))
     else
      some (.inr false))))
  else
   some (.inl ()))
def law9_SeekGroups (n : Nat) (t0 : List Int) (t1 : Int) : Option Bool :=
 (law8_Types n ({ data := #[116, 121, 112, 101, 32, 117, 32, 116, 121, 112, 101, 32, 103, 32, 123, 32, 109, 58, 32, 117, 32, 124, 32, 103, 35, 109, 59, 32, 125] })).bind fun t22 =>
 (
  law9_SeekGroups_L1 n t0 n ([], (List.replicate 64 false), (List.replicate 8 false), 0) : Option (List GTuple × List Bool × List Bool)).bind fun (t63, t74, t84) =>
 (law9_SeekGroups_c1 n (IntKind.i64.wrap (an t1 7 : Int))).bind fun t65 =>
 (app t63 [(⟨(⟨{ data := #[103] }, t65⟩ : GObj), { data := #[109] }, (⟨{ data := #[117] }, { data := #[120] }, ByteArray.empty⟩ : GSub)⟩ : GTuple)]).bind fun l4 =>
 (aix 8 (IntKind.i64.wrap (an t1 7 : Int))).bind fun k6 =>
 (bset t84 k6 true).bind fun l5 =>
 (
  law9_SeekGroups_L2 n t74 n (l5, 0) : Option (List Bool)).bind fun t825 =>
 (
  law9_SeekGroups_L5 n t22 l4 t825 n 0 : Option ((Unit) ⊕ Bool)).bind fun
  | .inl _ =>
   (law9_awake n).bind fun t144 =>
   some t144
  | .inr r => some r
set_option maxHeartbeats 8000000 in
theorem law9_SeekGroups_ok {n : Nat} {t0 : List Int} {t1 : Int} {r : Bool} (H : law9_SeekGroups n t0 t1 = some r) : PureOK Tryz.prog 3 [D.sl (List.map eI t0), D.v (.int .i64 t1)] (D.v (.bool r)) true := by
 unfold law9_SeekGroups at H
 refine ZP tab_ok fol (rs := #[.tmp 4]) Tryz.func3 ?_
 refine zsq (ZT 1 ?_)
 refine Z0 ?_
 refine zsq (ZT 1 ?_)
 obtain ⟨t22, b1, H2⟩ := zbi H
 refine Z0 ?_
 refine ZC0 (law8_Types_ok b1) ?_
 refine Z0 ?_
 refine zsq (ZT 1 ?_)
 refine Z0 ?_
 refine zsq (ZT 1 ?_)
 refine Z1 (show AO.bx [AV.v (.bool false), AV.v (.bool false), AV.v (.bool false), AV.v (.bool false), AV.v (.bool false), AV.v (.bool false), AV.v (.bool false), AV.v (.bool false), AV.v (.bool false), AV.v (.bool false), AV.v (.bool false), AV.v (.bool false), AV.v (.bool false), AV.v (.bool false), AV.v (.bool false), AV.v (.bool false), AV.v (.bool false), AV.v (.bool false), AV.v (.bool false), AV.v (.bool false), AV.v (.bool false), AV.v (.bool false), AV.v (.bool false), AV.v (.bool false), AV.v (.bool false), AV.v (.bool false), AV.v (.bool false), AV.v (.bool false), AV.v (.bool false), AV.v (.bool false), AV.v (.bool false), AV.v (.bool false), AV.v (.bool false), AV.v (.bool false), AV.v (.bool false), AV.v (.bool false), AV.v (.bool false), AV.v (.bool false), AV.v (.bool false), AV.v (.bool false), AV.v (.bool false), AV.v (.bool false), AV.v (.bool false), AV.v (.bool false), AV.v (.bool false), AV.v (.bool false), AV.v (.bool false), AV.v (.bool false), AV.v (.bool false), AV.v (.bool false), AV.v (.bool false), AV.v (.bool false), AV.v (.bool false), AV.v (.bool false), AV.v (.bool false), AV.v (.bool false), AV.v (.bool false), AV.v (.bool false), AV.v (.bool false), AV.v (.bool false), AV.v (.bool false), AV.v (.bool false), AV.v (.bool false), AV.v (.bool false)] = AO.bx (boxL Value.bool (List.replicate 64 false)) from rfl) ?_
 refine zsq (ZT 1 ?_)
 refine Z1 (Y2 (show AO.bx [AV.v (.bool false), AV.v (.bool false), AV.v (.bool false), AV.v (.bool false), AV.v (.bool false), AV.v (.bool false), AV.v (.bool false), AV.v (.bool false), AV.v (.bool false), AV.v (.bool false), AV.v (.bool false), AV.v (.bool false), AV.v (.bool false), AV.v (.bool false), AV.v (.bool false), AV.v (.bool false), AV.v (.bool false), AV.v (.bool false), AV.v (.bool false), AV.v (.bool false), AV.v (.bool false), AV.v (.bool false), AV.v (.bool false), AV.v (.bool false), AV.v (.bool false), AV.v (.bool false), AV.v (.bool false), AV.v (.bool false), AV.v (.bool false), AV.v (.bool false), AV.v (.bool false), AV.v (.bool false), AV.v (.bool false), AV.v (.bool false), AV.v (.bool false), AV.v (.bool false), AV.v (.bool false), AV.v (.bool false), AV.v (.bool false), AV.v (.bool false), AV.v (.bool false), AV.v (.bool false), AV.v (.bool false), AV.v (.bool false), AV.v (.bool false), AV.v (.bool false), AV.v (.bool false), AV.v (.bool false), AV.v (.bool false), AV.v (.bool false), AV.v (.bool false), AV.v (.bool false), AV.v (.bool false), AV.v (.bool false), AV.v (.bool false), AV.v (.bool false), AV.v (.bool false), AV.v (.bool false), AV.v (.bool false), AV.v (.bool false), AV.v (.bool false), AV.v (.bool false), AV.v (.bool false), AV.v (.bool false)] = AO.bx (boxL Value.bool (List.replicate 64 false)) from rfl) (show AO.bx [AV.v (.bool false), AV.v (.bool false), AV.v (.bool false), AV.v (.bool false), AV.v (.bool false), AV.v (.bool false), AV.v (.bool false), AV.v (.bool false)] = AO.bx (boxL Value.bool (List.replicate 8 false)) from rfl)) ?_
 refine zsq (ZT 1 ?_)
 refine Z1 (Y2 (show AO.bx [AV.v (.bool false), AV.v (.bool false), AV.v (.bool false), AV.v (.bool false), AV.v (.bool false), AV.v (.bool false), AV.v (.bool false), AV.v (.bool false), AV.v (.bool false), AV.v (.bool false), AV.v (.bool false), AV.v (.bool false), AV.v (.bool false), AV.v (.bool false), AV.v (.bool false), AV.v (.bool false), AV.v (.bool false), AV.v (.bool false), AV.v (.bool false), AV.v (.bool false), AV.v (.bool false), AV.v (.bool false), AV.v (.bool false), AV.v (.bool false), AV.v (.bool false), AV.v (.bool false), AV.v (.bool false), AV.v (.bool false), AV.v (.bool false), AV.v (.bool false), AV.v (.bool false), AV.v (.bool false), AV.v (.bool false), AV.v (.bool false), AV.v (.bool false), AV.v (.bool false), AV.v (.bool false), AV.v (.bool false), AV.v (.bool false), AV.v (.bool false), AV.v (.bool false), AV.v (.bool false), AV.v (.bool false), AV.v (.bool false), AV.v (.bool false), AV.v (.bool false), AV.v (.bool false), AV.v (.bool false), AV.v (.bool false), AV.v (.bool false), AV.v (.bool false), AV.v (.bool false), AV.v (.bool false), AV.v (.bool false), AV.v (.bool false), AV.v (.bool false), AV.v (.bool false), AV.v (.bool false), AV.v (.bool false), AV.v (.bool false), AV.v (.bool false), AV.v (.bool false), AV.v (.bool false), AV.v (.bool false)] = AO.bx (boxL Value.bool (List.replicate 64 false)) from rfl) (show AO.bx [AV.v (.bool false), AV.v (.bool false), AV.v (.bool false), AV.v (.bool false), AV.v (.bool false), AV.v (.bool false), AV.v (.bool false), AV.v (.bool false)] = AO.bx (boxL Value.bool (List.replicate 8 false)) from rfl)) ?_
 refine zsq (zsq ?_)
 refine ZT 1 ?_
 refine Z1 (Y2 (show AO.bx [AV.v (.bool false), AV.v (.bool false), AV.v (.bool false), AV.v (.bool false), AV.v (.bool false), AV.v (.bool false), AV.v (.bool false), AV.v (.bool false), AV.v (.bool false), AV.v (.bool false), AV.v (.bool false), AV.v (.bool false), AV.v (.bool false), AV.v (.bool false), AV.v (.bool false), AV.v (.bool false), AV.v (.bool false), AV.v (.bool false), AV.v (.bool false), AV.v (.bool false), AV.v (.bool false), AV.v (.bool false), AV.v (.bool false), AV.v (.bool false), AV.v (.bool false), AV.v (.bool false), AV.v (.bool false), AV.v (.bool false), AV.v (.bool false), AV.v (.bool false), AV.v (.bool false), AV.v (.bool false), AV.v (.bool false), AV.v (.bool false), AV.v (.bool false), AV.v (.bool false), AV.v (.bool false), AV.v (.bool false), AV.v (.bool false), AV.v (.bool false), AV.v (.bool false), AV.v (.bool false), AV.v (.bool false), AV.v (.bool false), AV.v (.bool false), AV.v (.bool false), AV.v (.bool false), AV.v (.bool false), AV.v (.bool false), AV.v (.bool false), AV.v (.bool false), AV.v (.bool false), AV.v (.bool false), AV.v (.bool false), AV.v (.bool false), AV.v (.bool false), AV.v (.bool false), AV.v (.bool false), AV.v (.bool false), AV.v (.bool false), AV.v (.bool false), AV.v (.bool false), AV.v (.bool false), AV.v (.bool false)] = AO.bx (boxL Value.bool (List.replicate 64 false)) from rfl) (show AO.bx [AV.v (.bool false), AV.v (.bool false), AV.v (.bool false), AV.v (.bool false), AV.v (.bool false), AV.v (.bool false), AV.v (.bool false), AV.v (.bool false)] = AO.bx (boxL Value.bool (List.replicate 8 false)) from rfl)) ?_
 obtain ⟨e_, E3, H4⟩ := zbi H2
 refine zjn (α := { y : List GTuple × List Bool × List Bool // e_ = y } × Nat) (fun | ⟨⟨⟨t63, t74, t84⟩, _⟩, g4⟩ => ⟨upd 1 (.v (.int .i64 t1)) (upd 5 (.d (.sl (List.map eGType t22)) false) (upd 6 (accV 0 g4 (List.map eGTuple t63)) (upd 7 (.pt 1 0) (upd 8 (.pt 2 0) (upd 9 (.fn 5 []) noFr))))), upd 0 (accO 6 g4 false (List.map eGTuple t63)) (upd 1 (some (.bx (boxL Value.bool t74))) (upd 2 (some (.bx (boxL Value.bool t84))) noHp)), 3⟩) ?_ ?_
 ·refine zbk ?_
  refine zlp (α := { q : (Nat × (List GTuple × List Bool × List Bool × Int)) × Nat // law9_SeekGroups_L1 n t0 q.1.1 q.1.2 = some e_ }) (fun | ⟨⟨⟨c, ⟨t6, t72, t82, t10⟩⟩, g⟩, _⟩ => ⟨upd 0 (.d (.sl (List.map eI t0)) true) (upd 1 (.v (.int .i64 t1)) (upd 5 (.d (.sl (List.map eGType t22)) false) (upd 6 (accV 0 g (List.map eGTuple t6)) (upd 7 (.pt 1 0) (upd 8 (.pt 2 0) (upd 9 (.fn 5 []) (upd 10 (.v (.int .i64 t10)) noFr))))))), upd 0 (accO 6 g false (List.map eGTuple t6)) (upd 1 (some (.bx (boxL Value.bool t72))) (upd 2 (some (.bx (boxL Value.bool t82))) noHp)), 3⟩) (fun q => q.1.1.1) ⟨((n, ([], (List.replicate 64 false), (List.replicate 8 false), 0)), 0), E3⟩ ?_ ?_
  ·exact ren_mk [(1, 4), (2, 5)] (by rfl) (rf_upd (by rfl) (rf_upd (by rfl) (rf_upd (by rfl) (rf_upd (by rfl) (rf_upd (by rfl) (rf_upd (by rfl) (rf_upd (by rfl) (rf_upd (by rfl) (rf_no _))))))))) (rh_upd rh_accN (rh_upd (rh_one (by rfl) (renO_boxL _) (by rfl)) (rh_upd (rh_one (by rfl) (renO_boxL _) (by rfl)) (rh_no _))))
  ·rintro ⟨⟨⟨c, ⟨t6, t72, t82, t10⟩⟩, g⟩, L5⟩
   rcases c with _ | c
   ·exact Zx L5
   ·unfold law9_SeekGroups_L1 at L5
    try dsimp only at L5
    refine zsq (zsq ?_)
    obtain ⟨e_3, E37, H38⟩ := zbi L5
    refine zjn (α := { y : Bool // e_3 = y } × Nat) (fun | ⟨⟨t302, _⟩, g2⟩ => ⟨upd 0 (.d (.sl (List.map eI t0)) true) (upd 1 (.v (.int .i64 t1)) (upd 5 (.d (.sl (List.map eGType t22)) false) (upd 6 (accV 0 g2 (List.map eGTuple t6)) (upd 7 (.pt 1 0) (upd 8 (.pt 2 0) (upd 9 (.fn 5 []) (upd 10 (.v (.int .i64 t10)) (upd 30 (.v (.bool t302)) noFr)))))))), upd 0 (accO 6 g2 false (List.map eGTuple t6)) (upd 1 (some (.bx (boxL Value.bool t72))) (upd 2 (some (.bx (boxL Value.bool t82))) noHp)), 3⟩) ?_ ?_
    ·refine ZT 1 ?_
     refine Z0 ?_
     rcases zit E37 with ⟨c39, H40⟩ | ⟨c39, H40⟩
     ·refine Z1 c39 ?_
      obtain rfl := Zi H40
      exact ⟨⟨⟨(decide (t10 < 20)), rfl⟩, g⟩, ren_mk [(0, 0), (1, 1), (2, 2)] (by rfl) (rf_upd (by rfl) (rf_upd (by rfl) (rf_upd (by rfl) (rf_upd (ren_acc (by rfl)) (rf_upd (by rfl) (rf_upd (by rfl) (rf_upd (by rfl) (rf_upd (by rfl) (rf_upd (by rfl) (rf_no _)))))))))) (rh_upd (rh_acc (by rfl) (by rfl)) (rh_upd (rh_one (by rfl) (renO_boxL _) (by rfl)) (rh_upd (rh_one (by rfl) (renO_boxL _) (by rfl)) (rh_no _))))⟩
     ·refine Z1 c39 ?_
      obtain rfl := Zi H40
      exact ⟨⟨⟨false, rfl⟩, g⟩, ren_mk [(0, 0), (1, 1), (2, 2)] (by rfl) (rf_upd (by rfl) (rf_upd (by rfl) (rf_upd (by rfl) (rf_upd (ren_acc (by rfl)) (rf_upd (by rfl) (rf_upd (by rfl) (rf_upd (by rfl) (rf_upd (by rfl) (rf_upd (by rfl) (rf_no _)))))))))) (rh_upd (rh_acc (by rfl) (by rfl)) (rh_upd (rh_one (by rfl) (renO_boxL _) (by rfl)) (rh_upd (rh_one (by rfl) (renO_boxL _) (by rfl)) (rh_no _))))⟩
    ·rintro ⟨⟨t302, he75⟩, g2⟩
     obtain rfl := he75.symm
     try dsimp only at H38
     refine ZT 2 ?_
     refine Z0 ?_
     rcases zit H38 with ⟨c41, H42⟩ | ⟨c41, H42⟩
     ·obtain ⟨x2, b43, H44⟩ := zbi H42
      obtain ⟨h45, h46⟩ := zix b43
      try simp only [Int.reduceToNat, Int.toNat_natCast] at h46
      have h47 := map_at eI h46
      refine Z1 (Y3 c41 (zno .i64 h45) h47) ?_
      refine Rd_endF (by rfl) ?_
      obtain ⟨t472, b49, H50⟩ := zbi H44
      refine Z1 (Y3 c41 (zno .i64 h45) h47) ?_
      refine ZC0 (law9_SeekGroups_c1_ok b49) ?_
      obtain ⟨t512, b51, H52⟩ := zbi H50
      refine Z1 (Y3 c41 (zno .i64 h45) h47) ?_
      refine ZC0 (law9_SeekGroups_c1_ok b51) ?_
      obtain ⟨l2, b53, H54⟩ := zbi H52
      obtain ⟨h55, h56⟩ := app_inv b53
      have h55 : t6.length + 1 ≤ 4294967296 := h55
      have h57 : List.map eGTuple t6 ++ [[.v (.string { data := #[103] }), .v (.string t472), .v (.string { data := #[109] }), .v (.string { data := #[103] }), .v (.string t512), .v (.string { data := #[109] })]] = List.map eGTuple l2 := app_map eGTuple h56
      have h58 : t6.length + 1 = l2.length := app_len h56
      have h59 : l2.length ≤ 4294967296 := by omega
      have q60 : 0 < l2.length := by omega
      obtain ⟨k4, b61, H62⟩ := zbi H54
      obtain ⟨h63, h64, h65⟩ := aix_inv b61
      obtain ⟨k5, b66, H67⟩ := zbi H62
      obtain ⟨h68, h69, h70⟩ := aix_inv b66
      obtain ⟨l3, b71, H72⟩ := zbi H67
      obtain ⟨h73, h74⟩ := bset_inv b71
      refine Z1 (Y3 (Y6 c41 (zno .i64 h45) h47 h55 h57 h58) (Y6 h59 (zno .i64 h63) h64 h65 (zno .i64 h68) h69) (Y3 h70 (boxL_len (f := Value.bool) h73) (boxL_put (f := Value.bool) h73 h74))) ?_
      rcases t6 with _ | ⟨q0, q1⟩
      ·try simp only [List.map_nil, accI, accN]
       exact ⟨⟨((c, (l2, l3, t82, (IntKind.i64.wrap (t10 + 1)))), 0), H72⟩, ren_mk [(0, 27), (1, 1), (2, 2)] (by rfl) (rf_upd (by rfl) (rf_upd (by rfl) (rf_upd (by rfl) (rf_upd (by first | exact ren_accP (by rfl) q60 | rfl) (rf_upd (by rfl) (rf_upd (by rfl) (rf_upd (by rfl) (rf_upd (by rfl) (rf_no _))))))))) (rh_upd (by first | exact rh_accP (by rfl) q60 (by rfl) | exact rh_one (by rfl) (by rfl) (by rfl)) (rh_upd (rh_one (by rfl) (renO_boxL _) (by rfl)) (rh_upd (rh_one (by rfl) (renO_boxL _) (by rfl)) (rh_no _)))), Nat.lt_succ_self _⟩
      ·try simp only [List.map_cons, accI, accN]
       exact ⟨⟨((c, (l2, l3, t82, (IntKind.i64.wrap (t10 + 1)))), (g2 + 1)), H72⟩, ren_mk [(0, 0), (1, 1), (2, 2)] (by rfl) (rf_upd (by rfl) (rf_upd (by rfl) (rf_upd (by rfl) (rf_upd (by first | exact ren_accP (by rfl) q60 | rfl) (rf_upd (by rfl) (rf_upd (by rfl) (rf_upd (by rfl) (rf_upd (by rfl) (rf_no _))))))))) (rh_upd (by first | exact rh_accP (by rfl) q60 (by rfl) | exact rh_one (by rfl) (by rfl) (by rfl)) (rh_upd (rh_one (by rfl) (renO_boxL _) (by rfl)) (rh_upd (rh_one (by rfl) (renO_boxL _) (by rfl)) (rh_no _)))), Nat.lt_succ_self _⟩
     ·refine Z1 c41 ?_
      obtain rfl := Zi H42
      exact ⟨⟨⟨(t6, t72, t82), rfl⟩, g2⟩, ren_mk [(0, 0), (1, 1), (2, 2)] (by rfl) (rf_upd (by rfl) (rf_upd (by rfl) (rf_upd (ren_acc (by rfl)) (rf_upd (by rfl) (rf_upd (by rfl) (rf_upd (by rfl) (rf_no _))))))) (rh_upd (rh_acc (by rfl) (by rfl)) (rh_upd (rh_one (by rfl) (renO_boxL _) (by rfl)) (rh_upd (rh_one (by rfl) (renO_boxL _) (by rfl)) (rh_no _))))⟩
 ·rintro ⟨⟨⟨t63, t74, t84⟩, he382⟩, g4⟩
  obtain rfl := he382.symm
  try dsimp only at H4
  refine zsq (ZT 1 ?_)
  refine Z0 ?_
  refine zsq (ZT 1 ?_)
  obtain ⟨t65, b76, H77⟩ := zbi H4
  refine Z0 ?_
  refine ZC0 (law9_SeekGroups_c1_ok b76) ?_
  obtain ⟨l4, b78, H79⟩ := zbi H77
  obtain ⟨h80, h81⟩ := app_inv b78
  have h80 : t63.length + 1 ≤ 4294967296 := h80
  have h82 : List.map eGTuple t63 ++ [[.v (.string { data := #[103] }), .v (.string t65), .v (.string { data := #[109] }), .v (.string { data := #[117] }), .v (.string { data := #[120] }), .v (.string ByteArray.empty)]] = List.map eGTuple l4 := app_map eGTuple h81
  have h83 : t63.length + 1 = l4.length := app_len h81
  have h84 : l4.length ≤ 4294967296 := by omega
  have q85 : 0 < l4.length := by omega
  refine Z1 (Y4 h80 h82 h83 h84) ?_
  refine zsq (ZT 1 ?_)
  obtain ⟨k6, b86, H87⟩ := zbi H79
  obtain ⟨h88, h89, h90⟩ := aix_inv b86
  obtain ⟨l5, b91, H92⟩ := zbi H87
  obtain ⟨h93, h94⟩ := bset_inv b91
  refine Z1 (Y2 (Y6 h80 h82 h83 h84 (zno .i64 h88) h89) (Y3 h90 (boxL_len (f := Value.bool) h93) (boxL_put (f := Value.bool) h93 h94))) ?_
  refine zsq (zsq ?_)
  refine ZT 1 ?_
  refine Z1 (Y2 (Y6 h80 h82 h83 h84 (zno .i64 h88) h89) (Y3 h90 (boxL_len (f := Value.bool) h93) (boxL_put (f := Value.bool) h93 h94))) ?_
  obtain ⟨e_4, E95, H96⟩ := zbi H92
  refine zjn (α := { y : List Bool // e_4 = y }) (fun | ⟨t825, _⟩ => ⟨upd 5 (.d (.sl (List.map eGType t22)) false) (upd 6 (.so 0 ((accN g4 (List.map eGTuple t63))) 0 (l4.length)) (upd 8 (.pt 1 0) (upd 9 (.fn 5 []) noFr))), upd 0 (some (.rw (List.map eGTuple l4) 6 (accN g4 (List.map eGTuple t63)) false false)) (upd 1 (some (.bx (boxL Value.bool t825))) noHp), 2⟩) ?_ ?_
  ·refine zbk ?_
   refine zlp (α := { q : Nat × (List Bool × Int) // law9_SeekGroups_L2 n t74 q.1 q.2 = some e_4 }) (fun | ⟨⟨c, ⟨t814, t14⟩⟩, _⟩ => ⟨upd 5 (.d (.sl (List.map eGType t22)) false) (upd 6 (.so 0 ((accN g4 (List.map eGTuple t63))) 0 (l4.length)) (upd 7 (.pt 1 0) (upd 8 (.pt 2 0) (upd 9 (.fn 5 []) (upd 14 (.v (.int .i64 t14)) noFr))))), upd 0 (some (.rw (List.map eGTuple l4) 6 (accN g4 (List.map eGTuple t63)) false false)) (upd 1 (some (.bx (boxL Value.bool t74))) (upd 2 (some (.bx (boxL Value.bool t814))) noHp)), 3⟩) (fun q => q.1.1) ⟨(n, (l5, 0)), E95⟩ ?_ ?_
   ·rcases t63 with _ | ⟨q0, q1⟩
    ·try simp only [List.map_nil, accI, accN]
     exact ren_mk [(0, 14), (1, 1), (2, 2)] (by rfl) (rf_upd (by rfl) (rf_upd (by rfl) (rf_upd (by rfl) (rf_upd (by rfl) (rf_upd (by rfl) (rf_upd (by rfl) (rf_no _))))))) (rh_upd (rh_one (by rfl) (by rfl) (by rfl)) (rh_upd (rh_one (by rfl) (renO_boxL _) (by rfl)) (rh_upd (rh_one (by rfl) (renO_boxL _) (by rfl)) (rh_no _))))
    ·try simp only [List.map_cons, accI, accN]
     exact ren_mk [(0, 0), (1, 1), (2, 2)] (by rfl) (rf_upd (by rfl) (rf_upd (by rfl) (rf_upd (by rfl) (rf_upd (by rfl) (rf_upd (by rfl) (rf_upd (by rfl) (rf_no _))))))) (rh_upd (rh_one (by rfl) (by rfl) (by rfl)) (rh_upd (rh_one (by rfl) (renO_boxL _) (by rfl)) (rh_upd (rh_one (by rfl) (renO_boxL _) (by rfl)) (rh_no _))))
   ·rintro ⟨⟨c, ⟨t814, t14⟩⟩, L97⟩
    rcases c with _ | c
    ·exact Zx L97
    ·unfold law9_SeekGroups_L2 at L97
     try dsimp only at L97
     refine zsq (ZT 1 ?_)
     refine Z0 ?_
     rcases zit L97 with ⟨c214, H215⟩ | ⟨c214, H215⟩
     ·refine Z1 c214 ?_
      refine zsq (zbk ?_)
      refine zsq (ZT 1 ?_)
      refine Z1 c214 ?_
      obtain ⟨e_8, E216, H217⟩ := zbi H215
      refine zjn (α := { y : List Bool // e_8 = y }) (fun | ⟨t823, _⟩ => ⟨upd 5 (.d (.sl (List.map eGType t22)) false) (upd 6 (.so 0 ((accN g4 (List.map eGTuple t63))) 0 (l4.length)) (upd 7 (.pt 1 0) (upd 8 (.pt 2 0) (upd 9 (.fn 5 []) (upd 14 (.v (.int .i64 t14)) noFr))))), upd 0 (some (.rw (List.map eGTuple l4) 6 (accN g4 (List.map eGTuple t63)) false false)) (upd 1 (some (.bx (boxL Value.bool t74))) (upd 2 (some (.bx (boxL Value.bool t823))) noHp)), 3⟩) ?_ ?_
      ·refine zbk ?_
       refine zlp (α := { q : Nat × (List Bool × Int) // law9_SeekGroups_L3 n t74 q.1 q.2 = some e_8 }) (fun | ⟨⟨c, ⟨t818, t153⟩⟩, _⟩ => ⟨upd 5 (.d (.sl (List.map eGType t22)) false) (upd 6 (.so 0 ((accN g4 (List.map eGTuple t63))) 0 (l4.length)) (upd 7 (.pt 1 0) (upd 8 (.pt 2 0) (upd 9 (.fn 5 []) (upd 14 (.v (.int .i64 t14)) (upd 15 (.v (.int .i64 t153)) noFr)))))), upd 0 (some (.rw (List.map eGTuple l4) 6 (accN g4 (List.map eGTuple t63)) false false)) (upd 1 (some (.bx (boxL Value.bool t74))) (upd 2 (some (.bx (boxL Value.bool t818))) noHp)), 3⟩) (fun q => q.1.1) ⟨(n, (t814, 0)), E216⟩ ?_ ?_
       ·exact ren_mk [(0, 0), (1, 1), (2, 2)] (by rfl) (rf_upd (by rfl) (rf_upd (by rfl) (rf_upd (by rfl) (rf_upd (by rfl) (rf_upd (by rfl) (rf_upd (by rfl) (rf_upd (by rfl) (rf_no _)))))))) (rh_upd (rh_one (by rfl) (by rfl) (by rfl)) (rh_upd (rh_one (by rfl) (renO_boxL _) (by rfl)) (rh_upd (rh_one (by rfl) (renO_boxL _) (by rfl)) (rh_no _))))
       ·rintro ⟨⟨c, ⟨t818, t153⟩⟩, L218⟩
        rcases c with _ | c
        ·exact Zx L218
        ·unfold law9_SeekGroups_L3 at L218
         try dsimp only at L218
         refine zsq (ZT 1 ?_)
         refine Z0 ?_
         rcases zit L218 with ⟨c264, H265⟩ | ⟨c264, H265⟩
         ·refine Z1 c264 ?_
          refine zsq (zbk ?_)
          refine zsq (ZT 1 ?_)
          refine Z1 c264 ?_
          obtain ⟨e_10, E266, H267⟩ := zbi H265
          refine zjn (α := { y : List Bool // e_10 = y }) (fun | ⟨t821, _⟩ => ⟨upd 5 (.d (.sl (List.map eGType t22)) false) (upd 6 (.so 0 ((accN g4 (List.map eGTuple t63))) 0 (l4.length)) (upd 7 (.pt 1 0) (upd 8 (.pt 2 0) (upd 9 (.fn 5 []) (upd 14 (.v (.int .i64 t14)) (upd 15 (.v (.int .i64 t153)) noFr)))))), upd 0 (some (.rw (List.map eGTuple l4) 6 (accN g4 (List.map eGTuple t63)) false false)) (upd 1 (some (.bx (boxL Value.bool t74))) (upd 2 (some (.bx (boxL Value.bool t821))) noHp)), 3⟩) ?_ ?_
          ·refine zbk ?_
           refine zlp (α := { q : Nat × (List Bool × Int) // law9_SeekGroups_L4 n t74 t153 q.1 q.2 = some e_10 }) (fun | ⟨⟨c, ⟨t819, t167⟩⟩, _⟩ => ⟨upd 5 (.d (.sl (List.map eGType t22)) false) (upd 6 (.so 0 ((accN g4 (List.map eGTuple t63))) 0 (l4.length)) (upd 7 (.pt 1 0) (upd 8 (.pt 2 0) (upd 9 (.fn 5 []) (upd 14 (.v (.int .i64 t14)) (upd 15 (.v (.int .i64 t153)) (upd 16 (.v (.int .i64 t167)) noFr))))))), upd 0 (some (.rw (List.map eGTuple l4) 6 (accN g4 (List.map eGTuple t63)) false false)) (upd 1 (some (.bx (boxL Value.bool t74))) (upd 2 (some (.bx (boxL Value.bool t819))) noHp)), 3⟩) (fun q => q.1.1) ⟨(n, (t818, 0)), E266⟩ ?_ ?_
           ·exact ren_mk [(0, 0), (1, 1), (2, 2)] (by rfl) (rf_upd (by rfl) (rf_upd (by rfl) (rf_upd (by rfl) (rf_upd (by rfl) (rf_upd (by rfl) (rf_upd (by rfl) (rf_upd (by rfl) (rf_upd (by rfl) (rf_no _))))))))) (rh_upd (rh_one (by rfl) (by rfl) (by rfl)) (rh_upd (rh_one (by rfl) (renO_boxL _) (by rfl)) (rh_upd (rh_one (by rfl) (renO_boxL _) (by rfl)) (rh_no _))))
           ·rintro ⟨⟨c, ⟨t819, t167⟩⟩, L268⟩
            rcases c with _ | c
            ·exact Zx L268
            ·unfold law9_SeekGroups_L4 at L268
             try dsimp only at L268
             refine ZT 1 ?_
             refine Z0 ?_
             rcases zit L268 with ⟨c296, H297⟩ | ⟨c296, H297⟩
             ·obtain ⟨k13, b298, H299⟩ := zbi H297
              obtain ⟨h300, h301, h302⟩ := aix_inv b298
              obtain ⟨u18, b303, H304⟩ := zbi H299
              refine Z1 (Y5 c296 (zno .i64 h300) h301 h302 (boxL_at (f := Value.bool) b303)) ?_
              rcases zit H304 with ⟨c305, H306⟩ | ⟨c305, H306⟩
              ·obtain ⟨l25, b307, H308⟩ := zbi H306
               obtain ⟨h309, h310⟩ := bset_inv b307
               refine Z1 (Y2 (Y6 c296 (zno .i64 h300) h301 h302 (boxL_at (f := Value.bool) b303) c305) (Y2 (boxL_len (f := Value.bool) h309) (boxL_put (f := Value.bool) h309 h310))) ?_
               exact ⟨⟨(c, (l25, (IntKind.i64.wrap (t167 + 1)))), H308⟩, ren_mk [(0, 0), (1, 1), (2, 2)] (by rfl) (rf_upd (by rfl) (rf_upd (by rfl) (rf_upd (by rfl) (rf_upd (by rfl) (rf_upd (by rfl) (rf_upd (by rfl) (rf_upd (by rfl) (rf_upd (by rfl) (rf_no _))))))))) (rh_upd (rh_one (by rfl) (by rfl) (by rfl)) (rh_upd (rh_one (by rfl) (renO_boxL _) (by rfl)) (rh_upd (rh_one (by rfl) (renO_boxL _) (by rfl)) (rh_no _)))), Nat.lt_succ_self _⟩
              ·obtain ⟨k14, b311, H312⟩ := zbi H306
               obtain ⟨h313, h314, h315⟩ := aix_inv b311
               obtain ⟨u19, b316, H317⟩ := zbi H312
               refine Z1 (Y2 (Y6 c296 (zno .i64 h300) h301 h302 (boxL_at (f := Value.bool) b303) c305) (Y4 (zno .i64 h313) h314 h315 (boxL_at (f := Value.bool) b316))) ?_
               rcases zit H317 with ⟨c318, H319⟩ | ⟨c318, H319⟩
               ·obtain ⟨u20, b320, H321⟩ := zbi H319
                obtain ⟨l26, b322, H323⟩ := zbi H321
                obtain ⟨h324, h325⟩ := bset_inv b322
                refine Z1 (Y3 (Y6 c296 (zno .i64 h300) h301 h302 (boxL_at (f := Value.bool) b303) c305) (Y6 (zno .i64 h313) h314 h315 (boxL_at (f := Value.bool) b316) c318 (boxL_at (f := Value.bool) b320)) (Y2 (boxL_len (f := Value.bool) h324) (boxL_put (f := Value.bool) h324 h325))) ?_
                exact ⟨⟨(c, (l26, (IntKind.i64.wrap (t167 + 1)))), H323⟩, ren_mk [(0, 0), (1, 1), (2, 2)] (by rfl) (rf_upd (by rfl) (rf_upd (by rfl) (rf_upd (by rfl) (rf_upd (by rfl) (rf_upd (by rfl) (rf_upd (by rfl) (rf_upd (by rfl) (rf_upd (by rfl) (rf_no _))))))))) (rh_upd (rh_one (by rfl) (by rfl) (by rfl)) (rh_upd (rh_one (by rfl) (renO_boxL _) (by rfl)) (rh_upd (rh_one (by rfl) (renO_boxL _) (by rfl)) (rh_no _)))), Nat.lt_succ_self _⟩
               ·obtain ⟨l27, b326, H327⟩ := zbi H319
                obtain ⟨h328, h329⟩ := bset_inv b326
                refine Z1 (Y3 (Y6 c296 (zno .i64 h300) h301 h302 (boxL_at (f := Value.bool) b303) c305) (Y6 (zno .i64 h313) h314 h315 (boxL_at (f := Value.bool) b316) c318 (boxL_len (f := Value.bool) h328)) (boxL_put (f := Value.bool) h328 h329)) ?_
                exact ⟨⟨(c, (l27, (IntKind.i64.wrap (t167 + 1)))), H327⟩, ren_mk [(0, 0), (1, 1), (2, 2)] (by rfl) (rf_upd (by rfl) (rf_upd (by rfl) (rf_upd (by rfl) (rf_upd (by rfl) (rf_upd (by rfl) (rf_upd (by rfl) (rf_upd (by rfl) (rf_upd (by rfl) (rf_no _))))))))) (rh_upd (rh_one (by rfl) (by rfl) (by rfl)) (rh_upd (rh_one (by rfl) (renO_boxL _) (by rfl)) (rh_upd (rh_one (by rfl) (renO_boxL _) (by rfl)) (rh_no _)))), Nat.lt_succ_self _⟩
             ·refine Z1 c296 ?_
              obtain rfl := Zi H297
              exact ⟨⟨t819, rfl⟩, ren_mk [(0, 0), (1, 1), (2, 2)] (by rfl) (rf_upd (by rfl) (rf_upd (by rfl) (rf_upd (by rfl) (rf_upd (by rfl) (rf_upd (by rfl) (rf_upd (by rfl) (rf_upd (by rfl) (rf_no _)))))))) (rh_upd (rh_one (by rfl) (by rfl) (by rfl)) (rh_upd (rh_one (by rfl) (renO_boxL _) (by rfl)) (rh_upd (rh_one (by rfl) (renO_boxL _) (by rfl)) (rh_no _))))⟩
          ·rintro ⟨t821, he330⟩
           obtain rfl := he330.symm
           try dsimp only at H267
           refine Z0 ?_
           refine ZT 1 ?_
           refine Z0 ?_
           exact ⟨⟨(c, (t821, (IntKind.i64.wrap (t153 + 1)))), H267⟩, ren_mk [(0, 0), (1, 1), (2, 2)] (by rfl) (rf_upd (by rfl) (rf_upd (by rfl) (rf_upd (by rfl) (rf_upd (by rfl) (rf_upd (by rfl) (rf_upd (by rfl) (rf_upd (by rfl) (rf_no _)))))))) (rh_upd (rh_one (by rfl) (by rfl) (by rfl)) (rh_upd (rh_one (by rfl) (renO_boxL _) (by rfl)) (rh_upd (rh_one (by rfl) (renO_boxL _) (by rfl)) (rh_no _)))), Nat.lt_succ_self _⟩
         ·refine Z1 c264 ?_
          obtain rfl := Zi H265
          exact ⟨⟨t818, rfl⟩, ren_mk [(0, 0), (1, 1), (2, 2)] (by rfl) (rf_upd (by rfl) (rf_upd (by rfl) (rf_upd (by rfl) (rf_upd (by rfl) (rf_upd (by rfl) (rf_upd (by rfl) (rf_no _))))))) (rh_upd (rh_one (by rfl) (by rfl) (by rfl)) (rh_upd (rh_one (by rfl) (renO_boxL _) (by rfl)) (rh_upd (rh_one (by rfl) (renO_boxL _) (by rfl)) (rh_no _))))⟩
      ·rintro ⟨t823, he331⟩
       obtain rfl := he331.symm
       try dsimp only at H217
       refine Z0 ?_
       refine ZT 1 ?_
       refine Z0 ?_
       exact ⟨⟨(c, (t823, (IntKind.i64.wrap (t14 + 1)))), H217⟩, ren_mk [(0, 0), (1, 1), (2, 2)] (by rfl) (rf_upd (by rfl) (rf_upd (by rfl) (rf_upd (by rfl) (rf_upd (by rfl) (rf_upd (by rfl) (rf_upd (by rfl) (rf_no _))))))) (rh_upd (rh_one (by rfl) (by rfl) (by rfl)) (rh_upd (rh_one (by rfl) (renO_boxL _) (by rfl)) (rh_upd (rh_one (by rfl) (renO_boxL _) (by rfl)) (rh_no _)))), Nat.lt_succ_self _⟩
     ·refine Z1 c214 ?_
      obtain rfl := Zi H215
      exact ⟨⟨t814, rfl⟩, ren_mk [(0, 0), (1, 2)] (by rfl) (rf_upd (by rfl) (rf_upd (by rfl) (rf_upd (by rfl) (rf_upd (by rfl) (rf_no _))))) (rh_upd (rh_one (by rfl) (by rfl) (by rfl)) (rh_upd (rh_one (by rfl) (renO_boxL _) (by rfl)) (rh_no _)))⟩
  ·rintro ⟨t825, he381⟩
   obtain rfl := he381.symm
   try dsimp only at H96
   refine zsq (zsq ?_)
   refine ZT 1 ?_
   refine Z0 ?_
   obtain ⟨e_11, E332, H333⟩ := zbi H96
   refine zjn (α := { y : Unit // e_11 = .inl y }) (fun | ⟨_, _⟩ => ⟨noFr, noHp, 0⟩) ?_ ?_
   ·refine zbk ?_
    refine zlp (α := { q : Nat × Int // law9_SeekGroups_L5 n t22 l4 t825 q.1 q.2 = some e_11 }) (fun | ⟨⟨c, t17⟩, _⟩ => ⟨upd 5 (.d (.sl (List.map eGType t22)) false) (upd 6 (.so 0 ((accN g4 (List.map eGTuple t63))) 0 (l4.length)) (upd 8 (.pt 1 0) (upd 9 (.fn 5 []) (upd 17 (.v (.int .i64 t17)) noFr)))), upd 0 (some (.rw (List.map eGTuple l4) 6 (accN g4 (List.map eGTuple t63)) false false)) (upd 1 (some (.bx (boxL Value.bool t825))) noHp), 2⟩) (fun q => q.1.1) ⟨(n, 0), E332⟩ ?_ ?_
    ·exact ren_mk [(0, 0), (1, 1)] (by rfl) (rf_upd (by rfl) (rf_upd (by rfl) (rf_upd (by rfl) (rf_upd (by rfl) (rf_upd (by rfl) (rf_no _)))))) (rh_upd (rh_one (by rfl) (by rfl) (by rfl)) (rh_upd (rh_one (by rfl) (renO_boxL _) (by rfl)) (rh_no _)))
    ·rintro ⟨⟨c, t17⟩, L334⟩
     rcases c with _ | c
     ·exact Zx L334
     ·unfold law9_SeekGroups_L5 at L334
      try dsimp only at L334
      refine ZT 1 ?_
      refine Z0 ?_
      rcases zit L334 with ⟨c353, H354⟩ | ⟨c353, H354⟩
      ·obtain ⟨t1112, b355, H356⟩ := zbi H354
       refine Z1 c353 ?_
       refine ZC0 (law9_SeekGroups_c1_ok b355) ?_
       obtain ⟨t1142, b357, H358⟩ := zbi H356
       refine Z1 c353 ?_
       refine ZC1 c353 (seek_Check_ok b357) ?_
       obtain ⟨t1222, b359, H360⟩ := zbi H358
       refine Z1 c353 ?_
       refine ZC0 (law9_SeekGroups_c1_ok b359) ?_
       obtain ⟨t1252, b361, H362⟩ := zbi H360
       refine Z1 c353 ?_
       refine ZC1 c353 (seek_Check_ok b361) ?_
       refine Z1 c353 ?_
       rcases zit H362 with ⟨c363, H364⟩ | ⟨c363, H364⟩
       ·refine Z1 (Y2 c353 c363) ?_
        obtain rfl := Zi H364
        obtain rfl := Zi H333
        exact ZE0
       ·refine Z1 (Y2 c353 c363) ?_
        rcases zit H364 with ⟨c365, H366⟩ | ⟨c365, H366⟩
        ·refine Z1 (Y3 c353 c363 c365) ?_
         obtain rfl := Zi H366
         obtain rfl := Zi H333
         exact ZE0
        ·obtain ⟨k15, b367, H368⟩ := zbi H366
         obtain ⟨h369, h370, h371⟩ := aix_inv b367
         obtain ⟨u22, b372, H373⟩ := zbi H368
         refine Z1 (Y2 (Y6 c353 c363 c365 (zno .i64 h369) h370 h371) (boxL_at (f := Value.bool) b372)) ?_
         rcases zit H373 with ⟨c374, H375⟩ | ⟨c374, H375⟩
         ·refine Z1 (Y2 (Y6 c353 c363 c365 (zno .i64 h369) h370 h371) (Y2 (boxL_at (f := Value.bool) b372) c374)) ?_
          rcases zit H375 with ⟨c376, H377⟩ | ⟨c376, H377⟩
          ·refine Z1 (Y2 (Y6 c353 c363 c365 (zno .i64 h369) h370 h371) (Y3 (boxL_at (f := Value.bool) b372) c374 c376)) ?_
           obtain rfl := Zi H377
           obtain rfl := Zi H333
           exact ZE0
          ·refine Z1 (Y2 (Y6 c353 c363 c365 (zno .i64 h369) h370 h371) (Y3 (boxL_at (f := Value.bool) b372) c374 c376)) ?_
           exact ⟨⟨(c, (IntKind.i64.wrap (t17 + 1))), H377⟩, ren_mk [(0, 0), (1, 1)] (by rfl) (rf_upd (by rfl) (rf_upd (by rfl) (rf_upd (by rfl) (rf_upd (by rfl) (rf_upd (by rfl) (rf_no _)))))) (rh_upd (rh_one (by rfl) (by rfl) (by rfl)) (rh_upd (rh_one (by rfl) (renO_boxL _) (by rfl)) (rh_no _))), Nat.lt_succ_self _⟩
         ·refine Z1 (Y2 (Y6 c353 c363 c365 (zno .i64 h369) h370 h371) (Y2 (boxL_at (f := Value.bool) b372) c374)) ?_
          obtain rfl := Zi H375
          obtain rfl := Zi H333
          exact ZE0
      ·refine Z1 c353 ?_
       obtain rfl := Zi H354
       exact ⟨⟨(), rfl⟩, ZR []⟩
   ·rintro ⟨_, he380⟩
    obtain rfl := he380.symm
    try dsimp only at H333
    refine ZT 1 ?_
    obtain ⟨t144, b378, H379⟩ := zbi H333
    refine Z0 ?_
    refine ZC0 (law9_awake_ok b378) ?_
    refine Z0 ?_
    obtain rfl := Zi H379
    exact ZE0
end Go.Proofs.YtachgkhleoodaaaGreat.Ab
