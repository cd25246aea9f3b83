/-
 Functions, read off the code.
-/
import Derived.Test.YtjkdbakgnnhdnaaGreatFda
namespace Go.Proofs.YtjkdbakgnnhdnaaGreat.Ab
open Go.RowKit
def seek_Of_L1 (n : Nat) (rows_ : List GTuple) (t13 : WellSchema × Int) : Nat → (List GTuple × Int) → Option (List GTuple)
 | 0, _ => none
 | c + 1, (fit, t21) =>
  (if (decide (t21 < (rows_.length : Int))) then
   (idx rows_ t21).bind fun x2 =>
   (well_Schema_Fits n (⟨t13.1.types, t13.1.rels, t13.1.ranks⟩ : WellSchema) x2).bind fun t272 =>
   (if t272 then
    (app fit [x2]).bind fun l2 =>
    seek_Of_L1 n rows_ t13 c (l2, (IntKind.i64.wrap (t21 + 1)))
   else
    seek_Of_L1 n rows_ t13 c (fit, (IntKind.i64.wrap (t21 + 1))))
  else
   some fit)
def seek_Of_L1_f (n : Nat) (_ : List GTuple) (t13 : WellSchema × Int) (st : List GTuple) (x2 : GTuple) (k : List GTuple → Option (List GTuple)) : Option (List GTuple) :=
 match st with
 | fit =>
  (well_Schema_Fits n (⟨t13.1.types, t13.1.rels, t13.1.ranks⟩ : WellSchema) x2).bind fun t272 =>
  (if t272 then
   (app fit [x2]).bind fun l2 =>
   k l2
  else
   k fit)
def seek_Of_L1_e (_ : Nat) (_ : List GTuple) (_ : WellSchema × Int) (st : List GTuple) : Option (List GTuple) :=
 match st with
 | fit => some fit
theorem seek_Of_L1_list (n : Nat) (rows_ : List GTuple) (t13 : WellSchema × Int) (hx : rows_.length < 4611686018427387904) (c : Nat) (st : List GTuple) (ix : Nat) (hi : ix ≤ rows_.length) (hc : rows_.length - ix < c) : seek_Of_L1 n rows_ t13 c (match st, (ix : Int) with | fit, ix => (fit, ix)) = foldK (seek_Of_L1_f n rows_ t13) (seek_Of_L1_e n rows_ t13) (rows_.drop ix) st :=
 loop_list (fun c st ix => seek_Of_L1 n rows_ t13 c (match st, ix with | fit, ix => (fit, ix))) rows_ (seek_Of_L1_f n rows_ t13) (seek_Of_L1_e n rows_ t13) (fun _ _ _ => rfl) hx c st ix hi hc
def seek_Of (n : Nat) (l : List GType) (rows_ : List GTuple) : Option (SeekGraph × Int) :=
 (well_Of n l).bind fun t13 =>
 (if (t13.2 != 0) then
  none
 else
  (
   seek_Of_L1 n rows_ t13 n ([], 0) : Option (List GTuple)).bind fun fit3 =>
  (look_Of n fit3).bind fun t35 =>
  (if (decide (fit3.length = 0)) then
   some ((⟨(⟨t13.1.types, t13.1.rels, t13.1.ranks⟩ : WellSchema), t35, []⟩ : SeekGraph), 0)
  else
   some ((⟨(⟨t13.1.types, t13.1.rels, t13.1.ranks⟩ : WellSchema), t35, fit3⟩ : SeekGraph), 0)))
theorem seek_Of_ok {n : Nat} {l : List GType} {rows_ : List GTuple} {r : SeekGraph × Int} (H : seek_Of n l rows_ = some r) : PureA Tryz.prog 22 [.d (D.sl (List.map eGType l)), .d (D.sl (List.map eGTuple rows_))] (D.tu [D.pt (eSeekGraph r.1) 0, D.v (.int .i64 r.2)]) false := by
 unfold seek_Of at H
 refine ZPX tab_ok fol (rs := #[.tmp 4, .tmp 5]) Tryz.func22 ?_
 refine zsq (ZT 1 ?_)
 refine Z0 ?_
 refine zsq (ZT 1 ?_)
 obtain ⟨t13, b1, H2⟩ := zbi H
 refine Z0 ?_
 refine ZC0 (well_Of_ok b1) ?_
 refine Z0 ?_
 refine zsq (ZT 1 ?_)
 refine Z0 ?_
 rcases zit H2 with ⟨c3, H4⟩ | ⟨c3, H4⟩
 ·refine Z1 c3 ?_
  cases H4
 ·refine Z1 c3 ?_
  refine zsq (ZT 1 ?_)
  refine Z1 c3 ?_
  refine zsq (zsq ?_)
  refine ZT 1 ?_
  refine Z1 c3 ?_
  obtain ⟨e_, E5, H6⟩ := zbi H4
  refine zjn (α := { y : List GTuple // e_ = y } × Nat) (fun | ⟨⟨fit3, _⟩, g3⟩ => ⟨upd 6 (.d (.pt [.mp (encMp Value.string false eI t13.1.types), .mp (encMp kWellName true eGRel t13.1.rels), .mp (encMp kWellName false eI t13.1.ranks)] 0) true) (upd 8 (accV 0 g3 (List.map eGTuple fit3)) noFr), upd 0 (accO 6 g3 false (List.map eGTuple fit3)) noHp, 1⟩) ?_ ?_
  ·refine zbk ?_
   refine zlp (α := { q : (Nat × (List GTuple × Int)) × Nat // seek_Of_L1 n rows_ t13 q.1.1 q.1.2 = some e_ }) (fun | ⟨⟨⟨c, ⟨fit, t21⟩⟩, g⟩, _⟩ => ⟨upd 6 (.d (.pt [.mp (encMp Value.string false eI t13.1.types), .mp (encMp kWellName true eGRel t13.1.rels), .mp (encMp kWellName false eI t13.1.ranks)] 0) true) (upd 8 (accV 0 g (List.map eGTuple fit)) (upd 19 (.d (.sl (List.map eGTuple rows_)) true) (upd 20 (.v (.int .i64 (rows_.length : Int))) (upd 21 (.v (.int .i64 t21)) noFr)))), upd 0 (accO 6 g false (List.map eGTuple fit)) noHp, 1⟩) (fun q => q.1.1.1) ⟨((n, ([], 0)), 0), E5⟩ ?_ ?_
   ·exact ZR []
   ·rintro ⟨⟨⟨c, ⟨fit, t21⟩⟩, g⟩, L7⟩
    rcases c with _ | c
    ·exact Zx L7
    ·unfold seek_Of_L1 at L7
     try dsimp only at L7
     refine ZT 1 ?_
     refine Z0 ?_
     rcases zit L7 with ⟨c20, H21⟩ | ⟨c20, H21⟩
     ·obtain ⟨x2, b22, H23⟩ := zbi H21
      obtain ⟨h24, h25⟩ := zix b22
      try simp only [Int.reduceToNat, Int.toNat_natCast] at h25
      have h26 := map_at eGTuple h25
      obtain ⟨t272, b28, H29⟩ := zbi H23
      refine Z1 (Y3 c20 (zno .i64 h24) h26) ?_
      refine ZC0 (well_Schema_Fits_ok b28) ?_
      refine Z1 (Y3 c20 (zno .i64 h24) h26) ?_
      rcases zit H29 with ⟨c30, H31⟩ | ⟨c30, H31⟩
      ·obtain ⟨l2, b32, H33⟩ := zbi H31
       obtain ⟨h34, h35⟩ := app_inv b32
       have h34 : fit.length + 1 ≤ 4294967296 := h34
       have h36 : List.map eGTuple fit ++ [[.v (.string x2.obj.type_), .v (.string x2.obj.id_), .v (.string x2.rel), .v (.string x2.sub_.type_), .v (.string x2.sub_.id_), .v (.string x2.sub_.rel)]] = List.map eGTuple l2 := app_map eGTuple h35
       have h37 : fit.length + 1 = l2.length := app_len h35
       have h38 : l2.length ≤ 4294967296 := by omega
       have q39 : 0 < l2.length := by omega
       refine Z1 (Y2 (Y6 c20 (zno .i64 h24) h26 c30 h34 h36) (Y2 h37 h38)) ?_
       rcases fit with _ | ⟨q0, q1⟩
       ·try simp only [List.map_nil, accI, accN]
        exact ⟨⟨((c, (l2, (IntKind.i64.wrap (t21 + 1)))), 0), H33⟩, ZR [(0, 12)], Nat.lt_succ_self _⟩
       ·try simp only [List.map_cons, accI, accN]
        exact ⟨⟨((c, (l2, (IntKind.i64.wrap (t21 + 1)))), (g + 1)), H33⟩, ZR [(0, 0)], Nat.lt_succ_self _⟩
      ·refine Z1 (Y4 c20 (zno .i64 h24) h26 c30) ?_
       exact ⟨⟨((c, (fit, (IntKind.i64.wrap (t21 + 1)))), g), H31⟩, ZR [(0, 0)], Nat.lt_succ_self _⟩
     ·refine Z1 c20 ?_
      obtain rfl := Zi H21
      exact ⟨⟨⟨fit, rfl⟩, g⟩, ZR [(0, 0)]⟩
  ·rintro ⟨⟨fit3, he48⟩, g3⟩
   obtain rfl := he48.symm
   try dsimp only at H6
   refine ZT 1 ?_
   obtain ⟨t35, b40, H41⟩ := zbi H6
   refine Z0 ?_
   refine ZA0 (look_Of_ok b40) ?_
   refine Z0 ?_
   rcases zit H41 with ⟨c42, H43⟩ | ⟨c42, H43⟩
   ·have e44 : fit3 = [] := List.eq_nil_of_length_eq_zero (of_decide_eq_true c42)
    subst e44
    simp only [List.map_nil, accV_nil, accO_nil]
    try simp only [accK, accB]
    refine Z0 ?_
    obtain rfl := Zi H43
    exact endX_ret (b := true) (v := .tu [.pt 6 0, .v (.int .i64 0)]) (by first | (simp -implicitDefEqProofs only [go_sem, Nat.reduceEqDiff, ↓reduceIte] <;> rfl) | rfl) (ToXR.tu (PW.cons (ToXV.one (ToX.place (by rfl) (PW.cons (ToX.one (b' := true) (is := []) rfl (fun _ => rfl)) (PW.cons (ToX.one (b' := false) (is := []) rfl (fun _ => rfl)) (PW.cons (ToX.one (b' := false) (is := []) rfl (fun _ => rfl)) PW.nil)))) rfl) (PW.cons (ToXV.one (ToX.one (b' := false) (is := []) rfl (fun _ => rfl)) rfl) PW.nil))) (by intro h; first | rfl | cases h)
   ·have q45 : 0 < fit3.length := by have := of_decide_eq_false c42; omega
    have h46 : ∀ i, accK i (List.map eGTuple fit3) = [i] := fun i => by cases hx : fit3 with | nil => (rw [hx] at q45; simp at q45) | cons a r => rfl
    have h47 : ∀ b, accB b (List.map eGTuple fit3) = b := fun b => by cases hx : fit3 with | nil => (rw [hx] at q45; simp at q45) | cons a r => rfl
    refine Z1 (Y6 c42 h46 h47 q45 (YV (f := eGTuple) q45) (YO (f := eGTuple) q45)) ?_
    obtain rfl := Zi H43
    exact endX_ret (b := true) (v := .tu [.pt 6 0, .v (.int .i64 0)]) (by first | (simp -implicitDefEqProofs only [go_sem, Nat.reduceEqDiff, ↓reduceIte] <;> rfl) | rfl) (ToXR.tu (PW.cons (ToXV.one (ToX.place (by rfl) (PW.cons (ToX.one (b' := true) (is := []) rfl (fun _ => rfl)) (PW.cons (ToX.one (b' := false) (is := []) rfl (fun _ => rfl)) (PW.cons (ToX.one (b' := false) (is := [0]) (by first | rfl | (simp -implicitDefEqProofs only [go_sem, reduceCtorEq, ↓reduceIte]; done) | (simp -implicitDefEqProofs only [go_sem, Bool.false_and, Int.reduceToNat, Int.reduceLT, Int.reduceLE, Int.reduceBEq, Int.reduceBNe, Nat.reduceLT, Nat.reduceBEq, Int.reduceEq, Nat.reduceEqDiff, Nat.reduceAdd, Nat.reduceSub, Nat.reduceMul, Nat.reduceLeDiff, reduceCtorEq, ↓reduceIte, eGType, eGTuple, eGObj, eGSub, eGRel, eGStep, eGRef, eGPage, eWellSchema, eWellName, eLookIndex, eLookLeft, eLookRight, eSeekGraph, c42, h46, h47, q45, accV_pos (f := eGTuple) q45, accO_pos (f := eGTuple) q45]; rfl)) (fun _ => rfl)) PW.nil)))) rfl) (PW.cons (ToXV.one (ToX.one (b' := false) (is := []) rfl (fun _ => rfl)) rfl) PW.nil))) (by intro h; first | rfl | cases h)
def seek_Graph_Known (n : Nat) (g : SeekGraph) (typ : ByteArray) (rel : ByteArray) : Option Bool :=
 (well_Schema_Rel n g.schema typ rel).bind fun t16 =>
 some t16.2
theorem seek_Graph_Known_ok {n : Nat} {g : SeekGraph} {typ : ByteArray} {rel : ByteArray} {r : Bool} (H : seek_Graph_Known n g typ rel = some r) : PureOK Tryz.prog 23 [D.pt (eSeekGraph g) 0, D.v (.string typ), D.v (.string rel)] (D.v (.bool r)) true := by
 unfold seek_Graph_Known at H
 refine ZP tab_ok fol (rs := #[.tmp 6]) Tryz.func23 ?_
 refine ZT 1 ?_
 obtain ⟨t16, b1, H2⟩ := zbi H
 refine Z0 ?_
 refine ZC0 (well_Schema_Rel_ok b1) ?_
 refine Z0 ?_
 obtain rfl := Zi H2
 exact ZE0
def find_graph (n : Nat) (l : List GType) (rows_ : List GTuple) (typ : ByteArray) (rel : ByteArray) (p : GPage) : Option (SeekGraph × Int) :=
 (find_wrong n p).bind fun t15 =>
 (if t15 then
  none
 else
  (seek_Of n l rows_).bind fun t19 =>
  (if (t19.2 == 0) then
   (seek_Graph_Known n (⟨(⟨t19.1.schema.types, t19.1.schema.rels, t19.1.schema.ranks⟩ : WellSchema), (⟨(⟨t19.1.index.left.subs, t19.1.index.left.objs⟩ : LookLeft), (⟨t19.1.index.right.refs, t19.1.index.right.users⟩ : LookRight)⟩ : LookIndex), t19.1.rows_⟩ : SeekGraph) typ rel).bind fun t28 =>
   (if t28 then
    some ((⟨(⟨t19.1.schema.types, t19.1.schema.rels, t19.1.schema.ranks⟩ : WellSchema), (⟨(⟨t19.1.index.left.subs, t19.1.index.left.objs⟩ : LookLeft), (⟨t19.1.index.right.refs, t19.1.index.right.users⟩ : LookRight)⟩ : LookIndex), t19.1.rows_⟩ : SeekGraph), t19.2)
   else
    none)
  else
   some ((⟨(⟨t19.1.schema.types, t19.1.schema.rels, t19.1.schema.ranks⟩ : WellSchema), (⟨(⟨t19.1.index.left.subs, t19.1.index.left.objs⟩ : LookLeft), (⟨t19.1.index.right.refs, t19.1.index.right.users⟩ : LookRight)⟩ : LookIndex), t19.1.rows_⟩ : SeekGraph), t19.2)))
theorem find_graph_ok {n : Nat} {l : List GType} {rows_ : List GTuple} {typ : ByteArray} {rel : ByteArray} {p : GPage} {r : SeekGraph × Int} (H : find_graph n l rows_ typ rel p = some r) : PureA Tryz.prog 8 [.d (D.sl (List.map eGType l)), .d (D.sl (List.map eGTuple rows_)), .d (D.v (.string typ)), .d (D.v (.string rel)), .d (D.ag (eGPage p))] (D.tu [D.pt (eSeekGraph r.1) 0, D.v (.int .i64 r.2)]) false := by
 unfold find_graph at H
 refine ZPX tab_ok fol (rs := #[.tmp 10, .tmp 11]) Tryz.func8 ?_
 refine ZT 1 ?_
 obtain ⟨t15, b1, H2⟩ := zbi H
 refine Z0 ?_
 refine ZC0 (find_wrong_ok b1) ?_
 refine Z0 ?_
 rcases zit H2 with ⟨c3, H4⟩ | ⟨c3, H4⟩
 ·refine Z1 c3 ?_
  cases H4
 ·obtain ⟨t19, b5, H6⟩ := zbi H4
  refine Z1 c3 ?_
  refine ZA0 (seek_Of_ok b5) ?_
  refine Z1 c3 ?_
  rcases zit H6 with ⟨c7, H8⟩ | ⟨c7, H8⟩
  ·obtain ⟨t28, b9, H10⟩ := zbi H8
   refine Z1 (Y2 c3 c7) ?_
   refine ZC0 (seek_Graph_Known_ok b9) ?_
   refine Z1 (Y2 c3 c7) ?_
   rcases zit H10 with ⟨c11, H12⟩ | ⟨c11, H12⟩
   ·refine Z1 (Y3 c3 c7 c11) ?_
    obtain rfl := Zi H12
    exact endX_ret (b := true) (v := .tu [.d (.pt [.pt [.mp (encMp Value.string false eI t19.1.schema.types), .mp (encMp kWellName true eGRel t19.1.schema.rels), .mp (encMp kWellName false eI t19.1.schema.ranks)] 0, .pt [.mp (encMp kGRef false (eL eGSub) t19.1.index.left.subs), .mp (encMp Value.string false (eL eS) t19.1.index.left.objs), .mp (encMp kGSub false (eL eGRef) t19.1.index.right.refs), .mp (encMp Value.string false (eL eS) t19.1.index.right.users)] 0, .sl (List.map eGTuple t19.1.rows_)] 0) true, .v (.int .i64 t19.2)]) (by first | (simp -implicitDefEqProofs only [go_sem, Nat.reduceEqDiff, ↓reduceIte] <;> rfl) | rfl) (ToXR.tu (PW.cons (ToXV.one (ToX.one (b' := true) (is := []) rfl (fun _ => rfl)) rfl) (PW.cons (ToXV.one (ToX.one (b' := false) (is := []) rfl (fun _ => rfl)) rfl) PW.nil))) (by intro h; first | rfl | cases h)
   ·refine Z1 (Y3 c3 c7 c11) ?_
    cases H12
  ·refine Z1 (Y2 c3 c7) ?_
   obtain rfl := Zi H8
   exact endX_ret (b := true) (v := .tu [.d (.pt [.pt [.mp (encMp Value.string false eI t19.1.schema.types), .mp (encMp kWellName true eGRel t19.1.schema.rels), .mp (encMp kWellName false eI t19.1.schema.ranks)] 0, .pt [.mp (encMp kGRef false (eL eGSub) t19.1.index.left.subs), .mp (encMp Value.string false (eL eS) t19.1.index.left.objs), .mp (encMp kGSub false (eL eGRef) t19.1.index.right.refs), .mp (encMp Value.string false (eL eS) t19.1.index.right.users)] 0, .sl (List.map eGTuple t19.1.rows_)] 0) true, .v (.int .i64 t19.2)]) (by first | (simp -implicitDefEqProofs only [go_sem, Nat.reduceEqDiff, ↓reduceIte] <;> rfl) | rfl) (ToXR.tu (PW.cons (ToXV.one (ToX.one (b' := true) (is := []) rfl (fun _ => rfl)) rfl) (PW.cons (ToXV.one (ToX.one (b' := false) (is := []) rfl (fun _ => rfl)) rfl) PW.nil))) (by intro h; first | rfl | cases h)
def find_Objects_c1 (n : Nat) (id_ : ByteArray) (c2 : SeekGraph) (c3 : ByteArray) (c4 : ByteArray) (c5 : GSub) : Option Bool :=
 (seek_Graph_Has n (⟨c2.schema, c2.index, c2.rows_⟩ : SeekGraph) (⟨c3, id_⟩ : GObj) c4 c5).bind fun t13 =>
 some t13
theorem find_Objects_c1_ok {n : Nat} {id_ : ByteArray} {c2 : SeekGraph} {c3 : ByteArray} {c4 : ByteArray} {c5 : GSub} {r : Bool} (H : find_Objects_c1 n id_ c2 c3 c4 c5 = some r) : PureOK Tryz.prog 11 [D.v (.string id_), D.pt [D.pt (eSeekGraph c2) 0] 0, D.pt [D.v (.string c3)] 0, D.pt [D.v (.string c4)] 0, D.pt (eGSub c5) 0] (D.v (.bool r)) true := by
 unfold find_Objects_c1 at H
 refine ZP tab_ok fol (rs := #[.tmp 6]) Tryz.func11 ?_
 refine ZT 1 ?_
 obtain ⟨t13, b1, H2⟩ := zbi H
 refine Z0 ?_
 refine ZC0 (seek_Graph_Has_ok b1) ?_
 refine Z0 ?_
 obtain rfl := Zi H2
 exact ZE0
def find_page__find_Objects_c1_L1 (n : Nat) (l : List ByteArray) (p : GPage) (c2 : SeekGraph) (c3 : ByteArray) (c4 : ByteArray) (c5 : GSub) : Nat → (List ByteArray × Int) → Option ((List ByteArray) ⊕ (List ByteArray × Bool))
 | 0, _ => none
 | c + 1, (out, t13) =>
  (if (decide (t13 < (l.length : Int))) then
   (idx l t13).bind fun x2 =>
   (
    (if (Op.bytesLess x2.toList p.after.toList || x2.toList == p.after.toList) then
     (if (p.after.toList == ({ data := #[] } : ByteArray).toList) then
      (find_Objects_c1 n x2 (⟨c2.schema, c2.index, c2.rows_⟩ : SeekGraph) c3 c4 c5).bind fun t293 =>
      some (!t293)
     else
      some true)
    else
     (find_Objects_c1 n x2 (⟨c2.schema, c2.index, c2.rows_⟩ : SeekGraph) c3 c4 c5).bind fun t294 =>
     some (!t294)) : Option (Bool)).bind fun t312 =>
   (if t312 then
    find_page__find_Objects_c1_L1 n l p c2 c3 c4 c5 c (out, (IntKind.i64.wrap (t13 + 1)))
   else
    (if ((out.length : Int) == p.most) then
     some (.inr (out, true))
    else
     (app out [x2]).bind fun l2 =>
     find_page__find_Objects_c1_L1 n l p c2 c3 c4 c5 c (l2, (IntKind.i64.wrap (t13 + 1)))))
  else
   some (.inl out))
def find_page__find_Objects_c1_L1_f (n : Nat) (_ : List ByteArray) (p : GPage) (c2 : SeekGraph) (c3 : ByteArray) (c4 : ByteArray) (c5 : GSub) (st : List ByteArray) (x2 : ByteArray) (k : List ByteArray → Option ((List ByteArray) ⊕ (List ByteArray × Bool))) : Option ((List ByteArray) ⊕ (List ByteArray × Bool)) :=
 match st with
 | out =>
  (
   (if (Op.bytesLess x2.toList p.after.toList || x2.toList == p.after.toList) then
    (if (p.after.toList == ({ data := #[] } : ByteArray).toList) then
     (find_Objects_c1 n x2 (⟨c2.schema, c2.index, c2.rows_⟩ : SeekGraph) c3 c4 c5).bind fun t293 =>
     some (!t293)
    else
     some true)
   else
    (find_Objects_c1 n x2 (⟨c2.schema, c2.index, c2.rows_⟩ : SeekGraph) c3 c4 c5).bind fun t294 =>
    some (!t294)) : Option (Bool)).bind fun t312 =>
  (if t312 then
   k out
  else
   (if ((out.length : Int) == p.most) then
    some (.inr (out, true))
   else
    (app out [x2]).bind fun l2 =>
    k l2))
def find_page__find_Objects_c1_L1_e (_ : Nat) (_ : List ByteArray) (_ : GPage) (_ : SeekGraph) (_ : ByteArray) (_ : ByteArray) (_ : GSub) (st : List ByteArray) : Option ((List ByteArray) ⊕ (List ByteArray × Bool)) :=
 match st with
 | out => some (.inl out)
theorem find_page__find_Objects_c1_L1_list (n : Nat) (l : List ByteArray) (p : GPage) (c2 : SeekGraph) (c3 : ByteArray) (c4 : ByteArray) (c5 : GSub) (hx : l.length < 4611686018427387904) (c : Nat) (st : List ByteArray) (ix : Nat) (hi : ix ≤ l.length) (hc : l.length - ix < c) : find_page__find_Objects_c1_L1 n l p c2 c3 c4 c5 c (match st, (ix : Int) with | out, ix => (out, ix)) = foldK (find_page__find_Objects_c1_L1_f n l p c2 c3 c4 c5) (find_page__find_Objects_c1_L1_e n l p c2 c3 c4 c5) (l.drop ix) st :=
 loop_list (fun c st ix => find_page__find_Objects_c1_L1 n l p c2 c3 c4 c5 c (match st, ix with | out, ix => (out, ix))) l (find_page__find_Objects_c1_L1_f n l p c2 c3 c4 c5) (find_page__find_Objects_c1_L1_e n l p c2 c3 c4 c5) (fun _ _ _ => rfl) hx c st ix hi hc
def find_page__find_Objects_c1 (n : Nat) (l : List ByteArray) (p : GPage) (c2 : SeekGraph) (c3 : ByteArray) (c4 : ByteArray) (c5 : GSub) : Option (List ByteArray × Bool) :=
 (
  find_page__find_Objects_c1_L1 n l p c2 c3 c4 c5 n ([], 0) : Option ((List ByteArray) ⊕ (List ByteArray × Bool))).bind fun
  | .inl out3 =>
   some (out3, false)
  | .inr r => some r
theorem find_page__find_Objects_c1_ok {n : Nat} {l : List ByteArray} {p : GPage} {c2 : SeekGraph} {c3 : ByteArray} {c4 : ByteArray} {c5 : GSub} {r : List ByteArray × Bool} (H : find_page__find_Objects_c1 n l p c2 c3 c4 c5 = some r) : PureA Tryz.prog 9 [.d (D.sl (List.map eS l)), .d (D.ag (eGPage p)), .fn 11 [D.pt [D.pt (eSeekGraph c2) 0] 0, D.pt [D.v (.string c3)] 0, D.pt [D.v (.string c4)] 0, D.pt (eGSub c5) 0]] (D.tu [D.sl (List.map eS r.1), D.v (.bool r.2)]) true := by
 unfold find_page__find_Objects_c1 at H
 refine ZPA tab_ok fol (rs := #[.tmp 6, .tmp 7]) Tryz.func9 ?_
 refine zsq (ZT 1 ?_)
 refine Z0 ?_
 refine zsq (ZT 1 ?_)
 refine Z0 ?_
 refine zsq (zsq ?_)
 refine ZT 1 ?_
 refine Z0 ?_
 obtain ⟨e_, E1, H2⟩ := zbi H
 refine zjn (α := { y : List ByteArray // e_ = .inl y } × Nat) (fun | ⟨⟨out3, _⟩, g4⟩ => ⟨upd 8 (accV 0 g4 (List.map eS out3)) noFr, upd 0 (accO 1 g4 false (List.map eS out3)) noHp, 1⟩) ?_ ?_
 ·refine zbk ?_
  refine zlp (α := { q : (Nat × (List ByteArray × Int)) × Nat // find_page__find_Objects_c1_L1 n l p c2 c3 c4 c5 q.1.1 q.1.2 = some e_ }) (fun | ⟨⟨⟨c, ⟨out, t13⟩⟩, g⟩, _⟩ => ⟨upd 2 (.fn 11 [.d (.pt [.pt [.pt [.mp (encMp Value.string false eI c2.schema.types), .mp (encMp kWellName true eGRel c2.schema.rels), .mp (encMp kWellName false eI c2.schema.ranks)] 0, .pt [.mp (encMp kGRef false (eL eGSub) c2.index.left.subs), .mp (encMp Value.string false (eL eS) c2.index.left.objs), .mp (encMp kGSub false (eL eGRef) c2.index.right.refs), .mp (encMp Value.string false (eL eS) c2.index.right.users)] 0, .sl (List.map eGTuple c2.rows_)] 0] 0) true, .d (.pt [.v (.string c3)] 0) true, .d (.pt [.v (.string c4)] 0) true, .d (.pt [.v (.string c5.type_), .v (.string c5.id_), .v (.string c5.rel)] 0) true]) (upd 4 (.pt 0 0) (upd 8 (accV 1 g (List.map eS out)) (upd 11 (.d (.sl (List.map eS l)) true) (upd 12 (.v (.int .i64 (l.length : Int))) (upd 13 (.v (.int .i64 t13)) noFr))))), upd 0 (some (.bx [.v (.string p.after), .v (.int .i64 p.most)])) (upd 1 (accO 1 g false (List.map eS out)) noHp), 2⟩) (fun q => q.1.1.1) ⟨((n, ([], 0)), 0), E1⟩ ?_ ?_
  ·exact ZR [(0, 0)]
  ·rintro ⟨⟨⟨c, ⟨out, t13⟩⟩, g⟩, L3⟩
   rcases c with _ | c
   ·exact Zx L3
   ·unfold find_page__find_Objects_c1_L1 at L3
    try dsimp only at L3
    refine zsq (ZT 1 ?_)
    refine Z0 ?_
    refine zsq (ZT 1 ?_)
    refine Z0 ?_
    rcases zit L3 with ⟨c27, H28⟩ | ⟨c27, H28⟩
    ·refine Z1 c27 ?_
     refine zsq (zbk ?_)
     refine zsq (ZT 1 ?_)
     obtain ⟨x2, b29, H30⟩ := zbi H28
     obtain ⟨h31, h32⟩ := zix b29
     try simp only [Int.reduceToNat, Int.toNat_natCast] at h32
     have h33 := map_at eS h32
     refine Z1 (Y3 c27 (zno .i64 h31) h33) ?_
     refine zsq (zsq ?_)
     obtain ⟨e_3, E35, H36⟩ := zbi H30
     refine zjn (α := { y : Bool // e_3 = y } × Nat) (fun | ⟨⟨t312, _⟩, g2⟩ => ⟨upd 2 (.fn 11 [.d (.pt [.pt [.pt [.mp (encMp Value.string false eI c2.schema.types), .mp (encMp kWellName true eGRel c2.schema.rels), .mp (encMp kWellName false eI c2.schema.ranks)] 0, .pt [.mp (encMp kGRef false (eL eGSub) c2.index.left.subs), .mp (encMp Value.string false (eL eS) c2.index.left.objs), .mp (encMp kGSub false (eL eGRef) c2.index.right.refs), .mp (encMp Value.string false (eL eS) c2.index.right.users)] 0, .sl (List.map eGTuple c2.rows_)] 0] 0) true, .d (.pt [.v (.string c3)] 0) true, .d (.pt [.v (.string c4)] 0) true, .d (.pt [.v (.string c5.type_), .v (.string c5.id_), .v (.string c5.rel)] 0) true]) (upd 4 (.pt 0 0) (upd 8 (accV 1 g2 (List.map eS out)) (upd 10 (.v (.string x2)) (upd 11 (.d (.sl (List.map eS l)) true) (upd 12 (.v (.int .i64 (l.length : Int))) (upd 13 (.v (.int .i64 t13)) (upd 31 (.v (.bool t312)) noFr))))))), upd 0 (some (.bx [.v (.string p.after), .v (.int .i64 p.most)])) (upd 1 (accO 1 g2 false (List.map eS out)) noHp), 2⟩) ?_ ?_
     ·refine ZT 1 ?_
      refine Z0 ?_
      rcases zit E35 with ⟨c37, H38⟩ | ⟨c37, H38⟩
      ·refine Z1 c37 ?_
       rcases zit H38 with ⟨c39, H40⟩ | ⟨c39, H40⟩
       ·obtain ⟨t293, b41, H42⟩ := zbi H40
        refine Z1 (Y2 c37 c39) ?_
        refine ZC0 (find_Objects_c1_ok b41) ?_
        refine Z1 (Y2 c37 c39) ?_
        obtain rfl := Zi H42
        exact ⟨⟨⟨(!t293), rfl⟩, g⟩, ZR [(0, 0), (1, 1)]⟩
       ·refine Z1 (Y2 c37 c39) ?_
        obtain rfl := Zi H40
        exact ⟨⟨⟨true, rfl⟩, g⟩, ZR [(0, 0), (1, 1)]⟩
      ·obtain ⟨t294, b43, H44⟩ := zbi H38
       refine Z1 c37 ?_
       refine ZC0 (find_Objects_c1_ok b43) ?_
       refine Z1 c37 ?_
       obtain rfl := Zi H44
       exact ⟨⟨⟨(!t294), rfl⟩, g⟩, ZR [(0, 0), (1, 1)]⟩
     ·rintro ⟨⟨t312, he57⟩, g2⟩
      obtain rfl := he57.symm
      try dsimp only at H36
      refine ZT 4 ?_
      refine Z0 ?_
      rcases zit H36 with ⟨c45, H46⟩ | ⟨c45, H46⟩
      ·refine Z1 c45 ?_
       exact ⟨⟨((c, (out, (IntKind.i64.wrap (t13 + 1)))), g2), H46⟩, ZR [(0, 0), (1, 1)], Nat.lt_succ_self _⟩
      ·refine Z1 c45 ?_
       rcases zit H46 with ⟨c47, H48⟩ | ⟨c47, H48⟩
       ·refine Z1 (Y2 c45 c47) ?_
        obtain rfl := Zi H48
        obtain rfl := Zi H2
        exact ZE1 (Y2 c45 c47)
       ·obtain ⟨l2, b49, H50⟩ := zbi H48
        obtain ⟨h51, h52⟩ := app_inv b49
        have h51 : out.length + 1 ≤ 4294967296 := h51
        have h53 : List.map eS out ++ [[.v (.string x2)]] = List.map eS l2 := app_map eS h52
        have h54 : out.length + 1 = l2.length := app_len h52
        have h55 : l2.length ≤ 4294967296 := by omega
        have q56 : 0 < l2.length := by omega
        refine Z1 (Y6 c45 c47 h51 h53 h54 h55) ?_
        rcases out with _ | ⟨q0, q1⟩
        ·try simp only [List.map_nil, accI, accN]
         exact ⟨⟨((c, (l2, (IntKind.i64.wrap (t13 + 1)))), 0), H50⟩, ZR [(0, 0), (1, 10)], Nat.lt_succ_self _⟩
        ·try simp only [List.map_cons, accI, accN]
         exact ⟨⟨((c, (l2, (IntKind.i64.wrap (t13 + 1)))), (g2 + 1)), H50⟩, ZR [(0, 0), (1, 1)], Nat.lt_succ_self _⟩
    ·refine Z1 c27 ?_
     obtain rfl := Zi H28
     exact ⟨⟨⟨out, rfl⟩, g⟩, ZR [(0, 1)]⟩
 ·rintro ⟨⟨out3, he58⟩, g4⟩
  obtain rfl := he58.symm
  try dsimp only at H2
  refine ZT 1 ?_
  refine Z0 ?_
  obtain rfl := Zi H2
  exact ZE0
def find_Objects (n : Nat) (l : List GType) (rows_ : List GTuple) (typ : ByteArray) (rel : ByteArray) (s : GSub) (p : GPage) : Option (List ByteArray × Bool × Int) :=
 (find_graph n l rows_ typ rel p).bind fun t25 =>
 (
  (if (t25.2 == 12) then
   some (!(s.rel.toList == ({ data := #[] } : ByteArray).toList))
  else
   some false) : Option (Bool)).bind fun t34 =>
 (
  (if t34 then
   some 13
  else
   some t25.2) : Option (Int)).bind fun e_3 =>
 (if (e_3 != 0) then
  some ([], false, e_3)
 else
  (if (s.rel.toList == ({ data := #[] } : ByteArray).toList) then
   (look_Types n (⟨(⟨t25.1.index.left.subs, t25.1.index.left.objs⟩ : LookLeft), (⟨t25.1.index.right.refs, t25.1.index.right.users⟩ : LookRight)⟩ : LookIndex) typ).bind fun t49 =>
   (if (decide (t49.length = 0)) then
    (find_page__find_Objects_c1 n [] p (⟨(⟨t25.1.schema.types, t25.1.schema.rels, t25.1.schema.ranks⟩ : WellSchema), (⟨(⟨t25.1.index.left.subs, t25.1.index.left.objs⟩ : LookLeft), (⟨t25.1.index.right.refs, t25.1.index.right.users⟩ : LookRight)⟩ : LookIndex), t25.1.rows_⟩ : SeekGraph) typ rel s).bind fun t52 =>
    some (t52.1, t52.2, 0)
   else
    (find_page__find_Objects_c1 n t49 p (⟨(⟨t25.1.schema.types, t25.1.schema.rels, t25.1.schema.ranks⟩ : WellSchema), (⟨(⟨t25.1.index.left.subs, t25.1.index.left.objs⟩ : LookLeft), (⟨t25.1.index.right.refs, t25.1.index.right.users⟩ : LookRight)⟩ : LookIndex), t25.1.rows_⟩ : SeekGraph) typ rel s).bind fun t522 =>
    some (t522.1, t522.2, 0))
  else
   some ([], false, 13)))
theorem find_Objects_ok {n : Nat} {l : List GType} {rows_ : List GTuple} {typ : ByteArray} {rel : ByteArray} {s : GSub} {p : GPage} {r : List ByteArray × Bool × Int} (H : find_Objects n l rows_ typ rel s p = some r) : PureOK Tryz.prog 5 [D.sl (List.map eGType l), D.sl (List.map eGTuple rows_), D.v (.string typ), D.v (.string rel), D.ag (eGSub s), D.ag (eGPage p)] (D.tu [D.sl (List.map eS r.1), D.v (.bool r.2.1), D.v (.int .i64 r.2.2)]) true := by
 unfold find_Objects at H
 refine ZP tab_ok fol (rs := #[.tmp 12, .tmp 13, .tmp 14]) Tryz.func5 ?_
 refine zsq (ZT 1 ?_)
 refine Z0 ?_
 refine zsq (ZT 1 ?_)
 obtain ⟨t25, b1, H2⟩ := zbi H
 refine Z0 ?_
 refine ZA0 (find_graph_ok b1) ?_
 refine Z0 ?_
 refine zsq (zsq ?_)
 obtain ⟨e_, E3, H4⟩ := zbi H2
 refine zjn (α := { y : Bool // e_ = y }) (fun | ⟨t34, _⟩ => ⟨upd 8 (.pt 0 0) (upd 9 (.pt 1 0) (upd 10 (.pt 2 0) (upd 11 (.pt 3 0) (upd 15 (.pt 4 0) (upd 16 (.v (.int .i64 t25.2)) (upd 34 (.v (.bool t34)) noFr)))))), upd 0 (some (.bx [.v (.string typ)])) (upd 1 (some (.bx [.v (.string rel)])) (upd 2 (some (.bx [.v (.string s.type_), .v (.string s.id_), .v (.string s.rel)])) (upd 3 (some (.bx [.v (.string p.after), .v (.int .i64 p.most)])) (upd 4 (some (.bx [.d (.pt [.pt [.mp (encMp Value.string false eI t25.1.schema.types), .mp (encMp kWellName true eGRel t25.1.schema.rels), .mp (encMp kWellName false eI t25.1.schema.ranks)] 0, .pt [.mp (encMp kGRef false (eL eGSub) t25.1.index.left.subs), .mp (encMp Value.string false (eL eS) t25.1.index.left.objs), .mp (encMp kGSub false (eL eGRef) t25.1.index.right.refs), .mp (encMp Value.string false (eL eS) t25.1.index.right.users)] 0, .sl (List.map eGTuple t25.1.rows_)] 0) true])) noHp)))), 5⟩) ?_ ?_
 ·refine ZT 1 ?_
  refine Z0 ?_
  rcases zit E3 with ⟨c5, H6⟩ | ⟨c5, H6⟩
  ·refine Z1 c5 ?_
   obtain rfl := Zi H6
   exact ⟨⟨(!(s.rel.toList == ({ data := #[] } : ByteArray).toList)), rfl⟩, ZR [(0, 0), (1, 1), (2, 2), (3, 3), (4, 16)]⟩
  ·refine Z1 c5 ?_
   obtain rfl := Zi H6
   exact ⟨⟨false, rfl⟩, ZR [(0, 0), (1, 1), (2, 2), (3, 3), (4, 16)]⟩
 ·rintro ⟨t34, he40⟩
  obtain rfl := he40.symm
  try dsimp only at H4
  obtain ⟨e_2, E7, H8⟩ := zbi H4
  refine zjn (α := { y : Int // e_2 = y }) (fun | ⟨e_3, _⟩ => ⟨upd 8 (.pt 0 0) (upd 9 (.pt 1 0) (upd 10 (.pt 2 0) (upd 11 (.pt 3 0) (upd 15 (.pt 4 0) (upd 16 (.v (.int .i64 e_3)) noFr))))), upd 0 (some (.bx [.v (.string typ)])) (upd 1 (some (.bx [.v (.string rel)])) (upd 2 (some (.bx [.v (.string s.type_), .v (.string s.id_), .v (.string s.rel)])) (upd 3 (some (.bx [.v (.string p.after), .v (.int .i64 p.most)])) (upd 4 (some (.bx [.d (.pt [.pt [.mp (encMp Value.string false eI t25.1.schema.types), .mp (encMp kWellName true eGRel t25.1.schema.rels), .mp (encMp kWellName false eI t25.1.schema.ranks)] 0, .pt [.mp (encMp kGRef false (eL eGSub) t25.1.index.left.subs), .mp (encMp Value.string false (eL eS) t25.1.index.left.objs), .mp (encMp kGSub false (eL eGRef) t25.1.index.right.refs), .mp (encMp Value.string false (eL eS) t25.1.index.right.users)] 0, .sl (List.map eGTuple t25.1.rows_)] 0) true])) noHp)))), 5⟩) ?_ ?_
  ·refine ZT 1 ?_
   refine Z0 ?_
   rcases zit E7 with ⟨c9, H10⟩ | ⟨c9, H10⟩
   ·refine Z1 c9 ?_
    obtain rfl := Zi H10
    exact ⟨⟨13, rfl⟩, ZR [(0, 0), (1, 1), (2, 2), (3, 3), (4, 4)]⟩
   ·refine Z1 c9 ?_
    obtain rfl := Zi H10
    exact ⟨⟨t25.2, rfl⟩, ZR [(0, 0), (1, 1), (2, 2), (3, 3), (4, 4)]⟩
  ·rintro ⟨e_3, he39⟩
   obtain rfl := he39.symm
   try dsimp only at H8
   refine ZT 1 ?_
   refine Z0 ?_
   rcases zit H8 with ⟨c11, H12⟩ | ⟨c11, H12⟩
   ·refine Z1 c11 ?_
    obtain rfl := Zi H12
    exact ZE0
   ·refine Z1 c11 ?_
    rcases zit H12 with ⟨c13, H14⟩ | ⟨c13, H14⟩
    ·obtain ⟨t49, b15, H16⟩ := zbi H14
     refine Z1 (Y2 c11 c13) ?_
     rcases zit H16 with ⟨c17, H18⟩ | ⟨c17, H18⟩
     ·refine Z1 (Y3 c11 c13 c17) ?_
      refine onCallD_det (ids' := []) (v := .v (.slice none 0 0)) (δ := []) (nx' := 48) (fun hp1 _ => InlOK.mono (look_Types_nil b15 c17) fun v2 hp2 nx2 e => e) ?_
      obtain ⟨t52, b22, H23⟩ := zbi H18
      refine Z1 (Y3 c11 c13 c17) ?_
      refine onCallD_pureA [4, 0, 1, 2] (by intro hp1 h1; have h24 := h1 4 (by simp); have h25 := h1 0 (by simp); have h26 := h1 1 (by simp); have h27 := h1 2 (by simp); (try simp -implicitDefEqProofs only [go_sem, Nat.reduceEqDiff, reduceCtorEq, ↓reduceIte] at h24); (try simp -implicitDefEqProofs only [go_sem, ↓reduceIte] at h25); (try simp -implicitDefEqProofs only [go_sem, reduceCtorEq, ↓reduceIte] at h26); (try simp -implicitDefEqProofs only [go_sem, Nat.reduceEqDiff, reduceCtorEq, ↓reduceIte] at h27); first | (simp -implicitDefEqProofs only [go_sem, eGSub, eGPage, eWellSchema, eLookIndex, eSeekGraph, h24, h25, h26, h27]; done) | (simp -implicitDefEqProofs only [go_sem, eGSub, eGPage, eWellSchema, eLookIndex, eSeekGraph, h24, h25, h26, h27]; rfl)) (find_page__find_Objects_c1_ok b22) (by first | exact .inr rfl | exact .inl rfl) ?_
      refine Z1 (Y3 c11 c13 c17) ?_
      refine Rd_endF (by rfl) ?_
      refine Z1 (Y3 c11 c13 c17) ?_
      obtain rfl := Zi H23
      exact ZE0
     ·have q31 : 0 < t49.length := by have := of_decide_eq_false c17; omega
      refine Z1 (Y3 c11 c13 c17) ?_
      refine onCallD_det (ids' := []) (v := .so 42 2 0 t49.length) (δ := [(42, .rw (List.map eS t49) 1 2 false false)]) (nx' := 51) (fun hp1 _ => InlOK.mono (look_Types_in b15 q31) fun v2 hp2 nx2 e => e) ?_
      obtain ⟨t522, b32, H33⟩ := zbi H18
      refine Z1 (Y3 c11 c13 c17) ?_
      refine onCallD_pureA [42, 4, 0, 1, 2] (by intro hp1 h1; have h34 := h1 42 (by simp); have h35 := h1 4 (by simp); have h36 := h1 0 (by simp); have h37 := h1 1 (by simp); have h38 := h1 2 (by simp); (try simp -implicitDefEqProofs only [go_sem, ↓reduceIte] at h34); (try simp -implicitDefEqProofs only [go_sem, Nat.reduceEqDiff, reduceCtorEq, ↓reduceIte] at h35); (try simp -implicitDefEqProofs only [go_sem, reduceCtorEq, ↓reduceIte] at h36); (try simp -implicitDefEqProofs only [go_sem, Nat.reduceEqDiff, reduceCtorEq, ↓reduceIte] at h37); (try simp -implicitDefEqProofs only [go_sem, Nat.reduceEqDiff, reduceCtorEq, ↓reduceIte] at h38); first | (simp -implicitDefEqProofs only [go_sem, ↓reduceIte, eGSub, eGPage, eWellSchema, eLookIndex, eSeekGraph, h34, h35, h36, h37, h38]; done) | (simp -implicitDefEqProofs only [go_sem, ↓reduceIte, eGSub, eGPage, eWellSchema, eLookIndex, eSeekGraph, h34, h35, h36, h37, h38]; rfl)) (find_page__find_Objects_c1_ok b32) (by first | exact .inr rfl | exact .inl rfl) ?_
      refine Z1 (Y3 c11 c13 c17) ?_
      refine Rd_endF (by rfl) ?_
      refine Z1 (Y3 c11 c13 c17) ?_
      obtain rfl := Zi H33
      exact ZE0
    ·refine Z1 (Y2 c11 c13) ?_
     obtain rfl := Zi H14
     exact ZE0
def law11_FindAfter_L1 (n : Nat) (t0 : List Int) : Nat → (List GTuple × List Bool × Int) → Option (List GTuple × List Bool)
 | 0, _ => none
 | c + 1, (t8, t92, t10) =>
  (
   (if (decide (t10 < (t0.length : Int))) then
    some (decide (t10 < 20))
   else
    some false) : Option (Bool)).bind fun t272 =>
  (if t272 then
   (idx t0 t10).bind fun x2 =>
   (aix 16 (IntKind.i64.wrap (an x2 15 : Int))).bind fun k3 =>
   (bset t92 k3 true).bind fun l2 =>
   (bslc ({ data := #[97, 98, 99, 100, 101, 102, 103, 104, 105, 106, 107, 108, 109, 110, 111, 112] }) (IntKind.i64.wrap (an x2 15 : Int)) (IntKind.i64.wrap ((IntKind.i64.wrap (an x2 15 : Int)) + 1))).bind fun s2 =>
   (app t8 [(⟨(⟨{ data := #[100] }, s2⟩ : GObj), { data := #[111] }, (⟨{ data := #[117] }, { data := #[120] }, ByteArray.empty⟩ : GSub)⟩ : GTuple)]).bind fun l3 =>
   law11_FindAfter_L1 n t0 c (l3, l2, (IntKind.i64.wrap (t10 + 1)))
  else
   some (t8, t92))
def law11_FindAfter_L2 (n : Nat) (t2 : Int) (t94 : List Bool) (t62 : List ByteArray × Bool × Int) : Nat → (Int × Int) → Option ((Int) ⊕ Bool)
 | 0, _ => none
 | c + 1, (t17, t18) =>
  (if (decide (t18 < 16)) then
   (aix 16 t18).bind fun k5 =>
   (t94[k5]?).bind fun u2 =>
   (if u2 then
    (if (decide (t17 < (IntKind.i64.wrap ((IntKind.i64.wrap (an t2 7 : Int)) + 1)))) then
     (if (decide ((t62.1.length : Int) ≤ t17)) then
      some (.inr false)
     else
      (idx t62.1 t17).bind fun x4 =>
      (bslc ({ data := #[97, 98, 99, 100, 101, 102, 103, 104, 105, 106, 107, 108, 109, 110, 111, 112] }) t18 (IntKind.i64.wrap (t18 + 1))).bind fun s5 =>
      (if (x4.toList == s5.toList) then
       law11_FindAfter_L2 n t2 t94 t62 c ((IntKind.i64.wrap (t17 + 1)), (IntKind.i64.wrap (t18 + 1)))
      else
       some (.inr false)))
    else
     law11_FindAfter_L2 n t2 t94 t62 c ((IntKind.i64.wrap (t17 + 1)), (IntKind.i64.wrap (t18 + 1))))
   else
    law11_FindAfter_L2 n t2 t94 t62 c (t17, (IntKind.i64.wrap (t18 + 1))))
  else
   some (.inl t17))
def law11_FindAfter (n : Nat) (t0 : List Int) (t1 : Int) (t2 : Int) : Option Bool :=
 (law8_Types n ({ data := #[116, 121, 112, 101, 32, 117, 32, 116, 121, 112, 101, 32, 100, 32, 123, 32, 111, 58, 32, 117, 59, 32, 125] })).bind fun t19 =>
 (
  law11_FindAfter_L1 n t0 n ([], (List.replicate 16 false), 0) : Option (List GTuple × List Bool)).bind fun (t83, t94) =>
 (bslc ({ data := #[97, 98, 99, 100, 101, 102, 103, 104, 105, 106, 107, 108, 109, 110, 111, 112] }) (IntKind.i64.wrap (an t1 15 : Int)) (IntKind.i64.wrap ((IntKind.i64.wrap (an t1 15 : Int)) + 1))).bind fun s3 =>
 (find_Objects n t19 t83 ({ data := #[100] }) ({ data := #[111] }) (⟨{ data := #[117] }, { data := #[120] }, ByteArray.empty⟩ : GSub) (⟨s3, (IntKind.i64.wrap ((IntKind.i64.wrap (an t2 7 : Int)) + 1))⟩ : GPage)).bind fun t62 =>
 (
  law11_FindAfter_L2 n t2 t94 t62 n (0, (IntKind.i64.wrap ((IntKind.i64.wrap (an t1 15 : Int)) + 1))) : Option ((Int) ⊕ Bool)).bind fun
  | .inl t173 =>
   (if (t62.2.2 == 0) then
    (if ((t62.1.length : Int) == (if (IntKind.i64.wrap ((IntKind.i64.wrap (an t2 7 : Int)) + 1)) < t173 then (IntKind.i64.wrap ((IntKind.i64.wrap (an t2 7 : Int)) + 1)) else t173)) then
     (if (t62.2.1 == (decide ((IntKind.i64.wrap ((IntKind.i64.wrap (an t2 7 : Int)) + 1)) < t173))) then
      (law11_awake n).bind fun t116 =>
      some t116
     else
      some false)
    else
     some false)
   else
    some false)
  | .inr r => some r
set_option maxHeartbeats 8000000 in
theorem law11_FindAfter_ok {n : Nat} {t0 : List Int} {t1 : Int} {t2 : Int} {r : Bool} (H : law11_FindAfter n t0 t1 t2 = some r) : PureOK Tryz.prog 3 [D.sl (List.map eI t0), D.v (.int .i64 t1), D.v (.int .i64 t2)] (D.v (.bool r)) true := by
 unfold law11_FindAfter at H
 refine ZP tab_ok fol (rs := #[.tmp 6]) Tryz.func3 ?_
 refine zsq (ZT 1 ?_)
 refine Z0 ?_
 refine zsq (ZT 1 ?_)
 obtain ⟨t19, b1, H2⟩ := zbi H
 refine Z0 ?_
 refine ZC0 (law8_Types_ok b1) ?_
 refine Z0 ?_
 refine zsq (ZT 1 ?_)
 refine Z0 ?_
 refine zsq (ZT 1 ?_)
 refine Z1 (show AO.bx [AV.v (.bool false), AV.v (.bool false), AV.v (.bool false), AV.v (.bool false), AV.v (.bool false), AV.v (.bool false), AV.v (.bool false), AV.v (.bool false), AV.v (.bool false), AV.v (.bool false), AV.v (.bool false), AV.v (.bool false), AV.v (.bool false), AV.v (.bool false), AV.v (.bool false), AV.v (.bool false)] = AO.bx (boxL Value.bool (List.replicate 16 false)) from rfl) ?_
 refine zsq (zsq ?_)
 refine ZT 1 ?_
 refine Z1 (show AO.bx [AV.v (.bool false), AV.v (.bool false), AV.v (.bool false), AV.v (.bool false), AV.v (.bool false), AV.v (.bool false), AV.v (.bool false), AV.v (.bool false), AV.v (.bool false), AV.v (.bool false), AV.v (.bool false), AV.v (.bool false), AV.v (.bool false), AV.v (.bool false), AV.v (.bool false), AV.v (.bool false)] = AO.bx (boxL Value.bool (List.replicate 16 false)) from rfl) ?_
 obtain ⟨e_, E3, H4⟩ := zbi H2
 refine zjn (α := { y : List GTuple × List Bool // e_ = y } × Nat) (fun | ⟨⟨⟨t83, t94⟩, _⟩, g4⟩ => ⟨upd 1 (.v (.int .i64 t1)) (upd 2 (.v (.int .i64 t2)) (upd 7 (.d (.sl (List.map eGType t19)) false) (upd 8 (accV 0 g4 (List.map eGTuple t83)) (upd 9 (.pt 1 0) noFr)))), upd 0 (accO 6 g4 false (List.map eGTuple t83)) (upd 1 (some (.bx (boxL Value.bool t94))) noHp), 2⟩) ?_ ?_
 ·refine zbk ?_
  refine zlp (α := { q : (Nat × (List GTuple × List Bool × Int)) × Nat // law11_FindAfter_L1 n t0 q.1.1 q.1.2 = some e_ }) (fun | ⟨⟨⟨c, ⟨t8, t92, t10⟩⟩, g⟩, _⟩ => ⟨upd 0 (.d (.sl (List.map eI t0)) true) (upd 1 (.v (.int .i64 t1)) (upd 2 (.v (.int .i64 t2)) (upd 7 (.d (.sl (List.map eGType t19)) false) (upd 8 (accV 0 g (List.map eGTuple t8)) (upd 9 (.pt 1 0) (upd 10 (.v (.int .i64 t10)) noFr)))))), upd 0 (accO 6 g false (List.map eGTuple t8)) (upd 1 (some (.bx (boxL Value.bool t92))) noHp), 2⟩) (fun q => q.1.1.1) ⟨((n, ([], (List.replicate 16 false), 0)), 0), E3⟩ ?_ ?_
  ·exact ren_mk [(1, 4)] (by rfl) (rf_upd (by rfl) (rf_upd (by rfl) (rf_upd (by rfl) (rf_upd (by rfl) (rf_upd (by rfl) (rf_upd (by rfl) (rf_upd (by rfl) (rf_no _)))))))) (rh_upd rh_accN (rh_upd (rh_one (by rfl) (renO_boxL _) (by rfl)) (rh_no _)))
  ·rintro ⟨⟨⟨c, ⟨t8, t92, t10⟩⟩, g⟩, L5⟩
   rcases c with _ | c
   ·exact Zx L5
   ·unfold law11_FindAfter_L1 at L5
    try dsimp only at L5
    refine zsq (zsq ?_)
    obtain ⟨e_3, E38, H39⟩ := zbi L5
    refine zjn (α := { y : Bool // e_3 = y } × Nat) (fun | ⟨⟨t272, _⟩, g2⟩ => ⟨upd 0 (.d (.sl (List.map eI t0)) true) (upd 1 (.v (.int .i64 t1)) (upd 2 (.v (.int .i64 t2)) (upd 7 (.d (.sl (List.map eGType t19)) false) (upd 8 (accV 0 g2 (List.map eGTuple t8)) (upd 9 (.pt 1 0) (upd 10 (.v (.int .i64 t10)) (upd 27 (.v (.bool t272)) noFr))))))), upd 0 (accO 6 g2 false (List.map eGTuple t8)) (upd 1 (some (.bx (boxL Value.bool t92))) noHp), 2⟩) ?_ ?_
    ·refine ZT 1 ?_
     refine Z0 ?_
     rcases zit E38 with ⟨c40, H41⟩ | ⟨c40, H41⟩
     ·refine Z1 c40 ?_
      obtain rfl := Zi H41
      exact ⟨⟨⟨(decide (t10 < 20)), rfl⟩, g⟩, ren_mk [(0, 0), (1, 1)] (by rfl) (rf_upd (by rfl) (rf_upd (by rfl) (rf_upd (by rfl) (rf_upd (by rfl) (rf_upd (ren_acc (by rfl)) (rf_upd (by rfl) (rf_upd (by rfl) (rf_upd (by rfl) (rf_no _))))))))) (rh_upd (rh_acc (by rfl) (by rfl)) (rh_upd (rh_one (by rfl) (renO_boxL _) (by rfl)) (rh_no _)))⟩
     ·refine Z1 c40 ?_
      obtain rfl := Zi H41
      exact ⟨⟨⟨false, rfl⟩, g⟩, ren_mk [(0, 0), (1, 1)] (by rfl) (rf_upd (by rfl) (rf_upd (by rfl) (rf_upd (by rfl) (rf_upd (by rfl) (rf_upd (ren_acc (by rfl)) (rf_upd (by rfl) (rf_upd (by rfl) (rf_upd (by rfl) (rf_no _))))))))) (rh_upd (rh_acc (by rfl) (by rfl)) (rh_upd (rh_one (by rfl) (renO_boxL _) (by rfl)) (rh_no _)))⟩
    ·rintro ⟨⟨t272, he77⟩, g2⟩
     obtain rfl := he77.symm
     try dsimp only at H39
     refine ZT 2 ?_
     refine Z0 ?_
     rcases zit H39 with ⟨c42, H43⟩ | ⟨c42, H43⟩
     ·obtain ⟨x2, b44, H45⟩ := zbi H43
      obtain ⟨h46, h47⟩ := zix b44
      try simp only [Int.reduceToNat, Int.toNat_natCast] at h47
      have h48 := map_at eI h47
      obtain ⟨k3, b50, H51⟩ := zbi H45
      obtain ⟨h52, h53, h54⟩ := aix_inv b50
      obtain ⟨l2, b55, H56⟩ := zbi H51
      obtain ⟨h57, h58⟩ := bset_inv b55
      obtain ⟨s2, b59, H60⟩ := zbi H56
      obtain ⟨h61, h62, h63, h64⟩ := zbs b59
      have h65 : Int.toNat (IntKind.i64.wrap (an x2 15 : Int)) ≤ Int.toNat (IntKind.i64.wrap ((IntKind.i64.wrap (an x2 15 : Int)) + 1)) := by omega
      have h66 : Int.toNat (IntKind.i64.wrap ((IntKind.i64.wrap (an x2 15 : Int)) + 1)) ≤ (ByteArray.size ({ data := #[97, 98, 99, 100, 101, 102, 103, 104, 105, 106, 107, 108, 109, 110, 111, 112] })) := by omega
      have h67 : ByteArray.extract ({ data := #[97, 98, 99, 100, 101, 102, 103, 104, 105, 106, 107, 108, 109, 110, 111, 112] }) (Int.toNat (IntKind.i64.wrap (an x2 15 : Int))) (Int.toNat (IntKind.i64.wrap ((IntKind.i64.wrap (an x2 15 : Int)) + 1))) = s2 := h64.symm
      have h68 : Int.toNat (IntKind.i64.wrap ((IntKind.i64.wrap (an x2 15 : Int)) + 1)) ≤ 16 := h66
      try simp only [Int.toNat_natCast] at h65 h68 h67
      rw [h53] at h65 h67
      obtain ⟨l3, b69, H70⟩ := zbi H60
      obtain ⟨h71, h72⟩ := app_inv b69
      have h71 : t8.length + 1 ≤ 4294967296 := h71
      have h73 : List.map eGTuple t8 ++ [[.v (.string { data := #[100] }), .v (.string s2), .v (.string { data := #[111] }), .v (.string { data := #[117] }), .v (.string { data := #[120] }), .v (.string ByteArray.empty)]] = List.map eGTuple l3 := app_map eGTuple h72
      have h74 : t8.length + 1 = l3.length := app_len h72
      have h75 : l3.length ≤ 4294967296 := by omega
      have q76 : 0 < l3.length := by omega
      refine Z1 (Y3 (Y6 c42 (zno .i64 h46) h48 (zno .i64 h52) h53 h54) (Y6 (boxL_len (f := Value.bool) h57) (boxL_put (f := Value.bool) h57 h58) (zno .i64 h61) (zno .i64 (Int.le_trans h61 h62)) h65 h68) (Y5 h67 h71 h73 h74 h75)) ?_
      rcases t8 with _ | ⟨q0, q1⟩
      ·try simp only [List.map_nil, accI, accN]
       exact ⟨⟨((c, (l3, l2, (IntKind.i64.wrap (t10 + 1)))), 0), H70⟩, ren_mk [(0, 20), (1, 1)] (by rfl) (rf_upd (by rfl) (rf_upd (by rfl) (rf_upd (by rfl) (rf_upd (by rfl) (rf_upd (by first | exact ren_accP (by rfl) q76 | rfl) (rf_upd (by rfl) (rf_upd (by rfl) (rf_no _)))))))) (rh_upd (by first | exact rh_accP (by rfl) q76 (by rfl) | exact rh_one (by rfl) (by rfl) (by rfl)) (rh_upd (rh_one (by rfl) (renO_boxL _) (by rfl)) (rh_no _))), Nat.lt_succ_self _⟩
      ·try simp only [List.map_cons, accI, accN]
       exact ⟨⟨((c, (l3, l2, (IntKind.i64.wrap (t10 + 1)))), (g2 + 1)), H70⟩, ren_mk [(0, 0), (1, 1)] (by rfl) (rf_upd (by rfl) (rf_upd (by rfl) (rf_upd (by rfl) (rf_upd (by rfl) (rf_upd (by first | exact ren_accP (by rfl) q76 | rfl) (rf_upd (by rfl) (rf_upd (by rfl) (rf_no _)))))))) (rh_upd (by first | exact rh_accP (by rfl) q76 (by rfl) | exact rh_one (by rfl) (by rfl) (by rfl)) (rh_upd (rh_one (by rfl) (renO_boxL _) (by rfl)) (rh_no _))), Nat.lt_succ_self _⟩
     ·refine Z1 c42 ?_
      obtain rfl := Zi H43
      exact ⟨⟨⟨(t8, t92), rfl⟩, g2⟩, ren_mk [(0, 0), (1, 1)] (by rfl) (rf_upd (by rfl) (rf_upd (by rfl) (rf_upd (by rfl) (rf_upd (ren_acc (by rfl)) (rf_upd (by rfl) (rf_no _)))))) (rh_upd (rh_acc (by rfl) (by rfl)) (rh_upd (rh_one (by rfl) (renO_boxL _) (by rfl)) (rh_no _)))⟩
 ·rintro ⟨⟨⟨t83, t94⟩, he168⟩, g4⟩
  obtain rfl := he168.symm
  try dsimp only at H4
  refine zsq (ZT 1 ?_)
  refine Z0 ?_
  refine zsq (ZT 1 ?_)
  obtain ⟨s3, b78, H79⟩ := zbi H4
  obtain ⟨h80, h81, h82, h83⟩ := zbs b78
  have h84 : Int.toNat (IntKind.i64.wrap (an t1 15 : Int)) ≤ Int.toNat (IntKind.i64.wrap ((IntKind.i64.wrap (an t1 15 : Int)) + 1)) := by omega
  have h85 : Int.toNat (IntKind.i64.wrap ((IntKind.i64.wrap (an t1 15 : Int)) + 1)) ≤ (ByteArray.size ({ data := #[97, 98, 99, 100, 101, 102, 103, 104, 105, 106, 107, 108, 109, 110, 111, 112] })) := by omega
  have h86 : ByteArray.extract ({ data := #[97, 98, 99, 100, 101, 102, 103, 104, 105, 106, 107, 108, 109, 110, 111, 112] }) (Int.toNat (IntKind.i64.wrap (an t1 15 : Int))) (Int.toNat (IntKind.i64.wrap ((IntKind.i64.wrap (an t1 15 : Int)) + 1))) = s3 := h83.symm
  have h87 : Int.toNat (IntKind.i64.wrap ((IntKind.i64.wrap (an t1 15 : Int)) + 1)) ≤ 16 := h85
  try simp only [Int.toNat_natCast] at h84 h87 h86
  obtain ⟨t62, b88, H89⟩ := zbi H79
  refine Z1 (Y5 (zno .i64 h80) (zno .i64 (Int.le_trans h80 h81)) h84 h87 h86) ?_
  refine ZC1 (Y5 (zno .i64 h80) (zno .i64 (Int.le_trans h80 h81)) h84 h87 h86) (find_Objects_ok b88) ?_
  refine Z1 (Y5 (zno .i64 h80) (zno .i64 (Int.le_trans h80 h81)) h84 h87 h86) ?_
  refine zsq (ZT 1 ?_)
  refine Z1 (Y5 (zno .i64 h80) (zno .i64 (Int.le_trans h80 h81)) h84 h87 h86) ?_
  refine zsq (zsq ?_)
  refine ZT 1 ?_
  refine Z1 (Y5 (zno .i64 h80) (zno .i64 (Int.le_trans h80 h81)) h84 h87 h86) ?_
  obtain ⟨e_4, E90, H91⟩ := zbi H89
  refine zjn (α := { y : Int // e_4 = .inl y }) (fun | ⟨t173, _⟩ => ⟨upd 13 (.v (.int .i64 (IntKind.i64.wrap ((IntKind.i64.wrap (an t2 7 : Int)) + 1)))) (upd 14 (.d (.sl (List.map eS t62.1)) false) (upd 15 (.v (.bool t62.2.1)) (upd 16 (.v (.int .i64 t62.2.2)) (upd 17 (.v (.int .i64 t173)) noFr)))), noHp, 0⟩) ?_ ?_
  ·refine zbk ?_
   refine zlp (α := { q : Nat × (Int × Int) // law11_FindAfter_L2 n t2 t94 t62 q.1 q.2 = some e_4 }) (fun | ⟨⟨c, ⟨t17, t18⟩⟩, _⟩ => ⟨upd 9 (.pt 0 0) (upd 13 (.v (.int .i64 (IntKind.i64.wrap ((IntKind.i64.wrap (an t2 7 : Int)) + 1)))) (upd 14 (.d (.sl (List.map eS t62.1)) false) (upd 15 (.v (.bool t62.2.1)) (upd 16 (.v (.int .i64 t62.2.2)) (upd 17 (.v (.int .i64 t17)) (upd 18 (.v (.int .i64 t18)) noFr)))))), upd 0 (some (.bx (boxL Value.bool t94))) noHp, 1⟩) (fun q => q.1.1) ⟨(n, (0, (IntKind.i64.wrap ((IntKind.i64.wrap (an t1 15 : Int)) + 1)))), E90⟩ ?_ ?_
   ·exact ren_mk [(0, 1)] (by rfl) (rf_upd (by rfl) (rf_upd (by rfl) (rf_upd (by rfl) (rf_upd (by rfl) (rf_upd (by rfl) (rf_upd (by rfl) (rf_upd (by rfl) (rf_no _)))))))) (rh_upd (rh_one (by rfl) (renO_boxL _) (by rfl)) (rh_no _))
   ·rintro ⟨⟨c, ⟨t17, t18⟩⟩, L92⟩
    rcases c with _ | c
    ·exact Zx L92
    ·unfold law11_FindAfter_L2 at L92
     try dsimp only at L92
     refine ZT 1 ?_
     refine Z0 ?_
     rcases zit L92 with ⟨c126, H127⟩ | ⟨c126, H127⟩
     ·obtain ⟨k5, b128, H129⟩ := zbi H127
      obtain ⟨h130, h131, h132⟩ := aix_inv b128
      obtain ⟨u2, b133, H134⟩ := zbi H129
      refine Z1 (Y5 c126 (zno .i64 h130) h131 h132 (boxL_at (f := Value.bool) b133)) ?_
      rcases zit H134 with ⟨c135, H136⟩ | ⟨c135, H136⟩
      ·refine Z1 (Y6 c126 (zno .i64 h130) h131 h132 (boxL_at (f := Value.bool) b133) c135) ?_
       rcases zit H136 with ⟨c137, H138⟩ | ⟨c137, H138⟩
       ·refine Z1 (Y2 (Y6 c126 (zno .i64 h130) h131 h132 (boxL_at (f := Value.bool) b133) c135) c137) ?_
        rcases zit H138 with ⟨c139, H140⟩ | ⟨c139, H140⟩
        ·refine Z1 (Y2 (Y6 c126 (zno .i64 h130) h131 h132 (boxL_at (f := Value.bool) b133) c135) (Y2 c137 c139)) ?_
         refine Rd_endF (by rfl) ?_
         refine Z1 (Y2 (Y6 c126 (zno .i64 h130) h131 h132 (boxL_at (f := Value.bool) b133) c135) (Y2 c137 c139)) ?_
         obtain rfl := Zi H140
         obtain rfl := Zi H91
         exact ZE0
        ·obtain ⟨x4, b141, H142⟩ := zbi H140
         obtain ⟨h143, h144⟩ := zix b141
         try simp only [Int.reduceToNat, Int.toNat_natCast] at h144
         have h145 := map_at eS h144
         obtain ⟨s5, b147, H148⟩ := zbi H142
         obtain ⟨h149, h150, h151, h152⟩ := zbs b147
         have h153 : Int.toNat t18 ≤ Int.toNat (IntKind.i64.wrap (t18 + 1)) := by omega
         have h154 : Int.toNat (IntKind.i64.wrap (t18 + 1)) ≤ (ByteArray.size ({ data := #[97, 98, 99, 100, 101, 102, 103, 104, 105, 106, 107, 108, 109, 110, 111, 112] })) := by omega
         have h155 : ByteArray.extract ({ data := #[97, 98, 99, 100, 101, 102, 103, 104, 105, 106, 107, 108, 109, 110, 111, 112] }) (Int.toNat t18) (Int.toNat (IntKind.i64.wrap (t18 + 1))) = s5 := h152.symm
         have h156 : Int.toNat (IntKind.i64.wrap (t18 + 1)) ≤ 16 := h154
         try simp only [Int.toNat_natCast] at h153 h156 h155
         rw [h131] at h153 h155
         refine Z1 (Y3 (Y6 c126 (zno .i64 h130) h131 h132 (boxL_at (f := Value.bool) b133) c135) (Y6 c137 c139 (zno .i64 h143) h145 (zno .i64 h149) (zno .i64 (Int.le_trans h149 h150))) (Y3 h153 h156 h155)) ?_
         refine Rd_endF (by rfl) ?_
         refine Z1 (Y3 (Y6 c126 (zno .i64 h130) h131 h132 (boxL_at (f := Value.bool) b133) c135) (Y6 c137 c139 (zno .i64 h143) h145 (zno .i64 h149) (zno .i64 (Int.le_trans h149 h150))) (Y3 h153 h156 h155)) ?_
         rcases zit H148 with ⟨c157, H158⟩ | ⟨c157, H158⟩
         ·refine Z1 (Y3 (Y6 c126 (zno .i64 h130) h131 h132 (boxL_at (f := Value.bool) b133) c135) (Y6 c137 c139 (zno .i64 h143) h145 (zno .i64 h149) (zno .i64 (Int.le_trans h149 h150))) (Y4 h153 h156 h155 c157)) ?_
          exact ⟨⟨(c, ((IntKind.i64.wrap (t17 + 1)), (IntKind.i64.wrap (t18 + 1)))), H158⟩, ren_mk [(0, 0)] (by rfl) (rf_upd (by rfl) (rf_upd (by rfl) (rf_upd (by rfl) (rf_upd (by rfl) (rf_upd (by rfl) (rf_upd (by rfl) (rf_upd (by rfl) (rf_no _)))))))) (rh_upd (rh_one (by rfl) (renO_boxL _) (by rfl)) (rh_no _)), Nat.lt_succ_self _⟩
         ·refine Z1 (Y3 (Y6 c126 (zno .i64 h130) h131 h132 (boxL_at (f := Value.bool) b133) c135) (Y6 c137 c139 (zno .i64 h143) h145 (zno .i64 h149) (zno .i64 (Int.le_trans h149 h150))) (Y4 h153 h156 h155 c157)) ?_
          obtain rfl := Zi H158
          obtain rfl := Zi H91
          exact ZE0
       ·refine Z1 (Y2 (Y6 c126 (zno .i64 h130) h131 h132 (boxL_at (f := Value.bool) b133) c135) c137) ?_
        refine Rd_endF (by rfl) ?_
        refine Z1 (Y2 (Y6 c126 (zno .i64 h130) h131 h132 (boxL_at (f := Value.bool) b133) c135) c137) ?_
        exact ⟨⟨(c, ((IntKind.i64.wrap (t17 + 1)), (IntKind.i64.wrap (t18 + 1)))), H138⟩, ren_mk [(0, 0)] (by rfl) (rf_upd (by rfl) (rf_upd (by rfl) (rf_upd (by rfl) (rf_upd (by rfl) (rf_upd (by rfl) (rf_upd (by rfl) (rf_upd (by rfl) (rf_no _)))))))) (rh_upd (rh_one (by rfl) (renO_boxL _) (by rfl)) (rh_no _)), Nat.lt_succ_self _⟩
      ·refine Z1 (Y6 c126 (zno .i64 h130) h131 h132 (boxL_at (f := Value.bool) b133) c135) ?_
       exact ⟨⟨(c, (t17, (IntKind.i64.wrap (t18 + 1)))), H136⟩, ren_mk [(0, 0)] (by rfl) (rf_upd (by rfl) (rf_upd (by rfl) (rf_upd (by rfl) (rf_upd (by rfl) (rf_upd (by rfl) (rf_upd (by rfl) (rf_upd (by rfl) (rf_no _)))))))) (rh_upd (rh_one (by rfl) (renO_boxL _) (by rfl)) (rh_no _)), Nat.lt_succ_self _⟩
     ·refine Z1 c126 ?_
      obtain rfl := Zi H127
      exact ⟨⟨t17, rfl⟩, ZR []⟩
  ·rintro ⟨t173, he167⟩
   obtain rfl := he167.symm
   try dsimp only at H91
   refine ZT 1 ?_
   refine Z0 ?_
   rcases zit H91 with ⟨c159, H160⟩ | ⟨c159, H160⟩
   ·refine Z1 c159 ?_
    rcases zit H160 with ⟨c161, H162⟩ | ⟨c161, H162⟩
    ·refine Z1 (Y2 c159 c161) ?_
     rcases zit H162 with ⟨c163, H164⟩ | ⟨c163, H164⟩
     ·obtain ⟨t116, b165, H166⟩ := zbi H164
      refine Z1 (Y3 c159 c161 c163) ?_
      refine ZC0 (law11_awake_ok b165) ?_
      refine Z1 (Y3 c159 c161 c163) ?_
      obtain rfl := Zi H166
      exact ZE0
     ·refine Z1 (Y3 c159 c161 c163) ?_
      obtain rfl := Zi H164
      exact ZE0
    ·refine Z1 (Y2 c159 c161) ?_
     obtain rfl := Zi H162
     exact ZE0
   ·refine Z1 c159 ?_
    obtain rfl := Zi H160
    exact ZE0
end Go.Proofs.YtjkdbakgnnhdnaaGreat.Ab
