/-
 Functions, read off the code.
-/
import Derived.Test.YtjkdbakgnnhdnaaTea
namespace Go.Proofs.Ytjkdbakgnnhdnaa.Ab
open Go.RowKit
def seek_Of_L1 (n : Nat) (rows_ : List GTuple) (t13 : WellSchema × Int) : Nat → (List GTuple × Int) → Option (List GTuple)
 | 0, _ => none
 | c + 1, (fit, t21) =>
  (if (decide (t21 < (rows_.length : Int))) then
   (idx rows_ t21).bind fun x2 =>
   (well_Schema_Fits n (⟨t13.1.types, t13.1.rels, t13.1.ranks⟩ : WellSchema) x2).bind fun t272 =>
   (if t272 then
    (app fit [x2]).bind fun l2 =>
    seek_Of_L1 n rows_ t13 c (l2, (IntKind.i64.wrap (t21 + 1)))
   else
    seek_Of_L1 n rows_ t13 c (fit, (IntKind.i64.wrap (t21 + 1))))
  else
   some fit)
def seek_Of_L1_f (n : Nat) (_ : List GTuple) (t13 : WellSchema × Int) (st : List GTuple) (x2 : GTuple) (k : List GTuple → Option (List GTuple)) : Option (List GTuple) :=
 match st with
 | fit =>
  (well_Schema_Fits n (⟨t13.1.types, t13.1.rels, t13.1.ranks⟩ : WellSchema) x2).bind fun t272 =>
  (if t272 then
   (app fit [x2]).bind fun l2 =>
   k l2
  else
   k fit)
def seek_Of_L1_e (_ : Nat) (_ : List GTuple) (_ : WellSchema × Int) (st : List GTuple) : Option (List GTuple) :=
 match st with
 | fit => some fit
theorem seek_Of_L1_list (n : Nat) (rows_ : List GTuple) (t13 : WellSchema × Int) (hx : rows_.length < 4611686018427387904) (c : Nat) (st : List GTuple) (ix : Nat) (hi : ix ≤ rows_.length) (hc : rows_.length - ix < c) : seek_Of_L1 n rows_ t13 c (match st, (ix : Int) with | fit, ix => (fit, ix)) = foldK (seek_Of_L1_f n rows_ t13) (seek_Of_L1_e n rows_ t13) (rows_.drop ix) st :=
 loop_list (fun c st ix => seek_Of_L1 n rows_ t13 c (match st, ix with | fit, ix => (fit, ix))) rows_ (seek_Of_L1_f n rows_ t13) (seek_Of_L1_e n rows_ t13) (fun _ _ _ => rfl) hx c st ix hi hc
def seek_Of (n : Nat) (l : List GType) (rows_ : List GTuple) : Option (SeekGraph × Int) :=
 (well_Of n l).bind fun t13 =>
 (if (t13.2 != 0) then
  none
 else
  (
   seek_Of_L1 n rows_ t13 n ([], 0) : Option (List GTuple)).bind fun fit3 =>
  (look_Of n fit3).bind fun t35 =>
  (if (decide (fit3.length = 0)) then
   some ((⟨(⟨t13.1.types, t13.1.rels, t13.1.ranks⟩ : WellSchema), t35, []⟩ : SeekGraph), 0)
  else
   some ((⟨(⟨t13.1.types, t13.1.rels, t13.1.ranks⟩ : WellSchema), t35, fit3⟩ : SeekGraph), 0)))
theorem seek_Of_ok {n : Nat} {l : List GType} {rows_ : List GTuple} {r : SeekGraph × Int} (H : seek_Of n l rows_ = some r) : PureA Try.prog 11 [.d (D.sl (List.map eGType l)), .d (D.sl (List.map eGTuple rows_))] (D.tu [D.pt (eSeekGraph r.1) 0, D.v (.int .i64 r.2)]) false := by
 unfold seek_Of at H
 refine ZPX tab_ok fol (rs := #[.tmp 4, .tmp 5]) Try.func11 ?_
 refine zsq (ZT 1 ?_)
 refine Z0 ?_
 refine zsq (ZT 1 ?_)
 obtain ⟨t13, b1, H2⟩ := zbi H
 refine Z0 ?_
 refine ZC0 (well_Of_ok b1) ?_
 refine Z0 ?_
 refine zsq (ZT 1 ?_)
 refine Z0 ?_
 rcases zit H2 with ⟨c3, H4⟩ | ⟨c3, H4⟩
 ·refine Z1 c3 ?_
  cases H4
 ·refine Z1 c3 ?_
  refine zsq (ZT 1 ?_)
  refine Z1 c3 ?_
  refine zsq (zsq ?_)
  refine ZT 1 ?_
  refine Z1 c3 ?_
  obtain ⟨e_, E5, H6⟩ := zbi H4
  refine zjn (α := { y : List GTuple // e_ = y } × Nat) (fun | ⟨⟨fit3, _⟩, g3⟩ => ⟨upd 6 (.d (.pt [.mp (encMp Value.string false eI t13.1.types), .mp (encMp kWellName true eGRel t13.1.rels), .mp (encMp kWellName false eI t13.1.ranks)] 0) true) (upd 8 (accV 0 g3 (List.map eGTuple fit3)) noFr), upd 0 (accO 6 g3 false (List.map eGTuple fit3)) noHp, 1⟩) ?_ ?_
  ·refine zbk ?_
   refine zlp (α := { q : (Nat × (List GTuple × Int)) × Nat // seek_Of_L1 n rows_ t13 q.1.1 q.1.2 = some e_ }) (fun | ⟨⟨⟨c, ⟨fit, t21⟩⟩, g⟩, _⟩ => ⟨upd 6 (.d (.pt [.mp (encMp Value.string false eI t13.1.types), .mp (encMp kWellName true eGRel t13.1.rels), .mp (encMp kWellName false eI t13.1.ranks)] 0) true) (upd 8 (accV 0 g (List.map eGTuple fit)) (upd 19 (.d (.sl (List.map eGTuple rows_)) true) (upd 20 (.v (.int .i64 (rows_.length : Int))) (upd 21 (.v (.int .i64 t21)) noFr)))), upd 0 (accO 6 g false (List.map eGTuple fit)) noHp, 1⟩) (fun q => q.1.1.1) ⟨((n, ([], 0)), 0), E5⟩ ?_ ?_
   ·exact ZR []
   ·rintro ⟨⟨⟨c, ⟨fit, t21⟩⟩, g⟩, L7⟩
    rcases c with _ | c
    ·exact Zx L7
    ·unfold seek_Of_L1 at L7
     try dsimp only at L7
     refine ZT 1 ?_
     refine Z0 ?_
     rcases zit L7 with ⟨c20, H21⟩ | ⟨c20, H21⟩
     ·obtain ⟨x2, b22, H23⟩ := zbi H21
      obtain ⟨h24, h25⟩ := zix b22
      try simp only [Int.reduceToNat, Int.toNat_natCast] at h25
      have h26 := map_at eGTuple h25
      obtain ⟨t272, b28, H29⟩ := zbi H23
      refine Z1 (Y3 c20 (zno .i64 h24) h26) ?_
      refine ZC0 (well_Schema_Fits_ok b28) ?_
      refine Z1 (Y3 c20 (zno .i64 h24) h26) ?_
      rcases zit H29 with ⟨c30, H31⟩ | ⟨c30, H31⟩
      ·obtain ⟨l2, b32, H33⟩ := zbi H31
       obtain ⟨h34, h35⟩ := app_inv b32
       have h34 : fit.length + 1 ≤ 4294967296 := h34
       have h36 : List.map eGTuple fit ++ [[.v (.string x2.obj.type_), .v (.string x2.obj.id_), .v (.string x2.rel), .v (.string x2.sub_.type_), .v (.string x2.sub_.id_), .v (.string x2.sub_.rel)]] = List.map eGTuple l2 := app_map eGTuple h35
       have h37 : fit.length + 1 = l2.length := app_len h35
       have h38 : l2.length ≤ 4294967296 := by omega
       have q39 : 0 < l2.length := by omega
       refine Z1 (Y2 (Y6 c20 (zno .i64 h24) h26 c30 h34 h36) (Y2 h37 h38)) ?_
       rcases fit with _ | ⟨q0, q1⟩
       ·try simp only [List.map_nil, accI, accN]
        exact ⟨⟨((c, (l2, (IntKind.i64.wrap (t21 + 1)))), 0), H33⟩, ZR [(0, 12)], Nat.lt_succ_self _⟩
       ·try simp only [List.map_cons, accI, accN]
        exact ⟨⟨((c, (l2, (IntKind.i64.wrap (t21 + 1)))), (g + 1)), H33⟩, ZR [(0, 0)], Nat.lt_succ_self _⟩
      ·refine Z1 (Y4 c20 (zno .i64 h24) h26 c30) ?_
       exact ⟨⟨((c, (fit, (IntKind.i64.wrap (t21 + 1)))), g), H31⟩, ZR [(0, 0)], Nat.lt_succ_self _⟩
     ·refine Z1 c20 ?_
      obtain rfl := Zi H21
      exact ⟨⟨⟨fit, rfl⟩, g⟩, ZR [(0, 0)]⟩
  ·rintro ⟨⟨fit3, he48⟩, g3⟩
   obtain rfl := he48.symm
   try dsimp only at H6
   refine ZT 1 ?_
   obtain ⟨t35, b40, H41⟩ := zbi H6
   refine Z0 ?_
   refine ZA0 (look_Of_ok b40) ?_
   refine Z0 ?_
   rcases zit H41 with ⟨c42, H43⟩ | ⟨c42, H43⟩
   ·have e44 : fit3 = [] := List.eq_nil_of_length_eq_zero (of_decide_eq_true c42)
    subst e44
    simp only [List.map_nil, accV_nil, accO_nil]
    try simp only [accK, accB]
    refine Z0 ?_
    obtain rfl := Zi H43
    exact endX_ret (b := true) (v := .tu [.pt 6 0, .v (.int .i64 0)]) (by first | (simp -implicitDefEqProofs only [go_sem, Nat.reduceEqDiff, ↓reduceIte] <;> rfl) | rfl) (ToXR.tu (PW.cons (ToXV.one (ToX.place (by rfl) (PW.cons (ToX.one (b' := true) (is := []) rfl (fun _ => rfl)) (PW.cons (ToX.one (b' := false) (is := []) rfl (fun _ => rfl)) (PW.cons (ToX.one (b' := false) (is := []) rfl (fun _ => rfl)) PW.nil)))) rfl) (PW.cons (ToXV.one (ToX.one (b' := false) (is := []) rfl (fun _ => rfl)) rfl) PW.nil))) (by intro h; first | rfl | cases h)
   ·have q45 : 0 < fit3.length := by have := of_decide_eq_false c42; omega
    have h46 : ∀ i, accK i (List.map eGTuple fit3) = [i] := fun i => by cases hx : fit3 with | nil => (rw [hx] at q45; simp at q45) | cons a r => rfl
    have h47 : ∀ b, accB b (List.map eGTuple fit3) = b := fun b => by cases hx : fit3 with | nil => (rw [hx] at q45; simp at q45) | cons a r => rfl
    refine Z1 (Y6 c42 h46 h47 q45 (YV (f := eGTuple) q45) (YO (f := eGTuple) q45)) ?_
    obtain rfl := Zi H43
    exact endX_ret (b := true) (v := .tu [.pt 6 0, .v (.int .i64 0)]) (by first | (simp -implicitDefEqProofs only [go_sem, Nat.reduceEqDiff, ↓reduceIte] <;> rfl) | rfl) (ToXR.tu (PW.cons (ToXV.one (ToX.place (by rfl) (PW.cons (ToX.one (b' := true) (is := []) rfl (fun _ => rfl)) (PW.cons (ToX.one (b' := false) (is := []) rfl (fun _ => rfl)) (PW.cons (ToX.one (b' := false) (is := [0]) (by first | rfl | (simp -implicitDefEqProofs only [go_sem, reduceCtorEq, ↓reduceIte]; done) | (simp -implicitDefEqProofs only [go_sem, Bool.false_and, Int.reduceToNat, Int.reduceLT, Int.reduceLE, Int.reduceBEq, Int.reduceBNe, Nat.reduceLT, Nat.reduceBEq, Int.reduceEq, Nat.reduceEqDiff, Nat.reduceAdd, Nat.reduceSub, Nat.reduceMul, Nat.reduceLeDiff, reduceCtorEq, ↓reduceIte, eGType, eGTuple, eGObj, eGNode_eq, eGSub, eGRel, eWellSchema, eWellName, eLookIndex, eGRef, eLookLeft, eLookRight, eSeekGraph, c42, h46, h47, q45, accV_pos (f := eGTuple) q45, accO_pos (f := eGTuple) q45]; rfl)) (fun _ => rfl)) PW.nil)))) rfl) (PW.cons (ToXV.one (ToX.one (b' := false) (is := []) rfl (fun _ => rfl)) rfl) PW.nil))) (by intro h; first | rfl | cases h)
end Go.Proofs.Ytjkdbakgnnhdnaa.Ab
