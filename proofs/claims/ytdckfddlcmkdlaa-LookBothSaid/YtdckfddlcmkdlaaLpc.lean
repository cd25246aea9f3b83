/-
  Functions, read off the code.
-/
import Derived.Test.YtdckfddlcmkdlaaLpb
namespace Go.Proofs.Ytdckfddlcmkdlaa.Ab
open Go.RowKit
def law5_LookBoth_L1 (n : Nat) (t23 : GTuple) (t39 : List GSub) : Nat → (Bool × Int) → Option ((Bool) ⊕ Bool)
  | 0, _ => none
  | c + 1, (t92, t13) =>
    (if (decide (t13 < (t39.length : Int))) then
      (
        (if t92 then
          some true
        else
          (idx t39 t13).bind fun x2 =>
          some ((x2.type_ == t23.sub_.type_) && ((x2.id_ == t23.sub_.id_) && (x2.rel == t23.sub_.rel)))) : Option (Bool)).bind fun t93 =>
      (if (decide (0 < t13)) then
        (idx t39 (IntKind.i64.wrap (t13 - 1))).bind fun x3 =>
        (idx t39 t13).bind fun x4 =>
        (ref1_Less n (⟨(⟨ByteArray.empty, ByteArray.empty⟩ : GObj), ByteArray.empty, x3⟩ : GTuple) (⟨(⟨ByteArray.empty, ByteArray.empty⟩ : GObj), ByteArray.empty, x4⟩ : GTuple)).bind fun t76 =>
        (if t76 then
          law5_LookBoth_L1 n t23 t39 c (t93, (IntKind.i64.wrap (t13 + 1)))
        else
          some (.inr false))
      else
        law5_LookBoth_L1 n t23 t39 c (t93, (IntKind.i64.wrap (t13 + 1))))
    else
      some (.inl t92))

def law5_LookBoth_L2 (n : Nat) (t23 : GTuple) (t45 : List GRef) : Nat → (Bool × Int) → Option ((Bool) ⊕ Bool)
  | 0, _ => none
  | c + 1, (t102, t14) =>
    (if (decide (t14 < (t45.length : Int))) then
      (
        (if t102 then
          some true
        else
          (idx t45 t14).bind fun x6 =>
          some ((x6.obj.type_ == t23.obj.type_) && ((x6.obj.id_ == t23.obj.id_) && (x6.rel == t23.rel)))) : Option (Bool)).bind fun t103 =>
      (if (decide (0 < t14)) then
        (idx t45 (IntKind.i64.wrap (t14 - 1))).bind fun x7 =>
        (idx t45 t14).bind fun x8 =>
        (ref1_Less n (⟨x7.obj, x7.rel, (⟨ByteArray.empty, ByteArray.empty, ByteArray.empty⟩ : GSub)⟩ : GTuple) (⟨x8.obj, x8.rel, (⟨ByteArray.empty, ByteArray.empty, ByteArray.empty⟩ : GSub)⟩ : GTuple)).bind fun t125 =>
        (if t125 then
          law5_LookBoth_L2 n t23 t45 c (t103, (IntKind.i64.wrap (t14 + 1)))
        else
          some (.inr false))
      else
        law5_LookBoth_L2 n t23 t45 c (t103, (IntKind.i64.wrap (t14 + 1))))
    else
      some (.inl t102))

def law5_LookBoth_L4 (n : Nat) (t25 : LookIndex) (x11 : ByteArray) (t1382 : List ByteArray) : Nat → (Int × Int) → Option (Int)
  | 0, _ => none
  | c + 1, (t156, t193) =>
    (if (decide (t193 < (t1382.length : Int))) then
      (idx t1382 t193).bind fun x13 =>
      (look_left_Subs n t25.left (⟨x11, x13⟩ : GObj) ({ data := #[114] })).bind fun t1554 =>
      (look_left_Subs n t25.left (⟨x11, x13⟩ : GObj) ({ data := #[115] })).bind fun t1674 =>
      law5_LookBoth_L4 n t25 x11 t1382 c ((IntKind.i64.wrap ((IntKind.i64.wrap (t156 + (t1554.length : Int))) + (t1674.length : Int))), (IntKind.i64.wrap (t193 + 1)))
    else
      some t156)
def law5_LookBoth_L4_f (n : Nat) (t25 : LookIndex) (x11 : ByteArray) (_ : List ByteArray) (st : Int) (x13 : ByteArray) (k : Int → Option (Int)) : Option (Int) :=
  match st with
  | t156 =>
    (look_left_Subs n t25.left (⟨x11, x13⟩ : GObj) ({ data := #[114] })).bind fun t1554 =>
    (look_left_Subs n t25.left (⟨x11, x13⟩ : GObj) ({ data := #[115] })).bind fun t1674 =>
    k (IntKind.i64.wrap ((IntKind.i64.wrap (t156 + (t1554.length : Int))) + (t1674.length : Int)))
def law5_LookBoth_L4_e (_ : Nat) (_ : LookIndex) (_ : ByteArray) (_ : List ByteArray) (st : Int) : Option (Int) :=
  match st with
  | t156 => some t156
theorem law5_LookBoth_L4_list (n : Nat) (t25 : LookIndex) (x11 : ByteArray) (t1382 : List ByteArray) (hx : t1382.length < 4611686018427387904) (c : Nat) (st : Int) (ix : Nat) (hi : ix ≤ t1382.length) (hc : t1382.length - ix < c) : law5_LookBoth_L4 n t25 x11 t1382 c (match st, (ix : Int) with | t156, ix => (t156, ix)) = foldK (law5_LookBoth_L4_f n t25 x11 t1382) (law5_LookBoth_L4_e n t25 x11 t1382) (t1382.drop ix) st :=
  loop_list (fun c st ix => law5_LookBoth_L4 n t25 x11 t1382 c (match st, ix with | t156, ix => (t156, ix))) t1382 (law5_LookBoth_L4_f n t25 x11 t1382) (law5_LookBoth_L4_e n t25 x11 t1382) (fun _ _ _ => rfl) hx c st ix hi hc

def law5_LookBoth_L3 (n : Nat) (t25 : LookIndex) : Nat → (Int × Int) → Option (Int)
  | 0, _ => none
  | c + 1, (t154, t130) =>
    (if (decide (t130 < 2)) then
      (idx [{ data := #[97] }, { data := #[98] }] t130).bind fun x11 =>
      (look_left_Types n t25.left x11).bind fun t1382 =>
      (
        law5_LookBoth_L4 n t25 x11 t1382 n (t154, 0) : Option (Int)).bind fun t158 =>
      law5_LookBoth_L3 n t25 c (t158, (IntKind.i64.wrap (t130 + 1)))
    else
      some t154)

def law5_LookBoth (n : Nat) (t0 : List Int) (t1 : Int) : Option Bool :=
  (law2_Tames n t0).bind fun t21 =>
  (law2_Tame n t1).bind fun t23 =>
  (look_Of n t21).bind fun t25 =>
  (ref1_Of n t21).bind fun t29 =>
  (ref1_Has n t29 t23).bind fun t31 =>
  (look_left_Subs n t25.left t23.obj t23.rel).bind fun t39 =>
  (look_right_Objs n t25.right t23.sub_).bind fun t45 =>
  (
    law5_LookBoth_L1 n t23 t39 n (false, 0) : Option ((Bool) ⊕ Bool)).bind fun
    | .inl t95 =>
      (
        law5_LookBoth_L2 n t23 t45 n (false, 0) : Option ((Bool) ⊕ Bool)).bind fun
        | .inl t105 =>
          (
            law5_LookBoth_L3 n t25 n (0, 0) : Option (Int)).bind fun t1510 =>
          (if (t95 == t31) then
            (if (t105 == t31) then
              (ref1_Of n t21).bind fun t182 =>
              (if (t1510 == (t182.length : Int)) then
                (law5_awake n).bind fun t187 =>
                some t187
              else
                some false)
            else
              some false)
          else
            some false)
        | .inr r => some r
    | .inr r => some r
set_option maxHeartbeats 8000000 in
theorem law5_LookBoth_ok {n : Nat} {t0 : List Int} {t1 : Int} {r : Bool} (H : law5_LookBoth n t0 t1 = some r) : PureOK Try.prog 13 [D.sl (List.map eI t0), D.v (.int .i64 t1)] (D.v (.bool r)) true := by
  unfold law5_LookBoth at H
  refine pure_runR (tab := tab) tab_ok Try.func13 rfl (by kernel_rfl) (by kernel_rfl) (by simp [Try.f13]) ?_
  refine runR_seq ?_
  refine runR_take tab_ok fol 1 ?_
  try simp -implicitDefEqProofs only [go_sem]
  refine runR_seq ?_
  refine runR_take tab_ok fol 1 ?_
  obtain ⟨t21, b1, H2⟩ := bind_inv H
  try simp -implicitDefEqProofs only [go_sem, Nat.reduceAdd, reduceCtorEq, ↓reduceIte]
  refine onCall_pure (by first | rfl | (simp -implicitDefEqProofs only [go_sem, Int.reduceToNat, Int.reduceLT, Int.reduceLE, Int.reduceBEq, Int.reduceBNe, Nat.reduceLT, Nat.reduceBEq, Int.reduceEq, Nat.reduceEqDiff, Nat.reduceAdd, Nat.reduceSub, Nat.reduceMul, Nat.reduceLeDiff, reduceCtorEq, ↓reduceIte, eGTuple, eLookIndex, eLookLeft, eGRef, eGSub, eLookRight, eGObj]; done) | (simp -implicitDefEqProofs only [go_sem, Int.reduceToNat, Int.reduceLT, Int.reduceLE, Int.reduceBEq, Int.reduceBNe, Nat.reduceLT, Nat.reduceBEq, Int.reduceEq, Nat.reduceEqDiff, Nat.reduceAdd, Nat.reduceSub, Nat.reduceMul, Nat.reduceLeDiff, reduceCtorEq, ↓reduceIte, eGTuple, eLookIndex, eLookLeft, eGRef, eGSub, eLookRight, eGObj]; rfl)) (law2_Tames_ok b1) (by first | exact .inr rfl | exact .inl rfl) ?_
  obtain ⟨t23, b3, H4⟩ := bind_inv H2
  try simp -implicitDefEqProofs only [go_sem, Nat.reduceEqDiff, Nat.reduceAdd, ↓reduceIte]
  refine onCall_pure (by first | rfl | (simp -implicitDefEqProofs only [go_sem, Int.reduceToNat, Int.reduceLT, Int.reduceLE, Int.reduceBEq, Int.reduceBNe, Nat.reduceLT, Nat.reduceBEq, Int.reduceEq, Nat.reduceEqDiff, Nat.reduceAdd, Nat.reduceSub, Nat.reduceMul, Nat.reduceLeDiff, reduceCtorEq, ↓reduceIte, eGTuple, eLookIndex, eLookLeft, eGRef, eGSub, eLookRight, eGObj]; done) | (simp -implicitDefEqProofs only [go_sem, Int.reduceToNat, Int.reduceLT, Int.reduceLE, Int.reduceBEq, Int.reduceBNe, Nat.reduceLT, Nat.reduceBEq, Int.reduceEq, Nat.reduceEqDiff, Nat.reduceAdd, Nat.reduceSub, Nat.reduceMul, Nat.reduceLeDiff, reduceCtorEq, ↓reduceIte, eGTuple, eLookIndex, eLookLeft, eGRef, eGSub, eLookRight, eGObj]; rfl)) (law2_Tame_ok b3) (by first | exact .inr rfl | exact .inl rfl) ?_
  try simp -implicitDefEqProofs only [go_sem, Nat.reduceEqDiff, Nat.reduceAdd, ↓reduceIte, eGTuple]
  refine runR_seq ?_
  refine runR_take tab_ok fol 1 ?_
  obtain ⟨t25, b5, H6⟩ := bind_inv H4
  try simp -implicitDefEqProofs only [go_sem, Nat.reduceAdd, ↓reduceIte]
  refine onCall_pureA (by first | rfl | (simp -implicitDefEqProofs only [go_sem, Int.reduceToNat, Int.reduceLT, Int.reduceLE, Int.reduceBEq, Int.reduceBNe, Nat.reduceLT, Nat.reduceBEq, Int.reduceEq, Nat.reduceEqDiff, Nat.reduceAdd, Nat.reduceSub, Nat.reduceMul, Nat.reduceLeDiff, reduceCtorEq, ↓reduceIte, eGTuple, eLookIndex, eLookLeft, eGRef, eGSub, eLookRight, eGObj]; done) | (simp -implicitDefEqProofs only [go_sem, Int.reduceToNat, Int.reduceLT, Int.reduceLE, Int.reduceBEq, Int.reduceBNe, Nat.reduceLT, Nat.reduceBEq, Int.reduceEq, Nat.reduceEqDiff, Nat.reduceAdd, Nat.reduceSub, Nat.reduceMul, Nat.reduceLeDiff, reduceCtorEq, ↓reduceIte, eGTuple, eLookIndex, eLookLeft, eGRef, eGSub, eLookRight, eGObj]; rfl)) (look_Of_ok b5) (by first | exact .inr rfl | exact .inl rfl) ?_
  try simp -implicitDefEqProofs only [go_sem, Nat.reduceAdd, ↓reduceIte, eLookIndex]
  refine runR_seq ?_
  refine runR_take tab_ok fol 1 ?_
  try simp -implicitDefEqProofs only [go_sem, Nat.reduceAdd, ↓reduceIte]
  refine runR_seq ?_
  refine runR_take tab_ok fol 1 ?_
  obtain ⟨t29, b7, H8⟩ := bind_inv H6
  try simp -implicitDefEqProofs only [go_sem, Nat.reduceEqDiff, Nat.reduceAdd, ↓reduceIte]
  refine onCallD_pure (by first | rfl | (simp -implicitDefEqProofs only [go_sem, Int.reduceToNat, Int.reduceLT, Int.reduceLE, Int.reduceBEq, Int.reduceBNe, Nat.reduceLT, Nat.reduceBEq, Int.reduceEq, Nat.reduceEqDiff, Nat.reduceAdd, Nat.reduceSub, Nat.reduceMul, Nat.reduceLeDiff, reduceCtorEq, ↓reduceIte, eGTuple, eLookIndex, eLookLeft, eGRef, eGSub, eLookRight, eGObj]; done) | (simp -implicitDefEqProofs only [go_sem, Int.reduceToNat, Int.reduceLT, Int.reduceLE, Int.reduceBEq, Int.reduceBNe, Nat.reduceLT, Nat.reduceBEq, Int.reduceEq, Nat.reduceEqDiff, Nat.reduceAdd, Nat.reduceSub, Nat.reduceMul, Nat.reduceLeDiff, reduceCtorEq, ↓reduceIte, eGTuple, eLookIndex, eLookLeft, eGRef, eGSub, eLookRight, eGObj]; rfl)) (ref1_Of_ok b7) (by first | exact .inr rfl | exact .inl rfl) ?_
  obtain ⟨t31, b9, H10⟩ := bind_inv H8
  try simp -implicitDefEqProofs only [go_sem, Nat.reduceEqDiff, Nat.reduceAdd, ↓reduceIte]
  refine onCallD_pure (by first | rfl | (simp -implicitDefEqProofs only [go_sem, Int.reduceToNat, Int.reduceLT, Int.reduceLE, Int.reduceBEq, Int.reduceBNe, Nat.reduceLT, Nat.reduceBEq, Int.reduceEq, Nat.reduceEqDiff, Nat.reduceAdd, Nat.reduceSub, Nat.reduceMul, Nat.reduceLeDiff, reduceCtorEq, ↓reduceIte, eGTuple, eLookIndex, eLookLeft, eGRef, eGSub, eLookRight, eGObj]; done) | (simp -implicitDefEqProofs only [go_sem, Int.reduceToNat, Int.reduceLT, Int.reduceLE, Int.reduceBEq, Int.reduceBNe, Nat.reduceLT, Nat.reduceBEq, Int.reduceEq, Nat.reduceEqDiff, Nat.reduceAdd, Nat.reduceSub, Nat.reduceMul, Nat.reduceLeDiff, reduceCtorEq, ↓reduceIte, eGTuple, eLookIndex, eLookLeft, eGRef, eGSub, eLookRight, eGObj]; rfl)) (ref1_Has_ok b9) (by first | exact .inr rfl | exact .inl rfl) ?_
  try simp -implicitDefEqProofs only [go_sem, Nat.reduceAdd, ↓reduceIte]
  refine Rd_endF (by rfl) ?_
  try simp -implicitDefEqProofs only [go_sem]
  refine runR_seq ?_
  refine runR_take tab_ok fol 1 ?_
  try simp -implicitDefEqProofs only [go_sem, Nat.reduceAdd]
  refine runR_seq ?_
  refine runR_take tab_ok fol 1 ?_
  obtain ⟨t39, b11, H12⟩ := bind_inv H10
  try simp -implicitDefEqProofs only [go_sem, Nat.reduceEqDiff, Nat.reduceAdd, Nat.reduceLeDiff, reduceCtorEq, ↓reduceIte]
  refine onCallD_pureX (b := true) [] (fun hp1 h1 => by exact (PW.cons (ToXA.d (ToXV.one (ToX.rbE 2 (ToX.one (b' := false) (is := []) rfl (fun _ => rfl)) (by rfl)) rfl)) (PW.cons (ToXA.d (ToXV.agP (PW.cons (ToX.one (b' := false) (is := []) rfl (fun _ => rfl)) (PW.cons (ToX.one (b' := false) (is := []) rfl (fun _ => rfl)) PW.nil)))) (PW.cons (ToXA.d (ToXV.one (ToX.one (b' := false) (is := []) rfl (fun _ => rfl)) rfl)) PW.nil)))) (PureA.of_pure (look_left_Subs_ok b11)) ?_
  obtain ⟨t45, b13, H14⟩ := bind_inv H12
  try simp -implicitDefEqProofs only [go_sem, Nat.reduceEqDiff, Nat.reduceAdd, reduceCtorEq, ↓reduceIte]
  refine onCallD_pureX (b := true) [] (fun hp1 h1 => by exact (PW.cons (ToXA.d (ToXV.one (ToX.rbE 2 (ToX.one (b' := false) (is := []) rfl (fun _ => rfl)) (by rfl)) rfl)) (PW.cons (ToXA.d (ToXV.agP (PW.cons (ToX.one (b' := false) (is := []) rfl (fun _ => rfl)) (PW.cons (ToX.one (b' := false) (is := []) rfl (fun _ => rfl)) (PW.cons (ToX.one (b' := false) (is := []) rfl (fun _ => rfl)) PW.nil))))) PW.nil))) (PureA.of_pure (look_right_Objs_ok b13)) ?_
  try simp -implicitDefEqProofs only [go_sem, Nat.reduceEqDiff, Nat.reduceAdd, ↓reduceIte]
  refine Rd_endF (by rfl) ?_
  try simp -implicitDefEqProofs only [go_sem]
  refine runR_seq ?_
  refine runR_seq ?_
  refine runR_take tab_ok fol 1 ?_
  try simp -implicitDefEqProofs only [go_sem, Nat.reduceAdd]
  obtain ⟨e_, E15, H16⟩ := bind_inv H14
  refine runR_join (α := { y : Bool // e_ = .inl y }) (fun | ⟨t95, _⟩ => ⟨upd 5 (.d (.sl (List.map eGTuple t21)) false) (upd 6 (.pt 0 0) (upd 7 (.d (.pt [.mp (encMp kGRef false (eL eGSub) t25.left.subs), .mp (encMp Value.string false (eL eS) t25.left.objs), .mp (encMp kGSub false (eL eGRef) t25.right.refs), .mp (encMp Value.string false (eL eS) t25.right.users)] 0) false) (upd 8 (.v (.bool t31)) (upd 9 (.v (.bool t95)) (upd 10 (.v (.bool false)) (upd 12 (.d (.sl (List.map eGRef t45)) false) noFr)))))), upd 0 (some (.bx [.v (.string t23.obj.type_), .v (.string t23.obj.id_), .v (.string t23.rel), .v (.string t23.sub_.type_), .v (.string t23.sub_.id_), .v (.string t23.sub_.rel)])) noHp, 1⟩) ?_ ?_
  · refine runR_block ?_
    refine runR_loop (α := { q : Nat × (Bool × Int) // law5_LookBoth_L1 n t23 t39 q.1 q.2 = some e_ }) (fun | ⟨⟨c, ⟨t92, t13⟩⟩, _⟩ => ⟨upd 5 (.d (.sl (List.map eGTuple t21)) false) (upd 6 (.pt 0 0) (upd 7 (.d (.pt [.mp (encMp kGRef false (eL eGSub) t25.left.subs), .mp (encMp Value.string false (eL eS) t25.left.objs), .mp (encMp kGSub false (eL eGRef) t25.right.refs), .mp (encMp Value.string false (eL eS) t25.right.users)] 0) false) (upd 8 (.v (.bool t31)) (upd 9 (.v (.bool t92)) (upd 10 (.v (.bool false)) (upd 11 (.d (.sl (List.map eGSub t39)) false) (upd 12 (.d (.sl (List.map eGRef t45)) false) (upd 13 (.v (.int .i64 t13)) noFr)))))))), upd 0 (some (.bx [.v (.string t23.obj.type_), .v (.string t23.obj.id_), .v (.string t23.rel), .v (.string t23.sub_.type_), .v (.string t23.sub_.id_), .v (.string t23.sub_.rel)])) noHp, 1⟩) (fun q => q.1.1) ⟨(n, (false, 0)), E15⟩ ?_ ?_
    · exact ren_mk [(0, 5)] (by rfl) (rf_upd (by rfl) (rf_upd (by rfl) (rf_upd (by rfl) (rf_upd (by rfl) (rf_upd (by rfl) (rf_upd (by rfl) (rf_upd (by rfl) (rf_upd (by rfl) (rf_upd (by rfl) (rf_no _)))))))))) (rh_upd (rh_one (by rfl) (by rfl) (by rfl)) (rh_no _))
    · rintro ⟨⟨c, ⟨t92, t13⟩⟩, L17⟩
      rcases c with _ | c
      · exact nomatch (show none = some _ from L17)
      · unfold law5_LookBoth_L1 at L17
        try dsimp only at L17
        refine runR_seq ?_
        refine runR_take tab_ok fol 1 ?_
        try simp -implicitDefEqProofs only [go_sem, Nat.reduceEqDiff, Nat.reduceAdd, ↓reduceIte]
        rcases ite_inv L17 with ⟨c29, H30⟩ | ⟨c29, H30⟩
        · try simp -implicitDefEqProofs only [go_sem, c29]
          refine runR_seq ?_
          refine runR_block ?_
          refine runR_seq ?_
          obtain ⟨e_3, E31, H32⟩ := bind_inv H30
          refine runR_join (α := { y : Bool // e_3 = y }) (fun | ⟨t93, _⟩ => ⟨upd 5 (.d (.sl (List.map eGTuple t21)) false) (upd 6 (.pt 0 0) (upd 7 (.d (.pt [.mp (encMp kGRef false (eL eGSub) t25.left.subs), .mp (encMp Value.string false (eL eS) t25.left.objs), .mp (encMp kGSub false (eL eGRef) t25.right.refs), .mp (encMp Value.string false (eL eS) t25.right.users)] 0) false) (upd 8 (.v (.bool t31)) (upd 9 (.v (.bool t93)) (upd 10 (.v (.bool false)) (upd 11 (.d (.sl (List.map eGSub t39)) false) (upd 12 (.d (.sl (List.map eGRef t45)) false) (upd 13 (.v (.int .i64 t13)) noFr)))))))), upd 0 (some (.bx [.v (.string t23.obj.type_), .v (.string t23.obj.id_), .v (.string t23.rel), .v (.string t23.sub_.type_), .v (.string t23.sub_.id_), .v (.string t23.sub_.rel)])) noHp, 1⟩) ?_ ?_
          · refine runR_take tab_ok fol 1 ?_
            try simp -implicitDefEqProofs only [go_sem, Nat.reduceEqDiff, Nat.reduceAdd, ↓reduceIte]
            rcases ite_inv E31 with ⟨c33, H34⟩ | ⟨c33, H34⟩
            · try simp -implicitDefEqProofs only [go_sem, Nat.reduceEqDiff, Nat.reduceAdd, ↓reduceIte, c33]
              refine Rd_endF (by rfl) ?_
              try simp -implicitDefEqProofs only [go_sem]
              obtain rfl := Option.some.inj H34
              exact ⟨⟨true, rfl⟩, ren_mk [(0, 0)] (by rfl) (rf_upd (by rfl) (rf_upd (by rfl) (rf_upd (by rfl) (rf_upd (by rfl) (rf_upd (by rfl) (rf_upd (by rfl) (rf_upd (by rfl) (rf_upd (by rfl) (rf_upd (by rfl) (rf_no _)))))))))) (rh_upd (rh_one (by rfl) (by rfl) (by rfl)) (rh_no _))⟩
            · obtain ⟨x2, b35, H36⟩ := bind_inv H34
              obtain ⟨h37, h38⟩ := idx_inv b35
              try simp only [Int.reduceToNat, Int.toNat_natCast] at h38
              have h39 := map_at eGSub h38
              try simp -implicitDefEqProofs only [go_sem, Nat.reduceEqDiff, Nat.reduceAdd, reduceCtorEq, ↓reduceIte, eGSub, c33, nat_of .i64 h37, h39]
              refine Rd_endF (by rfl) ?_
              try simp -implicitDefEqProofs only [go_sem]
              obtain rfl := Option.some.inj H36
              exact ⟨⟨((x2.type_ == t23.sub_.type_) && ((x2.id_ == t23.sub_.id_) && (x2.rel == t23.sub_.rel))), rfl⟩, ren_mk [(0, 0)] (by rfl) (rf_upd (by rfl) (rf_upd (by rfl) (rf_upd (by rfl) (rf_upd (by rfl) (rf_upd (by rfl) (rf_upd (by rfl) (rf_upd (by rfl) (rf_upd (by rfl) (rf_upd (by rfl) (rf_no _)))))))))) (rh_upd (rh_one (by rfl) (by rfl) (by rfl)) (rh_no _))⟩
          · rintro ⟨t93, he59⟩
            replace he59 := he59.symm
            subst he59
            try dsimp only at H32
            refine runR_take tab_ok fol 3 ?_
            try simp -implicitDefEqProofs only [go_sem, Nat.reduceEqDiff, Nat.reduceAdd, ↓reduceIte]
            rcases ite_inv H32 with ⟨c41, H42⟩ | ⟨c41, H42⟩
            · obtain ⟨x3, b43, H44⟩ := bind_inv H42
              obtain ⟨h45, h46⟩ := idx_inv b43
              try simp only [Int.reduceToNat, Int.toNat_natCast] at h46
              have h47 := map_at eGSub h46
              obtain ⟨x4, b49, H50⟩ := bind_inv H44
              obtain ⟨h51, h52⟩ := idx_inv b49
              try simp only [Int.reduceToNat, Int.toNat_natCast] at h52
              have h53 := map_at eGSub h52
              obtain ⟨t76, b55, H56⟩ := bind_inv H50
              try simp -implicitDefEqProofs only [go_sem, Nat.reduceEqDiff, Nat.reduceAdd, ↓reduceIte, eGSub, c41, nat_of .i64 h45, h47, nat_of .i64 h51, h53]
              refine onCallD_pure (by first | rfl | (simp -implicitDefEqProofs only [go_sem, Int.reduceToNat, Int.reduceLT, Int.reduceLE, Int.reduceBEq, Int.reduceBNe, Nat.reduceLT, Nat.reduceBEq, Int.reduceEq, Nat.reduceEqDiff, Nat.reduceAdd, Nat.reduceSub, Nat.reduceMul, Nat.reduceLeDiff, reduceCtorEq, ↓reduceIte, eGTuple, eLookIndex, eLookLeft, eGRef, eGSub, eLookRight, eGObj, c41, nat_of .i64 h45, h47, nat_of .i64 h51, h53]; done) | (simp -implicitDefEqProofs only [go_sem, Int.reduceToNat, Int.reduceLT, Int.reduceLE, Int.reduceBEq, Int.reduceBNe, Nat.reduceLT, Nat.reduceBEq, Int.reduceEq, Nat.reduceEqDiff, Nat.reduceAdd, Nat.reduceSub, Nat.reduceMul, Nat.reduceLeDiff, reduceCtorEq, ↓reduceIte, eGTuple, eLookIndex, eLookLeft, eGRef, eGSub, eLookRight, eGObj, c41, nat_of .i64 h45, h47, nat_of .i64 h51, h53]; rfl)) (ref1_Less_ok b55) (by first | exact .inr rfl | exact .inl rfl) ?_
              try simp -implicitDefEqProofs only [go_sem, Nat.reduceEqDiff, Nat.reduceAdd, ↓reduceIte]
              refine Rd_endF (by rfl) ?_
              try simp -implicitDefEqProofs only [go_sem, ↓reduceIte]
              rcases ite_inv H56 with ⟨c57, H58⟩ | ⟨c57, H58⟩
              · try simp -implicitDefEqProofs only [go_sem, Nat.reduceEqDiff, Nat.reduceAdd, ↓reduceIte, c57]
                exact ⟨⟨(c, (t93, (IntKind.i64.wrap (t13 + 1)))), H58⟩, ren_mk [(0, 0)] (by rfl) (rf_upd (by rfl) (rf_upd (by rfl) (rf_upd (by rfl) (rf_upd (by rfl) (rf_upd (by rfl) (rf_upd (by rfl) (rf_upd (by rfl) (rf_upd (by rfl) (rf_upd (by rfl) (rf_no _)))))))))) (rh_upd (rh_one (by rfl) (by rfl) (by rfl)) (rh_no _)), Nat.lt_succ_self _⟩
              · try simp -implicitDefEqProofs only [go_sem, Nat.reduceAdd, c57]
                obtain rfl := Option.some.inj H58
                obtain rfl := Option.some.inj H16
                exact end_pure (by first | (simp -implicitDefEqProofs only [go_sem, ↓reduceIte, Try.f13] <;> rfl) | rfl) (by first | rfl | (simp -implicitDefEqProofs only [go_sem, Int.reduceToNat, Int.reduceLT, Int.reduceLE, Int.reduceBEq, Int.reduceBNe, Nat.reduceLT, Nat.reduceBEq, Int.reduceEq, Nat.reduceEqDiff, Nat.reduceAdd, Nat.reduceSub, Nat.reduceMul, Nat.reduceLeDiff, reduceCtorEq, ↓reduceIte, eGTuple, eLookIndex, eLookLeft, eGRef, eGSub, eLookRight, eGObj, c41, nat_of .i64 h45, h47, nat_of .i64 h51, h53, c57]; done) | (simp -implicitDefEqProofs only [go_sem, Int.reduceToNat, Int.reduceLT, Int.reduceLE, Int.reduceBEq, Int.reduceBNe, Nat.reduceLT, Nat.reduceBEq, Int.reduceEq, Nat.reduceEqDiff, Nat.reduceAdd, Nat.reduceSub, Nat.reduceMul, Nat.reduceLeDiff, reduceCtorEq, ↓reduceIte, eGTuple, eLookIndex, eLookLeft, eGRef, eGSub, eLookRight, eGObj, c41, nat_of .i64 h45, h47, nat_of .i64 h51, h53, c57]; rfl)) rfl (by intro h; first | rfl | cases h)
            · try simp -implicitDefEqProofs only [go_sem, Nat.reduceEqDiff, Nat.reduceAdd, ↓reduceIte, c41]
              refine Rd_endF (by rfl) ?_
              try simp -implicitDefEqProofs only [go_sem, Nat.reduceEqDiff, Nat.reduceAdd, ↓reduceIte]
              exact ⟨⟨(c, (t93, (IntKind.i64.wrap (t13 + 1)))), H42⟩, ren_mk [(0, 0)] (by rfl) (rf_upd (by rfl) (rf_upd (by rfl) (rf_upd (by rfl) (rf_upd (by rfl) (rf_upd (by rfl) (rf_upd (by rfl) (rf_upd (by rfl) (rf_upd (by rfl) (rf_upd (by rfl) (rf_no _)))))))))) (rh_upd (rh_one (by rfl) (by rfl) (by rfl)) (rh_no _)), Nat.lt_succ_self _⟩
        · try simp -implicitDefEqProofs only [go_sem, ↓reduceIte, c29]
          obtain rfl := Option.some.inj H30
          exact ⟨⟨t92, rfl⟩, ren_mk [(0, 0)] (by rfl) (rf_upd (by rfl) (rf_upd (by rfl) (rf_upd (by rfl) (rf_upd (by rfl) (rf_upd (by rfl) (rf_upd (by rfl) (rf_upd (by rfl) (rf_no _)))))))) (rh_upd (rh_one (by rfl) (by rfl) (by rfl)) (rh_no _))⟩
  · rintro ⟨t95, he188⟩
    replace he188 := he188.symm
    subst he188
    try dsimp only at H16
    refine runR_seq ?_
    refine runR_seq ?_
    refine runR_take tab_ok fol 1 ?_
    try simp -implicitDefEqProofs only [go_sem, Nat.reduceAdd]
    obtain ⟨e_4, E60, H61⟩ := bind_inv H16
    refine runR_join (α := { y : Bool // e_4 = .inl y }) (fun | ⟨t105, _⟩ => ⟨upd 5 (.d (.sl (List.map eGTuple t21)) false) (upd 7 (.d (.pt [.mp (encMp kGRef false (eL eGSub) t25.left.subs), .mp (encMp Value.string false (eL eS) t25.left.objs), .mp (encMp kGSub false (eL eGRef) t25.right.refs), .mp (encMp Value.string false (eL eS) t25.right.users)] 0) false) (upd 8 (.v (.bool t31)) (upd 9 (.v (.bool t95)) (upd 10 (.v (.bool t105)) noFr)))), noHp, 0⟩) ?_ ?_
    · refine runR_block ?_
      refine runR_loop (α := { q : Nat × (Bool × Int) // law5_LookBoth_L2 n t23 t45 q.1 q.2 = some e_4 }) (fun | ⟨⟨c, ⟨t102, t14⟩⟩, _⟩ => ⟨upd 5 (.d (.sl (List.map eGTuple t21)) false) (upd 6 (.pt 0 0) (upd 7 (.d (.pt [.mp (encMp kGRef false (eL eGSub) t25.left.subs), .mp (encMp Value.string false (eL eS) t25.left.objs), .mp (encMp kGSub false (eL eGRef) t25.right.refs), .mp (encMp Value.string false (eL eS) t25.right.users)] 0) false) (upd 8 (.v (.bool t31)) (upd 9 (.v (.bool t95)) (upd 10 (.v (.bool t102)) (upd 12 (.d (.sl (List.map eGRef t45)) false) (upd 14 (.v (.int .i64 t14)) noFr))))))), upd 0 (some (.bx [.v (.string t23.obj.type_), .v (.string t23.obj.id_), .v (.string t23.rel), .v (.string t23.sub_.type_), .v (.string t23.sub_.id_), .v (.string t23.sub_.rel)])) noHp, 1⟩) (fun q => q.1.1) ⟨(n, (false, 0)), E60⟩ ?_ ?_
      · exact ren_mk [(0, 0)] (by rfl) (rf_upd (by rfl) (rf_upd (by rfl) (rf_upd (by rfl) (rf_upd (by rfl) (rf_upd (by rfl) (rf_upd (by rfl) (rf_upd (by rfl) (rf_upd (by rfl) (rf_no _))))))))) (rh_upd (rh_one (by rfl) (by rfl) (by rfl)) (rh_no _))
      · rintro ⟨⟨c, ⟨t102, t14⟩⟩, L62⟩
        rcases c with _ | c
        · exact nomatch (show none = some _ from L62)
        · unfold law5_LookBoth_L2 at L62
          try dsimp only at L62
          refine runR_seq ?_
          refine runR_take tab_ok fol 1 ?_
          try simp -implicitDefEqProofs only [go_sem, Nat.reduceEqDiff, Nat.reduceAdd, ↓reduceIte]
          rcases ite_inv L62 with ⟨c74, H75⟩ | ⟨c74, H75⟩
          · try simp -implicitDefEqProofs only [go_sem, c74]
            refine runR_seq ?_
            refine runR_block ?_
            refine runR_seq ?_
            obtain ⟨e_6, E76, H77⟩ := bind_inv H75
            refine runR_join (α := { y : Bool // e_6 = y }) (fun | ⟨t103, _⟩ => ⟨upd 5 (.d (.sl (List.map eGTuple t21)) false) (upd 6 (.pt 0 0) (upd 7 (.d (.pt [.mp (encMp kGRef false (eL eGSub) t25.left.subs), .mp (encMp Value.string false (eL eS) t25.left.objs), .mp (encMp kGSub false (eL eGRef) t25.right.refs), .mp (encMp Value.string false (eL eS) t25.right.users)] 0) false) (upd 8 (.v (.bool t31)) (upd 9 (.v (.bool t95)) (upd 10 (.v (.bool t103)) (upd 12 (.d (.sl (List.map eGRef t45)) false) (upd 14 (.v (.int .i64 t14)) noFr))))))), upd 0 (some (.bx [.v (.string t23.obj.type_), .v (.string t23.obj.id_), .v (.string t23.rel), .v (.string t23.sub_.type_), .v (.string t23.sub_.id_), .v (.string t23.sub_.rel)])) noHp, 1⟩) ?_ ?_
            · refine runR_take tab_ok fol 1 ?_
              try simp -implicitDefEqProofs only [go_sem, Nat.reduceEqDiff, Nat.reduceAdd, ↓reduceIte]
              rcases ite_inv E76 with ⟨c78, H79⟩ | ⟨c78, H79⟩
              · try simp -implicitDefEqProofs only [go_sem, Nat.reduceEqDiff, Nat.reduceAdd, ↓reduceIte, c78]
                refine Rd_endF (by rfl) ?_
                try simp -implicitDefEqProofs only [go_sem]
                obtain rfl := Option.some.inj H79
                exact ⟨⟨true, rfl⟩, ren_mk [(0, 0)] (by rfl) (rf_upd (by rfl) (rf_upd (by rfl) (rf_upd (by rfl) (rf_upd (by rfl) (rf_upd (by rfl) (rf_upd (by rfl) (rf_upd (by rfl) (rf_upd (by rfl) (rf_no _))))))))) (rh_upd (rh_one (by rfl) (by rfl) (by rfl)) (rh_no _))⟩
              · obtain ⟨x6, b80, H81⟩ := bind_inv H79
                obtain ⟨h82, h83⟩ := idx_inv b80
                try simp only [Int.reduceToNat, Int.toNat_natCast] at h83
                have h84 := map_at eGRef h83
                try simp -implicitDefEqProofs only [go_sem, Nat.reduceEqDiff, Nat.reduceAdd, Nat.reduceLeDiff, reduceCtorEq, ↓reduceIte, eGRef, c78, nat_of .i64 h82, h84]
                refine Rd_endF (by rfl) ?_
                try simp -implicitDefEqProofs only [go_sem]
                obtain rfl := Option.some.inj H81
                exact ⟨⟨((x6.obj.type_ == t23.obj.type_) && ((x6.obj.id_ == t23.obj.id_) && (x6.rel == t23.rel))), rfl⟩, ren_mk [(0, 0)] (by rfl) (rf_upd (by rfl) (rf_upd (by rfl) (rf_upd (by rfl) (rf_upd (by rfl) (rf_upd (by rfl) (rf_upd (by rfl) (rf_upd (by rfl) (rf_upd (by rfl) (rf_no _))))))))) (rh_upd (rh_one (by rfl) (by rfl) (by rfl)) (rh_no _))⟩
            · rintro ⟨t103, he104⟩
              replace he104 := he104.symm
              subst he104
              try dsimp only at H77
              refine runR_take tab_ok fol 3 ?_
              try simp -implicitDefEqProofs only [go_sem, Nat.reduceEqDiff, Nat.reduceAdd, ↓reduceIte]
              rcases ite_inv H77 with ⟨c86, H87⟩ | ⟨c86, H87⟩
              · obtain ⟨x7, b88, H89⟩ := bind_inv H87
                obtain ⟨h90, h91⟩ := idx_inv b88
                try simp only [Int.reduceToNat, Int.toNat_natCast] at h91
                have h92 := map_at eGRef h91
                obtain ⟨x8, b94, H95⟩ := bind_inv H89
                obtain ⟨h96, h97⟩ := idx_inv b94
                try simp only [Int.reduceToNat, Int.toNat_natCast] at h97
                have h98 := map_at eGRef h97
                obtain ⟨t125, b100, H101⟩ := bind_inv H95
                try simp -implicitDefEqProofs only [go_sem, Nat.reduceEqDiff, Nat.reduceAdd, Nat.reduceLeDiff, reduceCtorEq, ↓reduceIte, eGRef, c86, nat_of .i64 h90, h92, nat_of .i64 h96, h98]
                refine onCallD_pure (by first | rfl | (simp -implicitDefEqProofs only [go_sem, Int.reduceToNat, Int.reduceLT, Int.reduceLE, Int.reduceBEq, Int.reduceBNe, Nat.reduceLT, Nat.reduceBEq, Int.reduceEq, Nat.reduceEqDiff, Nat.reduceAdd, Nat.reduceSub, Nat.reduceMul, Nat.reduceLeDiff, reduceCtorEq, ↓reduceIte, eGTuple, eLookIndex, eLookLeft, eGRef, eGSub, eLookRight, eGObj, c86, nat_of .i64 h90, h92, nat_of .i64 h96, h98]; done) | (simp -implicitDefEqProofs only [go_sem, Int.reduceToNat, Int.reduceLT, Int.reduceLE, Int.reduceBEq, Int.reduceBNe, Nat.reduceLT, Nat.reduceBEq, Int.reduceEq, Nat.reduceEqDiff, Nat.reduceAdd, Nat.reduceSub, Nat.reduceMul, Nat.reduceLeDiff, reduceCtorEq, ↓reduceIte, eGTuple, eLookIndex, eLookLeft, eGRef, eGSub, eLookRight, eGObj, c86, nat_of .i64 h90, h92, nat_of .i64 h96, h98]; rfl)) (ref1_Less_ok b100) (by first | exact .inr rfl | exact .inl rfl) ?_
                try simp -implicitDefEqProofs only [go_sem, Nat.reduceEqDiff, Nat.reduceAdd, ↓reduceIte]
                refine Rd_endF (by kernel_rfl) ?_
                try simp -implicitDefEqProofs only [go_sem, ↓reduceIte]
                rcases ite_inv H101 with ⟨c102, H103⟩ | ⟨c102, H103⟩
                · try simp -implicitDefEqProofs only [go_sem, Nat.reduceEqDiff, Nat.reduceAdd, ↓reduceIte, c102]
                  exact ⟨⟨(c, (t103, (IntKind.i64.wrap (t14 + 1)))), H103⟩, ren_mk [(0, 0)] (by rfl) (rf_upd (by rfl) (rf_upd (by rfl) (rf_upd (by rfl) (rf_upd (by rfl) (rf_upd (by rfl) (rf_upd (by rfl) (rf_upd (by rfl) (rf_upd (by rfl) (rf_no _))))))))) (rh_upd (rh_one (by rfl) (by rfl) (by rfl)) (rh_no _)), Nat.lt_succ_self _⟩
                · try simp -implicitDefEqProofs only [go_sem, Nat.reduceAdd, c102]
                  obtain rfl := Option.some.inj H103
                  obtain rfl := Option.some.inj H61
                  exact end_pure (by first | (simp -implicitDefEqProofs only [go_sem, ↓reduceIte, Try.f13] <;> rfl) | rfl) (by first | rfl | (simp -implicitDefEqProofs only [go_sem, Int.reduceToNat, Int.reduceLT, Int.reduceLE, Int.reduceBEq, Int.reduceBNe, Nat.reduceLT, Nat.reduceBEq, Int.reduceEq, Nat.reduceEqDiff, Nat.reduceAdd, Nat.reduceSub, Nat.reduceMul, Nat.reduceLeDiff, reduceCtorEq, ↓reduceIte, eGTuple, eLookIndex, eLookLeft, eGRef, eGSub, eLookRight, eGObj, c86, nat_of .i64 h90, h92, nat_of .i64 h96, h98, c102]; done) | (simp -implicitDefEqProofs only [go_sem, Int.reduceToNat, Int.reduceLT, Int.reduceLE, Int.reduceBEq, Int.reduceBNe, Nat.reduceLT, Nat.reduceBEq, Int.reduceEq, Nat.reduceEqDiff, Nat.reduceAdd, Nat.reduceSub, Nat.reduceMul, Nat.reduceLeDiff, reduceCtorEq, ↓reduceIte, eGTuple, eLookIndex, eLookLeft, eGRef, eGSub, eLookRight, eGObj, c86, nat_of .i64 h90, h92, nat_of .i64 h96, h98, c102]; rfl)) rfl (by intro h; first | rfl | cases h)
              · try simp -implicitDefEqProofs only [go_sem, Nat.reduceEqDiff, Nat.reduceAdd, ↓reduceIte, c86]
                refine Rd_endF (by kernel_rfl) ?_
                try simp -implicitDefEqProofs only [go_sem, Nat.reduceEqDiff, Nat.reduceAdd, ↓reduceIte]
                exact ⟨⟨(c, (t103, (IntKind.i64.wrap (t14 + 1)))), H87⟩, ren_mk [(0, 0)] (by rfl) (rf_upd (by rfl) (rf_upd (by rfl) (rf_upd (by rfl) (rf_upd (by rfl) (rf_upd (by rfl) (rf_upd (by rfl) (rf_upd (by rfl) (rf_upd (by rfl) (rf_no _))))))))) (rh_upd (rh_one (by rfl) (by rfl) (by rfl)) (rh_no _)), Nat.lt_succ_self _⟩
          · try simp -implicitDefEqProofs only [go_sem, ↓reduceIte, c74]
            obtain rfl := Option.some.inj H75
            exact ⟨⟨t102, rfl⟩, ren_mk [] (by rfl) (rf_upd (by rfl) (rf_upd (by rfl) (rf_upd (by rfl) (rf_upd (by rfl) (rf_upd (by rfl) (rf_no _)))))) (rh_no _)⟩
    · rintro ⟨t105, he187⟩
      replace he187 := he187.symm
      subst he187
      try dsimp only at H61
      refine runR_seq ?_
      refine runR_take tab_ok fol 1 ?_
      try simp -implicitDefEqProofs only [go_sem]
      refine runR_seq ?_
      refine runR_seq ?_
      refine runR_take tab_ok fol 1 ?_
      try simp -implicitDefEqProofs only [go_sem, Nat.reduceLT, Nat.reduceAdd, Nat.reduceLeDiff, ↓reduceIte]
      obtain ⟨e_7, E105, H106⟩ := bind_inv H61
      refine runR_join (α := { y : Int // e_7 = y }) (fun | ⟨t1510, _⟩ => ⟨upd 5 (.d (.sl (List.map eGTuple t21)) false) (upd 8 (.v (.bool t31)) (upd 9 (.v (.bool t95)) (upd 10 (.v (.bool t105)) (upd 15 (.v (.int .i64 t1510)) noFr)))), noHp, 0⟩) ?_ ?_
      · refine runR_block ?_
        refine runR_loop (α := { q : Nat × (Int × Int) // law5_LookBoth_L3 n t25 q.1 q.2 = some e_7 }) (fun | ⟨⟨c, ⟨t154, t130⟩⟩, _⟩ => ⟨upd 5 (.d (.sl (List.map eGTuple t21)) false) (upd 7 (.d (.pt [.mp (encMp kGRef false (eL eGSub) t25.left.subs), .mp (encMp Value.string false (eL eS) t25.left.objs), .mp (encMp kGSub false (eL eGRef) t25.right.refs), .mp (encMp Value.string false (eL eS) t25.right.users)] 0) false) (upd 8 (.v (.bool t31)) (upd 9 (.v (.bool t95)) (upd 10 (.v (.bool t105)) (upd 15 (.v (.int .i64 t154)) (upd 128 (.so 0 0 0 2) (upd 129 (.v (.int .i64 2)) (upd 130 (.v (.int .i64 t130)) noFr)))))))), upd 0 (some (.rw [[.v (.string { data := #[97] })], [.v (.string { data := #[98] })]] 1 0 false false)) noHp, 1⟩) (fun q => q.1.1) ⟨(n, (0, 0)), E105⟩ ?_ ?_
        · exact ren_mk [(0, 1)] (by rfl) (rf_upd (by rfl) (rf_upd (by rfl) (rf_upd (by rfl) (rf_upd (by rfl) (rf_upd (by rfl) (rf_upd (by rfl) (rf_upd (by rfl) (rf_upd (by rfl) (rf_upd (by rfl) (rf_no _)))))))))) (rh_upd (rh_one (by rfl) (by rfl) (by rfl)) (rh_no _))
        · rintro ⟨⟨c, ⟨t154, t130⟩⟩, L107⟩
          rcases c with _ | c
          · exact nomatch (show none = some _ from L107)
          · unfold law5_LookBoth_L3 at L107
            try dsimp only at L107
            refine runR_seq ?_
            refine runR_take tab_ok fol 1 ?_
            try simp -implicitDefEqProofs only [go_sem, Nat.reduceEqDiff, Nat.reduceAdd, ↓reduceIte]
            refine runR_seq ?_
            refine runR_take tab_ok fol 1 ?_
            try simp -implicitDefEqProofs only [go_sem, ↓reduceIte]
            rcases ite_inv L107 with ⟨c138, H139⟩ | ⟨c138, H139⟩
            · try simp -implicitDefEqProofs only [go_sem, c138]
              refine runR_seq ?_
              refine runR_block ?_
              refine runR_seq ?_
              refine runR_take tab_ok fol 1 ?_
              obtain ⟨x11, b140, H141⟩ := bind_inv H139
              obtain ⟨h142, h143⟩ := idx_inv b140
              try simp only [Int.reduceToNat, Int.toNat_natCast] at h143
              have h144 := map_at eS h143
              simp only [List.map_cons, List.map_nil, eS] at h144
              have h145 := at_lt h143
              simp only [List.length_cons, List.length_nil, Nat.reduceAdd] at h145
              try simp -implicitDefEqProofs only [go_sem, Nat.reduceEqDiff, Nat.reduceAdd, ↓reduceIte, nat_of .i64 h142, h144, h145]
              refine runR_seq ?_
              refine runR_take tab_ok fol 1 ?_
              obtain ⟨t1382, b146, H147⟩ := bind_inv H141
              try simp -implicitDefEqProofs only [go_sem, Nat.reduceEqDiff, Nat.reduceAdd, reduceCtorEq, ↓reduceIte]
              refine onCall_pureX (b := true) (by exact (PW.cons (ToXA.d (ToXV.one (ToX.rbE 2 (ToX.one (b' := false) (is := []) rfl (fun _ => rfl)) (by rfl)) rfl)) (PW.cons (ToXA.d (ToXV.one (ToX.one (b' := false) (is := []) rfl (fun _ => rfl)) rfl)) PW.nil))) (PureA.of_pure (look_left_Types_ok b146)) ?_
              try simp -implicitDefEqProofs only [go_sem, Nat.reduceAdd, ↓reduceIte]
              refine runR_seq ?_
              refine runR_take tab_ok fol 1 ?_
              try simp -implicitDefEqProofs only [go_sem, Nat.reduceAdd]
              obtain ⟨e_9, E148, H149⟩ := bind_inv H147
              refine runR_join (α := { y : Int // e_9 = y }) (fun | ⟨t158, _⟩ => ⟨upd 5 (.d (.sl (List.map eGTuple t21)) false) (upd 7 (.d (.pt [.mp (encMp kGRef false (eL eGSub) t25.left.subs), .mp (encMp Value.string false (eL eS) t25.left.objs), .mp (encMp kGSub false (eL eGRef) t25.right.refs), .mp (encMp Value.string false (eL eS) t25.right.users)] 0) false) (upd 8 (.v (.bool t31)) (upd 9 (.v (.bool t95)) (upd 10 (.v (.bool t105)) (upd 15 (.v (.int .i64 t158)) (upd 128 (.so 0 0 0 2) (upd 129 (.v (.int .i64 2)) (upd 130 (.v (.int .i64 t130)) noFr)))))))), upd 0 (some (.rw [[.v (.string { data := #[97] })], [.v (.string { data := #[98] })]] 1 0 false false)) noHp, 1⟩) ?_ ?_
              · refine runR_block ?_
                refine runR_loop (α := { q : Nat × (Int × Int) // law5_LookBoth_L4 n t25 x11 t1382 q.1 q.2 = some e_9 }) (fun | ⟨⟨c, ⟨t156, t193⟩⟩, _⟩ => ⟨upd 5 (.d (.sl (List.map eGTuple t21)) false) (upd 7 (.d (.pt [.mp (encMp kGRef false (eL eGSub) t25.left.subs), .mp (encMp Value.string false (eL eS) t25.left.objs), .mp (encMp kGSub false (eL eGRef) t25.right.refs), .mp (encMp Value.string false (eL eS) t25.right.users)] 0) false) (upd 8 (.v (.bool t31)) (upd 9 (.v (.bool t95)) (upd 10 (.v (.bool t105)) (upd 15 (.v (.int .i64 t156)) (upd 17 (.v (.string x11)) (upd 18 (.d (.sl (List.map eS t1382)) false) (upd 19 (.v (.int .i64 t193)) (upd 128 (.so 0 0 0 2) (upd 129 (.v (.int .i64 2)) (upd 130 (.v (.int .i64 t130)) noFr))))))))))), upd 0 (some (.rw [[.v (.string { data := #[97] })], [.v (.string { data := #[98] })]] 1 0 false false)) noHp, 1⟩) (fun q => q.1.1) ⟨(n, (t154, 0)), E148⟩ ?_ ?_
                · exact ren_mk [(0, 0)] (by rfl) (rf_upd (by rfl) (rf_upd (by rfl) (rf_upd (by rfl) (rf_upd (by rfl) (rf_upd (by rfl) (rf_upd (by rfl) (rf_upd (by rfl) (rf_upd (by rfl) (rf_upd (by rfl) (rf_upd (by rfl) (rf_upd (by rfl) (rf_upd (by rfl) (rf_no _))))))))))))) (rh_upd (rh_one (by rfl) (by rfl) (by rfl)) (rh_no _))
                · rintro ⟨⟨c, ⟨t156, t193⟩⟩, L150⟩
                  rcases c with _ | c
                  · exact nomatch (show none = some _ from L150)
                  · unfold law5_LookBoth_L4 at L150
                    try dsimp only at L150
                    refine runR_take tab_ok fol 1 ?_
                    try simp -implicitDefEqProofs only [go_sem, Nat.reduceEqDiff, Nat.reduceAdd, ↓reduceIte]
                    rcases ite_inv L150 with ⟨c163, H164⟩ | ⟨c163, H164⟩
                    · obtain ⟨x13, b165, H166⟩ := bind_inv H164
                      obtain ⟨h167, h168⟩ := idx_inv b165
                      try simp only [Int.reduceToNat, Int.toNat_natCast] at h168
                      have h169 := map_at eS h168
                      obtain ⟨t1554, b171, H172⟩ := bind_inv H166
                      try simp -implicitDefEqProofs only [go_sem, Nat.reduceEqDiff, Nat.reduceAdd, Nat.reduceLeDiff, reduceCtorEq, ↓reduceIte, c163, nat_of .i64 h167, h169]
                      refine onCallD_pureX (b := true) [] (fun hp1 h1 => by exact (PW.cons (ToXA.d (ToXV.one (ToX.rbE 2 (ToX.one (b' := false) (is := []) rfl (fun _ => rfl)) (by rfl)) rfl)) (PW.cons (ToXA.d (ToXV.agP (PW.cons (ToX.one (b' := false) (is := []) rfl (fun _ => rfl)) (PW.cons (ToX.one (b' := false) (is := []) rfl (fun _ => rfl)) PW.nil)))) (PW.cons (ToXA.d (ToXV.one (ToX.one (b' := false) (is := []) rfl (fun _ => rfl)) rfl)) PW.nil)))) (PureA.of_pure (look_left_Subs_ok b171)) ?_
                      obtain ⟨t1674, b173, H174⟩ := bind_inv H172
                      try simp -implicitDefEqProofs only [go_sem, Nat.reduceEqDiff, Nat.reduceAdd, Nat.reduceLeDiff, reduceCtorEq, ↓reduceIte, nat_of .i64 h167, h169]
                      refine onCallD_pureX (b := true) [] (fun hp1 h1 => by exact (PW.cons (ToXA.d (ToXV.one (ToX.rbE 2 (ToX.one (b' := false) (is := []) rfl (fun _ => rfl)) (by rfl)) rfl)) (PW.cons (ToXA.d (ToXV.agP (PW.cons (ToX.one (b' := false) (is := []) rfl (fun _ => rfl)) (PW.cons (ToX.one (b' := false) (is := []) rfl (fun _ => rfl)) PW.nil)))) (PW.cons (ToXA.d (ToXV.one (ToX.one (b' := false) (is := []) rfl (fun _ => rfl)) rfl)) PW.nil)))) (PureA.of_pure (look_left_Subs_ok b173)) ?_
                      try simp -implicitDefEqProofs only [go_sem, Nat.reduceEqDiff, Nat.reduceAdd, ↓reduceIte]
                      refine Rd_endF (by rfl) ?_
                      try simp -implicitDefEqProofs only [go_sem, Nat.reduceEqDiff, Nat.reduceAdd, ↓reduceIte]
                      exact ⟨⟨(c, ((IntKind.i64.wrap ((IntKind.i64.wrap (t156 + (t1554.length : Int))) + (t1674.length : Int))), (IntKind.i64.wrap (t193 + 1)))), H174⟩, ren_mk [(0, 0)] (by rfl) (rf_upd (by rfl) (rf_upd (by rfl) (rf_upd (by rfl) (rf_upd (by rfl) (rf_upd (by rfl) (rf_upd (by rfl) (rf_upd (by rfl) (rf_upd (by rfl) (rf_upd (by rfl) (rf_upd (by rfl) (rf_upd (by rfl) (rf_upd (by rfl) (rf_no _))))))))))))) (rh_upd (rh_one (by rfl) (by rfl) (by rfl)) (rh_no _)), Nat.lt_succ_self _⟩
                    · try simp -implicitDefEqProofs only [go_sem, ↓reduceIte, c163]
                      obtain rfl := Option.some.inj H164
                      exact ⟨⟨t156, rfl⟩, ren_mk [(0, 0)] (by rfl) (rf_upd (by rfl) (rf_upd (by rfl) (rf_upd (by rfl) (rf_upd (by rfl) (rf_upd (by rfl) (rf_upd (by rfl) (rf_upd (by rfl) (rf_upd (by rfl) (rf_upd (by rfl) (rf_no _)))))))))) (rh_upd (rh_one (by rfl) (by rfl) (by rfl)) (rh_no _))⟩
              · rintro ⟨t158, he175⟩
                replace he175 := he175.symm
                subst he175
                try dsimp only at H149
                try simp -implicitDefEqProofs only [go_sem]
                refine runR_take tab_ok fol 1 ?_
                try simp -implicitDefEqProofs only [go_sem, Nat.reduceEqDiff, Nat.reduceAdd, ↓reduceIte]
                exact ⟨⟨(c, (t158, (IntKind.i64.wrap (t130 + 1)))), H149⟩, ren_mk [(0, 0)] (by rfl) (rf_upd (by rfl) (rf_upd (by rfl) (rf_upd (by rfl) (rf_upd (by rfl) (rf_upd (by rfl) (rf_upd (by rfl) (rf_upd (by rfl) (rf_upd (by rfl) (rf_upd (by rfl) (rf_no _)))))))))) (rh_upd (rh_one (by rfl) (by rfl) (by rfl)) (rh_no _)), Nat.lt_succ_self _⟩
            · try simp -implicitDefEqProofs only [go_sem, ↓reduceIte, c138]
              obtain rfl := Option.some.inj H139
              exact ⟨⟨t154, rfl⟩, ren_mk [] (by rfl) (rf_upd (by rfl) (rf_upd (by rfl) (rf_upd (by rfl) (rf_upd (by rfl) (rf_upd (by rfl) (rf_no _)))))) (rh_no _)⟩
      · rintro ⟨t1510, he186⟩
        replace he186 := he186.symm
        subst he186
        try dsimp only at H106
        refine runR_take tab_ok fol 1 ?_
        try simp -implicitDefEqProofs only [go_sem, Nat.reduceEqDiff, Nat.reduceAdd, ↓reduceIte]
        rcases ite_inv H106 with ⟨c176, H177⟩ | ⟨c176, H177⟩
        · try simp -implicitDefEqProofs only [go_sem, Nat.reduceEqDiff, Nat.reduceAdd, ↓reduceIte, c176]
          rcases ite_inv H177 with ⟨c178, H179⟩ | ⟨c178, H179⟩
          · obtain ⟨t182, b180, H181⟩ := bind_inv H179
            try simp -implicitDefEqProofs only [go_sem, Nat.reduceEqDiff, Nat.reduceAdd, ↓reduceIte, c178]
            refine onCall_pure (by first | rfl | (simp -implicitDefEqProofs only [go_sem, Int.reduceToNat, Int.reduceLT, Int.reduceLE, Int.reduceBEq, Int.reduceBNe, Nat.reduceLT, Nat.reduceBEq, Int.reduceEq, Nat.reduceEqDiff, Nat.reduceAdd, Nat.reduceSub, Nat.reduceMul, Nat.reduceLeDiff, reduceCtorEq, ↓reduceIte, eGTuple, eLookIndex, eLookLeft, eGRef, eGSub, eLookRight, eGObj, c176, c178]; done) | (simp -implicitDefEqProofs only [go_sem, Int.reduceToNat, Int.reduceLT, Int.reduceLE, Int.reduceBEq, Int.reduceBNe, Nat.reduceLT, Nat.reduceBEq, Int.reduceEq, Nat.reduceEqDiff, Nat.reduceAdd, Nat.reduceSub, Nat.reduceMul, Nat.reduceLeDiff, reduceCtorEq, ↓reduceIte, eGTuple, eLookIndex, eLookLeft, eGRef, eGSub, eLookRight, eGObj, c176, c178]; rfl)) (ref1_Of_ok b180) (by first | exact .inr rfl | exact .inl rfl) ?_
            try simp -implicitDefEqProofs only [go_sem, Nat.reduceEqDiff, Nat.reduceAdd, ↓reduceIte]
            rcases ite_inv H181 with ⟨c182, H183⟩ | ⟨c182, H183⟩
            · obtain ⟨t187, b184, H185⟩ := bind_inv H183
              try simp -implicitDefEqProofs only [go_sem, Nat.reduceAdd, ↓reduceIte, c182]
              refine onCall_pure (by first | rfl | (simp -implicitDefEqProofs only [go_sem, Int.reduceToNat, Int.reduceLT, Int.reduceLE, Int.reduceBEq, Int.reduceBNe, Nat.reduceLT, Nat.reduceBEq, Int.reduceEq, Nat.reduceEqDiff, Nat.reduceAdd, Nat.reduceSub, Nat.reduceMul, Nat.reduceLeDiff, reduceCtorEq, ↓reduceIte, eGTuple, eLookIndex, eLookLeft, eGRef, eGSub, eLookRight, eGObj, c176, c178, c182]; done) | (simp -implicitDefEqProofs only [go_sem, Int.reduceToNat, Int.reduceLT, Int.reduceLE, Int.reduceBEq, Int.reduceBNe, Nat.reduceLT, Nat.reduceBEq, Int.reduceEq, Nat.reduceEqDiff, Nat.reduceAdd, Nat.reduceSub, Nat.reduceMul, Nat.reduceLeDiff, reduceCtorEq, ↓reduceIte, eGTuple, eLookIndex, eLookLeft, eGRef, eGSub, eLookRight, eGObj, c176, c178, c182]; rfl)) (law5_awake_ok b184) (by first | exact .inr rfl | exact .inl rfl) ?_
              try simp -implicitDefEqProofs only [go_sem, Nat.reduceEqDiff, Nat.reduceAdd, ↓reduceIte]
              obtain rfl := Option.some.inj H185
              exact end_pure (by first | (simp -implicitDefEqProofs only [go_sem, ↓reduceIte, Try.f13] <;> rfl) | rfl) (by first | rfl | (simp -implicitDefEqProofs only [go_sem, Int.reduceToNat, Int.reduceLT, Int.reduceLE, Int.reduceBEq, Int.reduceBNe, Nat.reduceLT, Nat.reduceBEq, Int.reduceEq, Nat.reduceEqDiff, Nat.reduceAdd, Nat.reduceSub, Nat.reduceMul, Nat.reduceLeDiff, reduceCtorEq, ↓reduceIte, eGTuple, eLookIndex, eLookLeft, eGRef, eGSub, eLookRight, eGObj, c176, c178, c182]; done) | (simp -implicitDefEqProofs only [go_sem, Int.reduceToNat, Int.reduceLT, Int.reduceLE, Int.reduceBEq, Int.reduceBNe, Nat.reduceLT, Nat.reduceBEq, Int.reduceEq, Nat.reduceEqDiff, Nat.reduceAdd, Nat.reduceSub, Nat.reduceMul, Nat.reduceLeDiff, reduceCtorEq, ↓reduceIte, eGTuple, eLookIndex, eLookLeft, eGRef, eGSub, eLookRight, eGObj, c176, c178, c182]; rfl)) rfl (by intro h; first | rfl | cases h)
            · try simp -implicitDefEqProofs only [go_sem, Nat.reduceEqDiff, Nat.reduceAdd, ↓reduceIte, c182]
              obtain rfl := Option.some.inj H183
              exact end_pure (by first | (simp -implicitDefEqProofs only [go_sem, ↓reduceIte, Try.f13] <;> rfl) | rfl) (by first | rfl | (simp -implicitDefEqProofs only [go_sem, Int.reduceToNat, Int.reduceLT, Int.reduceLE, Int.reduceBEq, Int.reduceBNe, Nat.reduceLT, Nat.reduceBEq, Int.reduceEq, Nat.reduceEqDiff, Nat.reduceAdd, Nat.reduceSub, Nat.reduceMul, Nat.reduceLeDiff, reduceCtorEq, ↓reduceIte, eGTuple, eLookIndex, eLookLeft, eGRef, eGSub, eLookRight, eGObj, c176, c178, c182]; done) | (simp -implicitDefEqProofs only [go_sem, Int.reduceToNat, Int.reduceLT, Int.reduceLE, Int.reduceBEq, Int.reduceBNe, Nat.reduceLT, Nat.reduceBEq, Int.reduceEq, Nat.reduceEqDiff, Nat.reduceAdd, Nat.reduceSub, Nat.reduceMul, Nat.reduceLeDiff, reduceCtorEq, ↓reduceIte, eGTuple, eLookIndex, eLookLeft, eGRef, eGSub, eLookRight, eGObj, c176, c178, c182]; rfl)) rfl (by intro h; first | rfl | cases h)
          · try simp -implicitDefEqProofs only [go_sem, Nat.reduceEqDiff, Nat.reduceAdd, ↓reduceIte, c178]
            obtain rfl := Option.some.inj H179
            exact end_pure (by first | (simp -implicitDefEqProofs only [go_sem, ↓reduceIte, Try.f13] <;> rfl) | rfl) (by first | rfl | (simp -implicitDefEqProofs only [go_sem, Int.reduceToNat, Int.reduceLT, Int.reduceLE, Int.reduceBEq, Int.reduceBNe, Nat.reduceLT, Nat.reduceBEq, Int.reduceEq, Nat.reduceEqDiff, Nat.reduceAdd, Nat.reduceSub, Nat.reduceMul, Nat.reduceLeDiff, reduceCtorEq, ↓reduceIte, eGTuple, eLookIndex, eLookLeft, eGRef, eGSub, eLookRight, eGObj, c176, c178]; done) | (simp -implicitDefEqProofs only [go_sem, Int.reduceToNat, Int.reduceLT, Int.reduceLE, Int.reduceBEq, Int.reduceBNe, Nat.reduceLT, Nat.reduceBEq, Int.reduceEq, Nat.reduceEqDiff, Nat.reduceAdd, Nat.reduceSub, Nat.reduceMul, Nat.reduceLeDiff, reduceCtorEq, ↓reduceIte, eGTuple, eLookIndex, eLookLeft, eGRef, eGSub, eLookRight, eGObj, c176, c178]; rfl)) rfl (by intro h; first | rfl | cases h)
        · try simp -implicitDefEqProofs only [go_sem, Nat.reduceEqDiff, Nat.reduceAdd, ↓reduceIte, c176]
          obtain rfl := Option.some.inj H177
          exact end_pure (by first | (simp -implicitDefEqProofs only [go_sem, ↓reduceIte, Try.f13] <;> rfl) | rfl) (by first | rfl | (simp -implicitDefEqProofs only [go_sem, Int.reduceToNat, Int.reduceLT, Int.reduceLE, Int.reduceBEq, Int.reduceBNe, Nat.reduceLT, Nat.reduceBEq, Int.reduceEq, Nat.reduceEqDiff, Nat.reduceAdd, Nat.reduceSub, Nat.reduceMul, Nat.reduceLeDiff, reduceCtorEq, ↓reduceIte, eGTuple, eLookIndex, eLookLeft, eGRef, eGSub, eLookRight, eGObj, c176]; done) | (simp -implicitDefEqProofs only [go_sem, Int.reduceToNat, Int.reduceLT, Int.reduceLE, Int.reduceBEq, Int.reduceBNe, Nat.reduceLT, Nat.reduceBEq, Int.reduceEq, Nat.reduceEqDiff, Nat.reduceAdd, Nat.reduceSub, Nat.reduceMul, Nat.reduceLeDiff, reduceCtorEq, ↓reduceIte, eGTuple, eLookIndex, eLookLeft, eGRef, eGSub, eLookRight, eGObj, c176]; rfl)) rfl (by intro h; first | rfl | cases h)
end Go.Proofs.Ytdckfddlcmkdlaa.Ab
