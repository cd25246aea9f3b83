/-
  Functions, read off the code.
-/
import Derived.Test.YthnejfmbglbpgaaDoorPga
namespace Go.Proofs.YthnejfmbglbpgaaDoor.Ab
open Go.RowKit
def mask_Acl_L1 (_ : Nat) : Nat → Unit → Option (Unit)
  | 0, _ => none
  | _ + 1, _ =>
    some ()

def mask_Acl_L2 (_ : Nat) : Nat → Unit → Option (Unit)
  | 0, _ => none
  | _ + 1, _ =>
    some ()

def mask_Acl_C1_mask_masked (n : Nat) : Option Unit :=
  (mask_Find n [] false 5 ({ data := #[] })).bind fun t13 =>
  (if t13.2 then
    some ()
  else
    (
      mask_Acl_L2 n n () : Option (Unit)).bind fun _ =>
    none)

def mask_Acl_L3 (n : Nat) (l : List GEntry) : Nat → Int → Option ((Unit) ⊕ (List GEntry × Bool))
  | 0, _ => none
  | c + 1, t14 =>
    (if (decide (t14 < (l.length : Int))) then
      (idx l t14).bind fun x2 =>
      (mask_good n x2).bind fun t202 =>
      (if t202 then
        (if (decide (0 < t14)) then
          (idx l (IntKind.i64.wrap (t14 - 1))).bind fun x3 =>
          (mask_compare n x3 x2).bind fun t32 =>
          (if (t32 == 0) then
            some (.inr ([], false))
          else
            mask_Acl_L3 n l c (IntKind.i64.wrap (t14 + 1)))
        else
          mask_Acl_L3 n l c (IntKind.i64.wrap (t14 + 1)))
      else
        some (.inr ([], false)))
    else
      some (.inl ()))

def mask_Acl_L4 (n : Nat) (l : List GEntry) : Nat → (Int × Int) → Option (Int)
  | 0, _ => none
  | c + 1, (n_, t203) =>
    (if (decide (t203 < (l.length : Int))) then
      (idx l t203).bind fun x6 =>
      (if (x6.default == false) then
        (if (x6.kind == 2) then
          mask_Acl_L4 n l c ((IntKind.i64.wrap ((BitVec.ofInt IntKind.i64.bits n_ ||| BitVec.ofInt IntKind.i64.bits x6.bits).toNat : Int)), (IntKind.i64.wrap (t203 + 1)))
        else
          (if (x6.kind == 3) then
            mask_Acl_L4 n l c ((IntKind.i64.wrap ((BitVec.ofInt IntKind.i64.bits n_ ||| BitVec.ofInt IntKind.i64.bits x6.bits).toNat : Int)), (IntKind.i64.wrap (t203 + 1)))
          else
            (if (x6.kind == 4) then
              mask_Acl_L4 n l c ((IntKind.i64.wrap ((BitVec.ofInt IntKind.i64.bits n_ ||| BitVec.ofInt IntKind.i64.bits x6.bits).toNat : Int)), (IntKind.i64.wrap (t203 + 1)))
            else
              mask_Acl_L4 n l c (n_, (IntKind.i64.wrap (t203 + 1))))))
      else
        mask_Acl_L4 n l c (n_, (IntKind.i64.wrap (t203 + 1))))
    else
      some n_)
def mask_Acl_L4_f (_ : Nat) (_ : List GEntry) (st : Int) (x6 : GEntry) (k : Int → Option (Int)) : Option (Int) :=
  match st with
  | n_ =>
    (if (x6.default == false) then
      (if (x6.kind == 2) then
        k (IntKind.i64.wrap ((BitVec.ofInt IntKind.i64.bits n_ ||| BitVec.ofInt IntKind.i64.bits x6.bits).toNat : Int))
      else
        (if (x6.kind == 3) then
          k (IntKind.i64.wrap ((BitVec.ofInt IntKind.i64.bits n_ ||| BitVec.ofInt IntKind.i64.bits x6.bits).toNat : Int))
        else
          (if (x6.kind == 4) then
            k (IntKind.i64.wrap ((BitVec.ofInt IntKind.i64.bits n_ ||| BitVec.ofInt IntKind.i64.bits x6.bits).toNat : Int))
          else
            k n_)))
    else
      k n_)
def mask_Acl_L4_e (_ : Nat) (_ : List GEntry) (st : Int) : Option (Int) :=
  match st with
  | n_ => some n_
theorem mask_Acl_L4_list (n : Nat) (l : List GEntry) (hx : l.length < 4611686018427387904) (c : Nat) (st : Int) (ix : Nat) (hi : ix ≤ l.length) (hc : l.length - ix < c) : mask_Acl_L4 n l c (match st, (ix : Int) with | n_, ix => (n_, ix)) = foldK (mask_Acl_L4_f n l) (mask_Acl_L4_e n l) (l.drop ix) st :=
  loop_list (fun c st ix => mask_Acl_L4 n l c (match st, ix with | n_, ix => (n_, ix))) l (mask_Acl_L4_f n l) (mask_Acl_L4_e n l) (fun _ _ _ => rfl) hx c st ix hi hc

def mask_Acl_C2_mask_masked (n : Nat) (l : List GEntry) : Option (List GEntry) :=
  (mask_Find n l false 5 ({ data := #[] })).bind fun t132 =>
  (if t132.2 then
    some l
  else
    (
      mask_Acl_L4 n l n (0, 0) : Option (Int)).bind fun n_3 =>
    (app l [(⟨5, false, ByteArray.empty, n_3⟩ : GEntry)]).bind fun l2 =>
    some l2)

def mask_Acl_L5 (n : Nat) (t4 : List GEntry) : Nat → (Int × Int) → Option (Int)
  | 0, _ => none
  | c + 1, (n_4, t205) =>
    (if (decide (t205 < (t4.length : Int))) then
      (idx t4 t205).bind fun x8 =>
      (if (x8.default == true) then
        (if (x8.kind == 2) then
          mask_Acl_L5 n t4 c ((IntKind.i64.wrap ((BitVec.ofInt IntKind.i64.bits n_4 ||| BitVec.ofInt IntKind.i64.bits x8.bits).toNat : Int)), (IntKind.i64.wrap (t205 + 1)))
        else
          (if (x8.kind == 3) then
            mask_Acl_L5 n t4 c ((IntKind.i64.wrap ((BitVec.ofInt IntKind.i64.bits n_4 ||| BitVec.ofInt IntKind.i64.bits x8.bits).toNat : Int)), (IntKind.i64.wrap (t205 + 1)))
          else
            (if (x8.kind == 4) then
              mask_Acl_L5 n t4 c ((IntKind.i64.wrap ((BitVec.ofInt IntKind.i64.bits n_4 ||| BitVec.ofInt IntKind.i64.bits x8.bits).toNat : Int)), (IntKind.i64.wrap (t205 + 1)))
            else
              mask_Acl_L5 n t4 c (n_4, (IntKind.i64.wrap (t205 + 1))))))
      else
        mask_Acl_L5 n t4 c (n_4, (IntKind.i64.wrap (t205 + 1))))
    else
      some n_4)
def mask_Acl_L5_f (_ : Nat) (_ : List GEntry) (st : Int) (x8 : GEntry) (k : Int → Option (Int)) : Option (Int) :=
  match st with
  | n_4 =>
    (if (x8.default == true) then
      (if (x8.kind == 2) then
        k (IntKind.i64.wrap ((BitVec.ofInt IntKind.i64.bits n_4 ||| BitVec.ofInt IntKind.i64.bits x8.bits).toNat : Int))
      else
        (if (x8.kind == 3) then
          k (IntKind.i64.wrap ((BitVec.ofInt IntKind.i64.bits n_4 ||| BitVec.ofInt IntKind.i64.bits x8.bits).toNat : Int))
        else
          (if (x8.kind == 4) then
            k (IntKind.i64.wrap ((BitVec.ofInt IntKind.i64.bits n_4 ||| BitVec.ofInt IntKind.i64.bits x8.bits).toNat : Int))
          else
            k n_4)))
    else
      k n_4)
def mask_Acl_L5_e (_ : Nat) (_ : List GEntry) (st : Int) : Option (Int) :=
  match st with
  | n_4 => some n_4
theorem mask_Acl_L5_list (n : Nat) (t4 : List GEntry) (hx : t4.length < 4611686018427387904) (c : Nat) (st : Int) (ix : Nat) (hi : ix ≤ t4.length) (hc : t4.length - ix < c) : mask_Acl_L5 n t4 c (match st, (ix : Int) with | n_4, ix => (n_4, ix)) = foldK (mask_Acl_L5_f n t4) (mask_Acl_L5_e n t4) (t4.drop ix) st :=
  loop_list (fun c st ix => mask_Acl_L5 n t4 c (match st, ix with | n_4, ix => (n_4, ix))) t4 (mask_Acl_L5_f n t4) (mask_Acl_L5_e n t4) (fun _ _ _ => rfl) hx c st ix hi hc

def mask_Acl_C3_mask_masked (n : Nat) (t4 : List GEntry) : Option (List GEntry) :=
  (mask_Find n t4 true 5 ({ data := #[] })).bind fun t133 =>
  (if t133.2 then
    some t4
  else
    (
      mask_Acl_L5 n t4 n (0, 0) : Option (Int)).bind fun n_6 =>
    (app t4 [(⟨5, true, ByteArray.empty, n_6⟩ : GEntry)]).bind fun l3 =>
    some l3)

def mask_Acl (n : Nat) (t0 : List GEntry) : Option (List GEntry × Bool) :=
  (if (decide (t0.length = 0)) then
    (
      mask_Acl_L1 n n () : Option (Unit)).bind fun _ =>
    (
      some () : Option (Unit)).bind fun _ =>
    (
      (mask_whole n [] false).bind fun t50 =>
      (if t50 then
        some false
      else
        some true) : Option (Bool)).bind fun t59 =>
    (if t59 then
      some ([], false)
    else
      (mask_Acl_C1_mask_masked n : Option Unit).bind fun _ =>
      (
        some () : Option (Unit)).bind fun _ =>
      some ([], true))
  else
    grd (decide (t0.length ≤ 4294967296)) <|
    (sort_Entry n t0).bind fun l =>
    (
      mask_Acl_L3 n l n 0 : Option ((Unit) ⊕ (List GEntry × Bool))).bind fun
      | .inl _ =>
        (
          (if (decide (0 < (l.length : Int))) then
            (idx l (IntKind.i64.wrap ((l.length : Int) - 1))).bind fun x4 =>
            some x4.default
          else
            some false) : Option (Bool)).bind fun t7 =>
        (
          (mask_whole n l false).bind fun t502 =>
          (if t502 then
            (if t7 then
              (mask_whole n l true).bind fun t56 =>
              some (true, (!t56))
            else
              some (false, false))
          else
            some (t7, true)) : Option (Bool × Bool)).bind fun (t72, t592) =>
        (if t592 then
          some ([], false)
        else
          (mask_Acl_C2_mask_masked n l : Option (List GEntry)).bind fun t4 =>
          (
            (if t72 then
              (mask_Acl_C3_mask_masked n t4 : Option (List GEntry)).bind fun t42 =>
              some t42
            else
              some t4) : Option (List GEntry)).bind fun t43 =>
          (sort_Entry n t43).bind fun l4 =>
          (if (decide (100 < (l4.length : Int))) then
            some ([], false)
          else
            some (l4, true)))
      | .inr r => some r)
set_option maxHeartbeats 8000000 in
theorem mask_Acl_ok {n : Nat} {t0 : List GEntry} {r : List GEntry × Bool} (H : mask_Acl n t0 = some r) : PureOK Tryd.prog 10 [D.sl (List.map eGEntry t0)] (D.tu [D.sl (List.map eGEntry r.1), D.v (.bool r.2)]) true := by
  unfold mask_Acl at H
  refine pure_runR (tab := tab) tab_ok Tryd.func10 rfl (by kernel_rfl) (by kernel_rfl) (by simp [Tryd.f10]) ?_
  refine runR_seq ?_
  refine runR_take tab_ok fol 1 ?_
  try simp -implicitDefEqProofs only [go_sem, Nat.reduceAdd]
  refine runR_seq ?_
  refine runR_take tab_ok fol 1 ?_
  try simp -implicitDefEqProofs only [go_sem, Nat.reduceAdd, reduceCtorEq, ↓reduceIte]
  rcases ite_inv H with ⟨c1, H2⟩ | ⟨c1, H2⟩
  · try simp -implicitDefEqProofs only [go_sem, Bool.false_and, Int.reduceToNat, Int.reduceLT, Int.reduceLE, Int.reduceBEq, Int.reduceBNe, Nat.reduceLT, Nat.reduceBEq, Int.reduceEq, Nat.reduceEqDiff, Nat.reduceAdd, Nat.reduceSub, Nat.reduceMul, Nat.reduceLeDiff, reduceCtorEq, ↓reduceIte, eGEntry, eGFile, c1]
    refine onCall_pure (by first | rfl | (simp -implicitDefEqProofs only [go_sem, Bool.false_and, Int.reduceToNat, Int.reduceLT, Int.reduceLE, Int.reduceBEq, Int.reduceBNe, Nat.reduceLT, Nat.reduceBEq, Int.reduceEq, Nat.reduceEqDiff, Nat.reduceAdd, Nat.reduceSub, Nat.reduceMul, Nat.reduceLeDiff, reduceCtorEq, ↓reduceIte, eGEntry, eGFile, c1]; done) | (simp -implicitDefEqProofs only [go_sem, Bool.false_and, Int.reduceToNat, Int.reduceLT, Int.reduceLE, Int.reduceBEq, Int.reduceBNe, Nat.reduceLT, Nat.reduceBEq, Int.reduceEq, Nat.reduceEqDiff, Nat.reduceAdd, Nat.reduceSub, Nat.reduceMul, Nat.reduceLeDiff, reduceCtorEq, ↓reduceIte, eGEntry, eGFile, c1]; rfl)) (cl21_0 t0 c1) (.inr rfl) ?_
    try simp -implicitDefEqProofs only [go_sem, Bool.false_and, Nat.reduceAdd, ↓reduceIte]
    refine runR_seq ?_
    refine runR_take tab_ok fol 1 ?_
    try simp -implicitDefEqProofs only [go_sem, Nat.reduceAdd, ↓reduceIte]
    refine onCall_inl (InlOK.mono sort_Entry_0 ?_)
    rintro v3 hp4 nx5 ⟨rfl, rfl, rfl⟩
    try simp -implicitDefEqProofs only [go_sem]
    refine runR_seq ?_
    refine runR_seq ?_
    refine runR_take tab_ok fol 1 ?_
    try simp -implicitDefEqProofs only [go_sem, Nat.reduceEqDiff, Nat.reduceAdd, ↓reduceIte]
    obtain ⟨e_, E6, H7⟩ := bind_inv H2
    refine runR_join (α := { y : Unit // e_ = y }) (fun | ⟨_, _⟩ => ⟨upd 4 (.d (.sl (List.map eGEntry [])) false) noFr, noHp, 0⟩) ?_ ?_
    · refine runR_block ?_
      refine runR_loop (α := { q : Nat × Unit // mask_Acl_L1 n q.1 q.2 = some e_ }) (fun | ⟨⟨c, _⟩, _⟩ => ⟨upd 4 (.d (.sl (List.map eGEntry [])) false) (upd 12 (.d (.sl (List.map eGEntry [])) false) (upd 13 (.v (.int .i64 0)) (upd 14 (.v (.int .i64 0)) noFr))), noHp, 0⟩) (fun q => q.1.1) ⟨(n, ()), E6⟩ ?_ ?_
      · exact ren_mk [] (by rfl) (rf_upd (by rfl) (rf_upd (by rfl) (rf_upd (by rfl) (rf_upd (by rfl) (rf_no _))))) (rh_no _)
      · rintro ⟨⟨c, _⟩, L8⟩
        rcases c with _ | c
        · exact nomatch (show none = some _ from L8)
        · unfold mask_Acl_L1 at L8
          try dsimp only at L8
          refine runR_take tab_ok fol 1 ?_
          try simp -implicitDefEqProofs only [go_sem, Int.reduceLT, Nat.reduceEqDiff, ↓reduceIte]
          obtain rfl := Option.some.inj L8
          exact ⟨⟨(), rfl⟩, ren_mk [] (by rfl) (rf_upd (by rfl) (rf_no _)) (rh_no _)⟩
    · rintro ⟨_, he41⟩
      replace he41 := he41.symm
      subst he41
      try dsimp only at H7
      refine runR_seq ?_
      obtain ⟨e_2, E9, H10⟩ := bind_inv H7
      refine runR_join (α := { y : Unit // e_2 = y }) (fun | ⟨_, _⟩ => ⟨upd 4 (.d (.sl (List.map eGEntry [])) false) (upd 7 (.v (.bool false)) noFr), noHp, 0⟩) ?_ ?_
      · refine runR_take tab_ok fol 1 ?_
        try simp -implicitDefEqProofs only [go_sem, Int.reduceLT, Nat.reduceEqDiff, Nat.reduceAdd, ↓reduceIte]
        obtain rfl := Option.some.inj E9
        exact ⟨⟨(), rfl⟩, ren_mk [] (by rfl) (rf_upd (by rfl) (rf_upd (by rfl) (rf_no _))) (rh_no _)⟩
      · rintro ⟨_, he40⟩
        replace he40 := he40.symm
        subst he40
        try dsimp only at H10
        refine runR_seq ?_
        refine runR_seq ?_
        obtain ⟨e_3, E11, H12⟩ := bind_inv H10
        refine runR_join (α := { y : Bool // e_3 = y }) (fun | ⟨t59, _⟩ => ⟨upd 4 (.d (.sl (List.map eGEntry [])) false) (upd 7 (.v (.bool false)) (upd 59 (.v (.bool t59)) noFr)), noHp, 0⟩) ?_ ?_
        · refine runR_take tab_ok fol 1 ?_
          obtain ⟨t50, b13, H14⟩ := bind_inv E11
          try simp -implicitDefEqProofs only [go_sem, Nat.reduceAdd, ↓reduceIte]
          refine onCall_pure (by first | rfl | (simp -implicitDefEqProofs only [go_sem, Bool.false_and, Int.reduceToNat, Int.reduceLT, Int.reduceLE, Int.reduceBEq, Int.reduceBNe, Nat.reduceLT, Nat.reduceBEq, Int.reduceEq, Nat.reduceEqDiff, Nat.reduceAdd, Nat.reduceSub, Nat.reduceMul, Nat.reduceLeDiff, reduceCtorEq, ↓reduceIte, eGEntry, eGFile]; done) | (simp -implicitDefEqProofs only [go_sem, Bool.false_and, Int.reduceToNat, Int.reduceLT, Int.reduceLE, Int.reduceBEq, Int.reduceBNe, Nat.reduceLT, Nat.reduceBEq, Int.reduceEq, Nat.reduceEqDiff, Nat.reduceAdd, Nat.reduceSub, Nat.reduceMul, Nat.reduceLeDiff, reduceCtorEq, ↓reduceIte, eGEntry, eGFile]; rfl)) (mask_whole_ok b13) (by first | exact .inr rfl | exact .inl rfl) ?_
          try simp -implicitDefEqProofs only [go_sem, Bool.false_and, Nat.reduceAdd, ↓reduceIte]
          rcases ite_inv H14 with ⟨c15, H16⟩ | ⟨c15, H16⟩
          · try simp -implicitDefEqProofs only [go_sem, Nat.reduceEqDiff, Nat.reduceAdd, ↓reduceIte, c15]
            obtain rfl := Option.some.inj H16
            exact ⟨⟨false, rfl⟩, ren_mk [] (by rfl) (rf_upd (by rfl) (rf_upd (by rfl) (rf_upd (by rfl) (rf_no _)))) (rh_no _)⟩
          · try simp -implicitDefEqProofs only [go_sem, Nat.reduceEqDiff, Nat.reduceAdd, ↓reduceIte, c15]
            obtain rfl := Option.some.inj H16
            exact ⟨⟨true, rfl⟩, ren_mk [] (by rfl) (rf_upd (by rfl) (rf_upd (by rfl) (rf_upd (by rfl) (rf_no _)))) (rh_no _)⟩
        · rintro ⟨t59, he39⟩
          replace he39 := he39.symm
          subst he39
          try dsimp only at H12
          refine runR_take tab_ok fol 1 ?_
          try simp -implicitDefEqProofs only [go_sem, Nat.reduceEqDiff, ↓reduceIte]
          rcases ite_inv H12 with ⟨c17, H18⟩ | ⟨c17, H18⟩
          · try simp -implicitDefEqProofs only [go_sem, Nat.reduceAdd, c17]
            obtain rfl := Option.some.inj H18
            exact end_pure (by first | (simp -implicitDefEqProofs only [go_sem, Nat.reduceEqDiff, ↓reduceIte, Tryd.f10] <;> rfl) | rfl) (by first | rfl | (simp -implicitDefEqProofs only [go_sem, Bool.false_and, Int.reduceToNat, Int.reduceLT, Int.reduceLE, Int.reduceBEq, Int.reduceBNe, Nat.reduceLT, Nat.reduceBEq, Int.reduceEq, Nat.reduceEqDiff, Nat.reduceAdd, Nat.reduceSub, Nat.reduceMul, Nat.reduceLeDiff, reduceCtorEq, ↓reduceIte, eGEntry, eGFile, c17]; done) | (simp -implicitDefEqProofs only [go_sem, Bool.false_and, Int.reduceToNat, Int.reduceLT, Int.reduceLE, Int.reduceBEq, Int.reduceBNe, Nat.reduceLT, Nat.reduceBEq, Int.reduceEq, Nat.reduceEqDiff, Nat.reduceAdd, Nat.reduceSub, Nat.reduceMul, Nat.reduceLeDiff, reduceCtorEq, ↓reduceIte, eGEntry, eGFile, c17]; rfl)) rfl (by intro h; first | rfl | cases h)
          · try simp -implicitDefEqProofs only [go_sem, c17]
            refine runR_seq ?_
            refine runR_take tab_ok fol 1 ?_
            try simp -implicitDefEqProofs only [go_sem, Nat.reduceAdd, ↓reduceIte]
            obtain ⟨e_4, E19, H20⟩ := bind_inv H18
            refine onCall_inl (InlOK.mono (inl_runRJ (α := { y : Unit // e_4 = y }) tab_ok Tryd.func26 rfl (by kernel_rfl) (by kernel_rfl) (by simp [Tryd.f26]) (fun | ⟨_, _⟩ => ⟨upd 4 (.d (.sl (List.map eGEntry [])) false) noFr, noHp, 3⟩) (fun | ⟨_, _⟩ => .d (.sl (List.map eGEntry [])) false) (by rintro ⟨_, he29⟩; first | ((simp -implicitDefEqProofs only [go_sem, ↓reduceIte, Tryd.f26]) <;> rfl) | rfl) ?_) ?_)
            · unfold mask_Acl_C1_mask_masked at E19
              try dsimp only at E19
              refine runR_seq ?_
              refine runR_take tab_ok fol 1 ?_
              try simp -implicitDefEqProofs only [go_sem, Nat.reduceAdd]
              refine runR_seq ?_
              refine runR_take tab_ok fol 1 ?_
              obtain ⟨t13, b21, H22⟩ := bind_inv E19
              try simp -implicitDefEqProofs only [go_sem, Nat.reduceEqDiff, Nat.reduceAdd, reduceCtorEq, ↓reduceIte]
              refine onCall_pure (by first | rfl | (simp -implicitDefEqProofs only [go_sem, Bool.false_and, Int.reduceToNat, Int.reduceLT, Int.reduceLE, Int.reduceBEq, Int.reduceBNe, Nat.reduceLT, Nat.reduceBEq, Int.reduceEq, Nat.reduceEqDiff, Nat.reduceAdd, Nat.reduceSub, Nat.reduceMul, Nat.reduceLeDiff, reduceCtorEq, ↓reduceIte, eGEntry, eGFile]; done) | (simp -implicitDefEqProofs only [go_sem, Bool.false_and, Int.reduceToNat, Int.reduceLT, Int.reduceLE, Int.reduceBEq, Int.reduceBNe, Nat.reduceLT, Nat.reduceBEq, Int.reduceEq, Nat.reduceEqDiff, Nat.reduceAdd, Nat.reduceSub, Nat.reduceMul, Nat.reduceLeDiff, reduceCtorEq, ↓reduceIte, eGEntry, eGFile]; rfl)) (mask_Find_ok b21) (by first | exact .inr rfl | exact .inl rfl) ?_
              try simp -implicitDefEqProofs only [go_sem, Bool.false_and, Nat.reduceEqDiff, Nat.reduceAdd, ↓reduceIte, eGEntry]
              rcases ite_inv H22 with ⟨c23, H24⟩ | ⟨c23, H24⟩
              · try simp -implicitDefEqProofs only [go_sem, Nat.reduceAdd, reduceCtorEq, ↓reduceIte, c23]
                obtain rfl := Option.some.inj H24
                exact endJ_ret ⟨(), rfl⟩ (ren_mk [] (by rfl) (rf_upd (by rfl) (rf_no _)) (rh_no _))
              · try simp -implicitDefEqProofs only [go_sem, c23]
                refine runR_seq ?_
                refine runR_take tab_ok fol 1 ?_
                try simp -implicitDefEqProofs only [go_sem, Nat.reduceAdd]
                refine runR_seq ?_
                refine runR_seq ?_
                refine runR_take tab_ok fol 1 ?_
                try simp -implicitDefEqProofs only [go_sem, Nat.reduceAdd, reduceCtorEq, ↓reduceIte]
                obtain ⟨e_5, E25, H26⟩ := bind_inv H24
                refine runR_join (α := { y : Unit // e_5 = y }) (fun | ⟨_, _⟩ => ⟨upd 0 (.d (.sl (List.map eGEntry [])) false) (upd 1 (.v (.bool false)) (upd 7 (.v (.int .i64 0)) noFr)), noHp, 3⟩) ?_ ?_
                · refine runR_block ?_
                  refine runR_loop (α := { q : Nat × Unit // mask_Acl_L2 n q.1 q.2 = some e_5 }) (fun | ⟨⟨c, _⟩, _⟩ => ⟨upd 0 (.d (.sl (List.map eGEntry [])) false) (upd 1 (.v (.bool false)) (upd 7 (.v (.int .i64 0)) (upd 18 (.d (.sl (List.map eGEntry [])) false) (upd 19 (.v (.int .i64 0)) (upd 20 (.v (.int .i64 0)) noFr))))), noHp, 3⟩) (fun q => q.1.1) ⟨(n, ()), E25⟩ ?_ ?_
                  · exact ren_mk [] (by rfl) (rf_upd (by rfl) (rf_upd (by rfl) (rf_upd (by rfl) (rf_upd (by rfl) (rf_upd (by rfl) (rf_upd (by rfl) (rf_no _))))))) (rh_no _)
                  · rintro ⟨⟨c, _⟩, L27⟩
                    rcases c with _ | c
                    · exact nomatch (show none = some _ from L27)
                    · unfold mask_Acl_L2 at L27
                      try dsimp only at L27
                      refine runR_take tab_ok fol 1 ?_
                      try simp -implicitDefEqProofs only [go_sem, Int.reduceLT, Nat.reduceEqDiff, Nat.reduceAdd, reduceCtorEq, ↓reduceIte]
                      obtain rfl := Option.some.inj L27
                      exact ⟨⟨(), rfl⟩, ren_mk [] (by rfl) (rf_upd (by rfl) (rf_upd (by rfl) (rf_upd (by rfl) (rf_no _)))) (rh_no _)⟩
                · rintro ⟨_, he28⟩
                  replace he28 := he28.symm
                  subst he28
                  try dsimp only at H26
                  refine runR_take tab_ok fol 1 ?_
                  cases H26
            rintro v30 hp31 nx32 ⟨⟨_, he29⟩, rfl, rfl, rfl⟩
            replace he29 := he29.symm
            subst he29
            try dsimp only at H20
            dsimp only
            try simp -implicitDefEqProofs only [go_sem, Nat.reduceAdd, ↓reduceIte]
            refine runR_seq ?_
            refine runR_seq ?_
            refine runR_take tab_ok fol 1 ?_
            try simp -implicitDefEqProofs only [go_sem, Nat.reduceEqDiff, Nat.reduceAdd, ↓reduceIte]
            obtain ⟨e_6, E33, H34⟩ := bind_inv H20
            refine runR_join (α := { y : Unit // e_6 = y }) (fun | ⟨_, _⟩ => ⟨upd 4 (.d (.sl (List.map eGEntry [])) false) noFr, noHp, 0⟩) ?_ ?_
            · refine runR_take tab_ok fol 1 ?_
              try simp -implicitDefEqProofs only [go_sem, ↓reduceIte]
              obtain rfl := Option.some.inj E33
              exact ⟨⟨(), rfl⟩, ren_mk [] (by rfl) (rf_upd (by rfl) (rf_no _)) (rh_no _)⟩
            · rintro ⟨_, he38⟩
              replace he38 := he38.symm
              subst he38
              try dsimp only at H34
              refine runR_take tab_ok fol 1 ?_
              try simp -implicitDefEqProofs only [go_sem, Nat.reduceAdd, ↓reduceIte]
              refine onCall_inl (InlOK.mono sort_Entry_0 ?_)
              rintro v35 hp36 nx37 ⟨rfl, rfl, rfl⟩
              try simp -implicitDefEqProofs only [go_sem, Int.reduceLT, Nat.reduceEqDiff, Nat.reduceAdd, ↓reduceIte]
              obtain rfl := Option.some.inj H34
              exact end_pure (by first | (simp -implicitDefEqProofs only [go_sem, Nat.reduceEqDiff, ↓reduceIte, Tryd.f10] <;> rfl) | rfl) (by first | rfl | (simp -implicitDefEqProofs only [go_sem, Bool.false_and, Int.reduceToNat, Int.reduceLT, Int.reduceLE, Int.reduceBEq, Int.reduceBNe, Nat.reduceLT, Nat.reduceBEq, Int.reduceEq, Nat.reduceEqDiff, Nat.reduceAdd, Nat.reduceSub, Nat.reduceMul, Nat.reduceLeDiff, reduceCtorEq, ↓reduceIte, eGEntry, eGFile]; done) | (simp -implicitDefEqProofs only [go_sem, Bool.false_and, Int.reduceToNat, Int.reduceLT, Int.reduceLE, Int.reduceBEq, Int.reduceBNe, Nat.reduceLT, Nat.reduceBEq, Int.reduceEq, Nat.reduceEqDiff, Nat.reduceAdd, Nat.reduceSub, Nat.reduceMul, Nat.reduceLeDiff, reduceCtorEq, ↓reduceIte, eGEntry, eGFile]; rfl)) rfl (by intro h; first | rfl | cases h)
  · obtain ⟨g42, H43⟩ := grd_inv H2
    have h44 : t0.length ≤ 4294967296 := of_decide_eq_true g42
    have q45 : 0 < t0.length := by have := of_decide_eq_false c1; omega
    try simp -implicitDefEqProofs only [go_sem, Bool.false_and, Int.reduceToNat, Int.reduceLT, Int.reduceLE, Int.reduceBEq, Int.reduceBNe, Nat.reduceLT, Nat.reduceBEq, Int.reduceEq, Nat.reduceEqDiff, Nat.reduceAdd, Nat.reduceSub, Nat.reduceMul, Nat.reduceLeDiff, reduceCtorEq, ↓reduceIte, eGEntry, eGFile, c1]
    refine onCall_inl (InlOK.mono (cl21_in t0 q45 h44) ?_)
    rintro v46 hp47 nx48 ⟨rfl, rfl, rfl⟩
    try simp -implicitDefEqProofs only [go_sem, Nat.reduceAdd, ↓reduceIte]
    refine runR_seq ?_
    refine runR_take tab_ok fol 1 ?_
    obtain ⟨l, b52, H53⟩ := bind_inv H43
    try simp -implicitDefEqProofs only [go_sem, Nat.reduceAdd, ↓reduceIte]
    have h54 := sort_Entry_len b52
    refine onCall_inl (InlOK.mono (sort_Entry_in b52 (by first | rfl | (simp -implicitDefEqProofs only [go_sem, Bool.false_and, Int.reduceToNat, Int.reduceLT, Int.reduceLE, Int.reduceBEq, Int.reduceBNe, Nat.reduceLT, Nat.reduceBEq, Int.reduceEq, Nat.reduceEqDiff, Nat.reduceAdd, Nat.reduceSub, Nat.reduceMul, Nat.reduceLeDiff, reduceCtorEq, ↓reduceIte, eGEntry, eGFile, c1, h44]; done) | (simp -implicitDefEqProofs only [go_sem, Bool.false_and, Int.reduceToNat, Int.reduceLT, Int.reduceLE, Int.reduceBEq, Int.reduceBNe, Nat.reduceLT, Nat.reduceBEq, Int.reduceEq, Nat.reduceEqDiff, Nat.reduceAdd, Nat.reduceSub, Nat.reduceMul, Nat.reduceLeDiff, reduceCtorEq, ↓reduceIte, eGEntry, eGFile, c1, h44]; rfl))) ?_)
    rintro v49 hp50 nx51 ⟨rfl, rfl, rfl⟩
    try rw [h54]
    try simp -implicitDefEqProofs only [go_sem]
    refine runR_seq ?_
    refine runR_seq ?_
    refine runR_take tab_ok fol 1 ?_
    try simp -implicitDefEqProofs only [go_sem, Nat.reduceEqDiff, Nat.reduceAdd, ↓reduceIte]
    obtain ⟨e_7, E55, H56⟩ := bind_inv H53
    refine runR_join (α := { y : Unit // e_7 = .inl y }) (fun | ⟨_, _⟩ => ⟨upd 4 (.so 0 1 0 (l.length)) noFr, upd 0 (some (.rw (List.map eGEntry l) 4 1 false false)) noHp, 1⟩) ?_ ?_
    · refine runR_block ?_
      refine runR_loop (α := { q : Nat × Int // mask_Acl_L3 n l q.1 q.2 = some e_7 }) (fun | ⟨⟨c, t14⟩, _⟩ => ⟨upd 4 (.so 0 1 0 (l.length)) (upd 12 (.so 0 1 0 (l.length)) (upd 13 (.v (.int .i64 (l.length : Int))) (upd 14 (.v (.int .i64 t14)) noFr))), upd 0 (some (.rw (List.map eGEntry l) 4 1 false false)) noHp, 1⟩) (fun q => q.1.1) ⟨(n, 0), E55⟩ ?_ ?_
      · exact ren_mk [(0, 8)] (by rfl) (rf_upd (by rfl) (rf_upd (by rfl) (rf_upd (by rfl) (rf_upd (by rfl) (rf_no _))))) (rh_upd (rh_one (by rfl) (by rfl) (by rfl)) (rh_no _))
      · rintro ⟨⟨c, t14⟩, L57⟩
        rcases c with _ | c
        · exact nomatch (show none = some _ from L57)
        · unfold mask_Acl_L3 at L57
          try dsimp only at L57
          refine runR_take tab_ok fol 1 ?_
          try simp -implicitDefEqProofs only [go_sem, Nat.reduceEqDiff, Nat.reduceAdd, ↓reduceIte]
          rcases ite_inv L57 with ⟨c70, H71⟩ | ⟨c70, H71⟩
          · obtain ⟨x2, b72, H73⟩ := bind_inv H71
            obtain ⟨h74, h75⟩ := idx_inv b72
            try simp only [Int.reduceToNat, Int.toNat_natCast] at h75
            have h76 := map_at eGEntry h75
            have h77 := at_lt h75
            obtain ⟨t202, b78, H79⟩ := bind_inv H73
            try simp -implicitDefEqProofs only [go_sem, Nat.reduceEqDiff, Nat.reduceAdd, ↓reduceIte, eGEntry, c70, nat_of .i64 h74, h76, h77]
            refine onCallD_pure (by first | rfl | (simp -implicitDefEqProofs only [go_sem, Bool.false_and, Int.reduceToNat, Int.reduceLT, Int.reduceLE, Int.reduceBEq, Int.reduceBNe, Nat.reduceLT, Nat.reduceBEq, Int.reduceEq, Nat.reduceEqDiff, Nat.reduceAdd, Nat.reduceSub, Nat.reduceMul, Nat.reduceLeDiff, reduceCtorEq, ↓reduceIte, eGEntry, eGFile, c70, nat_of .i64 h74, h76, h77]; done) | (simp -implicitDefEqProofs only [go_sem, Bool.false_and, Int.reduceToNat, Int.reduceLT, Int.reduceLE, Int.reduceBEq, Int.reduceBNe, Nat.reduceLT, Nat.reduceBEq, Int.reduceEq, Nat.reduceEqDiff, Nat.reduceAdd, Nat.reduceSub, Nat.reduceMul, Nat.reduceLeDiff, reduceCtorEq, ↓reduceIte, eGEntry, eGFile, c70, nat_of .i64 h74, h76, h77]; rfl)) (mask_good_ok b78) (by first | exact .inr rfl | exact .inl rfl) ?_
            try simp -implicitDefEqProofs only [go_sem, Bool.false_and, Nat.reduceAdd, ↓reduceIte]
            rcases ite_inv H79 with ⟨c80, H81⟩ | ⟨c80, H81⟩
            · try simp -implicitDefEqProofs only [go_sem, Nat.reduceEqDiff, Nat.reduceAdd, ↓reduceIte, c80]
              rcases ite_inv H81 with ⟨c82, H83⟩ | ⟨c82, H83⟩
              · obtain ⟨x3, b84, H85⟩ := bind_inv H83
                obtain ⟨h86, h87⟩ := idx_inv b84
                try simp only [Int.reduceToNat, Int.toNat_natCast] at h87
                have h88 := map_at eGEntry h87
                have h89 := at_lt h87
                obtain ⟨t32, b90, H91⟩ := bind_inv H85
                try simp -implicitDefEqProofs only [go_sem, Nat.reduceEqDiff, Nat.reduceAdd, reduceCtorEq, ↓reduceIte, eGEntry, c82, nat_of .i64 h86, h88, h89]
                refine onCallD_pure (by first | rfl | (simp -implicitDefEqProofs only [go_sem, Bool.false_and, Int.reduceToNat, Int.reduceLT, Int.reduceLE, Int.reduceBEq, Int.reduceBNe, Nat.reduceLT, Nat.reduceBEq, Int.reduceEq, Nat.reduceEqDiff, Nat.reduceAdd, Nat.reduceSub, Nat.reduceMul, Nat.reduceLeDiff, reduceCtorEq, ↓reduceIte, eGEntry, eGFile, c70, nat_of .i64 h74, h76, h77, c80, c82, nat_of .i64 h86, h88, h89]; done) | (simp -implicitDefEqProofs only [go_sem, Bool.false_and, Int.reduceToNat, Int.reduceLT, Int.reduceLE, Int.reduceBEq, Int.reduceBNe, Nat.reduceLT, Nat.reduceBEq, Int.reduceEq, Nat.reduceEqDiff, Nat.reduceAdd, Nat.reduceSub, Nat.reduceMul, Nat.reduceLeDiff, reduceCtorEq, ↓reduceIte, eGEntry, eGFile, c70, nat_of .i64 h74, h76, h77, c80, c82, nat_of .i64 h86, h88, h89]; rfl)) (mask_compare_ok b90) (by first | exact .inr rfl | exact .inl rfl) ?_
                try simp -implicitDefEqProofs only [go_sem, Bool.false_and, Nat.reduceEqDiff, Nat.reduceAdd, ↓reduceIte]
                refine Rd_endF (by rfl) ?_
                try simp -implicitDefEqProofs only [go_sem, ↓reduceIte]
                rcases ite_inv H91 with ⟨c92, H93⟩ | ⟨c92, H93⟩
                · try simp -implicitDefEqProofs only [go_sem, Nat.reduceAdd, c92]
                  obtain rfl := Option.some.inj H93
                  obtain rfl := Option.some.inj H56
                  exact end_pure (by first | (simp -implicitDefEqProofs only [go_sem, Nat.reduceEqDiff, ↓reduceIte, Tryd.f10] <;> rfl) | rfl) (by first | rfl | (simp -implicitDefEqProofs only [go_sem, Bool.false_and, Int.reduceToNat, Int.reduceLT, Int.reduceLE, Int.reduceBEq, Int.reduceBNe, Nat.reduceLT, Nat.reduceBEq, Int.reduceEq, Nat.reduceEqDiff, Nat.reduceAdd, Nat.reduceSub, Nat.reduceMul, Nat.reduceLeDiff, reduceCtorEq, ↓reduceIte, eGEntry, eGFile, c70, nat_of .i64 h74, h76, h77, c80, c82, nat_of .i64 h86, h88, h89, c92]; done) | (simp -implicitDefEqProofs only [go_sem, Bool.false_and, Int.reduceToNat, Int.reduceLT, Int.reduceLE, Int.reduceBEq, Int.reduceBNe, Nat.reduceLT, Nat.reduceBEq, Int.reduceEq, Nat.reduceEqDiff, Nat.reduceAdd, Nat.reduceSub, Nat.reduceMul, Nat.reduceLeDiff, reduceCtorEq, ↓reduceIte, eGEntry, eGFile, c70, nat_of .i64 h74, h76, h77, c80, c82, nat_of .i64 h86, h88, h89, c92]; rfl)) rfl (by intro h; first | rfl | cases h)
                · try simp -implicitDefEqProofs only [go_sem, Nat.reduceEqDiff, Nat.reduceAdd, ↓reduceIte, c92]
                  exact ⟨⟨(c, (IntKind.i64.wrap (t14 + 1))), H93⟩, ren_mk [(0, 0)] (by rfl) (rf_upd (by rfl) (rf_upd (by rfl) (rf_upd (by rfl) (rf_upd (by rfl) (rf_no _))))) (rh_upd (rh_one (by rfl) (by rfl) (by rfl)) (rh_no _)), Nat.lt_succ_self _⟩
              · try simp -implicitDefEqProofs only [go_sem, Nat.reduceEqDiff, Nat.reduceAdd, ↓reduceIte, c82]
                refine Rd_endF (by rfl) ?_
                try simp -implicitDefEqProofs only [go_sem, Nat.reduceEqDiff, Nat.reduceAdd, ↓reduceIte]
                exact ⟨⟨(c, (IntKind.i64.wrap (t14 + 1))), H83⟩, ren_mk [(0, 0)] (by rfl) (rf_upd (by rfl) (rf_upd (by rfl) (rf_upd (by rfl) (rf_upd (by rfl) (rf_no _))))) (rh_upd (rh_one (by rfl) (by rfl) (by rfl)) (rh_no _)), Nat.lt_succ_self _⟩
            · try simp -implicitDefEqProofs only [go_sem, Nat.reduceEqDiff, Nat.reduceAdd, ↓reduceIte, c80]
              refine Rd_endF (by rfl) ?_
              try simp -implicitDefEqProofs only [go_sem, Nat.reduceAdd, ↓reduceIte]
              obtain rfl := Option.some.inj H81
              obtain rfl := Option.some.inj H56
              exact end_pure (by first | (simp -implicitDefEqProofs only [go_sem, Nat.reduceEqDiff, ↓reduceIte, Tryd.f10] <;> rfl) | rfl) (by first | rfl | (simp -implicitDefEqProofs only [go_sem, Bool.false_and, Int.reduceToNat, Int.reduceLT, Int.reduceLE, Int.reduceBEq, Int.reduceBNe, Nat.reduceLT, Nat.reduceBEq, Int.reduceEq, Nat.reduceEqDiff, Nat.reduceAdd, Nat.reduceSub, Nat.reduceMul, Nat.reduceLeDiff, reduceCtorEq, ↓reduceIte, eGEntry, eGFile, c70, nat_of .i64 h74, h76, h77, c80]; done) | (simp -implicitDefEqProofs only [go_sem, Bool.false_and, Int.reduceToNat, Int.reduceLT, Int.reduceLE, Int.reduceBEq, Int.reduceBNe, Nat.reduceLT, Nat.reduceBEq, Int.reduceEq, Nat.reduceEqDiff, Nat.reduceAdd, Nat.reduceSub, Nat.reduceMul, Nat.reduceLeDiff, reduceCtorEq, ↓reduceIte, eGEntry, eGFile, c70, nat_of .i64 h74, h76, h77, c80]; rfl)) rfl (by intro h; first | rfl | cases h)
          · try simp -implicitDefEqProofs only [go_sem, ↓reduceIte, c70]
            obtain rfl := Option.some.inj H71
            exact ⟨⟨(), rfl⟩, ren_mk [(0, 0)] (by rfl) (rf_upd (by rfl) (rf_no _)) (rh_upd (rh_one (by rfl) (by rfl) (by rfl)) (rh_no _))⟩
    · rintro ⟨_, he239⟩
      replace he239 := he239.symm
      subst he239
      try dsimp only at H56
      refine runR_seq ?_
      obtain ⟨e_8, E94, H95⟩ := bind_inv H56
      refine runR_join (α := { y : Bool // e_8 = y }) (fun | ⟨t7, _⟩ => ⟨upd 4 (.so 0 1 0 (l.length)) (upd 7 (.v (.bool t7)) noFr), upd 0 (some (.rw (List.map eGEntry l) 4 1 false false)) noHp, 1⟩) ?_ ?_
      · refine runR_take tab_ok fol 1 ?_
        try simp -implicitDefEqProofs only [go_sem, Nat.reduceAdd, ↓reduceIte]
        rcases ite_inv E94 with ⟨c96, H97⟩ | ⟨c96, H97⟩
        · obtain ⟨x4, b98, H99⟩ := bind_inv H97
          obtain ⟨h100, h101⟩ := idx_inv b98
          try simp only [Int.reduceToNat, Int.toNat_natCast] at h101
          have h102 := map_at eGEntry h101
          have h103 := at_lt h101
          try simp -implicitDefEqProofs only [go_sem, Nat.reduceEqDiff, Nat.reduceAdd, reduceCtorEq, ↓reduceIte, eGEntry, c96, nat_of .i64 h100, h102, h103]
          obtain rfl := Option.some.inj H99
          exact ⟨⟨x4.default, rfl⟩, ren_mk [(0, 0)] (by rfl) (rf_upd (by rfl) (rf_upd (by rfl) (rf_no _))) (rh_upd (rh_one (by rfl) (by rfl) (by rfl)) (rh_no _))⟩
        · try simp -implicitDefEqProofs only [go_sem, Nat.reduceEqDiff, Nat.reduceAdd, ↓reduceIte, c96]
          obtain rfl := Option.some.inj H97
          exact ⟨⟨false, rfl⟩, ren_mk [(0, 0)] (by rfl) (rf_upd (by rfl) (rf_upd (by rfl) (rf_no _))) (rh_upd (rh_one (by rfl) (by rfl) (by rfl)) (rh_no _))⟩
      · rintro ⟨t7, he238⟩
        replace he238 := he238.symm
        subst he238
        try dsimp only at H95
        refine runR_seq ?_
        refine runR_seq ?_
        obtain ⟨e_9, E104, H105⟩ := bind_inv H95
        refine runR_join (α := { y : Bool × Bool // e_9 = y }) (fun | ⟨⟨t72, t592⟩, _⟩ => ⟨upd 4 (.so 0 1 0 (l.length)) (upd 7 (.v (.bool t72)) (upd 59 (.v (.bool t592)) noFr)), upd 0 (some (.rw (List.map eGEntry l) 4 1 false false)) noHp, 1⟩) ?_ ?_
        · refine runR_take tab_ok fol 1 ?_
          obtain ⟨t502, b106, H107⟩ := bind_inv E104
          try simp -implicitDefEqProofs only [go_sem, Nat.reduceAdd, ↓reduceIte]
          refine onCall_pure (by first | rfl | (simp -implicitDefEqProofs only [go_sem, ↓reduceIte]; done) | (simp -implicitDefEqProofs only [go_sem, ↓reduceIte]; rfl)) (mask_whole_ok b106) (by first | exact .inr rfl | exact .inl rfl) ?_
          try simp -implicitDefEqProofs only [go_sem, Bool.false_and, Nat.reduceAdd, ↓reduceIte]
          rcases ite_inv H107 with ⟨c108, H109⟩ | ⟨c108, H109⟩
          · try simp -implicitDefEqProofs only [go_sem, Nat.reduceEqDiff, Nat.reduceAdd, ↓reduceIte, c108]
            rcases ite_inv H109 with ⟨c110, H111⟩ | ⟨c110, H111⟩
            · obtain ⟨t56, b112, H113⟩ := bind_inv H111
              try simp -implicitDefEqProofs only [go_sem, Nat.reduceEqDiff, Nat.reduceAdd, ↓reduceIte, c110]
              refine onCall_pure (by first | rfl | (simp -implicitDefEqProofs only [go_sem, ↓reduceIte]; done) | (simp -implicitDefEqProofs only [go_sem, ↓reduceIte]; rfl)) (mask_whole_ok b112) (by first | exact .inr rfl | exact .inl rfl) ?_
              try simp -implicitDefEqProofs only [go_sem, Bool.false_and, Nat.reduceEqDiff, Nat.reduceAdd, ↓reduceIte]
              obtain rfl := Option.some.inj H113
              exact ⟨⟨(true, (!t56)), rfl⟩, ren_mk [(0, 0)] (by rfl) (rf_upd (by rfl) (rf_upd (by rfl) (rf_upd (by rfl) (rf_no _)))) (rh_upd (rh_one (by rfl) (by rfl) (by rfl)) (rh_no _))⟩
            · try simp -implicitDefEqProofs only [go_sem, Nat.reduceEqDiff, Nat.reduceAdd, ↓reduceIte, c110]
              obtain rfl := Option.some.inj H111
              exact ⟨⟨(false, false), rfl⟩, ren_mk [(0, 0)] (by rfl) (rf_upd (by rfl) (rf_upd (by rfl) (rf_upd (by rfl) (rf_no _)))) (rh_upd (rh_one (by rfl) (by rfl) (by rfl)) (rh_no _))⟩
          · try simp -implicitDefEqProofs only [go_sem, Nat.reduceEqDiff, Nat.reduceAdd, ↓reduceIte, c108]
            obtain rfl := Option.some.inj H109
            exact ⟨⟨(t7, true), rfl⟩, ren_mk [(0, 0)] (by rfl) (rf_upd (by rfl) (rf_upd (by rfl) (rf_upd (by rfl) (rf_no _)))) (rh_upd (rh_one (by rfl) (by rfl) (by rfl)) (rh_no _))⟩
        · rintro ⟨⟨t72, t592⟩, he237⟩
          replace he237 := he237.symm
          subst he237
          try dsimp only at H105
          refine runR_take tab_ok fol 1 ?_
          try simp -implicitDefEqProofs only [go_sem, Nat.reduceEqDiff, ↓reduceIte]
          rcases ite_inv H105 with ⟨c114, H115⟩ | ⟨c114, H115⟩
          · try simp -implicitDefEqProofs only [go_sem, Nat.reduceAdd, c114]
            obtain rfl := Option.some.inj H115
            exact end_pure (by first | (simp -implicitDefEqProofs only [go_sem, Nat.reduceEqDiff, ↓reduceIte, Tryd.f10] <;> rfl) | rfl) (by first | rfl | (simp -implicitDefEqProofs only [go_sem, Bool.false_and, Int.reduceToNat, Int.reduceLT, Int.reduceLE, Int.reduceBEq, Int.reduceBNe, Nat.reduceLT, Nat.reduceBEq, Int.reduceEq, Nat.reduceEqDiff, Nat.reduceAdd, Nat.reduceSub, Nat.reduceMul, Nat.reduceLeDiff, reduceCtorEq, ↓reduceIte, eGEntry, eGFile, c114]; done) | (simp -implicitDefEqProofs only [go_sem, Bool.false_and, Int.reduceToNat, Int.reduceLT, Int.reduceLE, Int.reduceBEq, Int.reduceBNe, Nat.reduceLT, Nat.reduceBEq, Int.reduceEq, Nat.reduceEqDiff, Nat.reduceAdd, Nat.reduceSub, Nat.reduceMul, Nat.reduceLeDiff, reduceCtorEq, ↓reduceIte, eGEntry, eGFile, c114]; rfl)) rfl (by intro h; first | rfl | cases h)
          · try simp -implicitDefEqProofs only [go_sem, c114]
            refine runR_seq ?_
            refine runR_take tab_ok fol 1 ?_
            try simp -implicitDefEqProofs only [go_sem, Nat.reduceAdd, ↓reduceIte]
            obtain ⟨e_10, E116, H117⟩ := bind_inv H115
            refine onCall_inl (InlOK.mono (inl_runRJ (α := { y : List GEntry // e_10 = y } × Nat) tab_ok Tryd.func26 rfl (by kernel_rfl) (by kernel_rfl) (by simp [Tryd.f26]) (fun | ⟨⟨t4, _⟩, g⟩ => ⟨upd 4 (.so 0 g 0 (t4.length)) noFr, upd 0 (some (.rw (List.map eGEntry t4) 4 g false false)) noHp, 4⟩) (fun | ⟨⟨t4, _⟩, g⟩ => .so 0 g 0 (t4.length)) (by rintro ⟨⟨t4, he166⟩, g⟩; first | ((simp -implicitDefEqProofs only [go_sem, ↓reduceIte, Tryd.f26]) <;> rfl) | rfl) ?_) ?_)
            · unfold mask_Acl_C2_mask_masked at E116
              try dsimp only at E116
              refine runR_seq ?_
              refine runR_take tab_ok fol 1 ?_
              try simp -implicitDefEqProofs only [go_sem, Nat.reduceAdd]
              refine runR_seq ?_
              refine runR_take tab_ok fol 1 ?_
              obtain ⟨t132, b118, H119⟩ := bind_inv E116
              try simp -implicitDefEqProofs only [go_sem, Nat.reduceEqDiff, Nat.reduceAdd, reduceCtorEq, ↓reduceIte]
              refine onCall_pure (by first | rfl | (simp -implicitDefEqProofs only [go_sem, ↓reduceIte]; done) | (simp -implicitDefEqProofs only [go_sem, ↓reduceIte]; rfl)) (mask_Find_ok b118) (by first | exact .inr rfl | exact .inl rfl) ?_
              try simp -implicitDefEqProofs only [go_sem, Bool.false_and, Nat.reduceEqDiff, Nat.reduceAdd, ↓reduceIte, eGEntry]
              rcases ite_inv H119 with ⟨c120, H121⟩ | ⟨c120, H121⟩
              · try simp -implicitDefEqProofs only [go_sem, Nat.reduceAdd, reduceCtorEq, ↓reduceIte, c120]
                obtain rfl := Option.some.inj H121
                exact endJ_ret ⟨⟨l, rfl⟩, 1⟩ (ren_mk [] (by rfl) (rf_upd (by rfl) (rf_no _)) (rh_upd (rh_one (by rfl) (by rfl) (by rfl)) (rh_no _)))
              · try simp -implicitDefEqProofs only [go_sem, c120]
                refine runR_seq ?_
                refine runR_take tab_ok fol 1 ?_
                try simp -implicitDefEqProofs only [go_sem, Nat.reduceAdd]
                refine runR_seq ?_
                refine runR_seq ?_
                refine runR_take tab_ok fol 1 ?_
                try simp -implicitDefEqProofs only [go_sem, Nat.reduceAdd, reduceCtorEq, ↓reduceIte]
                obtain ⟨e_11, E122, H123⟩ := bind_inv H121
                refine runR_join (α := { y : Int // e_11 = y }) (fun | ⟨n_3, _⟩ => ⟨upd 0 (.so 0 1 0 (l.length)) (upd 1 (.v (.bool false)) (upd 7 (.v (.int .i64 n_3)) noFr)), upd 0 (some (.rw (List.map eGEntry l) 4 1 false false)) noHp, 4⟩) ?_ ?_
                · refine runR_block ?_
                  refine runR_loop (α := { q : Nat × (Int × Int) // mask_Acl_L4 n l q.1 q.2 = some e_11 }) (fun | ⟨⟨c, ⟨n_, t203⟩⟩, _⟩ => ⟨upd 0 (.so 0 1 0 (l.length)) (upd 1 (.v (.bool false)) (upd 7 (.v (.int .i64 n_)) (upd 18 (.so 0 1 0 (l.length)) (upd 19 (.v (.int .i64 (l.length : Int))) (upd 20 (.v (.int .i64 t203)) noFr))))), upd 0 (some (.rw (List.map eGEntry l) 4 1 false false)) noHp, 4⟩) (fun q => q.1.1) ⟨(n, (0, 0)), E122⟩ ?_ ?_
                  · exact ren_mk [] (by rfl) (rf_upd (by rfl) (rf_upd (by rfl) (rf_upd (by rfl) (rf_upd (by rfl) (rf_upd (by rfl) (rf_upd (by rfl) (rf_no _))))))) (rh_upd (rh_one (by rfl) (by rfl) (by rfl)) (rh_no _))
                  · rintro ⟨⟨c, ⟨n_, t203⟩⟩, L124⟩
                    rcases c with _ | c
                    · exact nomatch (show none = some _ from L124)
                    · unfold mask_Acl_L4 at L124
                      try dsimp only at L124
                      refine runR_take tab_ok fol 1 ?_
                      try simp -implicitDefEqProofs only [go_sem, Nat.reduceEqDiff, Nat.reduceAdd, reduceCtorEq, ↓reduceIte]
                      rcases ite_inv L124 with ⟨c141, H142⟩ | ⟨c141, H142⟩
                      · obtain ⟨x6, b143, H144⟩ := bind_inv H142
                        obtain ⟨h145, h146⟩ := idx_inv b143
                        try simp only [Int.reduceToNat, Int.toNat_natCast] at h146
                        have h147 := map_at eGEntry h146
                        have h148 := at_lt h146
                        try simp -implicitDefEqProofs only [go_sem, Nat.reduceEqDiff, Nat.reduceAdd, reduceCtorEq, ↓reduceIte, eGEntry, c141, nat_of .i64 h145, h147, h148]
                        rcases ite_inv H144 with ⟨c149, H150⟩ | ⟨c149, H150⟩
                        · try simp -implicitDefEqProofs only [go_sem, Nat.reduceEqDiff, Nat.reduceAdd, reduceCtorEq, ↓reduceIte, c149]
                          rcases ite_inv H150 with ⟨c151, H152⟩ | ⟨c151, H152⟩
                          · try simp -implicitDefEqProofs only [go_sem, Nat.reduceEqDiff, Nat.reduceAdd, reduceCtorEq, ↓reduceIte, c151]
                            exact ⟨⟨(c, ((IntKind.i64.wrap ((BitVec.ofInt IntKind.i64.bits n_ ||| BitVec.ofInt IntKind.i64.bits x6.bits).toNat : Int)), (IntKind.i64.wrap (t203 + 1)))), H152⟩, ren_mk [] (by rfl) (rf_upd (by rfl) (rf_upd (by rfl) (rf_upd (by rfl) (rf_upd (by rfl) (rf_upd (by rfl) (rf_upd (by rfl) (rf_no _))))))) (rh_upd (rh_one (by rfl) (by rfl) (by rfl)) (rh_no _)), Nat.lt_succ_self _⟩
                          · try simp -implicitDefEqProofs only [go_sem, Nat.reduceEqDiff, Nat.reduceAdd, reduceCtorEq, ↓reduceIte, c151]
                            rcases ite_inv H152 with ⟨c153, H154⟩ | ⟨c153, H154⟩
                            · try simp -implicitDefEqProofs only [go_sem, Nat.reduceEqDiff, Nat.reduceAdd, reduceCtorEq, ↓reduceIte, c153]
                              exact ⟨⟨(c, ((IntKind.i64.wrap ((BitVec.ofInt IntKind.i64.bits n_ ||| BitVec.ofInt IntKind.i64.bits x6.bits).toNat : Int)), (IntKind.i64.wrap (t203 + 1)))), H154⟩, ren_mk [] (by rfl) (rf_upd (by rfl) (rf_upd (by rfl) (rf_upd (by rfl) (rf_upd (by rfl) (rf_upd (by rfl) (rf_upd (by rfl) (rf_no _))))))) (rh_upd (rh_one (by rfl) (by rfl) (by rfl)) (rh_no _)), Nat.lt_succ_self _⟩
                            · try simp -implicitDefEqProofs only [go_sem, Nat.reduceEqDiff, Nat.reduceAdd, reduceCtorEq, ↓reduceIte, c153]
                              rcases ite_inv H154 with ⟨c155, H156⟩ | ⟨c155, H156⟩
                              · try simp -implicitDefEqProofs only [go_sem, Nat.reduceEqDiff, Nat.reduceAdd, reduceCtorEq, ↓reduceIte, c155]
                                exact ⟨⟨(c, ((IntKind.i64.wrap ((BitVec.ofInt IntKind.i64.bits n_ ||| BitVec.ofInt IntKind.i64.bits x6.bits).toNat : Int)), (IntKind.i64.wrap (t203 + 1)))), H156⟩, ren_mk [] (by rfl) (rf_upd (by rfl) (rf_upd (by rfl) (rf_upd (by rfl) (rf_upd (by rfl) (rf_upd (by rfl) (rf_upd (by rfl) (rf_no _))))))) (rh_upd (rh_one (by rfl) (by rfl) (by rfl)) (rh_no _)), Nat.lt_succ_self _⟩
                              · try simp -implicitDefEqProofs only [go_sem, Nat.reduceEqDiff, Nat.reduceAdd, reduceCtorEq, ↓reduceIte, c155]
                                exact ⟨⟨(c, (n_, (IntKind.i64.wrap (t203 + 1)))), H156⟩, ren_mk [] (by rfl) (rf_upd (by rfl) (rf_upd (by rfl) (rf_upd (by rfl) (rf_upd (by rfl) (rf_upd (by rfl) (rf_upd (by rfl) (rf_no _))))))) (rh_upd (rh_one (by rfl) (by rfl) (by rfl)) (rh_no _)), Nat.lt_succ_self _⟩
                        · try simp -implicitDefEqProofs only [go_sem, Nat.reduceEqDiff, Nat.reduceAdd, reduceCtorEq, ↓reduceIte, c149]
                          exact ⟨⟨(c, (n_, (IntKind.i64.wrap (t203 + 1)))), H150⟩, ren_mk [] (by rfl) (rf_upd (by rfl) (rf_upd (by rfl) (rf_upd (by rfl) (rf_upd (by rfl) (rf_upd (by rfl) (rf_upd (by rfl) (rf_no _))))))) (rh_upd (rh_one (by rfl) (by rfl) (by rfl)) (rh_no _)), Nat.lt_succ_self _⟩
                      · try simp -implicitDefEqProofs only [go_sem, ↓reduceIte, c141]
                        obtain rfl := Option.some.inj H142
                        exact ⟨⟨n_, rfl⟩, ren_mk [] (by rfl) (rf_upd (by rfl) (rf_upd (by rfl) (rf_upd (by rfl) (rf_no _)))) (rh_upd (rh_one (by rfl) (by rfl) (by rfl)) (rh_no _))⟩
                · rintro ⟨n_3, he165⟩
                  replace he165 := he165.symm
                  subst he165
                  try dsimp only at H123
                  refine runR_take tab_ok fol 1 ?_
                  obtain ⟨l2, b157, H158⟩ := bind_inv H123
                  obtain ⟨h159, h160⟩ := app_inv b157
                  have h159 : l.length + 1 ≤ 4294967296 := h159
                  have h161 : List.map eGEntry l ++ [[.v (.int .i64 5), .v (.bool false), .v (.string ByteArray.empty), .v (.int .i64 n_3)]] = List.map eGEntry l2 := app_map eGEntry h160
                  have h162 : l.length + 1 = l2.length := app_len h160
                  have h163 : l2.length ≤ 4294967296 := by omega
                  have q164 : 0 < l2.length := by omega
                  try simp -implicitDefEqProofs only [go_sem, Nat.reduceLT, Nat.reduceEqDiff, Nat.reduceAdd, Nat.reduceMul, Nat.reduceLeDiff, reduceCtorEq, ↓reduceIte, h161, h162, h163]
                  obtain rfl := Option.some.inj H158
                  exact endJ_ret ⟨⟨l2, rfl⟩, 2⟩ (ren_mk [] (by rfl) (rf_upd (by rfl) (rf_no _)) (rh_upd (rh_one (by rfl) (by rfl) (by rfl)) (rh_no _)))
            rintro v167 hp168 nx169 ⟨⟨⟨t4, he166⟩, g⟩, rfl, rfl, rfl⟩
            replace he166 := he166.symm
            subst he166
            try dsimp only at H117
            dsimp only
            try simp -implicitDefEqProofs only [go_sem, Nat.reduceAdd, ↓reduceIte]
            refine runR_seq ?_
            refine runR_seq ?_
            refine runR_take tab_ok fol 1 ?_
            try simp -implicitDefEqProofs only [go_sem, Nat.reduceEqDiff, Nat.reduceAdd, ↓reduceIte]
            obtain ⟨e_12, E170, H171⟩ := bind_inv H117
            refine runR_join (α := { y : List GEntry // e_12 = y } × Nat) (fun | ⟨⟨t43, _⟩, g3⟩ => ⟨upd 4 (.so 0 g3 0 (t43.length)) noFr, upd 0 (some (.rw (List.map eGEntry t43) 4 g3 false false)) noHp, 1⟩) ?_ ?_
            · refine runR_take tab_ok fol 1 ?_
              try simp -implicitDefEqProofs only [go_sem, ↓reduceIte]
              rcases ite_inv E170 with ⟨c172, H173⟩ | ⟨c172, H173⟩
              · try simp -implicitDefEqProofs only [go_sem, Nat.reduceEqDiff, Nat.reduceAdd, ↓reduceIte, c172]
                obtain ⟨e_13, E174, H175⟩ := bind_inv H173
                refine onCall_inl (InlOK.mono (inl_runRJ (α := { y : List GEntry // e_13 = y } × Nat) tab_ok Tryd.func26 rfl (by kernel_rfl) (by kernel_rfl) (by simp [Tryd.f26]) (fun | ⟨⟨t42, _⟩, g2⟩ => ⟨upd 4 (.so 0 g2 0 (t42.length)) noFr, upd 0 (some (.rw (List.map eGEntry t42) 4 g2 false false)) noHp, 8⟩) (fun | ⟨⟨t42, _⟩, g2⟩ => .so 0 g2 0 (t42.length)) (by rintro ⟨⟨t42, he224⟩, g2⟩; first | ((simp -implicitDefEqProofs only [go_sem, ↓reduceIte, Tryd.f26]) <;> rfl) | rfl) ?_) ?_)
                · unfold mask_Acl_C3_mask_masked at E174
                  try dsimp only at E174
                  refine runR_seq ?_
                  refine runR_take tab_ok fol 1 ?_
                  try simp -implicitDefEqProofs only [go_sem, Nat.reduceAdd]
                  refine runR_seq ?_
                  refine runR_take tab_ok fol 1 ?_
                  obtain ⟨t133, b176, H177⟩ := bind_inv E174
                  try simp -implicitDefEqProofs only [go_sem, Nat.reduceEqDiff, Nat.reduceAdd, reduceCtorEq, ↓reduceIte]
                  refine onCall_pure (by first | rfl | (simp -implicitDefEqProofs only [go_sem, ↓reduceIte]; done) | (simp -implicitDefEqProofs only [go_sem, ↓reduceIte]; rfl)) (mask_Find_ok b176) (by first | exact .inr rfl | exact .inl rfl) ?_
                  try simp -implicitDefEqProofs only [go_sem, Bool.false_and, Nat.reduceEqDiff, Nat.reduceAdd, ↓reduceIte, eGEntry]
                  rcases ite_inv H177 with ⟨c178, H179⟩ | ⟨c178, H179⟩
                  · try simp -implicitDefEqProofs only [go_sem, Nat.reduceAdd, reduceCtorEq, ↓reduceIte, c178]
                    obtain rfl := Option.some.inj H179
                    exact endJ_ret ⟨⟨t4, rfl⟩, g⟩ (ren_mk [] (by rfl) (rf_upd (by rfl) (rf_no _)) (rh_upd (rh_one (by rfl) (by rfl) (by rfl)) (rh_no _)))
                  · try simp -implicitDefEqProofs only [go_sem, c178]
                    refine runR_seq ?_
                    refine runR_take tab_ok fol 1 ?_
                    try simp -implicitDefEqProofs only [go_sem, Nat.reduceAdd]
                    refine runR_seq ?_
                    refine runR_seq ?_
                    refine runR_take tab_ok fol 1 ?_
                    try simp -implicitDefEqProofs only [go_sem, Nat.reduceAdd, reduceCtorEq, ↓reduceIte]
                    obtain ⟨e_14, E180, H181⟩ := bind_inv H179
                    refine runR_join (α := { y : Int // e_14 = y }) (fun | ⟨n_6, _⟩ => ⟨upd 0 (.so 0 g 0 (t4.length)) (upd 1 (.v (.bool true)) (upd 7 (.v (.int .i64 n_6)) noFr)), upd 0 (some (.rw (List.map eGEntry t4) 4 g false false)) noHp, 8⟩) ?_ ?_
                    · refine runR_block ?_
                      refine runR_loop (α := { q : Nat × (Int × Int) // mask_Acl_L5 n t4 q.1 q.2 = some e_14 }) (fun | ⟨⟨c, ⟨n_4, t205⟩⟩, _⟩ => ⟨upd 0 (.so 0 g 0 (t4.length)) (upd 1 (.v (.bool true)) (upd 7 (.v (.int .i64 n_4)) (upd 18 (.so 0 g 0 (t4.length)) (upd 19 (.v (.int .i64 (t4.length : Int))) (upd 20 (.v (.int .i64 t205)) noFr))))), upd 0 (some (.rw (List.map eGEntry t4) 4 g false false)) noHp, 8⟩) (fun q => q.1.1) ⟨(n, (0, 0)), E180⟩ ?_ ?_
                      · exact ren_mk [] (by rfl) (rf_upd (by rfl) (rf_upd (by rfl) (rf_upd (by rfl) (rf_upd (by rfl) (rf_upd (by rfl) (rf_upd (by rfl) (rf_no _))))))) (rh_upd (rh_one (by rfl) (by rfl) (by rfl)) (rh_no _))
                      · rintro ⟨⟨c, ⟨n_4, t205⟩⟩, L182⟩
                        rcases c with _ | c
                        · exact nomatch (show none = some _ from L182)
                        · unfold mask_Acl_L5 at L182
                          try dsimp only at L182
                          refine runR_take tab_ok fol 1 ?_
                          try simp -implicitDefEqProofs only [go_sem, Nat.reduceEqDiff, Nat.reduceAdd, reduceCtorEq, ↓reduceIte]
                          rcases ite_inv L182 with ⟨c199, H200⟩ | ⟨c199, H200⟩
                          · obtain ⟨x8, b201, H202⟩ := bind_inv H200
                            obtain ⟨h203, h204⟩ := idx_inv b201
                            try simp only [Int.reduceToNat, Int.toNat_natCast] at h204
                            have h205 := map_at eGEntry h204
                            have h206 := at_lt h204
                            try simp -implicitDefEqProofs only [go_sem, Nat.reduceEqDiff, Nat.reduceAdd, reduceCtorEq, ↓reduceIte, eGEntry, c199, nat_of .i64 h203, h205, h206]
                            rcases ite_inv H202 with ⟨c207, H208⟩ | ⟨c207, H208⟩
                            · try simp -implicitDefEqProofs only [go_sem, Nat.reduceEqDiff, Nat.reduceAdd, reduceCtorEq, ↓reduceIte, c207]
                              rcases ite_inv H208 with ⟨c209, H210⟩ | ⟨c209, H210⟩
                              · try simp -implicitDefEqProofs only [go_sem, Nat.reduceEqDiff, Nat.reduceAdd, reduceCtorEq, ↓reduceIte, c209]
                                exact ⟨⟨(c, ((IntKind.i64.wrap ((BitVec.ofInt IntKind.i64.bits n_4 ||| BitVec.ofInt IntKind.i64.bits x8.bits).toNat : Int)), (IntKind.i64.wrap (t205 + 1)))), H210⟩, ren_mk [] (by rfl) (rf_upd (by rfl) (rf_upd (by rfl) (rf_upd (by rfl) (rf_upd (by rfl) (rf_upd (by rfl) (rf_upd (by rfl) (rf_no _))))))) (rh_upd (rh_one (by rfl) (by rfl) (by rfl)) (rh_no _)), Nat.lt_succ_self _⟩
                              · try simp -implicitDefEqProofs only [go_sem, Nat.reduceEqDiff, Nat.reduceAdd, reduceCtorEq, ↓reduceIte, c209]
                                rcases ite_inv H210 with ⟨c211, H212⟩ | ⟨c211, H212⟩
                                · try simp -implicitDefEqProofs only [go_sem, Nat.reduceEqDiff, Nat.reduceAdd, reduceCtorEq, ↓reduceIte, c211]
                                  exact ⟨⟨(c, ((IntKind.i64.wrap ((BitVec.ofInt IntKind.i64.bits n_4 ||| BitVec.ofInt IntKind.i64.bits x8.bits).toNat : Int)), (IntKind.i64.wrap (t205 + 1)))), H212⟩, ren_mk [] (by rfl) (rf_upd (by rfl) (rf_upd (by rfl) (rf_upd (by rfl) (rf_upd (by rfl) (rf_upd (by rfl) (rf_upd (by rfl) (rf_no _))))))) (rh_upd (rh_one (by rfl) (by rfl) (by rfl)) (rh_no _)), Nat.lt_succ_self _⟩
                                · try simp -implicitDefEqProofs only [go_sem, Nat.reduceEqDiff, Nat.reduceAdd, reduceCtorEq, ↓reduceIte, c211]
                                  rcases ite_inv H212 with ⟨c213, H214⟩ | ⟨c213, H214⟩
                                  · try simp -implicitDefEqProofs only [go_sem, Nat.reduceEqDiff, Nat.reduceAdd, reduceCtorEq, ↓reduceIte, c213]
                                    exact ⟨⟨(c, ((IntKind.i64.wrap ((BitVec.ofInt IntKind.i64.bits n_4 ||| BitVec.ofInt IntKind.i64.bits x8.bits).toNat : Int)), (IntKind.i64.wrap (t205 + 1)))), H214⟩, ren_mk [] (by rfl) (rf_upd (by rfl) (rf_upd (by rfl) (rf_upd (by rfl) (rf_upd (by rfl) (rf_upd (by rfl) (rf_upd (by rfl) (rf_no _))))))) (rh_upd (rh_one (by rfl) (by rfl) (by rfl)) (rh_no _)), Nat.lt_succ_self _⟩
                                  · try simp -implicitDefEqProofs only [go_sem, Nat.reduceEqDiff, Nat.reduceAdd, reduceCtorEq, ↓reduceIte, c213]
                                    exact ⟨⟨(c, (n_4, (IntKind.i64.wrap (t205 + 1)))), H214⟩, ren_mk [] (by rfl) (rf_upd (by rfl) (rf_upd (by rfl) (rf_upd (by rfl) (rf_upd (by rfl) (rf_upd (by rfl) (rf_upd (by rfl) (rf_no _))))))) (rh_upd (rh_one (by rfl) (by rfl) (by rfl)) (rh_no _)), Nat.lt_succ_self _⟩
                            · try simp -implicitDefEqProofs only [go_sem, Nat.reduceEqDiff, Nat.reduceAdd, reduceCtorEq, ↓reduceIte, c207]
                              exact ⟨⟨(c, (n_4, (IntKind.i64.wrap (t205 + 1)))), H208⟩, ren_mk [] (by rfl) (rf_upd (by rfl) (rf_upd (by rfl) (rf_upd (by rfl) (rf_upd (by rfl) (rf_upd (by rfl) (rf_upd (by rfl) (rf_no _))))))) (rh_upd (rh_one (by rfl) (by rfl) (by rfl)) (rh_no _)), Nat.lt_succ_self _⟩
                          · try simp -implicitDefEqProofs only [go_sem, ↓reduceIte, c199]
                            obtain rfl := Option.some.inj H200
                            exact ⟨⟨n_4, rfl⟩, ren_mk [] (by rfl) (rf_upd (by rfl) (rf_upd (by rfl) (rf_upd (by rfl) (rf_no _)))) (rh_upd (rh_one (by rfl) (by rfl) (by rfl)) (rh_no _))⟩
                    · rintro ⟨n_6, he223⟩
                      replace he223 := he223.symm
                      subst he223
                      try dsimp only at H181
                      refine runR_take tab_ok fol 1 ?_
                      obtain ⟨l3, b215, H216⟩ := bind_inv H181
                      obtain ⟨h217, h218⟩ := app_inv b215
                      have h217 : t4.length + 1 ≤ 4294967296 := h217
                      have h219 : List.map eGEntry t4 ++ [[.v (.int .i64 5), .v (.bool true), .v (.string ByteArray.empty), .v (.int .i64 n_6)]] = List.map eGEntry l3 := app_map eGEntry h218
                      have h220 : t4.length + 1 = l3.length := app_len h218
                      have h221 : l3.length ≤ 4294967296 := by omega
                      have q222 : 0 < l3.length := by omega
                      try simp -implicitDefEqProofs only [go_sem, Nat.reduceLT, Nat.reduceEqDiff, Nat.reduceAdd, Nat.reduceMul, Nat.reduceLeDiff, reduceCtorEq, ↓reduceIte, h219, h220, h221]
                      obtain rfl := Option.some.inj H216
                      exact endJ_ret ⟨⟨l3, rfl⟩, (g + 1)⟩ (ren_mk [] (by rfl) (rf_upd (by rfl) (rf_no _)) (rh_upd (rh_one (by rfl) (by rfl) (by rfl)) (rh_no _)))
                rintro v225 hp226 nx227 ⟨⟨⟨t42, he224⟩, g2⟩, rfl, rfl, rfl⟩
                replace he224 := he224.symm
                subst he224
                try dsimp only at H175
                dsimp only
                try simp -implicitDefEqProofs only [go_sem, Nat.reduceAdd, ↓reduceIte]
                obtain rfl := Option.some.inj H175
                exact ⟨⟨⟨t42, rfl⟩, g2⟩, ren_mk [(0, 0)] (by rfl) (rf_upd (by rfl) (rf_no _)) (rh_upd (rh_one (by rfl) (by rfl) (by rfl)) (rh_no _))⟩
              · try simp -implicitDefEqProofs only [go_sem, c172]
                obtain rfl := Option.some.inj H173
                exact ⟨⟨⟨t4, rfl⟩, g⟩, ren_mk [(0, 0)] (by rfl) (rf_upd (by rfl) (rf_no _)) (rh_upd (rh_one (by rfl) (by rfl) (by rfl)) (rh_no _))⟩
            · rintro ⟨⟨t43, he236⟩, g3⟩
              replace he236 := he236.symm
              subst he236
              try dsimp only at H171
              refine runR_take tab_ok fol 1 ?_
              obtain ⟨l4, b231, H232⟩ := bind_inv H171
              try simp -implicitDefEqProofs only [go_sem, Nat.reduceAdd, ↓reduceIte]
              have h233 := sort_Entry_len b231
              refine onCall_inl (InlOK.mono (sort_Entry_in b231 (by first | rfl | (simp -implicitDefEqProofs only [go_sem, Bool.false_and, Int.reduceToNat, Int.reduceLT, Int.reduceLE, Int.reduceBEq, Int.reduceBNe, Nat.reduceLT, Nat.reduceBEq, Int.reduceEq, Nat.reduceEqDiff, Nat.reduceAdd, Nat.reduceSub, Nat.reduceMul, Nat.reduceLeDiff, reduceCtorEq, ↓reduceIte, eGEntry, eGFile]; done) | (simp -implicitDefEqProofs only [go_sem, Bool.false_and, Int.reduceToNat, Int.reduceLT, Int.reduceLE, Int.reduceBEq, Int.reduceBNe, Nat.reduceLT, Nat.reduceBEq, Int.reduceEq, Nat.reduceEqDiff, Nat.reduceAdd, Nat.reduceSub, Nat.reduceMul, Nat.reduceLeDiff, reduceCtorEq, ↓reduceIte, eGEntry, eGFile]; rfl))) ?_)
              rintro v228 hp229 nx230 ⟨rfl, rfl, rfl⟩
              try rw [h233]
              try simp -implicitDefEqProofs only [go_sem, Nat.reduceEqDiff, Nat.reduceAdd, ↓reduceIte]
              rcases ite_inv H232 with ⟨c234, H235⟩ | ⟨c234, H235⟩
              · try simp -implicitDefEqProofs only [go_sem, Nat.reduceAdd, c234]
                obtain rfl := Option.some.inj H235
                exact end_pure (by first | (simp -implicitDefEqProofs only [go_sem, Nat.reduceEqDiff, ↓reduceIte, Tryd.f10] <;> rfl) | rfl) (by first | rfl | (simp -implicitDefEqProofs only [go_sem, Bool.false_and, Int.reduceToNat, Int.reduceLT, Int.reduceLE, Int.reduceBEq, Int.reduceBNe, Nat.reduceLT, Nat.reduceBEq, Int.reduceEq, Nat.reduceEqDiff, Nat.reduceAdd, Nat.reduceSub, Nat.reduceMul, Nat.reduceLeDiff, reduceCtorEq, ↓reduceIte, eGEntry, eGFile, c234]; done) | (simp -implicitDefEqProofs only [go_sem, Bool.false_and, Int.reduceToNat, Int.reduceLT, Int.reduceLE, Int.reduceBEq, Int.reduceBNe, Nat.reduceLT, Nat.reduceBEq, Int.reduceEq, Nat.reduceEqDiff, Nat.reduceAdd, Nat.reduceSub, Nat.reduceMul, Nat.reduceLeDiff, reduceCtorEq, ↓reduceIte, eGEntry, eGFile, c234]; rfl)) rfl (by intro h; first | rfl | cases h)
              · try simp -implicitDefEqProofs only [go_sem, Nat.reduceEqDiff, Nat.reduceAdd, ↓reduceIte, c234]
                obtain rfl := Option.some.inj H235
                exact end_pure (by first | (simp -implicitDefEqProofs only [go_sem, Nat.reduceEqDiff, ↓reduceIte, Tryd.f10] <;> rfl) | rfl) (by first | rfl | (simp -implicitDefEqProofs only [go_sem, ↓reduceIte]; done) | (simp -implicitDefEqProofs only [go_sem, ↓reduceIte]; rfl)) rfl (by intro h; first | rfl | cases h)
def perm_Can_c1 (n : Nat) (kind : Int) (name : ByteArray) (c2 : List GEntry) (c3 : Int) : Option Bool :=
  (mask_Find n c2 false kind name).bind fun t13 =>
  some (decide (0 < (IntKind.i64.wrap (an t13.1.bits c3 : Int))))
theorem perm_Can_c1_ok {n : Nat} {kind : Int} {name : ByteArray} {c2 : List GEntry} {c3 : Int} {r : Bool} (H : perm_Can_c1 n kind name c2 c3 = some r) : PureOK Tryd.prog 11 [D.v (.int .i64 kind), D.v (.string name), D.pt [D.sl (List.map eGEntry c2)] 0, D.pt [D.v (.int .i64 c3)] 0] (D.v (.bool r)) true := by
  unfold perm_Can_c1 at H
  refine pure_runR (tab := tab) tab_ok Tryd.func11 rfl (by kernel_rfl) (by kernel_rfl) (by simp [Tryd.f11]) ?_
  refine runR_take tab_ok fol 1 ?_
  obtain ⟨t13, b1, H2⟩ := bind_inv H
  try simp -implicitDefEqProofs only [go_sem, Nat.reduceEqDiff, Nat.reduceAdd, reduceCtorEq, ↓reduceIte]
  refine onCall_pure (by first | rfl | (simp -implicitDefEqProofs only [go_sem, Bool.false_and, Int.reduceToNat, Int.reduceLT, Int.reduceLE, Int.reduceBEq, Int.reduceBNe, Nat.reduceLT, Nat.reduceBEq, Int.reduceEq, Nat.reduceEqDiff, Nat.reduceAdd, Nat.reduceSub, Nat.reduceMul, Nat.reduceLeDiff, reduceCtorEq, ↓reduceIte, eGEntry, eGFile]; done) | (simp -implicitDefEqProofs only [go_sem, Bool.false_and, Int.reduceToNat, Int.reduceLT, Int.reduceLE, Int.reduceBEq, Int.reduceBNe, Nat.reduceLT, Nat.reduceBEq, Int.reduceEq, Nat.reduceEqDiff, Nat.reduceAdd, Nat.reduceSub, Nat.reduceMul, Nat.reduceLeDiff, reduceCtorEq, ↓reduceIte, eGEntry, eGFile]; rfl)) (mask_Find_ok b1) (by first | exact .inr rfl | exact .inl rfl) ?_
  try simp -implicitDefEqProofs only [go_sem, Bool.false_and, Nat.reduceEqDiff, Nat.reduceAdd, reduceCtorEq, ↓reduceIte, eGEntry]
  obtain rfl := Option.some.inj H2
  exact end_pure (by first | (simp -implicitDefEqProofs only [go_sem, ↓reduceIte, Tryd.f11] <;> rfl) | rfl) (by first | rfl | (simp -implicitDefEqProofs only [go_sem, Bool.false_and, Int.reduceToNat, Int.reduceLT, Int.reduceLE, Int.reduceBEq, Int.reduceBNe, Nat.reduceLT, Nat.reduceBEq, Int.reduceEq, Nat.reduceEqDiff, Nat.reduceAdd, Nat.reduceSub, Nat.reduceMul, Nat.reduceLeDiff, reduceCtorEq, ↓reduceIte, eGEntry, eGFile]; done) | (simp -implicitDefEqProofs only [go_sem, Bool.false_and, Int.reduceToNat, Int.reduceLT, Int.reduceLE, Int.reduceBEq, Int.reduceBNe, Nat.reduceLT, Nat.reduceBEq, Int.reduceEq, Nat.reduceEqDiff, Nat.reduceAdd, Nat.reduceSub, Nat.reduceMul, Nat.reduceLeDiff, reduceCtorEq, ↓reduceIte, eGEntry, eGFile]; rfl)) rfl (by intro h; first | rfl | cases h)
def slices_Index_string_L1 (n : Nat) (s : List ByteArray) (v : ByteArray) : Nat → Int → Option ((Unit) ⊕ Int)
  | 0, _ => none
  | c + 1, t8 =>
    (if (decide (t8 < (s.length : Int))) then
      (idx s t8).bind fun x2 =>
      (if (v.toList == x2.toList) then
        some (.inr t8)
      else
        slices_Index_string_L1 n s v c (IntKind.i64.wrap (t8 + 1)))
    else
      some (.inl ()))

def slices_Index_string (n : Nat) (s : List ByteArray) (v : ByteArray) : Option Int :=
  (
    slices_Index_string_L1 n s v n 0 : Option ((Unit) ⊕ Int)).bind fun
    | .inl _ =>
      some (-1)
    | .inr r => some r
theorem slices_Index_string_ok {n : Nat} {s : List ByteArray} {v : ByteArray} {r : Int} (H : slices_Index_string n s v = some r) : PureOK Tryd.prog 66 [D.sl (List.map eS s), D.v (.string v)] (D.v (.int .i64 r)) true := by
  unfold slices_Index_string at H
  refine pure_runR (tab := tab) tab_ok Tryd.func66 rfl (by kernel_rfl) (by kernel_rfl) (by simp [Tryd.f66]) ?_
  refine runR_seq ?_
  refine runR_take tab_ok fol 1 ?_
  try simp -implicitDefEqProofs only [go_sem]
  refine runR_seq ?_
  refine runR_seq ?_
  refine runR_take tab_ok fol 1 ?_
  try simp -implicitDefEqProofs only [go_sem, Nat.reduceAdd, reduceCtorEq, ↓reduceIte]
  obtain ⟨e_, E1, H2⟩ := bind_inv H
  refine runR_join (α := { y : Unit // e_ = .inl y }) (fun | ⟨_, _⟩ => ⟨noFr, noHp, 0⟩) ?_ ?_
  · refine runR_block ?_
    refine runR_loop (α := { q : Nat × Int // slices_Index_string_L1 n s v q.1 q.2 = some e_ }) (fun | ⟨⟨c, t8⟩, _⟩ => ⟨upd 0 (.d (.sl (List.map eS s)) true) (upd 1 (.v (.string v)) (upd 7 (.v (.int .i64 (s.length : Int))) (upd 8 (.v (.int .i64 t8)) noFr))), noHp, 0⟩) (fun q => q.1.1) ⟨(n, 0), E1⟩ ?_ ?_
    · exact ren_mk [] (by rfl) (rf_upd (by rfl) (rf_upd (by rfl) (rf_upd (by rfl) (rf_upd (by rfl) (rf_no _))))) (rh_no _)
    · rintro ⟨⟨c, t8⟩, L3⟩
      rcases c with _ | c
      · exact nomatch (show none = some _ from L3)
      · unfold slices_Index_string_L1 at L3
        try dsimp only at L3
        refine runR_take tab_ok fol 1 ?_
        try simp -implicitDefEqProofs only [go_sem, Nat.reduceEqDiff, reduceCtorEq, ↓reduceIte]
        rcases ite_inv L3 with ⟨c14, H15⟩ | ⟨c14, H15⟩
        · obtain ⟨x2, b16, H17⟩ := bind_inv H15
          obtain ⟨h18, h19⟩ := idx_inv b16
          try simp only [Int.reduceToNat, Int.toNat_natCast] at h19
          have h20 := map_at eS h19
          try simp -implicitDefEqProofs only [go_sem, Nat.reduceEqDiff, Nat.reduceAdd, reduceCtorEq, ↓reduceIte, c14, nat_of .i64 h18, h20]
          rcases ite_inv H17 with ⟨c22, H23⟩ | ⟨c22, H23⟩
          · try simp -implicitDefEqProofs only [go_sem, Nat.reduceEqDiff, Nat.reduceAdd, ↓reduceIte, c22]
            obtain rfl := Option.some.inj H23
            obtain rfl := Option.some.inj H2
            exact end_pure (by first | (simp -implicitDefEqProofs only [go_sem, ↓reduceIte, Tryd.f66] <;> rfl) | rfl) (by first | rfl | (simp -implicitDefEqProofs only [go_sem, Bool.false_and, Int.reduceToNat, Int.reduceLT, Int.reduceLE, Int.reduceBEq, Int.reduceBNe, Nat.reduceLT, Nat.reduceBEq, Int.reduceEq, Nat.reduceEqDiff, Nat.reduceAdd, Nat.reduceSub, Nat.reduceMul, Nat.reduceLeDiff, reduceCtorEq, ↓reduceIte, eGEntry, eGFile, c14, nat_of .i64 h18, h20, c22]; done) | (simp -implicitDefEqProofs only [go_sem, Bool.false_and, Int.reduceToNat, Int.reduceLT, Int.reduceLE, Int.reduceBEq, Int.reduceBNe, Nat.reduceLT, Nat.reduceBEq, Int.reduceEq, Nat.reduceEqDiff, Nat.reduceAdd, Nat.reduceSub, Nat.reduceMul, Nat.reduceLeDiff, reduceCtorEq, ↓reduceIte, eGEntry, eGFile, c14, nat_of .i64 h18, h20, c22]; rfl)) rfl (by intro h; first | rfl | cases h)
          · try simp -implicitDefEqProofs only [go_sem, Nat.reduceEqDiff, Nat.reduceAdd, reduceCtorEq, ↓reduceIte, c22]
            exact ⟨⟨(c, (IntKind.i64.wrap (t8 + 1))), H23⟩, ren_mk [] (by rfl) (rf_upd (by rfl) (rf_upd (by rfl) (rf_upd (by rfl) (rf_upd (by rfl) (rf_no _))))) (rh_no _), Nat.lt_succ_self _⟩
        · try simp -implicitDefEqProofs only [go_sem, ↓reduceIte, c14]
          obtain rfl := Option.some.inj H15
          exact ⟨⟨(), rfl⟩, ren_mk [] (by rfl) (rf_no _) (rh_no _)⟩
  · rintro ⟨_, he24⟩
    replace he24 := he24.symm
    subst he24
    try dsimp only at H2
    refine runR_take tab_ok fol 1 ?_
    try simp -implicitDefEqProofs only [go_sem]
    obtain rfl := Option.some.inj H2
    exact end_pure (by first | (simp -implicitDefEqProofs only [go_sem, ↓reduceIte, Tryd.f66] <;> rfl) | rfl) (by first | rfl | (simp -implicitDefEqProofs only [go_sem, Bool.false_and, Int.reduceToNat, Int.reduceLT, Int.reduceLE, Int.reduceBEq, Int.reduceBNe, Nat.reduceLT, Nat.reduceBEq, Int.reduceEq, Nat.reduceEqDiff, Nat.reduceAdd, Nat.reduceSub, Nat.reduceMul, Nat.reduceLeDiff, reduceCtorEq, ↓reduceIte, eGEntry, eGFile]; done) | (simp -implicitDefEqProofs only [go_sem, Bool.false_and, Int.reduceToNat, Int.reduceLT, Int.reduceLE, Int.reduceBEq, Int.reduceBNe, Nat.reduceLT, Nat.reduceBEq, Int.reduceEq, Nat.reduceEqDiff, Nat.reduceAdd, Nat.reduceSub, Nat.reduceMul, Nat.reduceLeDiff, reduceCtorEq, ↓reduceIte, eGEntry, eGFile]; rfl)) rfl (by intro h; first | rfl | cases h)
def slices_Contains_string (n : Nat) (s : List ByteArray) (v : ByteArray) : Option Bool :=
  (slices_Index_string n s v).bind fun t7 =>
  some (decide (0 ≤ t7))
theorem slices_Contains_string_ok {n : Nat} {s : List ByteArray} {v : ByteArray} {r : Bool} (H : slices_Contains_string n s v = some r) : PureOK Tryd.prog 42 [D.sl (List.map eS s), D.v (.string v)] (D.v (.bool r)) true := by
  unfold slices_Contains_string at H
  refine pure_runR (tab := tab) tab_ok Tryd.func42 rfl (by kernel_rfl) (by kernel_rfl) (by simp [Tryd.f42]) ?_
  refine runR_take tab_ok fol 1 ?_
  obtain ⟨t7, b1, H2⟩ := bind_inv H
  try simp -implicitDefEqProofs only [go_sem, Nat.reduceEqDiff, Nat.reduceAdd, reduceCtorEq, ↓reduceIte]
  refine onCall_pure (by first | rfl | (simp -implicitDefEqProofs only [go_sem, Bool.false_and, Int.reduceToNat, Int.reduceLT, Int.reduceLE, Int.reduceBEq, Int.reduceBNe, Nat.reduceLT, Nat.reduceBEq, Int.reduceEq, Nat.reduceEqDiff, Nat.reduceAdd, Nat.reduceSub, Nat.reduceMul, Nat.reduceLeDiff, reduceCtorEq, ↓reduceIte, eGEntry, eGFile]; done) | (simp -implicitDefEqProofs only [go_sem, Bool.false_and, Int.reduceToNat, Int.reduceLT, Int.reduceLE, Int.reduceBEq, Int.reduceBNe, Nat.reduceLT, Nat.reduceBEq, Int.reduceEq, Nat.reduceEqDiff, Nat.reduceAdd, Nat.reduceSub, Nat.reduceMul, Nat.reduceLeDiff, reduceCtorEq, ↓reduceIte, eGEntry, eGFile]; rfl)) (slices_Index_string_ok b1) (by first | exact .inr rfl | exact .inl rfl) ?_
  try simp -implicitDefEqProofs only [go_sem, Bool.false_and, Nat.reduceAdd, ↓reduceIte]
  obtain rfl := Option.some.inj H2
  exact end_pure (by first | (simp -implicitDefEqProofs only [go_sem, ↓reduceIte, Tryd.f42] <;> rfl) | rfl) (by first | rfl | (simp -implicitDefEqProofs only [go_sem, Bool.false_and, Int.reduceToNat, Int.reduceLT, Int.reduceLE, Int.reduceBEq, Int.reduceBNe, Nat.reduceLT, Nat.reduceBEq, Int.reduceEq, Nat.reduceEqDiff, Nat.reduceAdd, Nat.reduceSub, Nat.reduceMul, Nat.reduceLeDiff, reduceCtorEq, ↓reduceIte, eGEntry, eGFile]; done) | (simp -implicitDefEqProofs only [go_sem, Bool.false_and, Int.reduceToNat, Int.reduceLT, Int.reduceLE, Int.reduceBEq, Int.reduceBNe, Nat.reduceLT, Nat.reduceBEq, Int.reduceEq, Nat.reduceEqDiff, Nat.reduceAdd, Nat.reduceSub, Nat.reduceMul, Nat.reduceLeDiff, reduceCtorEq, ↓reduceIte, eGEntry, eGFile]; rfl)) rfl (by intro h; first | rfl | cases h)
def perm_in_c1 (n : Nat) (f : GFile) (c2 : ByteArray) (c3 : ByteArray) : Option Bool :=
  (if (f.kind == 2) then
    (if (f.name.toList == c2.toList) then
      (slices_Contains_string n f.users c3).bind fun t18 =>
      some t18
    else
      some false)
  else
    some false)
theorem perm_in_c1_ok {n : Nat} {f : GFile} {c2 : ByteArray} {c3 : ByteArray} {r : Bool} (H : perm_in_c1 n f c2 c3 = some r) : PureOK Tryd.prog 41 [D.ag (eGFile f), D.pt [D.v (.string c2)] 0, D.pt [D.v (.string c3)] 0] (D.v (.bool r)) true := by
  unfold perm_in_c1 at H
  refine pure_runR (tab := tab) tab_ok Tryd.func41 rfl (by kernel_rfl) (by kernel_rfl) (by simp [Tryd.f41]) ?_
  refine runR_take tab_ok fol 1 ?_
  try simp -implicitDefEqProofs only [go_sem, Nat.reduceEqDiff, Nat.reduceAdd, reduceCtorEq, ↓reduceIte, eGFile]
  rcases ite_inv H with ⟨c1, H2⟩ | ⟨c1, H2⟩
  · try simp -implicitDefEqProofs only [go_sem, Nat.reduceEqDiff, Nat.reduceAdd, reduceCtorEq, ↓reduceIte, c1]
    rcases ite_inv H2 with ⟨c3, H4⟩ | ⟨c3, H4⟩
    · obtain ⟨t18, b5, H6⟩ := bind_inv H4
      try simp -implicitDefEqProofs only [go_sem, Nat.reduceEqDiff, Nat.reduceAdd, reduceCtorEq, ↓reduceIte, c3]
      refine onCall_pure (by first | rfl | (simp -implicitDefEqProofs only [go_sem, Bool.false_and, Int.reduceToNat, Int.reduceLT, Int.reduceLE, Int.reduceBEq, Int.reduceBNe, Nat.reduceLT, Nat.reduceBEq, Int.reduceEq, Nat.reduceEqDiff, Nat.reduceAdd, Nat.reduceSub, Nat.reduceMul, Nat.reduceLeDiff, reduceCtorEq, ↓reduceIte, eGEntry, eGFile, c1, c3]; done) | (simp -implicitDefEqProofs only [go_sem, Bool.false_and, Int.reduceToNat, Int.reduceLT, Int.reduceLE, Int.reduceBEq, Int.reduceBNe, Nat.reduceLT, Nat.reduceBEq, Int.reduceEq, Nat.reduceEqDiff, Nat.reduceAdd, Nat.reduceSub, Nat.reduceMul, Nat.reduceLeDiff, reduceCtorEq, ↓reduceIte, eGEntry, eGFile, c1, c3]; rfl)) (slices_Contains_string_ok b5) (by first | exact .inr rfl | exact .inl rfl) ?_
      try simp -implicitDefEqProofs only [go_sem, Bool.false_and, Nat.reduceEqDiff, Nat.reduceAdd, ↓reduceIte]
      obtain rfl := Option.some.inj H6
      exact end_pure (by first | (simp -implicitDefEqProofs only [go_sem, ↓reduceIte, Tryd.f41] <;> rfl) | rfl) (by first | rfl | (simp -implicitDefEqProofs only [go_sem, Bool.false_and, Int.reduceToNat, Int.reduceLT, Int.reduceLE, Int.reduceBEq, Int.reduceBNe, Nat.reduceLT, Nat.reduceBEq, Int.reduceEq, Nat.reduceEqDiff, Nat.reduceAdd, Nat.reduceSub, Nat.reduceMul, Nat.reduceLeDiff, reduceCtorEq, ↓reduceIte, eGEntry, eGFile, c1, c3]; done) | (simp -implicitDefEqProofs only [go_sem, Bool.false_and, Int.reduceToNat, Int.reduceLT, Int.reduceLE, Int.reduceBEq, Int.reduceBNe, Nat.reduceLT, Nat.reduceBEq, Int.reduceEq, Nat.reduceEqDiff, Nat.reduceAdd, Nat.reduceSub, Nat.reduceMul, Nat.reduceLeDiff, reduceCtorEq, ↓reduceIte, eGEntry, eGFile, c1, c3]; rfl)) rfl (by intro h; first | rfl | cases h)
    · try simp -implicitDefEqProofs only [go_sem, Nat.reduceEqDiff, Nat.reduceAdd, ↓reduceIte, c3]
      obtain rfl := Option.some.inj H4
      exact end_pure (by first | (simp -implicitDefEqProofs only [go_sem, ↓reduceIte, Tryd.f41] <;> rfl) | rfl) (by first | rfl | (simp -implicitDefEqProofs only [go_sem, Bool.false_and, Int.reduceToNat, Int.reduceLT, Int.reduceLE, Int.reduceBEq, Int.reduceBNe, Nat.reduceLT, Nat.reduceBEq, Int.reduceEq, Nat.reduceEqDiff, Nat.reduceAdd, Nat.reduceSub, Nat.reduceMul, Nat.reduceLeDiff, reduceCtorEq, ↓reduceIte, eGEntry, eGFile, c1, c3]; done) | (simp -implicitDefEqProofs only [go_sem, Bool.false_and, Int.reduceToNat, Int.reduceLT, Int.reduceLE, Int.reduceBEq, Int.reduceBNe, Nat.reduceLT, Nat.reduceBEq, Int.reduceEq, Nat.reduceEqDiff, Nat.reduceAdd, Nat.reduceSub, Nat.reduceMul, Nat.reduceLeDiff, reduceCtorEq, ↓reduceIte, eGEntry, eGFile, c1, c3]; rfl)) rfl (by intro h; first | rfl | cases h)
  · try simp -implicitDefEqProofs only [go_sem, Nat.reduceEqDiff, Nat.reduceAdd, ↓reduceIte, c1]
    obtain rfl := Option.some.inj H2
    exact end_pure (by first | (simp -implicitDefEqProofs only [go_sem, ↓reduceIte, Tryd.f41] <;> rfl) | rfl) (by first | rfl | (simp -implicitDefEqProofs only [go_sem, Bool.false_and, Int.reduceToNat, Int.reduceLT, Int.reduceLE, Int.reduceBEq, Int.reduceBNe, Nat.reduceLT, Nat.reduceBEq, Int.reduceEq, Nat.reduceEqDiff, Nat.reduceAdd, Nat.reduceSub, Nat.reduceMul, Nat.reduceLeDiff, reduceCtorEq, ↓reduceIte, eGEntry, eGFile, c1]; done) | (simp -implicitDefEqProofs only [go_sem, Bool.false_and, Int.reduceToNat, Int.reduceLT, Int.reduceLE, Int.reduceBEq, Int.reduceBNe, Nat.reduceLT, Nat.reduceBEq, Int.reduceEq, Nat.reduceEqDiff, Nat.reduceAdd, Nat.reduceSub, Nat.reduceMul, Nat.reduceLeDiff, reduceCtorEq, ↓reduceIte, eGEntry, eGFile, c1]; rfl)) rfl (by intro h; first | rfl | cases h)
def slices_IndexFunc_File__perm_in_c1_L1 (n : Nat) (s : List GFile) (c2 : ByteArray) (c3 : ByteArray) : Nat → Int → Option ((Unit) ⊕ Int)
  | 0, _ => none
  | c + 1, t8 =>
    (if (decide (t8 < (s.length : Int))) then
      (idx s t8).bind fun x2 =>
      (perm_in_c1 n x2 c2 c3).bind fun t162 =>
      (if t162 then
        some (.inr t8)
      else
        slices_IndexFunc_File__perm_in_c1_L1 n s c2 c3 c (IntKind.i64.wrap (t8 + 1)))
    else
      some (.inl ()))

def slices_IndexFunc_File__perm_in_c1 (n : Nat) (s : List GFile) (c2 : ByteArray) (c3 : ByteArray) : Option Int :=
  (
    slices_IndexFunc_File__perm_in_c1_L1 n s c2 c3 n 0 : Option ((Unit) ⊕ Int)).bind fun
    | .inl _ =>
      some (-1)
    | .inr r => some r
theorem slices_IndexFunc_File__perm_in_c1_ok {n : Nat} {s : List GFile} {c2 : ByteArray} {c3 : ByteArray} {r : Int} (H : slices_IndexFunc_File__perm_in_c1 n s c2 c3 = some r) : PureA Tryd.prog 33 [.d (D.sl (List.map eGFile s)), .fn 41 [D.pt [D.v (.string c2)] 0, D.pt [D.v (.string c3)] 0]] (D.v (.int .i64 r)) true := by
  unfold slices_IndexFunc_File__perm_in_c1 at H
  refine pureA_runR (tab := tab) tab_ok Tryd.func33 rfl (by kernel_rfl) (by kernel_rfl) (by simp [Tryd.f33]) ?_
  refine runR_seq ?_
  refine runR_take tab_ok fol 1 ?_
  try simp -implicitDefEqProofs only [go_sem]
  refine runR_seq ?_
  refine runR_seq ?_
  refine runR_take tab_ok fol 1 ?_
  try simp -implicitDefEqProofs only [go_sem, Nat.reduceAdd, reduceCtorEq, ↓reduceIte]
  obtain ⟨e_, E1, H2⟩ := bind_inv H
  refine runR_join (α := { y : Unit // e_ = .inl y }) (fun | ⟨_, _⟩ => ⟨noFr, noHp, 0⟩) ?_ ?_
  · refine runR_block ?_
    refine runR_loop (α := { q : Nat × Int // slices_IndexFunc_File__perm_in_c1_L1 n s c2 c3 q.1 q.2 = some e_ }) (fun | ⟨⟨c, t8⟩, _⟩ => ⟨upd 0 (.d (.sl (List.map eGFile s)) true) (upd 1 (.fn 41 [.d (.pt [.v (.string c2)] 0) true, .d (.pt [.v (.string c3)] 0) true]) (upd 7 (.v (.int .i64 (s.length : Int))) (upd 8 (.v (.int .i64 t8)) noFr))), noHp, 0⟩) (fun q => q.1.1) ⟨(n, 0), E1⟩ ?_ ?_
    · exact ren_mk [] (by rfl) (rf_upd (by rfl) (rf_upd (by rfl) (rf_upd (by rfl) (rf_upd (by rfl) (rf_no _))))) (rh_no _)
    · rintro ⟨⟨c, t8⟩, L3⟩
      rcases c with _ | c
      · exact nomatch (show none = some _ from L3)
      · unfold slices_IndexFunc_File__perm_in_c1_L1 at L3
        try dsimp only at L3
        refine runR_take tab_ok fol 1 ?_
        try simp -implicitDefEqProofs only [go_sem, Nat.reduceEqDiff, reduceCtorEq, ↓reduceIte]
        rcases ite_inv L3 with ⟨c16, H17⟩ | ⟨c16, H17⟩
        · obtain ⟨x2, b18, H19⟩ := bind_inv H17
          obtain ⟨h20, h21⟩ := idx_inv b18
          try simp only [Int.reduceToNat, Int.toNat_natCast] at h21
          have h22 := map_at eGFile h21
          obtain ⟨t162, b24, H25⟩ := bind_inv H19
          try simp -implicitDefEqProofs only [go_sem, Nat.reduceEqDiff, Nat.reduceAdd, reduceCtorEq, ↓reduceIte, eGFile, c16, nat_of .i64 h20, h22]
          refine onCall_pure (by first | rfl | (simp -implicitDefEqProofs only [go_sem, Bool.false_and, Int.reduceToNat, Int.reduceLT, Int.reduceLE, Int.reduceBEq, Int.reduceBNe, Nat.reduceLT, Nat.reduceBEq, Int.reduceEq, Nat.reduceEqDiff, Nat.reduceAdd, Nat.reduceSub, Nat.reduceMul, Nat.reduceLeDiff, reduceCtorEq, ↓reduceIte, eGEntry, eGFile, c16, nat_of .i64 h20, h22]; done) | (simp -implicitDefEqProofs only [go_sem, Bool.false_and, Int.reduceToNat, Int.reduceLT, Int.reduceLE, Int.reduceBEq, Int.reduceBNe, Nat.reduceLT, Nat.reduceBEq, Int.reduceEq, Nat.reduceEqDiff, Nat.reduceAdd, Nat.reduceSub, Nat.reduceMul, Nat.reduceLeDiff, reduceCtorEq, ↓reduceIte, eGEntry, eGFile, c16, nat_of .i64 h20, h22]; rfl)) (perm_in_c1_ok b24) (by first | exact .inr rfl | exact .inl rfl) ?_
          try simp -implicitDefEqProofs only [go_sem, Bool.false_and, ↓reduceIte]
          rcases ite_inv H25 with ⟨c26, H27⟩ | ⟨c26, H27⟩
          · try simp -implicitDefEqProofs only [go_sem, Nat.reduceEqDiff, Nat.reduceAdd, ↓reduceIte, c26]
            obtain rfl := Option.some.inj H27
            obtain rfl := Option.some.inj H2
            exact end_pure (by first | (simp -implicitDefEqProofs only [go_sem, ↓reduceIte, Tryd.f33] <;> rfl) | rfl) (by first | rfl | (simp -implicitDefEqProofs only [go_sem, Bool.false_and, Int.reduceToNat, Int.reduceLT, Int.reduceLE, Int.reduceBEq, Int.reduceBNe, Nat.reduceLT, Nat.reduceBEq, Int.reduceEq, Nat.reduceEqDiff, Nat.reduceAdd, Nat.reduceSub, Nat.reduceMul, Nat.reduceLeDiff, reduceCtorEq, ↓reduceIte, eGEntry, eGFile, c16, nat_of .i64 h20, h22, c26]; done) | (simp -implicitDefEqProofs only [go_sem, Bool.false_and, Int.reduceToNat, Int.reduceLT, Int.reduceLE, Int.reduceBEq, Int.reduceBNe, Nat.reduceLT, Nat.reduceBEq, Int.reduceEq, Nat.reduceEqDiff, Nat.reduceAdd, Nat.reduceSub, Nat.reduceMul, Nat.reduceLeDiff, reduceCtorEq, ↓reduceIte, eGEntry, eGFile, c16, nat_of .i64 h20, h22, c26]; rfl)) rfl (by intro h; first | rfl | cases h)
          · try simp -implicitDefEqProofs only [go_sem, Nat.reduceEqDiff, Nat.reduceAdd, reduceCtorEq, ↓reduceIte, c26]
            exact ⟨⟨(c, (IntKind.i64.wrap (t8 + 1))), H27⟩, ren_mk [] (by rfl) (rf_upd (by rfl) (rf_upd (by rfl) (rf_upd (by rfl) (rf_upd (by rfl) (rf_no _))))) (rh_no _), Nat.lt_succ_self _⟩
        · try simp -implicitDefEqProofs only [go_sem, ↓reduceIte, c16]
          obtain rfl := Option.some.inj H17
          exact ⟨⟨(), rfl⟩, ren_mk [] (by rfl) (rf_no _) (rh_no _)⟩
  · rintro ⟨_, he28⟩
    replace he28 := he28.symm
    subst he28
    try dsimp only at H2
    refine runR_take tab_ok fol 1 ?_
    try simp -implicitDefEqProofs only [go_sem]
    obtain rfl := Option.some.inj H2
    exact end_pure (by first | (simp -implicitDefEqProofs only [go_sem, ↓reduceIte, Tryd.f33] <;> rfl) | rfl) (by first | rfl | (simp -implicitDefEqProofs only [go_sem, Bool.false_and, Int.reduceToNat, Int.reduceLT, Int.reduceLE, Int.reduceBEq, Int.reduceBNe, Nat.reduceLT, Nat.reduceBEq, Int.reduceEq, Nat.reduceEqDiff, Nat.reduceAdd, Nat.reduceSub, Nat.reduceMul, Nat.reduceLeDiff, reduceCtorEq, ↓reduceIte, eGEntry, eGFile]; done) | (simp -implicitDefEqProofs only [go_sem, Bool.false_and, Int.reduceToNat, Int.reduceLT, Int.reduceLE, Int.reduceBEq, Int.reduceBNe, Nat.reduceLT, Nat.reduceBEq, Int.reduceEq, Nat.reduceEqDiff, Nat.reduceAdd, Nat.reduceSub, Nat.reduceMul, Nat.reduceLeDiff, reduceCtorEq, ↓reduceIte, eGEntry, eGFile]; rfl)) rfl (by intro h; first | rfl | cases h)
def slices_ContainsFunc_File__perm_in_c1 (n : Nat) (s : List GFile) (c2 : ByteArray) (c3 : ByteArray) : Option Bool :=
  (slices_IndexFunc_File__perm_in_c1 n s c2 c3).bind fun t7 =>
  some (decide (0 ≤ t7))
theorem slices_ContainsFunc_File__perm_in_c1_ok {n : Nat} {s : List GFile} {c2 : ByteArray} {c3 : ByteArray} {r : Bool} (H : slices_ContainsFunc_File__perm_in_c1 n s c2 c3 = some r) : PureA Tryd.prog 19 [.d (D.sl (List.map eGFile s)), .fn 41 [D.pt [D.v (.string c2)] 0, D.pt [D.v (.string c3)] 0]] (D.v (.bool r)) true := by
  unfold slices_ContainsFunc_File__perm_in_c1 at H
  refine pureA_runR (tab := tab) tab_ok Tryd.func19 rfl (by kernel_rfl) (by kernel_rfl) (by simp [Tryd.f19]) ?_
  refine runR_take tab_ok fol 1 ?_
  obtain ⟨t7, b1, H2⟩ := bind_inv H
  try simp -implicitDefEqProofs only [go_sem, Nat.reduceEqDiff, Nat.reduceAdd, reduceCtorEq, ↓reduceIte]
  refine onCall_pureA (by first | rfl | (simp -implicitDefEqProofs only [go_sem, Bool.false_and, Int.reduceToNat, Int.reduceLT, Int.reduceLE, Int.reduceBEq, Int.reduceBNe, Nat.reduceLT, Nat.reduceBEq, Int.reduceEq, Nat.reduceEqDiff, Nat.reduceAdd, Nat.reduceSub, Nat.reduceMul, Nat.reduceLeDiff, reduceCtorEq, ↓reduceIte, eGEntry, eGFile]; done) | (simp -implicitDefEqProofs only [go_sem, Bool.false_and, Int.reduceToNat, Int.reduceLT, Int.reduceLE, Int.reduceBEq, Int.reduceBNe, Nat.reduceLT, Nat.reduceBEq, Int.reduceEq, Nat.reduceEqDiff, Nat.reduceAdd, Nat.reduceSub, Nat.reduceMul, Nat.reduceLeDiff, reduceCtorEq, ↓reduceIte, eGEntry, eGFile]; rfl)) (slices_IndexFunc_File__perm_in_c1_ok b1) (by first | exact .inr rfl | exact .inl rfl) ?_
  try simp -implicitDefEqProofs only [go_sem, Bool.false_and, Nat.reduceAdd, ↓reduceIte]
  obtain rfl := Option.some.inj H2
  exact end_pure (by first | (simp -implicitDefEqProofs only [go_sem, ↓reduceIte, Tryd.f19] <;> rfl) | rfl) (by first | rfl | (simp -implicitDefEqProofs only [go_sem, Bool.false_and, Int.reduceToNat, Int.reduceLT, Int.reduceLE, Int.reduceBEq, Int.reduceBNe, Nat.reduceLT, Nat.reduceBEq, Int.reduceEq, Nat.reduceEqDiff, Nat.reduceAdd, Nat.reduceSub, Nat.reduceMul, Nat.reduceLeDiff, reduceCtorEq, ↓reduceIte, eGEntry, eGFile]; done) | (simp -implicitDefEqProofs only [go_sem, Bool.false_and, Int.reduceToNat, Int.reduceLT, Int.reduceLE, Int.reduceBEq, Int.reduceBNe, Nat.reduceLT, Nat.reduceBEq, Int.reduceEq, Nat.reduceEqDiff, Nat.reduceAdd, Nat.reduceSub, Nat.reduceMul, Nat.reduceLeDiff, reduceCtorEq, ↓reduceIte, eGEntry, eGFile]; rfl)) rfl (by intro h; first | rfl | cases h)
def perm_in (n : Nat) (l : List GFile) (user : ByteArray) (group : ByteArray) : Option Bool :=
  (slices_ContainsFunc_File__perm_in_c1 n l group user).bind fun t9 =>
  some t9
theorem perm_in_ok {n : Nat} {l : List GFile} {user : ByteArray} {group : ByteArray} {r : Bool} (H : perm_in n l user group = some r) : PureOK Tryd.prog 27 [D.sl (List.map eGFile l), D.v (.string user), D.v (.string group)] (D.v (.bool r)) true := by
  unfold perm_in at H
  refine pure_runR (tab := tab) tab_ok Tryd.func27 rfl (by kernel_rfl) (by kernel_rfl) (by simp [Tryd.f27]) ?_
  refine runR_take tab_ok fol 1 ?_
  obtain ⟨t9, b1, H2⟩ := bind_inv H
  try simp -implicitDefEqProofs only [go_sem, Nat.reduceEqDiff, Nat.reduceAdd, reduceCtorEq, ↓reduceIte]
  refine onCall_pureA (by first | rfl | (simp -implicitDefEqProofs only [go_sem, Bool.false_and, Int.reduceToNat, Int.reduceLT, Int.reduceLE, Int.reduceBEq, Int.reduceBNe, Nat.reduceLT, Nat.reduceBEq, Int.reduceEq, Nat.reduceEqDiff, Nat.reduceAdd, Nat.reduceSub, Nat.reduceMul, Nat.reduceLeDiff, reduceCtorEq, ↓reduceIte, eGEntry, eGFile]; done) | (simp -implicitDefEqProofs only [go_sem, Bool.false_and, Int.reduceToNat, Int.reduceLT, Int.reduceLE, Int.reduceBEq, Int.reduceBNe, Nat.reduceLT, Nat.reduceBEq, Int.reduceEq, Nat.reduceEqDiff, Nat.reduceAdd, Nat.reduceSub, Nat.reduceMul, Nat.reduceLeDiff, reduceCtorEq, ↓reduceIte, eGEntry, eGFile]; rfl)) (slices_ContainsFunc_File__perm_in_c1_ok b1) (by first | exact .inr rfl | exact .inl rfl) ?_
  try simp -implicitDefEqProofs only [go_sem, Bool.false_and, Nat.reduceAdd, ↓reduceIte]
  obtain rfl := Option.some.inj H2
  exact end_pure (by first | (simp -implicitDefEqProofs only [go_sem, ↓reduceIte, Tryd.f27] <;> rfl) | rfl) (by first | rfl | (simp -implicitDefEqProofs only [go_sem, Bool.false_and, Int.reduceToNat, Int.reduceLT, Int.reduceLE, Int.reduceBEq, Int.reduceBNe, Nat.reduceLT, Nat.reduceBEq, Int.reduceEq, Nat.reduceEqDiff, Nat.reduceAdd, Nat.reduceSub, Nat.reduceMul, Nat.reduceLeDiff, reduceCtorEq, ↓reduceIte, eGEntry, eGFile]; done) | (simp -implicitDefEqProofs only [go_sem, Bool.false_and, Int.reduceToNat, Int.reduceLT, Int.reduceLE, Int.reduceBEq, Int.reduceBNe, Nat.reduceLT, Nat.reduceBEq, Int.reduceEq, Nat.reduceEqDiff, Nat.reduceAdd, Nat.reduceSub, Nat.reduceMul, Nat.reduceLeDiff, reduceCtorEq, ↓reduceIte, eGEntry, eGFile]; rfl)) rfl (by intro h; first | rfl | cases h)
end Go.Proofs.YthnejfmbglbpgaaDoor.Ab
