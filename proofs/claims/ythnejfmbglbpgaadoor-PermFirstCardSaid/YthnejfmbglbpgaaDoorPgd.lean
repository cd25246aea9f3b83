/-
  Functions, read off the code.
-/
import Derived.Test.YthnejfmbglbpgaaDoorPgc
namespace Go.Proofs.YthnejfmbglbpgaaDoor.Ab
open Go.RowKit
def law20_PermFirst_L1 (n : Nat) (t72 : List GFile) (x2 : ByteArray) (t11 : Int) : Nat → Int → Option ((Unit) ⊕ Bool)
  | 0, _ => none
  | c + 1, t12 =>
    (if (decide (t12 ≤ 4)) then
      (perm_Can n t72 x2 ({ data := #[47] }) t12).bind fun t1262 =>
      (if (t1262 == ((IntKind.i64.wrap (an t11 t12 : Int)) != 0)) then
        (perm_May n t72 x2 ({ data := #[47] }) t12).bind fun t1362 =>
        (if (t1362 == ((IntKind.i64.wrap (an t11 t12 : Int)) != 0)) then
          law20_PermFirst_L1 n t72 x2 t11 c (IntKind.i64.wrap (2 * t12))
        else
          some (.inr false))
      else
        some (.inr false))
    else
      some (.inl ()))

def law20_PermFirst (n : Nat) (t0 : Int) (t1 : Int) : Option Bool :=
  (law20_PermFirst_c1 n 0 t0).bind fun t15 =>
  (law20_PermFirst_c1 n 3 t0).bind fun t18 =>
  (law20_PermFirst_c1 n 6 t0).bind fun t21 =>
  (law20_PermFirst_c1 n 9 t0).bind fun t24 =>
  (law20_PermFirst_c1 n 12 t0).bind fun t27 =>
  (law20_PermFirst_c1 n 15 t0).bind fun t30 =>
  (
    (if ((IntKind.i64.wrap (an (sh t0 18) 1 : Int)) == 1) then
      some ([(⟨1, { data := #[117] }, [], ByteArray.empty, ByteArray.empty, [], 0⟩ : GFile), (⟨1, { data := #[118] }, [], ByteArray.empty, ByteArray.empty, [], 0⟩ : GFile), (⟨1, { data := #[119] }, [], ByteArray.empty, ByteArray.empty, [], 0⟩ : GFile), (⟨1, { data := #[120] }, [], ByteArray.empty, ByteArray.empty, [], 0⟩ : GFile), (⟨2, { data := #[103] }, [{ data := #[117] }, { data := #[118] }, { data := #[119] }], ByteArray.empty, ByteArray.empty, [], 0⟩ : GFile), (⟨2, { data := #[104] }, [], ByteArray.empty, ByteArray.empty, [], 0⟩ : GFile), (⟨3, { data := #[47] }, [], { data := #[117] }, { data := #[103] }, [(⟨1, false, ByteArray.empty, t15⟩ : GEntry), (⟨2, false, { data := #[118] }, t18⟩ : GEntry), (⟨3, false, ByteArray.empty, t21⟩ : GEntry), (⟨4, false, { data := #[104] }, t24⟩ : GEntry), (⟨5, false, ByteArray.empty, t27⟩ : GEntry), (⟨6, false, ByteArray.empty, t30⟩ : GEntry)], 0⟩ : GFile)], true)
    else
      some ([(⟨1, { data := #[117] }, [], ByteArray.empty, ByteArray.empty, [], 0⟩ : GFile), (⟨1, { data := #[118] }, [], ByteArray.empty, ByteArray.empty, [], 0⟩ : GFile), (⟨1, { data := #[119] }, [], ByteArray.empty, ByteArray.empty, [], 0⟩ : GFile), (⟨1, { data := #[120] }, [], ByteArray.empty, ByteArray.empty, [], 0⟩ : GFile), (⟨2, { data := #[103] }, [], ByteArray.empty, ByteArray.empty, [], 0⟩ : GFile), (⟨2, { data := #[104] }, [], ByteArray.empty, ByteArray.empty, [], 0⟩ : GFile), (⟨3, { data := #[47] }, [], { data := #[117] }, { data := #[103] }, [(⟨1, false, ByteArray.empty, t15⟩ : GEntry), (⟨2, false, { data := #[118] }, t18⟩ : GEntry), (⟨3, false, ByteArray.empty, t21⟩ : GEntry), (⟨4, false, { data := #[104] }, t24⟩ : GEntry), (⟨5, false, ByteArray.empty, t27⟩ : GEntry), (⟨6, false, ByteArray.empty, t30⟩ : GEntry)], 0⟩ : GFile)], false)) : Option (List GFile × Bool)).bind fun (t7, t8) =>
  (
    (if ((IntKind.i64.wrap (an (sh t0 19) 1 : Int)) == 1) then
      (idx t7 5).bind fun x =>
      (some (List.set t7 5 (⟨x.kind, x.name, [{ data := #[119] }, { data := #[117] }], x.owner, x.group, x.acl, x.at_⟩ : GFile))).bind fun l =>
      some (l, true)
    else
      some (t7, false)) : Option (List GFile × Bool)).bind fun (t72, t9) =>
  (idx [{ data := #[117] }, { data := #[118] }, { data := #[119] }, { data := #[120] }] (IntKind.i64.wrap (an t1 3 : Int))).bind fun x2 =>
  (law20_PermFirst_c1 n 15 t0).bind fun t66 =>
  (
    (if (x2.toList == ({ data := #[117] } : ByteArray).toList) then
      (law20_PermFirst_c1 n 0 t0).bind fun t71 =>
      some t71
    else
      (if (x2.toList == ({ data := #[118] } : ByteArray).toList) then
        (law20_PermFirst_c1 n 3 t0).bind fun t76 =>
        (law20_PermFirst_c1 n 12 t0).bind fun t78 =>
        some (IntKind.i64.wrap (an t76 t78 : Int))
      else
        (
          (if (x2.toList == ({ data := #[119] } : ByteArray).toList) then
            (if t8 then
              some (true, t9)
            else
              some (false, false))
          else
            some (t8, false)) : Option (Bool × Bool)).bind fun (t82, t80) =>
        (if t80 then
          (law20_PermFirst_c1 n 6 t0).bind fun t90 =>
          (law20_PermFirst_c1 n 9 t0).bind fun t92 =>
          (law20_PermFirst_c1 n 12 t0).bind fun t95 =>
          some (IntKind.i64.wrap (an (IntKind.i64.wrap ((BitVec.ofInt IntKind.i64.bits t90 ||| BitVec.ofInt IntKind.i64.bits t92).toNat : Int)) t95 : Int))
        else
          (
            (if (x2.toList == ({ data := #[119] } : ByteArray).toList) then
              some t82
            else
              some false) : Option (Bool)).bind fun t97 =>
          (if t97 then
            (law20_PermFirst_c1 n 6 t0).bind fun t104 =>
            (law20_PermFirst_c1 n 12 t0).bind fun t106 =>
            some (IntKind.i64.wrap (an t104 t106 : Int))
          else
            (
              (if (x2.toList == ({ data := #[119] } : ByteArray).toList) then
                some t9
              else
                some false) : Option (Bool)).bind fun t108 =>
            (if t108 then
              (law20_PermFirst_c1 n 9 t0).bind fun t115 =>
              (law20_PermFirst_c1 n 12 t0).bind fun t117 =>
              some (IntKind.i64.wrap (an t115 t117 : Int))
            else
              some t66))))) : Option (Int)).bind fun t11 =>
  (
    law20_PermFirst_L1 n t72 x2 t11 n 1 : Option ((Unit) ⊕ Bool)).bind fun
    | .inl _ =>
      (perm_Can n t72 ({ data := #[121] }) ({ data := #[47] }) 4).bind fun t144 =>
      (if t144 then
        some false
      else
        (law20_awake n).bind fun t147 =>
        some t147)
    | .inr r => some r
set_option maxHeartbeats 8000000 in
theorem law20_PermFirst_ok {n : Nat} {t0 : Int} {t1 : Int} {r : Bool} (H : law20_PermFirst n t0 t1 = some r) : PureOK Tryd.prog 3 [D.v (.int .i64 t0), D.v (.int .i64 t1)] (D.v (.bool r)) true := by
  unfold law20_PermFirst at H
  refine pure_runR (tab := tab) tab_ok Tryd.func3 rfl (by kernel_rfl) (by kernel_rfl) (by simp [Tryd.f3]) ?_
  refine runR_seq ?_
  refine runR_take tab_ok fol 1 ?_
  try simp -implicitDefEqProofs only [go_sem, Nat.reduceAdd]
  refine runR_seq ?_
  refine runR_take tab_ok fol 1 ?_
  try simp -implicitDefEqProofs only [go_sem, Nat.reduceEqDiff, Nat.reduceAdd, ↓reduceIte]
  refine runR_seq ?_
  refine runR_take tab_ok fol 1 ?_
  obtain ⟨t15, b1, H2⟩ := bind_inv H
  try simp -implicitDefEqProofs only [go_sem, Nat.reduceAdd, ↓reduceIte]
  refine onCall_pureA (by first | rfl | (simp -implicitDefEqProofs only [go_sem, Bool.false_and, Int.reduceToNat, Int.reduceLT, Int.reduceLE, Int.reduceBEq, Int.reduceBNe, Nat.reduceLT, Nat.reduceBEq, Int.reduceEq, Nat.reduceEqDiff, Nat.reduceAdd, Nat.reduceSub, Nat.reduceMul, Nat.reduceLeDiff, reduceCtorEq, ↓reduceIte, eGEntry, eGFile]; done) | (simp -implicitDefEqProofs only [go_sem, Bool.false_and, Int.reduceToNat, Int.reduceLT, Int.reduceLE, Int.reduceBEq, Int.reduceBNe, Nat.reduceLT, Nat.reduceBEq, Int.reduceEq, Nat.reduceEqDiff, Nat.reduceAdd, Nat.reduceSub, Nat.reduceMul, Nat.reduceLeDiff, reduceCtorEq, ↓reduceIte, eGEntry, eGFile]; rfl)) (PureA.of_pure (law20_PermFirst_c1_ok b1)) (by first | exact .inr rfl | exact .inl rfl) ?_
  obtain ⟨t18, b3, H4⟩ := bind_inv H2
  try simp -implicitDefEqProofs only [go_sem, Bool.false_and, Nat.reduceEqDiff, Nat.reduceAdd, Nat.reduceLeDiff, ↓reduceIte]
  refine onCall_pureA (by first | rfl | (simp -implicitDefEqProofs only [go_sem, Bool.false_and, Int.reduceToNat, Int.reduceLT, Int.reduceLE, Int.reduceBEq, Int.reduceBNe, Nat.reduceLT, Nat.reduceBEq, Int.reduceEq, Nat.reduceEqDiff, Nat.reduceAdd, Nat.reduceSub, Nat.reduceMul, Nat.reduceLeDiff, reduceCtorEq, ↓reduceIte, eGEntry, eGFile]; done) | (simp -implicitDefEqProofs only [go_sem, Bool.false_and, Int.reduceToNat, Int.reduceLT, Int.reduceLE, Int.reduceBEq, Int.reduceBNe, Nat.reduceLT, Nat.reduceBEq, Int.reduceEq, Nat.reduceEqDiff, Nat.reduceAdd, Nat.reduceSub, Nat.reduceMul, Nat.reduceLeDiff, reduceCtorEq, ↓reduceIte, eGEntry, eGFile]; rfl)) (PureA.of_pure (law20_PermFirst_c1_ok b3)) (by first | exact .inr rfl | exact .inl rfl) ?_
  obtain ⟨t21, b5, H6⟩ := bind_inv H4
  try simp -implicitDefEqProofs only [go_sem, Bool.false_and, Nat.reduceEqDiff, Nat.reduceAdd, Nat.reduceLeDiff, ↓reduceIte]
  refine onCall_pureA (by first | rfl | (simp -implicitDefEqProofs only [go_sem, Bool.false_and, Int.reduceToNat, Int.reduceLT, Int.reduceLE, Int.reduceBEq, Int.reduceBNe, Nat.reduceLT, Nat.reduceBEq, Int.reduceEq, Nat.reduceEqDiff, Nat.reduceAdd, Nat.reduceSub, Nat.reduceMul, Nat.reduceLeDiff, reduceCtorEq, ↓reduceIte, eGEntry, eGFile]; done) | (simp -implicitDefEqProofs only [go_sem, Bool.false_and, Int.reduceToNat, Int.reduceLT, Int.reduceLE, Int.reduceBEq, Int.reduceBNe, Nat.reduceLT, Nat.reduceBEq, Int.reduceEq, Nat.reduceEqDiff, Nat.reduceAdd, Nat.reduceSub, Nat.reduceMul, Nat.reduceLeDiff, reduceCtorEq, ↓reduceIte, eGEntry, eGFile]; rfl)) (PureA.of_pure (law20_PermFirst_c1_ok b5)) (by first | exact .inr rfl | exact .inl rfl) ?_
  obtain ⟨t24, b7, H8⟩ := bind_inv H6
  try simp -implicitDefEqProofs only [go_sem, Bool.false_and, Nat.reduceEqDiff, Nat.reduceAdd, Nat.reduceLeDiff, ↓reduceIte]
  refine onCall_pureA (by first | rfl | (simp -implicitDefEqProofs only [go_sem, Bool.false_and, Int.reduceToNat, Int.reduceLT, Int.reduceLE, Int.reduceBEq, Int.reduceBNe, Nat.reduceLT, Nat.reduceBEq, Int.reduceEq, Nat.reduceEqDiff, Nat.reduceAdd, Nat.reduceSub, Nat.reduceMul, Nat.reduceLeDiff, reduceCtorEq, ↓reduceIte, eGEntry, eGFile]; done) | (simp -implicitDefEqProofs only [go_sem, Bool.false_and, Int.reduceToNat, Int.reduceLT, Int.reduceLE, Int.reduceBEq, Int.reduceBNe, Nat.reduceLT, Nat.reduceBEq, Int.reduceEq, Nat.reduceEqDiff, Nat.reduceAdd, Nat.reduceSub, Nat.reduceMul, Nat.reduceLeDiff, reduceCtorEq, ↓reduceIte, eGEntry, eGFile]; rfl)) (PureA.of_pure (law20_PermFirst_c1_ok b7)) (by first | exact .inr rfl | exact .inl rfl) ?_
  obtain ⟨t27, b9, H10⟩ := bind_inv H8
  try simp -implicitDefEqProofs only [go_sem, Bool.false_and, Nat.reduceEqDiff, Nat.reduceAdd, Nat.reduceLeDiff, ↓reduceIte]
  refine onCall_pureA (by first | rfl | (simp -implicitDefEqProofs only [go_sem, Bool.false_and, Int.reduceToNat, Int.reduceLT, Int.reduceLE, Int.reduceBEq, Int.reduceBNe, Nat.reduceLT, Nat.reduceBEq, Int.reduceEq, Nat.reduceEqDiff, Nat.reduceAdd, Nat.reduceSub, Nat.reduceMul, Nat.reduceLeDiff, reduceCtorEq, ↓reduceIte, eGEntry, eGFile]; done) | (simp -implicitDefEqProofs only [go_sem, Bool.false_and, Int.reduceToNat, Int.reduceLT, Int.reduceLE, Int.reduceBEq, Int.reduceBNe, Nat.reduceLT, Nat.reduceBEq, Int.reduceEq, Nat.reduceEqDiff, Nat.reduceAdd, Nat.reduceSub, Nat.reduceMul, Nat.reduceLeDiff, reduceCtorEq, ↓reduceIte, eGEntry, eGFile]; rfl)) (PureA.of_pure (law20_PermFirst_c1_ok b9)) (by first | exact .inr rfl | exact .inl rfl) ?_
  obtain ⟨t30, b11, H12⟩ := bind_inv H10
  try simp -implicitDefEqProofs only [go_sem, Bool.false_and, Nat.reduceEqDiff, Nat.reduceAdd, Nat.reduceLeDiff, ↓reduceIte]
  refine onCall_pureA (by first | rfl | (simp -implicitDefEqProofs only [go_sem, Bool.false_and, Int.reduceToNat, Int.reduceLT, Int.reduceLE, Int.reduceBEq, Int.reduceBNe, Nat.reduceLT, Nat.reduceBEq, Int.reduceEq, Nat.reduceEqDiff, Nat.reduceAdd, Nat.reduceSub, Nat.reduceMul, Nat.reduceLeDiff, reduceCtorEq, ↓reduceIte, eGEntry, eGFile]; done) | (simp -implicitDefEqProofs only [go_sem, Bool.false_and, Int.reduceToNat, Int.reduceLT, Int.reduceLE, Int.reduceBEq, Int.reduceBNe, Nat.reduceLT, Nat.reduceBEq, Int.reduceEq, Nat.reduceEqDiff, Nat.reduceAdd, Nat.reduceSub, Nat.reduceMul, Nat.reduceLeDiff, reduceCtorEq, ↓reduceIte, eGEntry, eGFile]; rfl)) (PureA.of_pure (law20_PermFirst_c1_ok b11)) (by first | exact .inr rfl | exact .inl rfl) ?_
  try simp -implicitDefEqProofs only [go_sem, Bool.false_and, Nat.reduceLT, Nat.reduceEqDiff, Nat.reduceAdd, Nat.reduceMul, Nat.reduceLeDiff, ↓reduceIte]
  refine runR_seq ?_
  refine runR_take tab_ok fol 1 ?_
  try simp -implicitDefEqProofs only [go_sem, Nat.reduceLT, Nat.reduceEqDiff, Nat.reduceAdd, Nat.reduceMul, Nat.reduceLeDiff, ↓reduceIte]
  refine runR_seq ?_
  refine runR_take tab_ok fol 1 ?_
  try simp -implicitDefEqProofs only [go_sem, Int.reduceToNat, Int.reduceLT, Nat.reduceEqDiff, Nat.reduceAdd, reduceCtorEq, ↓reduceIte]
  refine Rd_endF (by rfl) ?_
  try simp -implicitDefEqProofs only [go_sem]
  refine runR_seq ?_
  refine runR_seq ?_
  refine runR_take tab_ok fol 1 ?_
  try simp -implicitDefEqProofs only [go_sem, Nat.reduceEqDiff, Nat.reduceAdd, ↓reduceIte]
  obtain ⟨e_, E13, H14⟩ := bind_inv H12
  refine runR_join (α := { y : List GFile × Bool // e_ = y }) (fun | ⟨⟨t7, t8⟩, _⟩ => ⟨upd 1 (.v (.int .i64 t1)) (upd 5 (.fn 4 [.pt 0 0]) (upd 7 (.so 1 0 0 (t7.length)) (upd 8 (.v (.bool t8)) (upd 9 (.v (.bool ((IntKind.i64.wrap (an (sh t0 19) 1 : Int)) == 1))) noFr)))), upd 0 (some (.bx [.v (.int .i64 t0)])) (upd 1 (some (.rw (List.map eGFile t7) 7 0 false false)) noHp), 2⟩) ?_ ?_
  · refine runR_take tab_ok fol 1 ?_
    try simp -implicitDefEqProofs only [go_sem, ↓reduceIte]
    rcases ite_inv E13 with ⟨c15, H16⟩ | ⟨c15, H16⟩
    · try simp -implicitDefEqProofs only [go_sem, Nat.reduceLT, Nat.reduceEqDiff, Nat.reduceAdd, Nat.reduceLeDiff, reduceCtorEq, ↓reduceIte, c15, List.set_cons_zero, List.set_cons_succ, (show natOfA (AV.v (.int .i64 4)) = some 4 from rfl)]
      obtain rfl := Option.some.inj H16
      exact ⟨⟨([(⟨1, { data := #[117] }, [], ByteArray.empty, ByteArray.empty, [], 0⟩ : GFile), (⟨1, { data := #[118] }, [], ByteArray.empty, ByteArray.empty, [], 0⟩ : GFile), (⟨1, { data := #[119] }, [], ByteArray.empty, ByteArray.empty, [], 0⟩ : GFile), (⟨1, { data := #[120] }, [], ByteArray.empty, ByteArray.empty, [], 0⟩ : GFile), (⟨2, { data := #[103] }, [{ data := #[117] }, { data := #[118] }, { data := #[119] }], ByteArray.empty, ByteArray.empty, [], 0⟩ : GFile), (⟨2, { data := #[104] }, [], ByteArray.empty, ByteArray.empty, [], 0⟩ : GFile), (⟨3, { data := #[47] }, [], { data := #[117] }, { data := #[103] }, [(⟨1, false, ByteArray.empty, t15⟩ : GEntry), (⟨2, false, { data := #[118] }, t18⟩ : GEntry), (⟨3, false, ByteArray.empty, t21⟩ : GEntry), (⟨4, false, { data := #[104] }, t24⟩ : GEntry), (⟨5, false, ByteArray.empty, t27⟩ : GEntry), (⟨6, false, ByteArray.empty, t30⟩ : GEntry)], 0⟩ : GFile)], true), rfl⟩, ren_mk [(0, 0), (1, 32)] (by rfl) (rf_upd (by rfl) (rf_upd (by rfl) (rf_upd (by rfl) (rf_upd (by rfl) (rf_upd (by rfl) (rf_no _)))))) (rh_upd (rh_one (by rfl) (by rfl) (by rfl)) (rh_upd (rh_one (by rfl) (by rfl) (by rfl)) (rh_no _)))⟩
    · try simp -implicitDefEqProofs only [go_sem, c15]
      obtain rfl := Option.some.inj H16
      exact ⟨⟨([(⟨1, { data := #[117] }, [], ByteArray.empty, ByteArray.empty, [], 0⟩ : GFile), (⟨1, { data := #[118] }, [], ByteArray.empty, ByteArray.empty, [], 0⟩ : GFile), (⟨1, { data := #[119] }, [], ByteArray.empty, ByteArray.empty, [], 0⟩ : GFile), (⟨1, { data := #[120] }, [], ByteArray.empty, ByteArray.empty, [], 0⟩ : GFile), (⟨2, { data := #[103] }, [], ByteArray.empty, ByteArray.empty, [], 0⟩ : GFile), (⟨2, { data := #[104] }, [], ByteArray.empty, ByteArray.empty, [], 0⟩ : GFile), (⟨3, { data := #[47] }, [], { data := #[117] }, { data := #[103] }, [(⟨1, false, ByteArray.empty, t15⟩ : GEntry), (⟨2, false, { data := #[118] }, t18⟩ : GEntry), (⟨3, false, ByteArray.empty, t21⟩ : GEntry), (⟨4, false, { data := #[104] }, t24⟩ : GEntry), (⟨5, false, ByteArray.empty, t27⟩ : GEntry), (⟨6, false, ByteArray.empty, t30⟩ : GEntry)], 0⟩ : GFile)], false), rfl⟩, ren_mk [(0, 0), (1, 32)] (by rfl) (rf_upd (by rfl) (rf_upd (by rfl) (rf_upd (by rfl) (rf_upd (by rfl) (rf_upd (by rfl) (rf_no _)))))) (rh_upd (rh_one (by rfl) (by rfl) (by rfl)) (rh_upd (rh_one (by rfl) (by rfl) (by rfl)) (rh_no _)))⟩
  · rintro ⟨⟨t7, t8⟩, he121⟩
    replace he121 := he121.symm
    subst he121
    try dsimp only at H14
    refine runR_seq ?_
    refine runR_seq ?_
    refine runR_take tab_ok fol 1 ?_
    try simp -implicitDefEqProofs only [go_sem, Nat.reduceEqDiff, Nat.reduceAdd, ↓reduceIte]
    obtain ⟨e_2, E17, H18⟩ := bind_inv H14
    refine runR_join (α := { y : List GFile × Bool // e_2 = y }) (fun | ⟨⟨t72, t9⟩, _⟩ => ⟨upd 1 (.v (.int .i64 t1)) (upd 5 (.fn 4 [.pt 0 0]) (upd 7 (.so 1 0 0 (t72.length)) (upd 8 (.v (.bool t8)) (upd 9 (.v (.bool t9)) noFr)))), upd 0 (some (.bx [.v (.int .i64 t0)])) (upd 1 (some (.rw (List.map eGFile t72) 7 0 false false)) noHp), 2⟩) ?_ ?_
    · refine runR_take tab_ok fol 1 ?_
      try simp -implicitDefEqProofs only [go_sem, ↓reduceIte]
      rcases ite_inv E17 with ⟨c19, H20⟩ | ⟨c19, H20⟩
      · obtain ⟨x, b21, H22⟩ := bind_inv H20
        obtain ⟨h23, h24⟩ := idx_inv b21
        try simp only [Int.reduceToNat] at h24
        have h25 := map_at eGFile h24
        have h26 := at_lt h24
        obtain ⟨l, b27, H28⟩ := bind_inv H22
        have h29 : List.set t7 5 (⟨x.kind, x.name, [{ data := #[119] }, { data := #[117] }], x.owner, x.group, x.acl, x.at_⟩ : GFile) = l := Option.some.inj b27
        have h30 : List.set (List.map eGFile t7) 5 [.v (.int .i64 x.kind), .v (.string x.name), .sl (List.map eS [{ data := #[119] }, { data := #[117] }]), .v (.string x.owner), .v (.string x.group), .sl (List.map eGEntry x.acl), .v (.int .i64 x.at_)] = List.map eGFile l := by rw [← h29, List.map_set]
        try simp only [List.map_cons, List.map_nil] at h30
        have h31 : t7.length = l.length := by rw [← h29, List.length_set]
        have h32 : ∀ w, AV.so 1 w 0 t7.length = AV.so 1 w 0 l.length := fun w => by rw [h31]
        have h33 : 5 < l.length := by omega
        try simp -implicitDefEqProofs only [go_sem, Int.reduceToNat, Nat.reduceLT, Nat.reduceEqDiff, Nat.reduceAdd, Nat.reduceLeDiff, reduceCtorEq, ↓reduceIte, eGFile, c19, nat_of .i64 h23, h25, h30, h32, h33]
        obtain rfl := Option.some.inj H28
        exact ⟨⟨(l, true), rfl⟩, ren_mk [(0, 0), (1, 1)] (by rfl) (rf_upd (by rfl) (rf_upd (by rfl) (rf_upd (by rfl) (rf_upd (by rfl) (rf_upd (by rfl) (rf_no _)))))) (rh_upd (rh_one (by rfl) (by rfl) (by rfl)) (rh_upd (rh_one (by rfl) (by rfl) (by rfl)) (rh_no _)))⟩
      · try simp -implicitDefEqProofs only [go_sem, c19]
        obtain rfl := Option.some.inj H20
        exact ⟨⟨(t7, false), rfl⟩, ren_mk [(0, 0), (1, 1)] (by rfl) (rf_upd (by rfl) (rf_upd (by rfl) (rf_upd (by rfl) (rf_upd (by rfl) (rf_upd (by rfl) (rf_no _)))))) (rh_upd (rh_one (by rfl) (by rfl) (by rfl)) (rh_upd (rh_one (by rfl) (by rfl) (by rfl)) (rh_no _)))⟩
    · rintro ⟨⟨t72, t9⟩, he120⟩
      replace he120 := he120.symm
      subst he120
      try dsimp only at H18
      refine runR_seq ?_
      refine runR_take tab_ok fol 1 ?_
      obtain ⟨x2, b34, H35⟩ := bind_inv H18
      obtain ⟨h36, h37⟩ := idx_inv b34
      try simp only [Int.reduceToNat, Int.toNat_natCast] at h37
      have h38 := map_at eS h37
      simp only [List.map_cons, List.map_nil, eS] at h38
      have h39 := at_lt h37
      simp only [List.length_cons, List.length_nil, Nat.reduceAdd] at h39
      try simp -implicitDefEqProofs only [go_sem, Nat.reduceLT, Nat.reduceEqDiff, Nat.reduceAdd, Nat.reduceLeDiff, ↓reduceIte, nat_of .i64 h36, h38, h39]
      refine runR_seq ?_
      refine runR_take tab_ok fol 1 ?_
      obtain ⟨t66, b40, H41⟩ := bind_inv H35
      try simp -implicitDefEqProofs only [go_sem, Nat.reduceEqDiff, Nat.reduceAdd, ↓reduceIte]
      refine onCall_pureA (by first | rfl | (simp -implicitDefEqProofs only [go_sem, Bool.false_and, Int.reduceToNat, Int.reduceLT, Int.reduceLE, Int.reduceBEq, Int.reduceBNe, Nat.reduceLT, Nat.reduceBEq, Int.reduceEq, Nat.reduceEqDiff, Nat.reduceAdd, Nat.reduceSub, Nat.reduceMul, Nat.reduceLeDiff, reduceCtorEq, ↓reduceIte, eGEntry, eGFile, nat_of .i64 h36, h38, h39]; done) | (simp -implicitDefEqProofs only [go_sem, Bool.false_and, Int.reduceToNat, Int.reduceLT, Int.reduceLE, Int.reduceBEq, Int.reduceBNe, Nat.reduceLT, Nat.reduceBEq, Int.reduceEq, Nat.reduceEqDiff, Nat.reduceAdd, Nat.reduceSub, Nat.reduceMul, Nat.reduceLeDiff, reduceCtorEq, ↓reduceIte, eGEntry, eGFile, nat_of .i64 h36, h38, h39]; rfl)) (PureA.of_pure (law20_PermFirst_c1_ok b40)) (by first | exact .inr rfl | exact .inl rfl) ?_
      try simp -implicitDefEqProofs only [go_sem, Bool.false_and, Nat.reduceAdd, ↓reduceIte]
      refine runR_seq ?_
      obtain ⟨e_3, E42, H43⟩ := bind_inv H41
      refine runR_join (α := { y : Int // e_3 = y }) (fun | ⟨t11, _⟩ => ⟨upd 7 (.so 0 0 0 (t72.length)) (upd 10 (.v (.string x2)) (upd 11 (.v (.int .i64 t11)) noFr)), upd 0 (some (.rw (List.map eGFile t72) 7 0 false false)) noHp, 1⟩) ?_ ?_
      · refine runR_block ?_
        refine runR_seq ?_
        refine runR_take tab_ok fol 1 ?_
        try simp -implicitDefEqProofs only [go_sem, Nat.reduceEqDiff, Nat.reduceAdd, ↓reduceIte]
        rcases ite_inv E42 with ⟨c44, H45⟩ | ⟨c44, H45⟩
        · refine runR_condT (by rfl) c44 ?_
          try simp -implicitDefEqProofs only [go_sem, c44]
          refine runR_take tab_ok fol 2 ?_
          obtain ⟨t71, b46, H47⟩ := bind_inv H45
          try simp -implicitDefEqProofs only [go_sem, Nat.reduceEqDiff, Nat.reduceAdd, ↓reduceIte]
          refine onCall_pureA (by first | rfl | (simp -implicitDefEqProofs only [go_sem, Bool.false_and, Int.reduceToNat, Int.reduceLT, Int.reduceLE, Int.reduceBEq, Int.reduceBNe, Nat.reduceLT, Nat.reduceBEq, Int.reduceEq, Nat.reduceEqDiff, Nat.reduceAdd, Nat.reduceSub, Nat.reduceMul, Nat.reduceLeDiff, reduceCtorEq, ↓reduceIte, eGEntry, eGFile, c44]; done) | (simp -implicitDefEqProofs only [go_sem, Bool.false_and, Int.reduceToNat, Int.reduceLT, Int.reduceLE, Int.reduceBEq, Int.reduceBNe, Nat.reduceLT, Nat.reduceBEq, Int.reduceEq, Nat.reduceEqDiff, Nat.reduceAdd, Nat.reduceSub, Nat.reduceMul, Nat.reduceLeDiff, reduceCtorEq, ↓reduceIte, eGEntry, eGFile, c44]; rfl)) (PureA.of_pure (law20_PermFirst_c1_ok b46)) (by first | exact .inr rfl | exact .inl rfl) ?_
          try simp -implicitDefEqProofs only [go_sem, Bool.false_and, Nat.reduceAdd, ↓reduceIte]
          obtain rfl := Option.some.inj H47
          exact ⟨⟨t71, rfl⟩, ren_mk [(0, 1)] (by rfl) (rf_upd (by rfl) (rf_upd (by rfl) (rf_upd (by rfl) (rf_no _)))) (rh_upd (rh_one (by rfl) (by rfl) (by rfl)) (rh_no _))⟩
        · refine runR_condF (by rfl) c44 ?_
          try simp -implicitDefEqProofs only [go_sem, c44]
          refine runR_seq ?_
          refine runR_take tab_ok fol 1 ?_
          try simp -implicitDefEqProofs only [go_sem, Nat.reduceEqDiff, Nat.reduceAdd, ↓reduceIte]
          rcases ite_inv H45 with ⟨c48, H49⟩ | ⟨c48, H49⟩
          · refine runR_condT (by rfl) c48 ?_
            try simp -implicitDefEqProofs only [go_sem, c48]
            refine runR_take tab_ok fol 2 ?_
            obtain ⟨t76, b50, H51⟩ := bind_inv H49
            try simp -implicitDefEqProofs only [go_sem, Nat.reduceEqDiff, Nat.reduceAdd, ↓reduceIte]
            refine onCall_pureA (by first | rfl | (simp -implicitDefEqProofs only [go_sem, Bool.false_and, Int.reduceToNat, Int.reduceLT, Int.reduceLE, Int.reduceBEq, Int.reduceBNe, Nat.reduceLT, Nat.reduceBEq, Int.reduceEq, Nat.reduceEqDiff, Nat.reduceAdd, Nat.reduceSub, Nat.reduceMul, Nat.reduceLeDiff, reduceCtorEq, ↓reduceIte, eGEntry, eGFile, c44, c48]; done) | (simp -implicitDefEqProofs only [go_sem, Bool.false_and, Int.reduceToNat, Int.reduceLT, Int.reduceLE, Int.reduceBEq, Int.reduceBNe, Nat.reduceLT, Nat.reduceBEq, Int.reduceEq, Nat.reduceEqDiff, Nat.reduceAdd, Nat.reduceSub, Nat.reduceMul, Nat.reduceLeDiff, reduceCtorEq, ↓reduceIte, eGEntry, eGFile, c44, c48]; rfl)) (PureA.of_pure (law20_PermFirst_c1_ok b50)) (by first | exact .inr rfl | exact .inl rfl) ?_
            obtain ⟨t78, b52, H53⟩ := bind_inv H51
            try simp -implicitDefEqProofs only [go_sem, Bool.false_and, Nat.reduceEqDiff, Nat.reduceAdd, ↓reduceIte]
            refine onCall_pureA (by first | rfl | (simp -implicitDefEqProofs only [go_sem, Bool.false_and, Int.reduceToNat, Int.reduceLT, Int.reduceLE, Int.reduceBEq, Int.reduceBNe, Nat.reduceLT, Nat.reduceBEq, Int.reduceEq, Nat.reduceEqDiff, Nat.reduceAdd, Nat.reduceSub, Nat.reduceMul, Nat.reduceLeDiff, reduceCtorEq, ↓reduceIte, eGEntry, eGFile, c44, c48]; done) | (simp -implicitDefEqProofs only [go_sem, Bool.false_and, Int.reduceToNat, Int.reduceLT, Int.reduceLE, Int.reduceBEq, Int.reduceBNe, Nat.reduceLT, Nat.reduceBEq, Int.reduceEq, Nat.reduceEqDiff, Nat.reduceAdd, Nat.reduceSub, Nat.reduceMul, Nat.reduceLeDiff, reduceCtorEq, ↓reduceIte, eGEntry, eGFile, c44, c48]; rfl)) (PureA.of_pure (law20_PermFirst_c1_ok b52)) (by first | exact .inr rfl | exact .inl rfl) ?_
            try simp -implicitDefEqProofs only [go_sem, Bool.false_and, Nat.reduceEqDiff, Nat.reduceAdd, ↓reduceIte]
            obtain rfl := Option.some.inj H53
            exact ⟨⟨(IntKind.i64.wrap (an t76 t78 : Int)), rfl⟩, ren_mk [(0, 1)] (by rfl) (rf_upd (by rfl) (rf_upd (by rfl) (rf_upd (by rfl) (rf_no _)))) (rh_upd (rh_one (by rfl) (by rfl) (by rfl)) (rh_no _))⟩
          · refine runR_condF (by rfl) c48 ?_
            try simp -implicitDefEqProofs only [go_sem, c48]
            refine runR_seq ?_
            obtain ⟨e_4, E54, H55⟩ := bind_inv H49
            refine runR_join (α := { y : Bool × Bool // e_4 = y }) (fun | ⟨⟨t82, t80⟩, _⟩ => ⟨upd 5 (.fn 4 [.pt 0 0]) (upd 7 (.so 1 0 0 (t72.length)) (upd 8 (.v (.bool t82)) (upd 9 (.v (.bool t9)) (upd 10 (.v (.string x2)) (upd 11 (.v (.int .i64 t66)) (upd 80 (.v (.bool t80)) noFr)))))), upd 0 (some (.bx [.v (.int .i64 t0)])) (upd 1 (some (.rw (List.map eGFile t72) 7 0 false false)) noHp), 2⟩) ?_ ?_
            · refine runR_take tab_ok fol 1 ?_
              try simp -implicitDefEqProofs only [go_sem, Nat.reduceEqDiff, Nat.reduceAdd, ↓reduceIte]
              rcases ite_inv E54 with ⟨c56, H57⟩ | ⟨c56, H57⟩
              · try simp -implicitDefEqProofs only [go_sem, Nat.reduceEqDiff, Nat.reduceAdd, ↓reduceIte, c56]
                rcases ite_inv H57 with ⟨c58, H59⟩ | ⟨c58, H59⟩
                · try simp -implicitDefEqProofs only [go_sem, Nat.reduceEqDiff, Nat.reduceAdd, ↓reduceIte, c58]
                  obtain rfl := Option.some.inj H59
                  exact ⟨⟨(true, t9), rfl⟩, ren_mk [(0, 0), (1, 1)] (by rfl) (rf_upd (by rfl) (rf_upd (by rfl) (rf_upd (by rfl) (rf_upd (by rfl) (rf_upd (by rfl) (rf_upd (by rfl) (rf_upd (by rfl) (rf_no _)))))))) (rh_upd (rh_one (by rfl) (by rfl) (by rfl)) (rh_upd (rh_one (by rfl) (by rfl) (by rfl)) (rh_no _)))⟩
                · try simp -implicitDefEqProofs only [go_sem, Nat.reduceEqDiff, Nat.reduceAdd, ↓reduceIte, c58]
                  obtain rfl := Option.some.inj H59
                  exact ⟨⟨(false, false), rfl⟩, ren_mk [(0, 0), (1, 1)] (by rfl) (rf_upd (by rfl) (rf_upd (by rfl) (rf_upd (by rfl) (rf_upd (by rfl) (rf_upd (by rfl) (rf_upd (by rfl) (rf_upd (by rfl) (rf_no _)))))))) (rh_upd (rh_one (by rfl) (by rfl) (by rfl)) (rh_upd (rh_one (by rfl) (by rfl) (by rfl)) (rh_no _)))⟩
              · try simp -implicitDefEqProofs only [go_sem, Nat.reduceEqDiff, Nat.reduceAdd, ↓reduceIte, c56]
                obtain rfl := Option.some.inj H57
                exact ⟨⟨(t8, false), rfl⟩, ren_mk [(0, 0), (1, 1)] (by rfl) (rf_upd (by rfl) (rf_upd (by rfl) (rf_upd (by rfl) (rf_upd (by rfl) (rf_upd (by rfl) (rf_upd (by rfl) (rf_upd (by rfl) (rf_no _)))))))) (rh_upd (rh_one (by rfl) (by rfl) (by rfl)) (rh_upd (rh_one (by rfl) (by rfl) (by rfl)) (rh_no _)))⟩
            · rintro ⟨⟨t82, t80⟩, he90⟩
              replace he90 := he90.symm
              subst he90
              try dsimp only at H55
              rcases ite_inv H55 with ⟨c60, H61⟩ | ⟨c60, H61⟩
              · refine runR_condT (by rfl) c60 ?_
                try simp -implicitDefEqProofs only [go_sem, c60]
                refine runR_take tab_ok fol 2 ?_
                obtain ⟨t90, b62, H63⟩ := bind_inv H61
                try simp -implicitDefEqProofs only [go_sem, Nat.reduceAdd, ↓reduceIte]
                refine onCall_pureA (by first | rfl | (simp -implicitDefEqProofs only [go_sem, Bool.false_and, Int.reduceToNat, Int.reduceLT, Int.reduceLE, Int.reduceBEq, Int.reduceBNe, Nat.reduceLT, Nat.reduceBEq, Int.reduceEq, Nat.reduceEqDiff, Nat.reduceAdd, Nat.reduceSub, Nat.reduceMul, Nat.reduceLeDiff, reduceCtorEq, ↓reduceIte, eGEntry, eGFile, c60]; done) | (simp -implicitDefEqProofs only [go_sem, Bool.false_and, Int.reduceToNat, Int.reduceLT, Int.reduceLE, Int.reduceBEq, Int.reduceBNe, Nat.reduceLT, Nat.reduceBEq, Int.reduceEq, Nat.reduceEqDiff, Nat.reduceAdd, Nat.reduceSub, Nat.reduceMul, Nat.reduceLeDiff, reduceCtorEq, ↓reduceIte, eGEntry, eGFile, c60]; rfl)) (PureA.of_pure (law20_PermFirst_c1_ok b62)) (by first | exact .inr rfl | exact .inl rfl) ?_
                obtain ⟨t92, b64, H65⟩ := bind_inv H63
                try simp -implicitDefEqProofs only [go_sem, Bool.false_and, Nat.reduceEqDiff, Nat.reduceAdd, ↓reduceIte]
                refine onCall_pureA (by first | rfl | (simp -implicitDefEqProofs only [go_sem, Bool.false_and, Int.reduceToNat, Int.reduceLT, Int.reduceLE, Int.reduceBEq, Int.reduceBNe, Nat.reduceLT, Nat.reduceBEq, Int.reduceEq, Nat.reduceEqDiff, Nat.reduceAdd, Nat.reduceSub, Nat.reduceMul, Nat.reduceLeDiff, reduceCtorEq, ↓reduceIte, eGEntry, eGFile, c60]; done) | (simp -implicitDefEqProofs only [go_sem, Bool.false_and, Int.reduceToNat, Int.reduceLT, Int.reduceLE, Int.reduceBEq, Int.reduceBNe, Nat.reduceLT, Nat.reduceBEq, Int.reduceEq, Nat.reduceEqDiff, Nat.reduceAdd, Nat.reduceSub, Nat.reduceMul, Nat.reduceLeDiff, reduceCtorEq, ↓reduceIte, eGEntry, eGFile, c60]; rfl)) (PureA.of_pure (law20_PermFirst_c1_ok b64)) (by first | exact .inr rfl | exact .inl rfl) ?_
                obtain ⟨t95, b66, H67⟩ := bind_inv H65
                try simp -implicitDefEqProofs only [go_sem, Bool.false_and, Nat.reduceEqDiff, Nat.reduceAdd, ↓reduceIte]
                refine onCall_pureA (by first | rfl | (simp -implicitDefEqProofs only [go_sem, Bool.false_and, Int.reduceToNat, Int.reduceLT, Int.reduceLE, Int.reduceBEq, Int.reduceBNe, Nat.reduceLT, Nat.reduceBEq, Int.reduceEq, Nat.reduceEqDiff, Nat.reduceAdd, Nat.reduceSub, Nat.reduceMul, Nat.reduceLeDiff, reduceCtorEq, ↓reduceIte, eGEntry, eGFile, c60]; done) | (simp -implicitDefEqProofs only [go_sem, Bool.false_and, Int.reduceToNat, Int.reduceLT, Int.reduceLE, Int.reduceBEq, Int.reduceBNe, Nat.reduceLT, Nat.reduceBEq, Int.reduceEq, Nat.reduceEqDiff, Nat.reduceAdd, Nat.reduceSub, Nat.reduceMul, Nat.reduceLeDiff, reduceCtorEq, ↓reduceIte, eGEntry, eGFile, c60]; rfl)) (PureA.of_pure (law20_PermFirst_c1_ok b66)) (by first | exact .inr rfl | exact .inl rfl) ?_
                try simp -implicitDefEqProofs only [go_sem, Bool.false_and, Nat.reduceEqDiff, Nat.reduceAdd, ↓reduceIte]
                obtain rfl := Option.some.inj H67
                exact ⟨⟨(IntKind.i64.wrap (an (IntKind.i64.wrap ((BitVec.ofInt IntKind.i64.bits t90 ||| BitVec.ofInt IntKind.i64.bits t92).toNat : Int)) t95 : Int)), rfl⟩, ren_mk [(0, 1)] (by rfl) (rf_upd (by rfl) (rf_upd (by rfl) (rf_upd (by rfl) (rf_no _)))) (rh_upd (rh_one (by rfl) (by rfl) (by rfl)) (rh_no _))⟩
              · refine runR_condF (by rfl) c60 ?_
                try simp -implicitDefEqProofs only [go_sem, c60]
                refine runR_seq ?_
                obtain ⟨e_5, E68, H69⟩ := bind_inv H61
                refine runR_join (α := { y : Bool // e_5 = y }) (fun | ⟨t97, _⟩ => ⟨upd 5 (.fn 4 [.pt 0 0]) (upd 7 (.so 1 0 0 (t72.length)) (upd 9 (.v (.bool t9)) (upd 10 (.v (.string x2)) (upd 11 (.v (.int .i64 t66)) (upd 97 (.v (.bool t97)) noFr))))), upd 0 (some (.bx [.v (.int .i64 t0)])) (upd 1 (some (.rw (List.map eGFile t72) 7 0 false false)) noHp), 2⟩) ?_ ?_
                · refine runR_take tab_ok fol 1 ?_
                  try simp -implicitDefEqProofs only [go_sem, Nat.reduceEqDiff, Nat.reduceAdd, ↓reduceIte]
                  rcases ite_inv E68 with ⟨c70, H71⟩ | ⟨c70, H71⟩
                  · try simp -implicitDefEqProofs only [go_sem, Nat.reduceEqDiff, Nat.reduceAdd, ↓reduceIte, c70]
                    obtain rfl := Option.some.inj H71
                    exact ⟨⟨t82, rfl⟩, ren_mk [(0, 0), (1, 1)] (by rfl) (rf_upd (by rfl) (rf_upd (by rfl) (rf_upd (by rfl) (rf_upd (by rfl) (rf_upd (by rfl) (rf_upd (by rfl) (rf_no _))))))) (rh_upd (rh_one (by rfl) (by rfl) (by rfl)) (rh_upd (rh_one (by rfl) (by rfl) (by rfl)) (rh_no _)))⟩
                  · try simp -implicitDefEqProofs only [go_sem, Nat.reduceEqDiff, Nat.reduceAdd, ↓reduceIte, c70]
                    obtain rfl := Option.some.inj H71
                    exact ⟨⟨false, rfl⟩, ren_mk [(0, 0), (1, 1)] (by rfl) (rf_upd (by rfl) (rf_upd (by rfl) (rf_upd (by rfl) (rf_upd (by rfl) (rf_upd (by rfl) (rf_upd (by rfl) (rf_no _))))))) (rh_upd (rh_one (by rfl) (by rfl) (by rfl)) (rh_upd (rh_one (by rfl) (by rfl) (by rfl)) (rh_no _)))⟩
                · rintro ⟨t97, he89⟩
                  replace he89 := he89.symm
                  subst he89
                  try dsimp only at H69
                  rcases ite_inv H69 with ⟨c72, H73⟩ | ⟨c72, H73⟩
                  · refine runR_condT (by rfl) c72 ?_
                    try simp -implicitDefEqProofs only [go_sem, c72]
                    refine runR_take tab_ok fol 2 ?_
                    obtain ⟨t104, b74, H75⟩ := bind_inv H73
                    try simp -implicitDefEqProofs only [go_sem, Nat.reduceAdd, ↓reduceIte]
                    refine onCall_pureA (by first | rfl | (simp -implicitDefEqProofs only [go_sem, Bool.false_and, Int.reduceToNat, Int.reduceLT, Int.reduceLE, Int.reduceBEq, Int.reduceBNe, Nat.reduceLT, Nat.reduceBEq, Int.reduceEq, Nat.reduceEqDiff, Nat.reduceAdd, Nat.reduceSub, Nat.reduceMul, Nat.reduceLeDiff, reduceCtorEq, ↓reduceIte, eGEntry, eGFile, c72]; done) | (simp -implicitDefEqProofs only [go_sem, Bool.false_and, Int.reduceToNat, Int.reduceLT, Int.reduceLE, Int.reduceBEq, Int.reduceBNe, Nat.reduceLT, Nat.reduceBEq, Int.reduceEq, Nat.reduceEqDiff, Nat.reduceAdd, Nat.reduceSub, Nat.reduceMul, Nat.reduceLeDiff, reduceCtorEq, ↓reduceIte, eGEntry, eGFile, c72]; rfl)) (PureA.of_pure (law20_PermFirst_c1_ok b74)) (by first | exact .inr rfl | exact .inl rfl) ?_
                    obtain ⟨t106, b76, H77⟩ := bind_inv H75
                    try simp -implicitDefEqProofs only [go_sem, Bool.false_and, Nat.reduceEqDiff, Nat.reduceAdd, ↓reduceIte]
                    refine onCall_pureA (by first | rfl | (simp -implicitDefEqProofs only [go_sem, Bool.false_and, Int.reduceToNat, Int.reduceLT, Int.reduceLE, Int.reduceBEq, Int.reduceBNe, Nat.reduceLT, Nat.reduceBEq, Int.reduceEq, Nat.reduceEqDiff, Nat.reduceAdd, Nat.reduceSub, Nat.reduceMul, Nat.reduceLeDiff, reduceCtorEq, ↓reduceIte, eGEntry, eGFile, c72]; done) | (simp -implicitDefEqProofs only [go_sem, Bool.false_and, Int.reduceToNat, Int.reduceLT, Int.reduceLE, Int.reduceBEq, Int.reduceBNe, Nat.reduceLT, Nat.reduceBEq, Int.reduceEq, Nat.reduceEqDiff, Nat.reduceAdd, Nat.reduceSub, Nat.reduceMul, Nat.reduceLeDiff, reduceCtorEq, ↓reduceIte, eGEntry, eGFile, c72]; rfl)) (PureA.of_pure (law20_PermFirst_c1_ok b76)) (by first | exact .inr rfl | exact .inl rfl) ?_
                    try simp -implicitDefEqProofs only [go_sem, Bool.false_and, Nat.reduceEqDiff, Nat.reduceAdd, ↓reduceIte]
                    obtain rfl := Option.some.inj H77
                    exact ⟨⟨(IntKind.i64.wrap (an t104 t106 : Int)), rfl⟩, ren_mk [(0, 1)] (by rfl) (rf_upd (by rfl) (rf_upd (by rfl) (rf_upd (by rfl) (rf_no _)))) (rh_upd (rh_one (by rfl) (by rfl) (by rfl)) (rh_no _))⟩
                  · refine runR_condF (by rfl) c72 ?_
                    try simp -implicitDefEqProofs only [go_sem, c72]
                    refine runR_seq ?_
                    obtain ⟨e_6, E78, H79⟩ := bind_inv H73
                    refine runR_join (α := { y : Bool // e_6 = y }) (fun | ⟨t108, _⟩ => ⟨upd 5 (.fn 4 [.pt 0 0]) (upd 7 (.so 1 0 0 (t72.length)) (upd 10 (.v (.string x2)) (upd 11 (.v (.int .i64 t66)) (upd 108 (.v (.bool t108)) noFr)))), upd 0 (some (.bx [.v (.int .i64 t0)])) (upd 1 (some (.rw (List.map eGFile t72) 7 0 false false)) noHp), 2⟩) ?_ ?_
                    · refine runR_take tab_ok fol 1 ?_
                      try simp -implicitDefEqProofs only [go_sem, Nat.reduceEqDiff, Nat.reduceAdd, ↓reduceIte]
                      rcases ite_inv E78 with ⟨c80, H81⟩ | ⟨c80, H81⟩
                      · try simp -implicitDefEqProofs only [go_sem, Nat.reduceEqDiff, Nat.reduceAdd, ↓reduceIte, c80]
                        obtain rfl := Option.some.inj H81
                        exact ⟨⟨t9, rfl⟩, ren_mk [(0, 0), (1, 1)] (by rfl) (rf_upd (by rfl) (rf_upd (by rfl) (rf_upd (by rfl) (rf_upd (by rfl) (rf_upd (by rfl) (rf_no _)))))) (rh_upd (rh_one (by rfl) (by rfl) (by rfl)) (rh_upd (rh_one (by rfl) (by rfl) (by rfl)) (rh_no _)))⟩
                      · try simp -implicitDefEqProofs only [go_sem, Nat.reduceEqDiff, Nat.reduceAdd, ↓reduceIte, c80]
                        obtain rfl := Option.some.inj H81
                        exact ⟨⟨false, rfl⟩, ren_mk [(0, 0), (1, 1)] (by rfl) (rf_upd (by rfl) (rf_upd (by rfl) (rf_upd (by rfl) (rf_upd (by rfl) (rf_upd (by rfl) (rf_no _)))))) (rh_upd (rh_one (by rfl) (by rfl) (by rfl)) (rh_upd (rh_one (by rfl) (by rfl) (by rfl)) (rh_no _)))⟩
                    · rintro ⟨t108, he88⟩
                      replace he88 := he88.symm
                      subst he88
                      try dsimp only at H79
                      refine runR_take tab_ok fol 2 ?_
                      try simp -implicitDefEqProofs only [go_sem, Nat.reduceEqDiff, ↓reduceIte]
                      rcases ite_inv H79 with ⟨c82, H83⟩ | ⟨c82, H83⟩
                      · obtain ⟨t115, b84, H85⟩ := bind_inv H83
                        try simp -implicitDefEqProofs only [go_sem, Nat.reduceAdd, ↓reduceIte, c82]
                        refine onCall_pureA (by first | rfl | (simp -implicitDefEqProofs only [go_sem, Bool.false_and, Int.reduceToNat, Int.reduceLT, Int.reduceLE, Int.reduceBEq, Int.reduceBNe, Nat.reduceLT, Nat.reduceBEq, Int.reduceEq, Nat.reduceEqDiff, Nat.reduceAdd, Nat.reduceSub, Nat.reduceMul, Nat.reduceLeDiff, reduceCtorEq, ↓reduceIte, eGEntry, eGFile, c82]; done) | (simp -implicitDefEqProofs only [go_sem, Bool.false_and, Int.reduceToNat, Int.reduceLT, Int.reduceLE, Int.reduceBEq, Int.reduceBNe, Nat.reduceLT, Nat.reduceBEq, Int.reduceEq, Nat.reduceEqDiff, Nat.reduceAdd, Nat.reduceSub, Nat.reduceMul, Nat.reduceLeDiff, reduceCtorEq, ↓reduceIte, eGEntry, eGFile, c82]; rfl)) (PureA.of_pure (law20_PermFirst_c1_ok b84)) (by first | exact .inr rfl | exact .inl rfl) ?_
                        obtain ⟨t117, b86, H87⟩ := bind_inv H85
                        try simp -implicitDefEqProofs only [go_sem, Bool.false_and, Nat.reduceEqDiff, Nat.reduceAdd, ↓reduceIte]
                        refine onCall_pureA (by first | rfl | (simp -implicitDefEqProofs only [go_sem, Bool.false_and, Int.reduceToNat, Int.reduceLT, Int.reduceLE, Int.reduceBEq, Int.reduceBNe, Nat.reduceLT, Nat.reduceBEq, Int.reduceEq, Nat.reduceEqDiff, Nat.reduceAdd, Nat.reduceSub, Nat.reduceMul, Nat.reduceLeDiff, reduceCtorEq, ↓reduceIte, eGEntry, eGFile, c82]; done) | (simp -implicitDefEqProofs only [go_sem, Bool.false_and, Int.reduceToNat, Int.reduceLT, Int.reduceLE, Int.reduceBEq, Int.reduceBNe, Nat.reduceLT, Nat.reduceBEq, Int.reduceEq, Nat.reduceEqDiff, Nat.reduceAdd, Nat.reduceSub, Nat.reduceMul, Nat.reduceLeDiff, reduceCtorEq, ↓reduceIte, eGEntry, eGFile, c82]; rfl)) (PureA.of_pure (law20_PermFirst_c1_ok b86)) (by first | exact .inr rfl | exact .inl rfl) ?_
                        try simp -implicitDefEqProofs only [go_sem, Bool.false_and, Nat.reduceEqDiff, Nat.reduceAdd, ↓reduceIte]
                        obtain rfl := Option.some.inj H87
                        exact ⟨⟨(IntKind.i64.wrap (an t115 t117 : Int)), rfl⟩, ren_mk [(0, 1)] (by rfl) (rf_upd (by rfl) (rf_upd (by rfl) (rf_upd (by rfl) (rf_no _)))) (rh_upd (rh_one (by rfl) (by rfl) (by rfl)) (rh_no _))⟩
                      · try simp -implicitDefEqProofs only [go_sem, c82]
                        obtain rfl := Option.some.inj H83
                        exact ⟨⟨t66, rfl⟩, ren_mk [(0, 1)] (by rfl) (rf_upd (by rfl) (rf_upd (by rfl) (rf_upd (by rfl) (rf_no _)))) (rh_upd (rh_one (by rfl) (by rfl) (by rfl)) (rh_no _))⟩
      · rintro ⟨t11, he119⟩
        replace he119 := he119.symm
        subst he119
        try dsimp only at H43
        refine runR_seq ?_
        refine runR_seq ?_
        refine runR_take tab_ok fol 1 ?_
        try simp -implicitDefEqProofs only [go_sem, Nat.reduceAdd]
        obtain ⟨e_7, E91, H92⟩ := bind_inv H43
        refine runR_join (α := { y : Unit // e_7 = .inl y }) (fun | ⟨_, _⟩ => ⟨upd 7 (.so 0 0 0 (t72.length)) noFr, upd 0 (some (.rw (List.map eGFile t72) 7 0 false false)) noHp, 1⟩) ?_ ?_
        · refine runR_block ?_
          refine runR_loop (α := { q : Nat × Int // law20_PermFirst_L1 n t72 x2 t11 q.1 q.2 = some e_7 }) (fun | ⟨⟨c, t12⟩, _⟩ => ⟨upd 7 (.so 0 0 0 (t72.length)) (upd 10 (.v (.string x2)) (upd 11 (.v (.int .i64 t11)) (upd 12 (.v (.int .i64 t12)) noFr))), upd 0 (some (.rw (List.map eGFile t72) 7 0 false false)) noHp, 1⟩) (fun q => q.1.1) ⟨(n, 1), E91⟩ ?_ ?_
          · exact ren_mk [(0, 0)] (by rfl) (rf_upd (by rfl) (rf_upd (by rfl) (rf_upd (by rfl) (rf_upd (by rfl) (rf_no _))))) (rh_upd (rh_one (by rfl) (by rfl) (by rfl)) (rh_no _))
          · rintro ⟨⟨c, t12⟩, L93⟩
            rcases c with _ | c
            · exact nomatch (show none = some _ from L93)
            · unfold law20_PermFirst_L1 at L93
              try dsimp only at L93
              refine runR_take tab_ok fol 1 ?_
              try simp -implicitDefEqProofs only [go_sem, Nat.reduceEqDiff, Nat.reduceAdd, ↓reduceIte]
              rcases ite_inv L93 with ⟨c102, H103⟩ | ⟨c102, H103⟩
              · obtain ⟨t1262, b104, H105⟩ := bind_inv H103
                try simp -implicitDefEqProofs only [go_sem, Nat.reduceEqDiff, Nat.reduceAdd, ↓reduceIte, c102]
                refine onCall_pure (by first | rfl | (simp -implicitDefEqProofs only [go_sem, ↓reduceIte]; done) | (simp -implicitDefEqProofs only [go_sem, ↓reduceIte]; rfl)) (perm_Can_ok b104) (by first | exact .inr rfl | exact .inl rfl) ?_
                try simp -implicitDefEqProofs only [go_sem, Bool.false_and, Nat.reduceEqDiff, Nat.reduceAdd, ↓reduceIte]
                rcases ite_inv H105 with ⟨c106, H107⟩ | ⟨c106, H107⟩
                · obtain ⟨t1362, b108, H109⟩ := bind_inv H107
                  try simp -implicitDefEqProofs only [go_sem, Nat.reduceEqDiff, Nat.reduceAdd, ↓reduceIte, c106]
                  refine onCall_pure (by first | rfl | (simp -implicitDefEqProofs only [go_sem, ↓reduceIte]; done) | (simp -implicitDefEqProofs only [go_sem, ↓reduceIte]; rfl)) (perm_May_ok b108) (by first | exact .inr rfl | exact .inl rfl) ?_
                  try simp -implicitDefEqProofs only [go_sem, Bool.false_and, Nat.reduceEqDiff, Nat.reduceAdd, ↓reduceIte]
                  rcases ite_inv H109 with ⟨c110, H111⟩ | ⟨c110, H111⟩
                  · try simp -implicitDefEqProofs only [go_sem, Nat.reduceEqDiff, Nat.reduceAdd, ↓reduceIte, c110]
                    exact ⟨⟨(c, (IntKind.i64.wrap (2 * t12))), H111⟩, ren_mk [(0, 0)] (by rfl) (rf_upd (by rfl) (rf_upd (by rfl) (rf_upd (by rfl) (rf_upd (by rfl) (rf_no _))))) (rh_upd (rh_one (by rfl) (by rfl) (by rfl)) (rh_no _)), Nat.lt_succ_self _⟩
                  · try simp -implicitDefEqProofs only [go_sem, Nat.reduceAdd, c110]
                    obtain rfl := Option.some.inj H111
                    obtain rfl := Option.some.inj H92
                    exact end_pure (by first | (simp -implicitDefEqProofs only [go_sem, ↓reduceIte, Tryd.f3] <;> rfl) | rfl) (by first | rfl | (simp -implicitDefEqProofs only [go_sem, Bool.false_and, Int.reduceToNat, Int.reduceLT, Int.reduceLE, Int.reduceBEq, Int.reduceBNe, Nat.reduceLT, Nat.reduceBEq, Int.reduceEq, Nat.reduceEqDiff, Nat.reduceAdd, Nat.reduceSub, Nat.reduceMul, Nat.reduceLeDiff, reduceCtorEq, ↓reduceIte, eGEntry, eGFile, c102, c106, c110]; done) | (simp -implicitDefEqProofs only [go_sem, Bool.false_and, Int.reduceToNat, Int.reduceLT, Int.reduceLE, Int.reduceBEq, Int.reduceBNe, Nat.reduceLT, Nat.reduceBEq, Int.reduceEq, Nat.reduceEqDiff, Nat.reduceAdd, Nat.reduceSub, Nat.reduceMul, Nat.reduceLeDiff, reduceCtorEq, ↓reduceIte, eGEntry, eGFile, c102, c106, c110]; rfl)) rfl (by intro h; first | rfl | cases h)
                · try simp -implicitDefEqProofs only [go_sem, Nat.reduceEqDiff, Nat.reduceAdd, ↓reduceIte, c106]
                  obtain rfl := Option.some.inj H107
                  obtain rfl := Option.some.inj H92
                  exact end_pure (by first | (simp -implicitDefEqProofs only [go_sem, ↓reduceIte, Tryd.f3] <;> rfl) | rfl) (by first | rfl | (simp -implicitDefEqProofs only [go_sem, Bool.false_and, Int.reduceToNat, Int.reduceLT, Int.reduceLE, Int.reduceBEq, Int.reduceBNe, Nat.reduceLT, Nat.reduceBEq, Int.reduceEq, Nat.reduceEqDiff, Nat.reduceAdd, Nat.reduceSub, Nat.reduceMul, Nat.reduceLeDiff, reduceCtorEq, ↓reduceIte, eGEntry, eGFile, c102, c106]; done) | (simp -implicitDefEqProofs only [go_sem, Bool.false_and, Int.reduceToNat, Int.reduceLT, Int.reduceLE, Int.reduceBEq, Int.reduceBNe, Nat.reduceLT, Nat.reduceBEq, Int.reduceEq, Nat.reduceEqDiff, Nat.reduceAdd, Nat.reduceSub, Nat.reduceMul, Nat.reduceLeDiff, reduceCtorEq, ↓reduceIte, eGEntry, eGFile, c102, c106]; rfl)) rfl (by intro h; first | rfl | cases h)
              · try simp -implicitDefEqProofs only [go_sem, ↓reduceIte, c102]
                obtain rfl := Option.some.inj H103
                exact ⟨⟨(), rfl⟩, ren_mk [(0, 0)] (by rfl) (rf_upd (by rfl) (rf_no _)) (rh_upd (rh_one (by rfl) (by rfl) (by rfl)) (rh_no _))⟩
        · rintro ⟨_, he118⟩
          replace he118 := he118.symm
          subst he118
          try dsimp only at H92
          refine runR_take tab_ok fol 1 ?_
          obtain ⟨t144, b112, H113⟩ := bind_inv H92
          try simp -implicitDefEqProofs only [go_sem, Nat.reduceAdd, ↓reduceIte]
          refine onCall_pure (by first | rfl | (simp -implicitDefEqProofs only [go_sem, ↓reduceIte]; done) | (simp -implicitDefEqProofs only [go_sem, ↓reduceIte]; rfl)) (perm_Can_ok b112) (by first | exact .inr rfl | exact .inl rfl) ?_
          try simp -implicitDefEqProofs only [go_sem, Bool.false_and, Nat.reduceAdd, ↓reduceIte]
          rcases ite_inv H113 with ⟨c114, H115⟩ | ⟨c114, H115⟩
          · try simp -implicitDefEqProofs only [go_sem, Nat.reduceEqDiff, Nat.reduceAdd, ↓reduceIte, c114]
            obtain rfl := Option.some.inj H115
            exact end_pure (by first | (simp -implicitDefEqProofs only [go_sem, ↓reduceIte, Tryd.f3] <;> rfl) | rfl) (by first | rfl | (simp -implicitDefEqProofs only [go_sem, Bool.false_and, Int.reduceToNat, Int.reduceLT, Int.reduceLE, Int.reduceBEq, Int.reduceBNe, Nat.reduceLT, Nat.reduceBEq, Int.reduceEq, Nat.reduceEqDiff, Nat.reduceAdd, Nat.reduceSub, Nat.reduceMul, Nat.reduceLeDiff, reduceCtorEq, ↓reduceIte, eGEntry, eGFile, c114]; done) | (simp -implicitDefEqProofs only [go_sem, Bool.false_and, Int.reduceToNat, Int.reduceLT, Int.reduceLE, Int.reduceBEq, Int.reduceBNe, Nat.reduceLT, Nat.reduceBEq, Int.reduceEq, Nat.reduceEqDiff, Nat.reduceAdd, Nat.reduceSub, Nat.reduceMul, Nat.reduceLeDiff, reduceCtorEq, ↓reduceIte, eGEntry, eGFile, c114]; rfl)) rfl (by intro h; first | rfl | cases h)
          · obtain ⟨t147, b116, H117⟩ := bind_inv H115
            try simp -implicitDefEqProofs only [go_sem, Nat.reduceAdd, ↓reduceIte, c114]
            refine onCall_pure (by first | rfl | (simp -implicitDefEqProofs only [go_sem, Bool.false_and, Int.reduceToNat, Int.reduceLT, Int.reduceLE, Int.reduceBEq, Int.reduceBNe, Nat.reduceLT, Nat.reduceBEq, Int.reduceEq, Nat.reduceEqDiff, Nat.reduceAdd, Nat.reduceSub, Nat.reduceMul, Nat.reduceLeDiff, reduceCtorEq, ↓reduceIte, eGEntry, eGFile, c114]; done) | (simp -implicitDefEqProofs only [go_sem, Bool.false_and, Int.reduceToNat, Int.reduceLT, Int.reduceLE, Int.reduceBEq, Int.reduceBNe, Nat.reduceLT, Nat.reduceBEq, Int.reduceEq, Nat.reduceEqDiff, Nat.reduceAdd, Nat.reduceSub, Nat.reduceMul, Nat.reduceLeDiff, reduceCtorEq, ↓reduceIte, eGEntry, eGFile, c114]; rfl)) (law20_awake_ok b116) (by first | exact .inr rfl | exact .inl rfl) ?_
            try simp -implicitDefEqProofs only [go_sem, Bool.false_and, Nat.reduceEqDiff, Nat.reduceAdd, ↓reduceIte]
            obtain rfl := Option.some.inj H117
            exact end_pure (by first | (simp -implicitDefEqProofs only [go_sem, ↓reduceIte, Tryd.f3] <;> rfl) | rfl) (by first | rfl | (simp -implicitDefEqProofs only [go_sem, Bool.false_and, Int.reduceToNat, Int.reduceLT, Int.reduceLE, Int.reduceBEq, Int.reduceBNe, Nat.reduceLT, Nat.reduceBEq, Int.reduceEq, Nat.reduceEqDiff, Nat.reduceAdd, Nat.reduceSub, Nat.reduceMul, Nat.reduceLeDiff, reduceCtorEq, ↓reduceIte, eGEntry, eGFile, c114]; done) | (simp -implicitDefEqProofs only [go_sem, Bool.false_and, Int.reduceToNat, Int.reduceLT, Int.reduceLE, Int.reduceBEq, Int.reduceBNe, Nat.reduceLT, Nat.reduceBEq, Int.reduceEq, Nat.reduceEqDiff, Nat.reduceAdd, Nat.reduceSub, Nat.reduceMul, Nat.reduceLeDiff, reduceCtorEq, ↓reduceIte, eGEntry, eGFile, c114]; rfl)) rfl (by intro h; first | rfl | cases h)
end Go.Proofs.YthnejfmbglbpgaaDoor.Ab
