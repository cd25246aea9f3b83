/-
  Functions, read off the code.
-/
import Derived.Test.YtkkhgdmmbhpckaaGtb
namespace Go.Proofs.Ytkkhgdmmbhpckaa.Ab
open Go.RowKit
def law23_Small_L1 (n : Nat) (t0 : GPolicy) : Nat → (Int × Int) → Option (Int)
  | 0, _ => none
  | c + 1, (t1, i) =>
    (if (decide (i < (t0.users.length : Int))) then
      (if (decide (i < 40)) then
        (idx t0.users i).bind fun x2 =>
        law23_Small_L1 n t0 c ((IntKind.i64.wrap ((IntKind.i64.wrap (t1 + 1)) + (IntKind.i64.wrap (Int.tdiv (x2.size : Int) 10)))), (IntKind.i64.wrap (i + 1)))
      else
        some t1)
    else
      some t1)

def law23_Small_C1_law23_Small_c1 (n : Nat) (t0 : GPolicy) : Option Int :=
  (
    law23_Small_L1 n t0 n (0, 0) : Option (Int)).bind fun t13 =>
  some (IntKind.i64.wrap (t13 + (t0.users.length : Int)))

def law23_Small_L2 (n : Nat) (t0 : GPolicy) : Nat → (Int × Int) → Option (Int)
  | 0, _ => none
  | c + 1, (t14, i3) =>
    (if (decide (i3 < (t0.actions.length : Int))) then
      (if (decide (i3 < 40)) then
        (idx t0.actions i3).bind fun x4 =>
        law23_Small_L2 n t0 c ((IntKind.i64.wrap ((IntKind.i64.wrap (t14 + 1)) + (IntKind.i64.wrap (Int.tdiv (x4.size : Int) 10)))), (IntKind.i64.wrap (i3 + 1)))
      else
        some t14)
    else
      some t14)

def law23_Small_C2_law23_Small_c1 (n : Nat) (t0 : GPolicy) (o1 : Int) : Option Int :=
  (
    law23_Small_L2 n t0 n (o1, 0) : Option (Int)).bind fun t16 =>
  some (IntKind.i64.wrap (t16 + (t0.actions.length : Int)))

def law23_Small_L3 (n : Nat) (t0 : GPolicy) : Nat → (Int × Int) → Option (Int)
  | 0, _ => none
  | c + 1, (t17, i5) =>
    (if (decide (i5 < (t0.resources.length : Int))) then
      (if (decide (i5 < 40)) then
        (idx t0.resources i5).bind fun x6 =>
        law23_Small_L3 n t0 c ((IntKind.i64.wrap ((IntKind.i64.wrap (t17 + 1)) + (IntKind.i64.wrap (Int.tdiv (x6.size : Int) 10)))), (IntKind.i64.wrap (i5 + 1)))
      else
        some t17)
    else
      some t17)

def law23_Small_C3_law23_Small_c1 (n : Nat) (t0 : GPolicy) (o12 : Int) : Option Int :=
  (
    law23_Small_L3 n t0 n (o12, 0) : Option (Int)).bind fun t19 =>
  some (IntKind.i64.wrap (t19 + (t0.resources.length : Int)))

def law23_Small_L5 (n : Nat) (l2 : List ByteArray) : Nat → (Int × Int) → Option (Int)
  | 0, _ => none
  | c + 1, (t113, i9) =>
    (if (decide (i9 < (l2.length : Int))) then
      (if (decide (i9 < 40)) then
        (idx l2 i9).bind fun x12 =>
        law23_Small_L5 n l2 c ((IntKind.i64.wrap ((IntKind.i64.wrap (t113 + 1)) + (IntKind.i64.wrap (Int.tdiv (x12.size : Int) 10)))), (IntKind.i64.wrap (i9 + 1)))
      else
        some t113)
    else
      some t113)

def law23_Small_C4_law23_Small_c1 (n : Nat) (t3 : Int) (l2 : List ByteArray) : Option Int :=
  (
    law23_Small_L5 n l2 n (t3, 0) : Option (Int)).bind fun t115 =>
  some (IntKind.i64.wrap (t115 + (l2.length : Int)))

def law23_Small_L4 (n : Nat) (t0 : GPolicy) : Nat → (Int × Int) → Option (Int)
  | 0, _ => none
  | c + 1, (t3, t5) =>
    (if (decide (t5 < (t0.groups.length : Int))) then
      (idx t0.groups t5).bind fun x10 =>
      (app [x10.name] x10.users).bind fun l2 =>
      (law23_Small_C4_law23_Small_c1 n t3 l2 : Option Int).bind fun o15 =>
      law23_Small_L4 n t0 c (o15, (IntKind.i64.wrap (t5 + 1)))
    else
      some t3)
def law23_Small_L4_f (n : Nat) (_ : GPolicy) (st : Int) (x10 : GGroup) (k : Int → Option (Int)) : Option (Int) :=
  match st with
  | t3 =>
    (app [x10.name] x10.users).bind fun l2 =>
    (law23_Small_C4_law23_Small_c1 n t3 l2 : Option Int).bind fun o15 =>
    k o15
def law23_Small_L4_e (_ : Nat) (_ : GPolicy) (st : Int) : Option (Int) :=
  match st with
  | t3 => some t3
theorem law23_Small_L4_list (n : Nat) (t0 : GPolicy) (hx : t0.groups.length < 4611686018427387904) (c : Nat) (st : Int) (ix : Nat) (hi : ix ≤ t0.groups.length) (hc : t0.groups.length - ix < c) : law23_Small_L4 n t0 c (match st, (ix : Int) with | t3, ix => (t3, ix)) = foldK (law23_Small_L4_f n t0) (law23_Small_L4_e n t0) (t0.groups.drop ix) st :=
  loop_list (fun c st ix => law23_Small_L4 n t0 c (match st, ix with | t3, ix => (t3, ix))) t0.groups (law23_Small_L4_f n t0) (law23_Small_L4_e n t0) (fun _ _ _ => rfl) hx c st ix hi hc

def law23_Small_L7 (n : Nat) (x23 : GStmt) : Nat → (Int × Int) → Option (Int)
  | 0, _ => none
  | c + 1, (t131, i21) =>
    (if (decide (i21 < 1)) then
      (if (decide (i21 < 40)) then
        (idx [x23.sid] i21).bind fun x24 =>
        law23_Small_L7 n x23 c ((IntKind.i64.wrap ((IntKind.i64.wrap (t131 + 1)) + (IntKind.i64.wrap (Int.tdiv (x24.size : Int) 10)))), (IntKind.i64.wrap (i21 + 1)))
      else
        some t131)
    else
      some t131)

def law23_Small_C5_law23_Small_c1 (n : Nat) (t34 : Int) (x23 : GStmt) : Option Int :=
  (
    law23_Small_L7 n x23 n (t34, 0) : Option (Int)).bind fun t133 =>
  some (IntKind.i64.wrap (t133 + 1))

def law23_Small_L8 (n : Nat) (x23 : GStmt) : Nat → (Int × Int) → Option (Int)
  | 0, _ => none
  | c + 1, (t134, i23) =>
    (if (decide (i23 < (x23.users.length : Int))) then
      (if (decide (i23 < 40)) then
        (idx x23.users i23).bind fun x26 =>
        law23_Small_L8 n x23 c ((IntKind.i64.wrap ((IntKind.i64.wrap (t134 + 1)) + (IntKind.i64.wrap (Int.tdiv (x26.size : Int) 10)))), (IntKind.i64.wrap (i23 + 1)))
      else
        some t134)
    else
      some t134)

def law23_Small_C6_law23_Small_c1 (n : Nat) (x23 : GStmt) (o111 : Int) : Option Int :=
  (
    law23_Small_L8 n x23 n (o111, 0) : Option (Int)).bind fun t136 =>
  some (IntKind.i64.wrap (t136 + (x23.users.length : Int)))

def law23_Small_L9 (n : Nat) (x23 : GStmt) : Nat → (Int × Int) → Option (Int)
  | 0, _ => none
  | c + 1, (t137, i25) =>
    (if (decide (i25 < (x23.groups.length : Int))) then
      (if (decide (i25 < 40)) then
        (idx x23.groups i25).bind fun x28 =>
        law23_Small_L9 n x23 c ((IntKind.i64.wrap ((IntKind.i64.wrap (t137 + 1)) + (IntKind.i64.wrap (Int.tdiv (x28.size : Int) 10)))), (IntKind.i64.wrap (i25 + 1)))
      else
        some t137)
    else
      some t137)

def law23_Small_C7_law23_Small_c1 (n : Nat) (x23 : GStmt) (o112 : Int) : Option Int :=
  (
    law23_Small_L9 n x23 n (o112, 0) : Option (Int)).bind fun t139 =>
  some (IntKind.i64.wrap (t139 + (x23.groups.length : Int)))

def law23_Small_L10 (n : Nat) (x23 : GStmt) : Nat → (Int × Int) → Option (Int)
  | 0, _ => none
  | c + 1, (t140, i27) =>
    (if (decide (i27 < (x23.actions.length : Int))) then
      (if (decide (i27 < 40)) then
        (idx x23.actions i27).bind fun x30 =>
        law23_Small_L10 n x23 c ((IntKind.i64.wrap ((IntKind.i64.wrap (t140 + 1)) + (IntKind.i64.wrap (Int.tdiv (x30.size : Int) 10)))), (IntKind.i64.wrap (i27 + 1)))
      else
        some t140)
    else
      some t140)

def law23_Small_C8_law23_Small_c1 (n : Nat) (x23 : GStmt) (o113 : Int) : Option Int :=
  (
    law23_Small_L10 n x23 n (o113, 0) : Option (Int)).bind fun t142 =>
  some (IntKind.i64.wrap (t142 + (x23.actions.length : Int)))

def law23_Small_L11 (n : Nat) (x23 : GStmt) : Nat → (Int × Int) → Option (Int)
  | 0, _ => none
  | c + 1, (t143, i29) =>
    (if (decide (i29 < (x23.resources.length : Int))) then
      (if (decide (i29 < 40)) then
        (idx x23.resources i29).bind fun x32 =>
        law23_Small_L11 n x23 c ((IntKind.i64.wrap ((IntKind.i64.wrap (t143 + 1)) + (IntKind.i64.wrap (Int.tdiv (x32.size : Int) 10)))), (IntKind.i64.wrap (i29 + 1)))
      else
        some t143)
    else
      some t143)

def law23_Small_C9_law23_Small_c1 (n : Nat) (x23 : GStmt) (o114 : Int) : Option Int :=
  (
    law23_Small_L11 n x23 n (o114, 0) : Option (Int)).bind fun t145 =>
  some (IntKind.i64.wrap (t145 + (x23.resources.length : Int)))

def law23_Small_L6 (n : Nat) (t0 : GPolicy) : Nat → (Int × Int) → Option (Int)
  | 0, _ => none
  | c + 1, (t34, t6) =>
    (if (decide (t6 < (t0.stmts.length : Int))) then
      (idx t0.stmts t6).bind fun x23 =>
      (law23_Small_C5_law23_Small_c1 n t34 x23 : Option Int).bind fun o111 =>
      (law23_Small_C6_law23_Small_c1 n x23 o111 : Option Int).bind fun o112 =>
      (law23_Small_C7_law23_Small_c1 n x23 o112 : Option Int).bind fun o113 =>
      (law23_Small_C8_law23_Small_c1 n x23 o113 : Option Int).bind fun o114 =>
      (law23_Small_C9_law23_Small_c1 n x23 o114 : Option Int).bind fun o115 =>
      law23_Small_L6 n t0 c (o115, (IntKind.i64.wrap (t6 + 1)))
    else
      some t34)
def law23_Small_L6_f (n : Nat) (_ : GPolicy) (st : Int) (x23 : GStmt) (k : Int → Option (Int)) : Option (Int) :=
  match st with
  | t34 =>
    (law23_Small_C5_law23_Small_c1 n t34 x23 : Option Int).bind fun o111 =>
    (law23_Small_C6_law23_Small_c1 n x23 o111 : Option Int).bind fun o112 =>
    (law23_Small_C7_law23_Small_c1 n x23 o112 : Option Int).bind fun o113 =>
    (law23_Small_C8_law23_Small_c1 n x23 o113 : Option Int).bind fun o114 =>
    (law23_Small_C9_law23_Small_c1 n x23 o114 : Option Int).bind fun o115 =>
    k o115
def law23_Small_L6_e (_ : Nat) (_ : GPolicy) (st : Int) : Option (Int) :=
  match st with
  | t34 => some t34
theorem law23_Small_L6_list (n : Nat) (t0 : GPolicy) (hx : t0.stmts.length < 4611686018427387904) (c : Nat) (st : Int) (ix : Nat) (hi : ix ≤ t0.stmts.length) (hc : t0.stmts.length - ix < c) : law23_Small_L6 n t0 c (match st, (ix : Int) with | t34, ix => (t34, ix)) = foldK (law23_Small_L6_f n t0) (law23_Small_L6_e n t0) (t0.stmts.drop ix) st :=
  loop_list (fun c st ix => law23_Small_L6 n t0 c (match st, ix with | t34, ix => (t34, ix))) t0.stmts (law23_Small_L6_f n t0) (law23_Small_L6_e n t0) (fun _ _ _ => rfl) hx c st ix hi hc

def law23_Small_L13 (n : Nat) (x41 : GBound) : Nat → (Int × Int) → Option (Int)
  | 0, _ => none
  | c + 1, (t155, i37) =>
    (if (decide (i37 < 1)) then
      (if (decide (i37 < 40)) then
        (idx [x41.user] i37).bind fun x42 =>
        law23_Small_L13 n x41 c ((IntKind.i64.wrap ((IntKind.i64.wrap (t155 + 1)) + (IntKind.i64.wrap (Int.tdiv (x42.size : Int) 10)))), (IntKind.i64.wrap (i37 + 1)))
      else
        some t155)
    else
      some t155)

def law23_Small_C10_law23_Small_c1 (n : Nat) (t37 : Int) (x41 : GBound) : Option Int :=
  (
    law23_Small_L13 n x41 n (t37, 0) : Option (Int)).bind fun t157 =>
  some (IntKind.i64.wrap (t157 + 1))

def law23_Small_L14 (n : Nat) (x43 : GBound) : Nat → (Int × Int) → Option (Int)
  | 0, _ => none
  | c + 1, (t158, i39) =>
    (if (decide (i39 < (x43.actions.length : Int))) then
      (if (decide (i39 < 40)) then
        (idx x43.actions i39).bind fun x45 =>
        law23_Small_L14 n x43 c ((IntKind.i64.wrap ((IntKind.i64.wrap (t158 + 1)) + (IntKind.i64.wrap (Int.tdiv (x45.size : Int) 10)))), (IntKind.i64.wrap (i39 + 1)))
      else
        some t158)
    else
      some t158)

def law23_Small_C11_law23_Small_c1 (n : Nat) (o119 : Int) (x43 : GBound) : Option Int :=
  (
    law23_Small_L14 n x43 n (o119, 0) : Option (Int)).bind fun t160 =>
  some (IntKind.i64.wrap (t160 + (x43.actions.length : Int)))

def law23_Small_L15 (n : Nat) (x46 : GBound) : Nat → (Int × Int) → Option (Int)
  | 0, _ => none
  | c + 1, (t161, i41) =>
    (if (decide (i41 < (x46.resources.length : Int))) then
      (if (decide (i41 < 40)) then
        (idx x46.resources i41).bind fun x48 =>
        law23_Small_L15 n x46 c ((IntKind.i64.wrap ((IntKind.i64.wrap (t161 + 1)) + (IntKind.i64.wrap (Int.tdiv (x48.size : Int) 10)))), (IntKind.i64.wrap (i41 + 1)))
      else
        some t161)
    else
      some t161)

def law23_Small_C12_law23_Small_c1 (n : Nat) (o120 : Int) (x46 : GBound) : Option Int :=
  (
    law23_Small_L15 n x46 n (o120, 0) : Option (Int)).bind fun t163 =>
  some (IntKind.i64.wrap (t163 + (x46.resources.length : Int)))

def law23_Small_L12 (n : Nat) (t0 : GPolicy) : Nat → (Int × Int) → Option (Int)
  | 0, _ => none
  | c + 1, (t37, t8) =>
    (if (decide (t8 < (t0.bounds.length : Int))) then
      (idx t0.bounds t8).bind fun x41 =>
      (law23_Small_C10_law23_Small_c1 n t37 x41 : Option Int).bind fun o119 =>
      (idx t0.bounds t8).bind fun x43 =>
      (law23_Small_C11_law23_Small_c1 n o119 x43 : Option Int).bind fun o120 =>
      (idx t0.bounds t8).bind fun x46 =>
      (law23_Small_C12_law23_Small_c1 n o120 x46 : Option Int).bind fun o121 =>
      law23_Small_L12 n t0 c (o121, (IntKind.i64.wrap (t8 + 1)))
    else
      some t37)

def law23_Small (n : Nat) (t0 : GPolicy) : Option Bool :=
  (
    (if (decide (10 < (t0.groups.length : Int))) then
      some true
    else
      (if (decide (10 < (t0.stmts.length : Int))) then
        some true
      else
        some (decide (10 < (t0.bounds.length : Int))))) : Option (Bool)).bind fun t25 =>
  (if t25 then
    some false
  else
    (law23_Small_C1_law23_Small_c1 n t0 : Option Int).bind fun o1 =>
    (law23_Small_C2_law23_Small_c1 n t0 o1 : Option Int).bind fun o12 =>
    (law23_Small_C3_law23_Small_c1 n t0 o12 : Option Int).bind fun o13 =>
    (
      law23_Small_L4 n t0 n (o13, 0) : Option (Int)).bind fun t33 =>
    (
      law23_Small_L6 n t0 n (t33, 0) : Option (Int)).bind fun t36 =>
    (
      law23_Small_L12 n t0 n (t36, 0) : Option (Int)).bind fun t39 =>
    some (decide (t39 < 200)))
set_option maxHeartbeats 8000000 in
theorem law23_Small_ok {n : Nat} {t0 : GPolicy} {r : Bool} (H : law23_Small n t0 = some r) : PureOK Try.prog 16 [D.ag (eGPolicy t0)] (D.v (.bool r)) true := by
  unfold law23_Small at H
  refine pure_runR (tab := tab) tab_ok Try.func16 rfl (by kernel_rfl) (by kernel_rfl) (by simp [Try.f16]) ?_
  refine runR_seq ?_
  refine runR_take tab_ok fol 1 ?_
  try simp -implicitDefEqProofs only [go_sem, Nat.reduceAdd, eGPolicy]
  refine runR_seq ?_
  refine runR_take tab_ok fol 1 ?_
  try simp -implicitDefEqProofs only [go_sem, Nat.reduceAdd, ↓reduceIte]
  refine runR_seq ?_
  refine runR_take tab_ok fol 1 ?_
  try simp -implicitDefEqProofs only [go_sem, Nat.reduceAdd, ↓reduceIte]
  refine runR_seq ?_
  refine runR_seq ?_
  obtain ⟨e_, E1, H2⟩ := bind_inv H
  refine runR_join (α := { y : Bool // e_ = y }) (fun | ⟨t25, _⟩ => ⟨upd 1 (.pt 0 0) (upd 3 (.pt 1 0) (upd 4 (.fn 45 [.pt 1 0]) (upd 25 (.v (.bool t25)) noFr))), upd 0 (some (.bx [.d (.sl (List.map eS t0.users)) true, .d (.sl (List.map eS t0.actions)) true, .d (.sl (List.map eS t0.resources)) true, .d (.sl (List.map eGGroup t0.groups)) true, .d (.sl (List.map eGStmt t0.stmts)) true, .d (.sl (List.map eGBound t0.bounds)) true])) (upd 1 (some (.bx [.v (.int .i64 0)])) noHp), 2⟩) ?_ ?_
  · refine runR_take tab_ok fol 1 ?_
    try simp -implicitDefEqProofs only [go_sem, Nat.reduceEqDiff, Nat.reduceAdd, reduceCtorEq, ↓reduceIte]
    rcases ite_inv E1 with ⟨c3, H4⟩ | ⟨c3, H4⟩
    · try simp -implicitDefEqProofs only [go_sem, Nat.reduceEqDiff, Nat.reduceAdd, ↓reduceIte, c3]
      obtain rfl := Option.some.inj H4
      exact ⟨⟨true, rfl⟩, ren_mk [(0, 0), (1, 2)] (by rfl) (rf_upd (by rfl) (rf_upd (by rfl) (rf_upd (by rfl) (rf_upd (by rfl) (rf_no _))))) (rh_upd (rh_one (by rfl) (by rfl) (by rfl)) (rh_upd (rh_one (by rfl) (by rfl) (by rfl)) (rh_no _)))⟩
    · try simp -implicitDefEqProofs only [go_sem, Nat.reduceEqDiff, Nat.reduceAdd, reduceCtorEq, ↓reduceIte, c3]
      rcases ite_inv H4 with ⟨c5, H6⟩ | ⟨c5, H6⟩
      · try simp -implicitDefEqProofs only [go_sem, Nat.reduceEqDiff, Nat.reduceAdd, ↓reduceIte, c5]
        obtain rfl := Option.some.inj H6
        exact ⟨⟨true, rfl⟩, ren_mk [(0, 0), (1, 2)] (by rfl) (rf_upd (by rfl) (rf_upd (by rfl) (rf_upd (by rfl) (rf_upd (by rfl) (rf_no _))))) (rh_upd (rh_one (by rfl) (by rfl) (by rfl)) (rh_upd (rh_one (by rfl) (by rfl) (by rfl)) (rh_no _)))⟩
      · try simp -implicitDefEqProofs only [go_sem, Nat.reduceEqDiff, Nat.reduceAdd, reduceCtorEq, ↓reduceIte, c5]
        obtain rfl := Option.some.inj H6
        exact ⟨⟨(decide (10 < (t0.bounds.length : Int))), rfl⟩, ren_mk [(0, 0), (1, 2)] (by rfl) (rf_upd (by rfl) (rf_upd (by rfl) (rf_upd (by rfl) (rf_upd (by rfl) (rf_no _))))) (rh_upd (rh_one (by rfl) (by rfl) (by rfl)) (rh_upd (rh_one (by rfl) (by rfl) (by rfl)) (rh_no _)))⟩
  · rintro ⟨t25, he669⟩
    replace he669 := he669.symm
    subst he669
    try dsimp only at H2
    refine runR_take tab_ok fol 1 ?_
    try simp -implicitDefEqProofs only [go_sem, Nat.reduceEqDiff, ↓reduceIte]
    rcases ite_inv H2 with ⟨c7, H8⟩ | ⟨c7, H8⟩
    · try simp -implicitDefEqProofs only [go_sem, Nat.reduceAdd, c7]
      obtain rfl := Option.some.inj H8
      exact end_pure (by first | (simp -implicitDefEqProofs only [go_sem, ↓reduceIte, Try.f16] <;> rfl) | rfl) (by first | rfl | (simp -implicitDefEqProofs only [go_sem, Int.reduceToNat, Int.reduceLT, Int.reduceLE, Int.reduceBEq, Int.reduceBNe, Nat.reduceLT, Nat.reduceBEq, Int.reduceEq, Nat.reduceEqDiff, Nat.reduceAdd, Nat.reduceSub, Nat.reduceMul, Nat.reduceLeDiff, reduceCtorEq, ↓reduceIte, eGPolicy, eGGroup, eGBound, eGStmt, eGAsk, c7]; done) | (simp -implicitDefEqProofs only [go_sem, Int.reduceToNat, Int.reduceLT, Int.reduceLE, Int.reduceBEq, Int.reduceBNe, Nat.reduceLT, Nat.reduceBEq, Int.reduceEq, Nat.reduceEqDiff, Nat.reduceAdd, Nat.reduceSub, Nat.reduceMul, Nat.reduceLeDiff, reduceCtorEq, ↓reduceIte, eGPolicy, eGGroup, eGBound, eGStmt, eGAsk, c7]; rfl)) rfl (by intro h; first | rfl | cases h)
    · try simp -implicitDefEqProofs only [go_sem, c7]
      refine runR_seq ?_
      refine runR_take tab_ok fol 1 ?_
      try simp -implicitDefEqProofs only [go_sem, Nat.reduceEqDiff, Nat.reduceAdd, reduceCtorEq, ↓reduceIte]
      obtain ⟨e_2, E9, H10⟩ := bind_inv H8
      refine onCall_inl (InlOK.mono (inl_runRJ (α := { y : Int // e_2 = y }) tab_ok Try.func45 rfl (by kernel_rfl) (by kernel_rfl) (by simp [Try.f45]) (fun | ⟨o1, _⟩ => ⟨noFr, upd 0 (some (.bx [.d (.sl (List.map eS t0.users)) true, .d (.sl (List.map eS t0.actions)) true, .d (.sl (List.map eS t0.resources)) true, .d (.sl (List.map eGGroup t0.groups)) true, .d (.sl (List.map eGStmt t0.stmts)) true, .d (.sl (List.map eGBound t0.bounds)) true])) (upd 1 (some (.bx [.v (.int .i64 o1)])) noHp), 6⟩) (fun | ⟨o1, _⟩ => .tu []) (by rintro ⟨o1, he33⟩; first | ((simp -implicitDefEqProofs only [go_sem, Try.f45]) <;> rfl) | rfl) ?_) ?_)
      · unfold law23_Small_C1_law23_Small_c1 at E9
        try dsimp only at E9
        refine runR_seq ?_
        refine runR_seq ?_
        refine runR_take tab_ok fol 1 ?_
        try simp -implicitDefEqProofs only [go_sem, Nat.reduceAdd]
        obtain ⟨e_3, E11, H12⟩ := bind_inv E9
        refine runR_join (α := { y : Int // e_3 = y }) (fun | ⟨t13, _⟩ => ⟨upd 0 (.d (.sl (List.map eS t0.users)) true) (upd 1 (.pt 1 0) noFr), upd 0 (some (.bx [.d (.sl (List.map eS t0.users)) true, .d (.sl (List.map eS t0.actions)) true, .d (.sl (List.map eS t0.resources)) true, .d (.sl (List.map eGGroup t0.groups)) true, .d (.sl (List.map eGStmt t0.stmts)) true, .d (.sl (List.map eGBound t0.bounds)) true])) (upd 1 (some (.bx [.v (.int .i64 t13)])) noHp), 6⟩) ?_ ?_
        · refine runR_block ?_
          refine runR_loop (α := { q : Nat × (Int × Int) // law23_Small_L1 n t0 q.1 q.2 = some e_3 }) (fun | ⟨⟨c, ⟨t1, i⟩⟩, _⟩ => ⟨upd 0 (.d (.sl (List.map eS t0.users)) true) (upd 1 (.pt 1 0) (upd 3 (.v (.int .i64 i)) noFr)), upd 0 (some (.bx [.d (.sl (List.map eS t0.users)) true, .d (.sl (List.map eS t0.actions)) true, .d (.sl (List.map eS t0.resources)) true, .d (.sl (List.map eGGroup t0.groups)) true, .d (.sl (List.map eGStmt t0.stmts)) true, .d (.sl (List.map eGBound t0.bounds)) true])) (upd 1 (some (.bx [.v (.int .i64 t1)])) noHp), 6⟩) (fun q => q.1.1) ⟨(n, (0, 0)), E11⟩ ?_ ?_
          · exact ren_mk [] (by rfl) (rf_upd (by rfl) (rf_upd (by rfl) (rf_upd (by rfl) (rf_no _)))) (rh_upd (rh_one (by rfl) (by rfl) (by rfl)) (rh_upd (rh_one (by rfl) (by rfl) (by rfl)) (rh_no _)))
          · rintro ⟨⟨c, ⟨t1, i⟩⟩, L13⟩
            rcases c with _ | c
            · exact nomatch (show none = some _ from L13)
            · unfold law23_Small_L1 at L13
              try dsimp only at L13
              refine runR_take tab_ok fol 1 ?_
              try simp -implicitDefEqProofs only [go_sem, Nat.reduceEqDiff, Nat.reduceAdd, reduceCtorEq, ↓reduceIte]
              rcases ite_inv L13 with ⟨c22, H23⟩ | ⟨c22, H23⟩
              · try simp -implicitDefEqProofs only [go_sem, Nat.reduceEqDiff, Nat.reduceAdd, reduceCtorEq, ↓reduceIte, c22]
                rcases ite_inv H23 with ⟨c24, H25⟩ | ⟨c24, H25⟩
                · obtain ⟨x2, b26, H27⟩ := bind_inv H25
                  obtain ⟨h28, h29⟩ := idx_inv b26
                  try simp only [Int.reduceToNat, Int.toNat_natCast] at h29
                  have h30 := map_at eS h29
                  try simp -implicitDefEqProofs only [go_sem, Int.reduceEq, Nat.reduceEqDiff, Nat.reduceAdd, reduceCtorEq, ↓reduceIte, c24, nat_of .i64 h28, h30]
                  refine Rd_endF (by rfl) ?_
                  try simp -implicitDefEqProofs only [go_sem, Nat.reduceEqDiff, Nat.reduceAdd, reduceCtorEq, ↓reduceIte]
                  exact ⟨⟨(c, ((IntKind.i64.wrap ((IntKind.i64.wrap (t1 + 1)) + (IntKind.i64.wrap (Int.tdiv (x2.size : Int) 10)))), (IntKind.i64.wrap (i + 1)))), H27⟩, ren_mk [] (by rfl) (rf_upd (by rfl) (rf_upd (by rfl) (rf_upd (by rfl) (rf_no _)))) (rh_upd (rh_one (by rfl) (by rfl) (by rfl)) (rh_upd (rh_one (by rfl) (by rfl) (by rfl)) (rh_no _))), Nat.lt_succ_self _⟩
                · try simp -implicitDefEqProofs only [go_sem, ↓reduceIte, c24]
                  obtain rfl := Option.some.inj H25
                  exact ⟨⟨t1, rfl⟩, ren_mk [] (by rfl) (rf_upd (by rfl) (rf_upd (by rfl) (rf_no _))) (rh_upd (rh_one (by rfl) (by rfl) (by rfl)) (rh_upd (rh_one (by rfl) (by rfl) (by rfl)) (rh_no _)))⟩
              · try simp -implicitDefEqProofs only [go_sem, Nat.reduceEqDiff, Nat.reduceAdd, ↓reduceIte, c22]
                obtain rfl := Option.some.inj H23
                exact ⟨⟨t1, rfl⟩, ren_mk [] (by rfl) (rf_upd (by rfl) (rf_upd (by rfl) (rf_no _))) (rh_upd (rh_one (by rfl) (by rfl) (by rfl)) (rh_upd (rh_one (by rfl) (by rfl) (by rfl)) (rh_no _)))⟩
        · rintro ⟨t13, he32⟩
          replace he32 := he32.symm
          subst he32
          try dsimp only at H12
          refine runR_take tab_ok fol 1 ?_
          try simp -implicitDefEqProofs only [go_sem, Nat.reduceEqDiff, Nat.reduceAdd, reduceCtorEq, ↓reduceIte]
          obtain rfl := Option.some.inj H12
          exact endJ_norm ⟨(IntKind.i64.wrap (t13 + (t0.users.length : Int))), rfl⟩ (ren_mk [] (by rfl) (rf_no _) (rh_upd (rh_one (by rfl) (by rfl) (by rfl)) (rh_upd (rh_one (by rfl) (by rfl) (by rfl)) (rh_no _))))
      rintro v34 hp35 nx36 ⟨⟨o1, he33⟩, rfl, rfl, rfl⟩
      replace he33 := he33.symm
      subst he33
      try dsimp only at H10
      dsimp only
      try simp -implicitDefEqProofs only [go_sem]
      refine runR_seq ?_
      refine runR_take tab_ok fol 1 ?_
      try simp -implicitDefEqProofs only [go_sem, Nat.reduceEqDiff, Nat.reduceAdd, reduceCtorEq, ↓reduceIte]
      obtain ⟨e_4, E37, H38⟩ := bind_inv H10
      refine onCall_inl (InlOK.mono (inl_runRJ (α := { y : Int // e_4 = y }) tab_ok Try.func45 rfl (by kernel_rfl) (by kernel_rfl) (by simp [Try.f45]) (fun | ⟨o12, _⟩ => ⟨noFr, upd 0 (some (.bx [.d (.sl (List.map eS t0.users)) true, .d (.sl (List.map eS t0.actions)) true, .d (.sl (List.map eS t0.resources)) true, .d (.sl (List.map eGGroup t0.groups)) true, .d (.sl (List.map eGStmt t0.stmts)) true, .d (.sl (List.map eGBound t0.bounds)) true])) (upd 1 (some (.bx [.v (.int .i64 o12)])) noHp), 10⟩) (fun | ⟨o12, _⟩ => .tu []) (by rintro ⟨o12, he61⟩; first | ((simp -implicitDefEqProofs only [go_sem, Try.f45]) <;> rfl) | rfl) ?_) ?_)
      · unfold law23_Small_C2_law23_Small_c1 at E37
        try dsimp only at E37
        refine runR_seq ?_
        refine runR_seq ?_
        refine runR_take tab_ok fol 1 ?_
        try simp -implicitDefEqProofs only [go_sem, Nat.reduceAdd]
        obtain ⟨e_5, E39, H40⟩ := bind_inv E37
        refine runR_join (α := { y : Int // e_5 = y }) (fun | ⟨t16, _⟩ => ⟨upd 0 (.d (.sl (List.map eS t0.actions)) true) (upd 1 (.pt 1 0) noFr), upd 0 (some (.bx [.d (.sl (List.map eS t0.users)) true, .d (.sl (List.map eS t0.actions)) true, .d (.sl (List.map eS t0.resources)) true, .d (.sl (List.map eGGroup t0.groups)) true, .d (.sl (List.map eGStmt t0.stmts)) true, .d (.sl (List.map eGBound t0.bounds)) true])) (upd 1 (some (.bx [.v (.int .i64 t16)])) noHp), 10⟩) ?_ ?_
        · refine runR_block ?_
          refine runR_loop (α := { q : Nat × (Int × Int) // law23_Small_L2 n t0 q.1 q.2 = some e_5 }) (fun | ⟨⟨c, ⟨t14, i3⟩⟩, _⟩ => ⟨upd 0 (.d (.sl (List.map eS t0.actions)) true) (upd 1 (.pt 1 0) (upd 3 (.v (.int .i64 i3)) noFr)), upd 0 (some (.bx [.d (.sl (List.map eS t0.users)) true, .d (.sl (List.map eS t0.actions)) true, .d (.sl (List.map eS t0.resources)) true, .d (.sl (List.map eGGroup t0.groups)) true, .d (.sl (List.map eGStmt t0.stmts)) true, .d (.sl (List.map eGBound t0.bounds)) true])) (upd 1 (some (.bx [.v (.int .i64 t14)])) noHp), 10⟩) (fun q => q.1.1) ⟨(n, (o1, 0)), E39⟩ ?_ ?_
          · exact ren_mk [] (by rfl) (rf_upd (by rfl) (rf_upd (by rfl) (rf_upd (by rfl) (rf_no _)))) (rh_upd (rh_one (by rfl) (by rfl) (by rfl)) (rh_upd (rh_one (by rfl) (by rfl) (by rfl)) (rh_no _)))
          · rintro ⟨⟨c, ⟨t14, i3⟩⟩, L41⟩
            rcases c with _ | c
            · exact nomatch (show none = some _ from L41)
            · unfold law23_Small_L2 at L41
              try dsimp only at L41
              refine runR_take tab_ok fol 1 ?_
              try simp -implicitDefEqProofs only [go_sem, Nat.reduceEqDiff, Nat.reduceAdd, reduceCtorEq, ↓reduceIte]
              rcases ite_inv L41 with ⟨c50, H51⟩ | ⟨c50, H51⟩
              · try simp -implicitDefEqProofs only [go_sem, Nat.reduceEqDiff, Nat.reduceAdd, reduceCtorEq, ↓reduceIte, c50]
                rcases ite_inv H51 with ⟨c52, H53⟩ | ⟨c52, H53⟩
                · obtain ⟨x4, b54, H55⟩ := bind_inv H53
                  obtain ⟨h56, h57⟩ := idx_inv b54
                  try simp only [Int.reduceToNat, Int.toNat_natCast] at h57
                  have h58 := map_at eS h57
                  try simp -implicitDefEqProofs only [go_sem, Int.reduceEq, Nat.reduceEqDiff, Nat.reduceAdd, reduceCtorEq, ↓reduceIte, c52, nat_of .i64 h56, h58]
                  refine Rd_endF (by rfl) ?_
                  try simp -implicitDefEqProofs only [go_sem, Nat.reduceEqDiff, Nat.reduceAdd, reduceCtorEq, ↓reduceIte]
                  exact ⟨⟨(c, ((IntKind.i64.wrap ((IntKind.i64.wrap (t14 + 1)) + (IntKind.i64.wrap (Int.tdiv (x4.size : Int) 10)))), (IntKind.i64.wrap (i3 + 1)))), H55⟩, ren_mk [] (by rfl) (rf_upd (by rfl) (rf_upd (by rfl) (rf_upd (by rfl) (rf_no _)))) (rh_upd (rh_one (by rfl) (by rfl) (by rfl)) (rh_upd (rh_one (by rfl) (by rfl) (by rfl)) (rh_no _))), Nat.lt_succ_self _⟩
                · try simp -implicitDefEqProofs only [go_sem, ↓reduceIte, c52]
                  obtain rfl := Option.some.inj H53
                  exact ⟨⟨t14, rfl⟩, ren_mk [] (by rfl) (rf_upd (by rfl) (rf_upd (by rfl) (rf_no _))) (rh_upd (rh_one (by rfl) (by rfl) (by rfl)) (rh_upd (rh_one (by rfl) (by rfl) (by rfl)) (rh_no _)))⟩
              · try simp -implicitDefEqProofs only [go_sem, Nat.reduceEqDiff, Nat.reduceAdd, ↓reduceIte, c50]
                obtain rfl := Option.some.inj H51
                exact ⟨⟨t14, rfl⟩, ren_mk [] (by rfl) (rf_upd (by rfl) (rf_upd (by rfl) (rf_no _))) (rh_upd (rh_one (by rfl) (by rfl) (by rfl)) (rh_upd (rh_one (by rfl) (by rfl) (by rfl)) (rh_no _)))⟩
        · rintro ⟨t16, he60⟩
          replace he60 := he60.symm
          subst he60
          try dsimp only at H40
          refine runR_take tab_ok fol 1 ?_
          try simp -implicitDefEqProofs only [go_sem, Nat.reduceEqDiff, Nat.reduceAdd, reduceCtorEq, ↓reduceIte]
          obtain rfl := Option.some.inj H40
          exact endJ_norm ⟨(IntKind.i64.wrap (t16 + (t0.actions.length : Int))), rfl⟩ (ren_mk [] (by rfl) (rf_no _) (rh_upd (rh_one (by rfl) (by rfl) (by rfl)) (rh_upd (rh_one (by rfl) (by rfl) (by rfl)) (rh_no _))))
      rintro v62 hp63 nx64 ⟨⟨o12, he61⟩, rfl, rfl, rfl⟩
      replace he61 := he61.symm
      subst he61
      try dsimp only at H38
      dsimp only
      try simp -implicitDefEqProofs only [go_sem]
      refine runR_seq ?_
      refine runR_take tab_ok fol 1 ?_
      try simp -implicitDefEqProofs only [go_sem, Nat.reduceEqDiff, Nat.reduceAdd, reduceCtorEq, ↓reduceIte]
      obtain ⟨e_6, E65, H66⟩ := bind_inv H38
      refine onCall_inl (InlOK.mono (inl_runRJ (α := { y : Int // e_6 = y }) tab_ok Try.func45 rfl (by kernel_rfl) (by kernel_rfl) (by simp [Try.f45]) (fun | ⟨o13, _⟩ => ⟨noFr, upd 0 (some (.bx [.d (.sl (List.map eS t0.users)) true, .d (.sl (List.map eS t0.actions)) true, .d (.sl (List.map eS t0.resources)) true, .d (.sl (List.map eGGroup t0.groups)) true, .d (.sl (List.map eGStmt t0.stmts)) true, .d (.sl (List.map eGBound t0.bounds)) true])) (upd 1 (some (.bx [.v (.int .i64 o13)])) noHp), 14⟩) (fun | ⟨o13, _⟩ => .tu []) (by rintro ⟨o13, he89⟩; first | ((simp -implicitDefEqProofs only [go_sem, Try.f45]) <;> rfl) | rfl) ?_) ?_)
      · unfold law23_Small_C3_law23_Small_c1 at E65
        try dsimp only at E65
        refine runR_seq ?_
        refine runR_seq ?_
        refine runR_take tab_ok fol 1 ?_
        try simp -implicitDefEqProofs only [go_sem, Nat.reduceAdd]
        obtain ⟨e_7, E67, H68⟩ := bind_inv E65
        refine runR_join (α := { y : Int // e_7 = y }) (fun | ⟨t19, _⟩ => ⟨upd 0 (.d (.sl (List.map eS t0.resources)) true) (upd 1 (.pt 1 0) noFr), upd 0 (some (.bx [.d (.sl (List.map eS t0.users)) true, .d (.sl (List.map eS t0.actions)) true, .d (.sl (List.map eS t0.resources)) true, .d (.sl (List.map eGGroup t0.groups)) true, .d (.sl (List.map eGStmt t0.stmts)) true, .d (.sl (List.map eGBound t0.bounds)) true])) (upd 1 (some (.bx [.v (.int .i64 t19)])) noHp), 14⟩) ?_ ?_
        · refine runR_block ?_
          refine runR_loop (α := { q : Nat × (Int × Int) // law23_Small_L3 n t0 q.1 q.2 = some e_7 }) (fun | ⟨⟨c, ⟨t17, i5⟩⟩, _⟩ => ⟨upd 0 (.d (.sl (List.map eS t0.resources)) true) (upd 1 (.pt 1 0) (upd 3 (.v (.int .i64 i5)) noFr)), upd 0 (some (.bx [.d (.sl (List.map eS t0.users)) true, .d (.sl (List.map eS t0.actions)) true, .d (.sl (List.map eS t0.resources)) true, .d (.sl (List.map eGGroup t0.groups)) true, .d (.sl (List.map eGStmt t0.stmts)) true, .d (.sl (List.map eGBound t0.bounds)) true])) (upd 1 (some (.bx [.v (.int .i64 t17)])) noHp), 14⟩) (fun q => q.1.1) ⟨(n, (o12, 0)), E67⟩ ?_ ?_
          · exact ren_mk [] (by rfl) (rf_upd (by rfl) (rf_upd (by rfl) (rf_upd (by rfl) (rf_no _)))) (rh_upd (rh_one (by rfl) (by rfl) (by rfl)) (rh_upd (rh_one (by rfl) (by rfl) (by rfl)) (rh_no _)))
          · rintro ⟨⟨c, ⟨t17, i5⟩⟩, L69⟩
            rcases c with _ | c
            · exact nomatch (show none = some _ from L69)
            · unfold law23_Small_L3 at L69
              try dsimp only at L69
              refine runR_take tab_ok fol 1 ?_
              try simp -implicitDefEqProofs only [go_sem, Nat.reduceEqDiff, Nat.reduceAdd, reduceCtorEq, ↓reduceIte]
              rcases ite_inv L69 with ⟨c78, H79⟩ | ⟨c78, H79⟩
              · try simp -implicitDefEqProofs only [go_sem, Nat.reduceEqDiff, Nat.reduceAdd, reduceCtorEq, ↓reduceIte, c78]
                rcases ite_inv H79 with ⟨c80, H81⟩ | ⟨c80, H81⟩
                · obtain ⟨x6, b82, H83⟩ := bind_inv H81
                  obtain ⟨h84, h85⟩ := idx_inv b82
                  try simp only [Int.reduceToNat, Int.toNat_natCast] at h85
                  have h86 := map_at eS h85
                  try simp -implicitDefEqProofs only [go_sem, Int.reduceEq, Nat.reduceEqDiff, Nat.reduceAdd, reduceCtorEq, ↓reduceIte, c80, nat_of .i64 h84, h86]
                  refine Rd_endF (by rfl) ?_
                  try simp -implicitDefEqProofs only [go_sem, Nat.reduceEqDiff, Nat.reduceAdd, reduceCtorEq, ↓reduceIte]
                  exact ⟨⟨(c, ((IntKind.i64.wrap ((IntKind.i64.wrap (t17 + 1)) + (IntKind.i64.wrap (Int.tdiv (x6.size : Int) 10)))), (IntKind.i64.wrap (i5 + 1)))), H83⟩, ren_mk [] (by rfl) (rf_upd (by rfl) (rf_upd (by rfl) (rf_upd (by rfl) (rf_no _)))) (rh_upd (rh_one (by rfl) (by rfl) (by rfl)) (rh_upd (rh_one (by rfl) (by rfl) (by rfl)) (rh_no _))), Nat.lt_succ_self _⟩
                · try simp -implicitDefEqProofs only [go_sem, ↓reduceIte, c80]
                  obtain rfl := Option.some.inj H81
                  exact ⟨⟨t17, rfl⟩, ren_mk [] (by rfl) (rf_upd (by rfl) (rf_upd (by rfl) (rf_no _))) (rh_upd (rh_one (by rfl) (by rfl) (by rfl)) (rh_upd (rh_one (by rfl) (by rfl) (by rfl)) (rh_no _)))⟩
              · try simp -implicitDefEqProofs only [go_sem, Nat.reduceEqDiff, Nat.reduceAdd, ↓reduceIte, c78]
                obtain rfl := Option.some.inj H79
                exact ⟨⟨t17, rfl⟩, ren_mk [] (by rfl) (rf_upd (by rfl) (rf_upd (by rfl) (rf_no _))) (rh_upd (rh_one (by rfl) (by rfl) (by rfl)) (rh_upd (rh_one (by rfl) (by rfl) (by rfl)) (rh_no _)))⟩
        · rintro ⟨t19, he88⟩
          replace he88 := he88.symm
          subst he88
          try dsimp only at H68
          refine runR_take tab_ok fol 1 ?_
          try simp -implicitDefEqProofs only [go_sem, Nat.reduceEqDiff, Nat.reduceAdd, reduceCtorEq, ↓reduceIte]
          obtain rfl := Option.some.inj H68
          exact endJ_norm ⟨(IntKind.i64.wrap (t19 + (t0.resources.length : Int))), rfl⟩ (ren_mk [] (by rfl) (rf_no _) (rh_upd (rh_one (by rfl) (by rfl) (by rfl)) (rh_upd (rh_one (by rfl) (by rfl) (by rfl)) (rh_no _))))
      rintro v90 hp91 nx92 ⟨⟨o13, he89⟩, rfl, rfl, rfl⟩
      replace he89 := he89.symm
      subst he89
      try dsimp only at H66
      dsimp only
      try simp -implicitDefEqProofs only [go_sem]
      refine runR_seq ?_
      refine runR_seq ?_
      refine runR_take tab_ok fol 1 ?_
      try simp -implicitDefEqProofs only [go_sem, Nat.reduceAdd]
      obtain ⟨e_8, E93, H94⟩ := bind_inv H66
      refine runR_join (α := { y : Int // e_8 = y }) (fun | ⟨t33, _⟩ => ⟨upd 1 (.pt 0 0) (upd 3 (.pt 1 0) (upd 4 (.fn 45 [.pt 1 0]) noFr)), upd 0 (some (.bx [.d (.sl (List.map eS t0.users)) true, .d (.sl (List.map eS t0.actions)) true, .d (.sl (List.map eS t0.resources)) true, .d (.sl (List.map eGGroup t0.groups)) true, .d (.sl (List.map eGStmt t0.stmts)) true, .d (.sl (List.map eGBound t0.bounds)) true])) (upd 1 (some (.bx [.v (.int .i64 t33)])) noHp), 2⟩) ?_ ?_
      · refine runR_block ?_
        refine runR_loop (α := { q : Nat × (Int × Int) // law23_Small_L4 n t0 q.1 q.2 = some e_8 }) (fun | ⟨⟨c, ⟨t3, t5⟩⟩, _⟩ => ⟨upd 1 (.pt 0 0) (upd 3 (.pt 1 0) (upd 4 (.fn 45 [.pt 1 0]) (upd 5 (.v (.int .i64 t5)) noFr))), upd 0 (some (.bx [.d (.sl (List.map eS t0.users)) true, .d (.sl (List.map eS t0.actions)) true, .d (.sl (List.map eS t0.resources)) true, .d (.sl (List.map eGGroup t0.groups)) true, .d (.sl (List.map eGStmt t0.stmts)) true, .d (.sl (List.map eGBound t0.bounds)) true])) (upd 1 (some (.bx [.v (.int .i64 t3)])) noHp), 2⟩) (fun q => q.1.1) ⟨(n, (o13, 0)), E93⟩ ?_ ?_
        · exact ren_mk [(0, 0), (1, 1)] (by rfl) (rf_upd (by rfl) (rf_upd (by rfl) (rf_upd (by rfl) (rf_upd (by rfl) (rf_no _))))) (rh_upd (rh_one (by rfl) (by rfl) (by rfl)) (rh_upd (rh_one (by rfl) (by rfl) (by rfl)) (rh_no _)))
        · rintro ⟨⟨c, ⟨t3, t5⟩⟩, L95⟩
          rcases c with _ | c
          · exact nomatch (show none = some _ from L95)
          · unfold law23_Small_L4 at L95
            try dsimp only at L95
            refine runR_take tab_ok fol 1 ?_
            try simp -implicitDefEqProofs only [go_sem, Nat.reduceEqDiff, Nat.reduceAdd, reduceCtorEq, ↓reduceIte]
            rcases ite_inv L95 with ⟨c142, H143⟩ | ⟨c142, H143⟩
            · obtain ⟨x10, b144, H145⟩ := bind_inv H143
              obtain ⟨h146, h147⟩ := idx_inv b144
              try simp only [Int.reduceToNat, Int.toNat_natCast] at h147
              have h148 := map_at eGGroup h147
              obtain ⟨l2, b150, H151⟩ := bind_inv H145
              obtain ⟨h152, h153⟩ := app_inv b150
              have h152 : 1 + x10.users.length ≤ 4294967296 := h152
              have h154 : [[.v (.string x10.name)]] ++ List.map eS x10.users = List.map eS l2 := app_map eS h153
              have h155 : 1 + x10.users.length = l2.length := app_len h153
              have h156 : l2.length ≤ 4294967296 := by omega
              have q157 : 0 < l2.length := by omega
              simp only [List.cons_append, List.nil_append] at h154
              try simp -implicitDefEqProofs only [go_sem, Nat.reduceLT, Nat.reduceEqDiff, Nat.reduceAdd, Nat.reduceLeDiff, reduceCtorEq, ↓reduceIte, eGGroup, c142, nat_of .i64 h146, h148, plainR_map (f := eS) (fun _ => rfl) x10.users, chk_map (n := 1) (f := eS) (fun _ => rfl) x10.users, h154, h155, h156, List.take_succ_cons, List.take_zero]
              obtain ⟨o15, E158, H159⟩ := bind_inv H151
              refine onCallD_one (v := .tu []) (δ := [(1, (.bx [.v (.int .i64 o15)]))]) (nx' := 23) (InlOK.mono (inl_runRJ (α := { y : Int // o15 = y }) tab_ok Try.func45 rfl (by kernel_rfl) (by kernel_rfl) (by simp [Try.f45]) (fun | ⟨o15, _⟩ => ⟨noFr, upd 0 (some (.bx [.d (.sl (List.map eS t0.users)) true, .d (.sl (List.map eS t0.actions)) true, .d (.sl (List.map eS t0.resources)) true, .d (.sl (List.map eGGroup t0.groups)) true, .d (.sl (List.map eGStmt t0.stmts)) true, .d (.sl (List.map eGBound t0.bounds)) true])) (upd 1 (some (.bx [.v (.int .i64 o15)])) (upd 14 (some (.rw (List.map eS l2) 1 1 false false)) noHp)), 23⟩) (fun | ⟨o15, _⟩ => .tu []) (by rintro ⟨o15, he182⟩; first | ((simp -implicitDefEqProofs only [go_sem, Try.f45]) <;> rfl) | rfl) ?_) ?_) ?_
              · unfold law23_Small_C4_law23_Small_c1 at E158
                try dsimp only at E158
                refine runR_seq ?_
                refine runR_seq ?_
                refine runR_take tab_ok fol 1 ?_
                try simp -implicitDefEqProofs only [go_sem, Nat.reduceAdd]
                obtain ⟨e_12, E160, H161⟩ := bind_inv E158
                refine runR_join (α := { y : Int // e_12 = y }) (fun | ⟨t115, _⟩ => ⟨upd 0 (.so 14 1 0 (l2.length)) (upd 1 (.pt 1 0) noFr), upd 0 (some (.bx [.d (.sl (List.map eS t0.users)) true, .d (.sl (List.map eS t0.actions)) true, .d (.sl (List.map eS t0.resources)) true, .d (.sl (List.map eGGroup t0.groups)) true, .d (.sl (List.map eGStmt t0.stmts)) true, .d (.sl (List.map eGBound t0.bounds)) true])) (upd 1 (some (.bx [.v (.int .i64 t115)])) (upd 14 (some (.rw (List.map eS l2) 1 1 false false)) noHp)), 23⟩) ?_ ?_
                · refine runR_block ?_
                  refine runR_loop (α := { q : Nat × (Int × Int) // law23_Small_L5 n l2 q.1 q.2 = some e_12 }) (fun | ⟨⟨c, ⟨t113, i9⟩⟩, _⟩ => ⟨upd 0 (.so 14 1 0 (l2.length)) (upd 1 (.pt 1 0) (upd 3 (.v (.int .i64 i9)) noFr)), upd 0 (some (.bx [.d (.sl (List.map eS t0.users)) true, .d (.sl (List.map eS t0.actions)) true, .d (.sl (List.map eS t0.resources)) true, .d (.sl (List.map eGGroup t0.groups)) true, .d (.sl (List.map eGStmt t0.stmts)) true, .d (.sl (List.map eGBound t0.bounds)) true])) (upd 1 (some (.bx [.v (.int .i64 t113)])) (upd 14 (some (.rw (List.map eS l2) 1 1 false false)) noHp)), 23⟩) (fun q => q.1.1) ⟨(n, (t3, 0)), E160⟩ ?_ ?_
                  · exact ren_mk [] (by rfl) (rf_upd (by rfl) (rf_upd (by rfl) (rf_upd (by rfl) (rf_no _)))) (rh_upd (rh_one (by rfl) (by rfl) (by rfl)) (rh_upd (rh_one (by rfl) (by rfl) (by rfl)) (rh_upd (rh_one (by rfl) (by rfl) (by rfl)) (rh_no _))))
                  · rintro ⟨⟨c, ⟨t113, i9⟩⟩, L162⟩
                    rcases c with _ | c
                    · exact nomatch (show none = some _ from L162)
                    · unfold law23_Small_L5 at L162
                      try dsimp only at L162
                      refine runR_take tab_ok fol 1 ?_
                      try simp -implicitDefEqProofs only [go_sem, Nat.reduceEqDiff, Nat.reduceAdd, reduceCtorEq, ↓reduceIte]
                      rcases ite_inv L162 with ⟨c171, H172⟩ | ⟨c171, H172⟩
                      · try simp -implicitDefEqProofs only [go_sem, Nat.reduceEqDiff, Nat.reduceAdd, reduceCtorEq, ↓reduceIte, c171]
                        rcases ite_inv H172 with ⟨c173, H174⟩ | ⟨c173, H174⟩
                        · obtain ⟨x12, b175, H176⟩ := bind_inv H174
                          obtain ⟨h177, h178⟩ := idx_inv b175
                          try simp only [Int.reduceToNat, Int.toNat_natCast] at h178
                          have h179 := map_at eS h178
                          have h180 := at_lt h178
                          try simp -implicitDefEqProofs only [go_sem, Int.reduceEq, Nat.reduceEqDiff, Nat.reduceAdd, reduceCtorEq, ↓reduceIte, c173, nat_of .i64 h177, h179, h180]
                          refine Rd_endF (by rfl) ?_
                          try simp -implicitDefEqProofs only [go_sem, Nat.reduceEqDiff, Nat.reduceAdd, reduceCtorEq, ↓reduceIte]
                          exact ⟨⟨(c, ((IntKind.i64.wrap ((IntKind.i64.wrap (t113 + 1)) + (IntKind.i64.wrap (Int.tdiv (x12.size : Int) 10)))), (IntKind.i64.wrap (i9 + 1)))), H176⟩, ren_mk [] (by rfl) (rf_upd (by rfl) (rf_upd (by rfl) (rf_upd (by rfl) (rf_no _)))) (rh_upd (rh_one (by rfl) (by rfl) (by rfl)) (rh_upd (rh_one (by rfl) (by rfl) (by rfl)) (rh_upd (rh_one (by rfl) (by rfl) (by rfl)) (rh_no _)))), Nat.lt_succ_self _⟩
                        · try simp -implicitDefEqProofs only [go_sem, ↓reduceIte, c173]
                          obtain rfl := Option.some.inj H174
                          exact ⟨⟨t113, rfl⟩, ren_mk [] (by rfl) (rf_upd (by rfl) (rf_upd (by rfl) (rf_no _))) (rh_upd (rh_one (by rfl) (by rfl) (by rfl)) (rh_upd (rh_one (by rfl) (by rfl) (by rfl)) (rh_upd (rh_one (by rfl) (by rfl) (by rfl)) (rh_no _))))⟩
                      · try simp -implicitDefEqProofs only [go_sem, Nat.reduceEqDiff, Nat.reduceAdd, ↓reduceIte, c171]
                        obtain rfl := Option.some.inj H172
                        exact ⟨⟨t113, rfl⟩, ren_mk [] (by rfl) (rf_upd (by rfl) (rf_upd (by rfl) (rf_no _))) (rh_upd (rh_one (by rfl) (by rfl) (by rfl)) (rh_upd (rh_one (by rfl) (by rfl) (by rfl)) (rh_upd (rh_one (by rfl) (by rfl) (by rfl)) (rh_no _))))⟩
                · rintro ⟨t115, he181⟩
                  replace he181 := he181.symm
                  subst he181
                  try dsimp only at H161
                  refine runR_take tab_ok fol 1 ?_
                  try simp -implicitDefEqProofs only [go_sem, Nat.reduceEqDiff, Nat.reduceAdd, reduceCtorEq, ↓reduceIte]
                  obtain rfl := Option.some.inj H161
                  exact endJ_norm ⟨(IntKind.i64.wrap (t115 + (l2.length : Int))), rfl⟩ (ren_mk [] (by rfl) (rf_no _) (rh_upd (rh_one (by rfl) (by rfl) (by rfl)) (rh_upd (rh_one (by rfl) (by rfl) (by rfl)) (rh_upd (rh_one (by rfl) (by rfl) (by rfl)) (rh_no _)))))
              · rintro v183 hp184 nx185 ⟨⟨w187, he186⟩, rfl, rfl, rfl⟩
                subst he186
                refine ⟨rfl, ?_, rfl⟩
                funext j
                by_cases j0 : j = 0
                · subst j0; rfl
                by_cases j1 : j = 1
                · subst j1; rfl
                by_cases j14 : j = 14
                · subst j14; rfl
                first | rfl | simp only [upds, upd_ne _ _ j0, upd_ne _ _ j1, upd_ne _ _ j14]
              try dsimp only at H159
              try simp -implicitDefEqProofs only [go_sem]
              refine Rd_endF (by rfl) ?_
              try simp -implicitDefEqProofs only [go_sem, Nat.reduceEqDiff, Nat.reduceAdd, ↓reduceIte]
              exact ⟨⟨(c, (o15, (IntKind.i64.wrap (t5 + 1)))), H159⟩, ren_mk [(0, 0), (1, 1)] (by rfl) (rf_upd (by rfl) (rf_upd (by rfl) (rf_upd (by rfl) (rf_upd (by rfl) (rf_no _))))) (rh_upd (rh_one (by rfl) (by rfl) (by rfl)) (rh_upd (rh_one (by rfl) (by rfl) (by rfl)) (rh_no _))), Nat.lt_succ_self _⟩
            · try simp -implicitDefEqProofs only [go_sem, ↓reduceIte, c142]
              obtain rfl := Option.some.inj H143
              exact ⟨⟨t3, rfl⟩, ren_mk [(0, 0), (1, 1)] (by rfl) (rf_upd (by rfl) (rf_upd (by rfl) (rf_upd (by rfl) (rf_no _)))) (rh_upd (rh_one (by rfl) (by rfl) (by rfl)) (rh_upd (rh_one (by rfl) (by rfl) (by rfl)) (rh_no _)))⟩
      · rintro ⟨t33, he668⟩
        replace he668 := he668.symm
        subst he668
        try dsimp only at H94
        refine runR_seq ?_
        refine runR_seq ?_
        refine runR_take tab_ok fol 1 ?_
        try simp -implicitDefEqProofs only [go_sem, Nat.reduceAdd]
        obtain ⟨e_13, E188, H189⟩ := bind_inv H94
        refine runR_join (α := { y : Int // e_13 = y }) (fun | ⟨t36, _⟩ => ⟨upd 1 (.pt 0 0) (upd 3 (.pt 1 0) (upd 4 (.fn 45 [.pt 1 0]) noFr)), upd 0 (some (.bx [.d (.sl (List.map eS t0.users)) true, .d (.sl (List.map eS t0.actions)) true, .d (.sl (List.map eS t0.resources)) true, .d (.sl (List.map eGGroup t0.groups)) true, .d (.sl (List.map eGStmt t0.stmts)) true, .d (.sl (List.map eGBound t0.bounds)) true])) (upd 1 (some (.bx [.v (.int .i64 t36)])) noHp), 2⟩) ?_ ?_
        · refine runR_block ?_
          refine runR_loop (α := { q : Nat × (Int × Int) // law23_Small_L6 n t0 q.1 q.2 = some e_13 }) (fun | ⟨⟨c, ⟨t34, t6⟩⟩, _⟩ => ⟨upd 1 (.pt 0 0) (upd 3 (.pt 1 0) (upd 4 (.fn 45 [.pt 1 0]) (upd 6 (.v (.int .i64 t6)) noFr))), upd 0 (some (.bx [.d (.sl (List.map eS t0.users)) true, .d (.sl (List.map eS t0.actions)) true, .d (.sl (List.map eS t0.resources)) true, .d (.sl (List.map eGGroup t0.groups)) true, .d (.sl (List.map eGStmt t0.stmts)) true, .d (.sl (List.map eGBound t0.bounds)) true])) (upd 1 (some (.bx [.v (.int .i64 t34)])) noHp), 2⟩) (fun q => q.1.1) ⟨(n, (t33, 0)), E188⟩ ?_ ?_
          · exact ren_mk [(0, 0), (1, 1)] (by rfl) (rf_upd (by rfl) (rf_upd (by rfl) (rf_upd (by rfl) (rf_upd (by rfl) (rf_no _))))) (rh_upd (rh_one (by rfl) (by rfl) (by rfl)) (rh_upd (rh_one (by rfl) (by rfl) (by rfl)) (rh_no _)))
          · rintro ⟨⟨c, ⟨t34, t6⟩⟩, L190⟩
            rcases c with _ | c
            · exact nomatch (show none = some _ from L190)
            · unfold law23_Small_L6 at L190
              try dsimp only at L190
              refine runR_take tab_ok fol 1 ?_
              try simp -implicitDefEqProofs only [go_sem, Nat.reduceEqDiff, Nat.reduceAdd, reduceCtorEq, ↓reduceIte]
              rcases ite_inv L190 with ⟨c331, H332⟩ | ⟨c331, H332⟩
              · obtain ⟨x23, b333, H334⟩ := bind_inv H332
                obtain ⟨h335, h336⟩ := idx_inv b333
                try simp only [Int.reduceToNat, Int.toNat_natCast] at h336
                have h337 := map_at eGStmt h336
                try simp -implicitDefEqProofs only [go_sem, Nat.reduceLT, Nat.reduceEqDiff, Nat.reduceAdd, Nat.reduceLeDiff, reduceCtorEq, ↓reduceIte, eGStmt, c331, nat_of .i64 h335, h337]
                obtain ⟨e_24, E339, H340⟩ := bind_inv H334
                refine onCall_inl (InlOK.mono (inl_runRJ (α := { y : Int // e_24 = y }) tab_ok Try.func45 rfl (by kernel_rfl) (by kernel_rfl) (by simp [Try.f45]) (fun | ⟨o111, _⟩ => ⟨noFr, upd 0 (some (.bx [.d (.sl (List.map eS t0.users)) true, .d (.sl (List.map eS t0.actions)) true, .d (.sl (List.map eS t0.resources)) true, .d (.sl (List.map eGGroup t0.groups)) true, .d (.sl (List.map eGStmt t0.stmts)) true, .d (.sl (List.map eGBound t0.bounds)) true])) (upd 1 (some (.bx [.v (.int .i64 o111)])) (upd 12 (some (.bx [.v (.string x23.sid), .v (.bool x23.deny), .d (.sl (List.map eS x23.users)) true, .d (.sl (List.map eS x23.groups)) true, .d (.sl (List.map eS x23.actions)) true, .d (.sl (List.map eS x23.resources)) true])) (upd 17 (some (.rw [[.v (.string x23.sid)]] 1 0 false false)) noHp))), 19⟩) (fun | ⟨o111, _⟩ => .tu []) (by rintro ⟨o111, he355⟩; first | ((simp -implicitDefEqProofs only [go_sem, Try.f45]) <;> rfl) | rfl) ?_) ?_)
                · unfold law23_Small_C5_law23_Small_c1 at E339
                  try dsimp only at E339
                  refine runR_seq ?_
                  refine runR_seq ?_
                  refine runR_take tab_ok fol 1 ?_
                  try simp -implicitDefEqProofs only [go_sem, Nat.reduceAdd]
                  obtain ⟨e_25, E341, H342⟩ := bind_inv E339
                  refine runR_join (α := { y : Int // e_25 = y }) (fun | ⟨t133, _⟩ => ⟨upd 0 (.so 17 0 0 1) (upd 1 (.pt 1 0) noFr), upd 0 (some (.bx [.d (.sl (List.map eS t0.users)) true, .d (.sl (List.map eS t0.actions)) true, .d (.sl (List.map eS t0.resources)) true, .d (.sl (List.map eGGroup t0.groups)) true, .d (.sl (List.map eGStmt t0.stmts)) true, .d (.sl (List.map eGBound t0.bounds)) true])) (upd 1 (some (.bx [.v (.int .i64 t133)])) (upd 12 (some (.bx [.v (.string x23.sid), .v (.bool x23.deny), .d (.sl (List.map eS x23.users)) true, .d (.sl (List.map eS x23.groups)) true, .d (.sl (List.map eS x23.actions)) true, .d (.sl (List.map eS x23.resources)) true])) (upd 17 (some (.rw [[.v (.string x23.sid)]] 1 0 false false)) noHp))), 19⟩) ?_ ?_
                  · refine runR_block ?_
                    refine runR_loop (α := { q : Nat × (Int × Int) // law23_Small_L7 n x23 q.1 q.2 = some e_25 }) (fun | ⟨⟨c, ⟨t131, i21⟩⟩, _⟩ => ⟨upd 0 (.so 17 0 0 1) (upd 1 (.pt 1 0) (upd 3 (.v (.int .i64 i21)) noFr)), upd 0 (some (.bx [.d (.sl (List.map eS t0.users)) true, .d (.sl (List.map eS t0.actions)) true, .d (.sl (List.map eS t0.resources)) true, .d (.sl (List.map eGGroup t0.groups)) true, .d (.sl (List.map eGStmt t0.stmts)) true, .d (.sl (List.map eGBound t0.bounds)) true])) (upd 1 (some (.bx [.v (.int .i64 t131)])) (upd 12 (some (.bx [.v (.string x23.sid), .v (.bool x23.deny), .d (.sl (List.map eS x23.users)) true, .d (.sl (List.map eS x23.groups)) true, .d (.sl (List.map eS x23.actions)) true, .d (.sl (List.map eS x23.resources)) true])) (upd 17 (some (.rw [[.v (.string x23.sid)]] 1 0 false false)) noHp))), 19⟩) (fun q => q.1.1) ⟨(n, (t34, 0)), E341⟩ ?_ ?_
                    · exact ren_mk [] (by rfl) (rf_upd (by rfl) (rf_upd (by rfl) (rf_upd (by rfl) (rf_no _)))) (rh_upd (rh_one (by rfl) (by rfl) (by rfl)) (rh_upd (rh_one (by rfl) (by rfl) (by rfl)) (rh_upd (rh_one (by rfl) (by rfl) (by rfl)) (rh_upd (rh_one (by rfl) (by rfl) (by rfl)) (rh_no _)))))
                    · rintro ⟨⟨c, ⟨t131, i21⟩⟩, L343⟩
                      rcases c with _ | c
                      · exact nomatch (show none = some _ from L343)
                      · unfold law23_Small_L7 at L343
                        try dsimp only at L343
                        refine runR_take tab_ok fol 1 ?_
                        try simp -implicitDefEqProofs only [go_sem, Nat.reduceEqDiff, Nat.reduceAdd, reduceCtorEq, ↓reduceIte]
                        rcases ite_inv L343 with ⟨c344, H345⟩ | ⟨c344, H345⟩
                        · try simp -implicitDefEqProofs only [go_sem, Nat.reduceEqDiff, Nat.reduceAdd, reduceCtorEq, ↓reduceIte, c344]
                          rcases ite_inv H345 with ⟨c346, H347⟩ | ⟨c346, H347⟩
                          · obtain ⟨x24, b348, H349⟩ := bind_inv H347
                            obtain ⟨h350, h351⟩ := idx_inv b348
                            try simp only [Int.reduceToNat, Int.toNat_natCast] at h351
                            have h352 := map_at eS h351
                            simp only [List.map_cons, List.map_nil, eS] at h352
                            have h353 := at_lt h351
                            simp only [List.length_cons, List.length_nil, Nat.reduceAdd] at h353
                            try simp -implicitDefEqProofs only [go_sem, Int.reduceEq, Nat.reduceEqDiff, Nat.reduceAdd, reduceCtorEq, ↓reduceIte, c346, nat_of .i64 h350, h352, h353]
                            refine Rd_endF (by rfl) ?_
                            try simp -implicitDefEqProofs only [go_sem, Nat.reduceEqDiff, Nat.reduceAdd, reduceCtorEq, ↓reduceIte]
                            exact ⟨⟨(c, ((IntKind.i64.wrap ((IntKind.i64.wrap (t131 + 1)) + (IntKind.i64.wrap (Int.tdiv (x24.size : Int) 10)))), (IntKind.i64.wrap (i21 + 1)))), H349⟩, ren_mk [] (by rfl) (rf_upd (by rfl) (rf_upd (by rfl) (rf_upd (by rfl) (rf_no _)))) (rh_upd (rh_one (by rfl) (by rfl) (by rfl)) (rh_upd (rh_one (by rfl) (by rfl) (by rfl)) (rh_upd (rh_one (by rfl) (by rfl) (by rfl)) (rh_upd (rh_one (by rfl) (by rfl) (by rfl)) (rh_no _))))), Nat.lt_succ_self _⟩
                          · try simp -implicitDefEqProofs only [go_sem, ↓reduceIte, c346]
                            obtain rfl := Option.some.inj H347
                            exact ⟨⟨t131, rfl⟩, ren_mk [] (by rfl) (rf_upd (by rfl) (rf_upd (by rfl) (rf_no _))) (rh_upd (rh_one (by rfl) (by rfl) (by rfl)) (rh_upd (rh_one (by rfl) (by rfl) (by rfl)) (rh_upd (rh_one (by rfl) (by rfl) (by rfl)) (rh_upd (rh_one (by rfl) (by rfl) (by rfl)) (rh_no _)))))⟩
                        · try simp -implicitDefEqProofs only [go_sem, Nat.reduceEqDiff, Nat.reduceAdd, ↓reduceIte, c344]
                          obtain rfl := Option.some.inj H345
                          exact ⟨⟨t131, rfl⟩, ren_mk [] (by rfl) (rf_upd (by rfl) (rf_upd (by rfl) (rf_no _))) (rh_upd (rh_one (by rfl) (by rfl) (by rfl)) (rh_upd (rh_one (by rfl) (by rfl) (by rfl)) (rh_upd (rh_one (by rfl) (by rfl) (by rfl)) (rh_upd (rh_one (by rfl) (by rfl) (by rfl)) (rh_no _)))))⟩
                  · rintro ⟨t133, he354⟩
                    replace he354 := he354.symm
                    subst he354
                    try dsimp only at H342
                    refine runR_take tab_ok fol 1 ?_
                    try simp -implicitDefEqProofs only [go_sem, Nat.reduceEqDiff, Nat.reduceAdd, reduceCtorEq, ↓reduceIte]
                    obtain rfl := Option.some.inj H342
                    exact endJ_norm ⟨(IntKind.i64.wrap (t133 + 1)), rfl⟩ (ren_mk [] (by rfl) (rf_no _) (rh_upd (rh_one (by rfl) (by rfl) (by rfl)) (rh_upd (rh_one (by rfl) (by rfl) (by rfl)) (rh_upd (rh_one (by rfl) (by rfl) (by rfl)) (rh_upd (rh_one (by rfl) (by rfl) (by rfl)) (rh_no _))))))
                rintro v356 hp357 nx358 ⟨⟨o111, he355⟩, rfl, rfl, rfl⟩
                replace he355 := he355.symm
                subst he355
                try dsimp only at H340
                dsimp only
                try simp -implicitDefEqProofs only [go_sem, Nat.reduceEqDiff, Nat.reduceAdd, reduceCtorEq, ↓reduceIte]
                obtain ⟨e_26, E359, H360⟩ := bind_inv H340
                refine onCall_inl (InlOK.mono (inl_runRJ (α := { y : Int // e_26 = y }) tab_ok Try.func45 rfl (by kernel_rfl) (by kernel_rfl) (by simp [Try.f45]) (fun | ⟨o112, _⟩ => ⟨noFr, upd 0 (some (.bx [.d (.sl (List.map eS t0.users)) true, .d (.sl (List.map eS t0.actions)) true, .d (.sl (List.map eS t0.resources)) true, .d (.sl (List.map eGGroup t0.groups)) true, .d (.sl (List.map eGStmt t0.stmts)) true, .d (.sl (List.map eGBound t0.bounds)) true])) (upd 1 (some (.bx [.v (.int .i64 o112)])) (upd 12 (some (.bx [.v (.string x23.sid), .v (.bool x23.deny), .d (.sl (List.map eS x23.users)) true, .d (.sl (List.map eS x23.groups)) true, .d (.sl (List.map eS x23.actions)) true, .d (.sl (List.map eS x23.resources)) true])) (upd 17 (some (.rw [[.v (.string x23.sid)]] 1 0 false false)) noHp))), 23⟩) (fun | ⟨o112, _⟩ => .tu []) (by rintro ⟨o112, he383⟩; first | ((simp -implicitDefEqProofs only [go_sem, Try.f45]) <;> rfl) | rfl) ?_) ?_)
                · unfold law23_Small_C6_law23_Small_c1 at E359
                  try dsimp only at E359
                  refine runR_seq ?_
                  refine runR_seq ?_
                  refine runR_take tab_ok fol 1 ?_
                  try simp -implicitDefEqProofs only [go_sem, Nat.reduceAdd]
                  obtain ⟨e_27, E361, H362⟩ := bind_inv E359
                  refine runR_join (α := { y : Int // e_27 = y }) (fun | ⟨t136, _⟩ => ⟨upd 0 (.d (.sl (List.map eS x23.users)) true) (upd 1 (.pt 1 0) noFr), upd 0 (some (.bx [.d (.sl (List.map eS t0.users)) true, .d (.sl (List.map eS t0.actions)) true, .d (.sl (List.map eS t0.resources)) true, .d (.sl (List.map eGGroup t0.groups)) true, .d (.sl (List.map eGStmt t0.stmts)) true, .d (.sl (List.map eGBound t0.bounds)) true])) (upd 1 (some (.bx [.v (.int .i64 t136)])) (upd 12 (some (.bx [.v (.string x23.sid), .v (.bool x23.deny), .d (.sl (List.map eS x23.users)) true, .d (.sl (List.map eS x23.groups)) true, .d (.sl (List.map eS x23.actions)) true, .d (.sl (List.map eS x23.resources)) true])) (upd 17 (some (.rw [[.v (.string x23.sid)]] 1 0 false false)) noHp))), 23⟩) ?_ ?_
                  · refine runR_block ?_
                    refine runR_loop (α := { q : Nat × (Int × Int) // law23_Small_L8 n x23 q.1 q.2 = some e_27 }) (fun | ⟨⟨c, ⟨t134, i23⟩⟩, _⟩ => ⟨upd 0 (.d (.sl (List.map eS x23.users)) true) (upd 1 (.pt 1 0) (upd 3 (.v (.int .i64 i23)) noFr)), upd 0 (some (.bx [.d (.sl (List.map eS t0.users)) true, .d (.sl (List.map eS t0.actions)) true, .d (.sl (List.map eS t0.resources)) true, .d (.sl (List.map eGGroup t0.groups)) true, .d (.sl (List.map eGStmt t0.stmts)) true, .d (.sl (List.map eGBound t0.bounds)) true])) (upd 1 (some (.bx [.v (.int .i64 t134)])) (upd 12 (some (.bx [.v (.string x23.sid), .v (.bool x23.deny), .d (.sl (List.map eS x23.users)) true, .d (.sl (List.map eS x23.groups)) true, .d (.sl (List.map eS x23.actions)) true, .d (.sl (List.map eS x23.resources)) true])) (upd 17 (some (.rw [[.v (.string x23.sid)]] 1 0 false false)) noHp))), 23⟩) (fun q => q.1.1) ⟨(n, (o111, 0)), E361⟩ ?_ ?_
                    · exact ren_mk [] (by rfl) (rf_upd (by rfl) (rf_upd (by rfl) (rf_upd (by rfl) (rf_no _)))) (rh_upd (rh_one (by rfl) (by rfl) (by rfl)) (rh_upd (rh_one (by rfl) (by rfl) (by rfl)) (rh_upd (rh_one (by rfl) (by rfl) (by rfl)) (rh_upd (rh_one (by rfl) (by rfl) (by rfl)) (rh_no _)))))
                    · rintro ⟨⟨c, ⟨t134, i23⟩⟩, L363⟩
                      rcases c with _ | c
                      · exact nomatch (show none = some _ from L363)
                      · unfold law23_Small_L8 at L363
                        try dsimp only at L363
                        refine runR_take tab_ok fol 1 ?_
                        try simp -implicitDefEqProofs only [go_sem, Nat.reduceEqDiff, Nat.reduceAdd, reduceCtorEq, ↓reduceIte]
                        rcases ite_inv L363 with ⟨c372, H373⟩ | ⟨c372, H373⟩
                        · try simp -implicitDefEqProofs only [go_sem, Nat.reduceEqDiff, Nat.reduceAdd, reduceCtorEq, ↓reduceIte, c372]
                          rcases ite_inv H373 with ⟨c374, H375⟩ | ⟨c374, H375⟩
                          · obtain ⟨x26, b376, H377⟩ := bind_inv H375
                            obtain ⟨h378, h379⟩ := idx_inv b376
                            try simp only [Int.reduceToNat, Int.toNat_natCast] at h379
                            have h380 := map_at eS h379
                            try simp -implicitDefEqProofs only [go_sem, Int.reduceEq, Nat.reduceEqDiff, Nat.reduceAdd, reduceCtorEq, ↓reduceIte, c374, nat_of .i64 h378, h380]
                            refine Rd_endF (by rfl) ?_
                            try simp -implicitDefEqProofs only [go_sem, Nat.reduceEqDiff, Nat.reduceAdd, reduceCtorEq, ↓reduceIte]
                            exact ⟨⟨(c, ((IntKind.i64.wrap ((IntKind.i64.wrap (t134 + 1)) + (IntKind.i64.wrap (Int.tdiv (x26.size : Int) 10)))), (IntKind.i64.wrap (i23 + 1)))), H377⟩, ren_mk [] (by rfl) (rf_upd (by rfl) (rf_upd (by rfl) (rf_upd (by rfl) (rf_no _)))) (rh_upd (rh_one (by rfl) (by rfl) (by rfl)) (rh_upd (rh_one (by rfl) (by rfl) (by rfl)) (rh_upd (rh_one (by rfl) (by rfl) (by rfl)) (rh_upd (rh_one (by rfl) (by rfl) (by rfl)) (rh_no _))))), Nat.lt_succ_self _⟩
                          · try simp -implicitDefEqProofs only [go_sem, ↓reduceIte, c374]
                            obtain rfl := Option.some.inj H375
                            exact ⟨⟨t134, rfl⟩, ren_mk [] (by rfl) (rf_upd (by rfl) (rf_upd (by rfl) (rf_no _))) (rh_upd (rh_one (by rfl) (by rfl) (by rfl)) (rh_upd (rh_one (by rfl) (by rfl) (by rfl)) (rh_upd (rh_one (by rfl) (by rfl) (by rfl)) (rh_upd (rh_one (by rfl) (by rfl) (by rfl)) (rh_no _)))))⟩
                        · try simp -implicitDefEqProofs only [go_sem, Nat.reduceEqDiff, Nat.reduceAdd, ↓reduceIte, c372]
                          obtain rfl := Option.some.inj H373
                          exact ⟨⟨t134, rfl⟩, ren_mk [] (by rfl) (rf_upd (by rfl) (rf_upd (by rfl) (rf_no _))) (rh_upd (rh_one (by rfl) (by rfl) (by rfl)) (rh_upd (rh_one (by rfl) (by rfl) (by rfl)) (rh_upd (rh_one (by rfl) (by rfl) (by rfl)) (rh_upd (rh_one (by rfl) (by rfl) (by rfl)) (rh_no _)))))⟩
                  · rintro ⟨t136, he382⟩
                    replace he382 := he382.symm
                    subst he382
                    try dsimp only at H362
                    refine runR_take tab_ok fol 1 ?_
                    try simp -implicitDefEqProofs only [go_sem, Nat.reduceEqDiff, Nat.reduceAdd, reduceCtorEq, ↓reduceIte]
                    obtain rfl := Option.some.inj H362
                    exact endJ_norm ⟨(IntKind.i64.wrap (t136 + (x23.users.length : Int))), rfl⟩ (ren_mk [] (by rfl) (rf_no _) (rh_upd (rh_one (by rfl) (by rfl) (by rfl)) (rh_upd (rh_one (by rfl) (by rfl) (by rfl)) (rh_upd (rh_one (by rfl) (by rfl) (by rfl)) (rh_upd (rh_one (by rfl) (by rfl) (by rfl)) (rh_no _))))))
                rintro v384 hp385 nx386 ⟨⟨o112, he383⟩, rfl, rfl, rfl⟩
                replace he383 := he383.symm
                subst he383
                try dsimp only at H360
                dsimp only
                try simp -implicitDefEqProofs only [go_sem, Nat.reduceEqDiff, Nat.reduceAdd, reduceCtorEq, ↓reduceIte]
                obtain ⟨e_28, E387, H388⟩ := bind_inv H360
                refine onCall_inl (InlOK.mono (inl_runRJ (α := { y : Int // e_28 = y }) tab_ok Try.func45 rfl (by kernel_rfl) (by kernel_rfl) (by simp [Try.f45]) (fun | ⟨o113, _⟩ => ⟨noFr, upd 0 (some (.bx [.d (.sl (List.map eS t0.users)) true, .d (.sl (List.map eS t0.actions)) true, .d (.sl (List.map eS t0.resources)) true, .d (.sl (List.map eGGroup t0.groups)) true, .d (.sl (List.map eGStmt t0.stmts)) true, .d (.sl (List.map eGBound t0.bounds)) true])) (upd 1 (some (.bx [.v (.int .i64 o113)])) (upd 12 (some (.bx [.v (.string x23.sid), .v (.bool x23.deny), .d (.sl (List.map eS x23.users)) true, .d (.sl (List.map eS x23.groups)) true, .d (.sl (List.map eS x23.actions)) true, .d (.sl (List.map eS x23.resources)) true])) (upd 17 (some (.rw [[.v (.string x23.sid)]] 1 0 false false)) noHp))), 27⟩) (fun | ⟨o113, _⟩ => .tu []) (by rintro ⟨o113, he411⟩; first | ((simp -implicitDefEqProofs only [go_sem, Try.f45]) <;> rfl) | rfl) ?_) ?_)
                · unfold law23_Small_C7_law23_Small_c1 at E387
                  try dsimp only at E387
                  refine runR_seq ?_
                  refine runR_seq ?_
                  refine runR_take tab_ok fol 1 ?_
                  try simp -implicitDefEqProofs only [go_sem, Nat.reduceAdd]
                  obtain ⟨e_29, E389, H390⟩ := bind_inv E387
                  refine runR_join (α := { y : Int // e_29 = y }) (fun | ⟨t139, _⟩ => ⟨upd 0 (.d (.sl (List.map eS x23.groups)) true) (upd 1 (.pt 1 0) noFr), upd 0 (some (.bx [.d (.sl (List.map eS t0.users)) true, .d (.sl (List.map eS t0.actions)) true, .d (.sl (List.map eS t0.resources)) true, .d (.sl (List.map eGGroup t0.groups)) true, .d (.sl (List.map eGStmt t0.stmts)) true, .d (.sl (List.map eGBound t0.bounds)) true])) (upd 1 (some (.bx [.v (.int .i64 t139)])) (upd 12 (some (.bx [.v (.string x23.sid), .v (.bool x23.deny), .d (.sl (List.map eS x23.users)) true, .d (.sl (List.map eS x23.groups)) true, .d (.sl (List.map eS x23.actions)) true, .d (.sl (List.map eS x23.resources)) true])) (upd 17 (some (.rw [[.v (.string x23.sid)]] 1 0 false false)) noHp))), 27⟩) ?_ ?_
                  · refine runR_block ?_
                    refine runR_loop (α := { q : Nat × (Int × Int) // law23_Small_L9 n x23 q.1 q.2 = some e_29 }) (fun | ⟨⟨c, ⟨t137, i25⟩⟩, _⟩ => ⟨upd 0 (.d (.sl (List.map eS x23.groups)) true) (upd 1 (.pt 1 0) (upd 3 (.v (.int .i64 i25)) noFr)), upd 0 (some (.bx [.d (.sl (List.map eS t0.users)) true, .d (.sl (List.map eS t0.actions)) true, .d (.sl (List.map eS t0.resources)) true, .d (.sl (List.map eGGroup t0.groups)) true, .d (.sl (List.map eGStmt t0.stmts)) true, .d (.sl (List.map eGBound t0.bounds)) true])) (upd 1 (some (.bx [.v (.int .i64 t137)])) (upd 12 (some (.bx [.v (.string x23.sid), .v (.bool x23.deny), .d (.sl (List.map eS x23.users)) true, .d (.sl (List.map eS x23.groups)) true, .d (.sl (List.map eS x23.actions)) true, .d (.sl (List.map eS x23.resources)) true])) (upd 17 (some (.rw [[.v (.string x23.sid)]] 1 0 false false)) noHp))), 27⟩) (fun q => q.1.1) ⟨(n, (o112, 0)), E389⟩ ?_ ?_
                    · exact ren_mk [] (by rfl) (rf_upd (by rfl) (rf_upd (by rfl) (rf_upd (by rfl) (rf_no _)))) (rh_upd (rh_one (by rfl) (by rfl) (by rfl)) (rh_upd (rh_one (by rfl) (by rfl) (by rfl)) (rh_upd (rh_one (by rfl) (by rfl) (by rfl)) (rh_upd (rh_one (by rfl) (by rfl) (by rfl)) (rh_no _)))))
                    · rintro ⟨⟨c, ⟨t137, i25⟩⟩, L391⟩
                      rcases c with _ | c
                      · exact nomatch (show none = some _ from L391)
                      · unfold law23_Small_L9 at L391
                        try dsimp only at L391
                        refine runR_take tab_ok fol 1 ?_
                        try simp -implicitDefEqProofs only [go_sem, Nat.reduceEqDiff, Nat.reduceAdd, reduceCtorEq, ↓reduceIte]
                        rcases ite_inv L391 with ⟨c400, H401⟩ | ⟨c400, H401⟩
                        · try simp -implicitDefEqProofs only [go_sem, Nat.reduceEqDiff, Nat.reduceAdd, reduceCtorEq, ↓reduceIte, c400]
                          rcases ite_inv H401 with ⟨c402, H403⟩ | ⟨c402, H403⟩
                          · obtain ⟨x28, b404, H405⟩ := bind_inv H403
                            obtain ⟨h406, h407⟩ := idx_inv b404
                            try simp only [Int.reduceToNat, Int.toNat_natCast] at h407
                            have h408 := map_at eS h407
                            try simp -implicitDefEqProofs only [go_sem, Int.reduceEq, Nat.reduceEqDiff, Nat.reduceAdd, reduceCtorEq, ↓reduceIte, c402, nat_of .i64 h406, h408]
                            refine Rd_endF (by rfl) ?_
                            try simp -implicitDefEqProofs only [go_sem, Nat.reduceEqDiff, Nat.reduceAdd, reduceCtorEq, ↓reduceIte]
                            exact ⟨⟨(c, ((IntKind.i64.wrap ((IntKind.i64.wrap (t137 + 1)) + (IntKind.i64.wrap (Int.tdiv (x28.size : Int) 10)))), (IntKind.i64.wrap (i25 + 1)))), H405⟩, ren_mk [] (by rfl) (rf_upd (by rfl) (rf_upd (by rfl) (rf_upd (by rfl) (rf_no _)))) (rh_upd (rh_one (by rfl) (by rfl) (by rfl)) (rh_upd (rh_one (by rfl) (by rfl) (by rfl)) (rh_upd (rh_one (by rfl) (by rfl) (by rfl)) (rh_upd (rh_one (by rfl) (by rfl) (by rfl)) (rh_no _))))), Nat.lt_succ_self _⟩
                          · try simp -implicitDefEqProofs only [go_sem, ↓reduceIte, c402]
                            obtain rfl := Option.some.inj H403
                            exact ⟨⟨t137, rfl⟩, ren_mk [] (by rfl) (rf_upd (by rfl) (rf_upd (by rfl) (rf_no _))) (rh_upd (rh_one (by rfl) (by rfl) (by rfl)) (rh_upd (rh_one (by rfl) (by rfl) (by rfl)) (rh_upd (rh_one (by rfl) (by rfl) (by rfl)) (rh_upd (rh_one (by rfl) (by rfl) (by rfl)) (rh_no _)))))⟩
                        · try simp -implicitDefEqProofs only [go_sem, Nat.reduceEqDiff, Nat.reduceAdd, ↓reduceIte, c400]
                          obtain rfl := Option.some.inj H401
                          exact ⟨⟨t137, rfl⟩, ren_mk [] (by rfl) (rf_upd (by rfl) (rf_upd (by rfl) (rf_no _))) (rh_upd (rh_one (by rfl) (by rfl) (by rfl)) (rh_upd (rh_one (by rfl) (by rfl) (by rfl)) (rh_upd (rh_one (by rfl) (by rfl) (by rfl)) (rh_upd (rh_one (by rfl) (by rfl) (by rfl)) (rh_no _)))))⟩
                  · rintro ⟨t139, he410⟩
                    replace he410 := he410.symm
                    subst he410
                    try dsimp only at H390
                    refine runR_take tab_ok fol 1 ?_
                    try simp -implicitDefEqProofs only [go_sem, Nat.reduceEqDiff, Nat.reduceAdd, reduceCtorEq, ↓reduceIte]
                    obtain rfl := Option.some.inj H390
                    exact endJ_norm ⟨(IntKind.i64.wrap (t139 + (x23.groups.length : Int))), rfl⟩ (ren_mk [] (by rfl) (rf_no _) (rh_upd (rh_one (by rfl) (by rfl) (by rfl)) (rh_upd (rh_one (by rfl) (by rfl) (by rfl)) (rh_upd (rh_one (by rfl) (by rfl) (by rfl)) (rh_upd (rh_one (by rfl) (by rfl) (by rfl)) (rh_no _))))))
                rintro v412 hp413 nx414 ⟨⟨o113, he411⟩, rfl, rfl, rfl⟩
                replace he411 := he411.symm
                subst he411
                try dsimp only at H388
                dsimp only
                try simp -implicitDefEqProofs only [go_sem, Nat.reduceEqDiff, Nat.reduceAdd, reduceCtorEq, ↓reduceIte]
                obtain ⟨e_30, E415, H416⟩ := bind_inv H388
                refine onCall_inl (InlOK.mono (inl_runRJ (α := { y : Int // e_30 = y }) tab_ok Try.func45 rfl (by kernel_rfl) (by kernel_rfl) (by simp [Try.f45]) (fun | ⟨o114, _⟩ => ⟨noFr, upd 0 (some (.bx [.d (.sl (List.map eS t0.users)) true, .d (.sl (List.map eS t0.actions)) true, .d (.sl (List.map eS t0.resources)) true, .d (.sl (List.map eGGroup t0.groups)) true, .d (.sl (List.map eGStmt t0.stmts)) true, .d (.sl (List.map eGBound t0.bounds)) true])) (upd 1 (some (.bx [.v (.int .i64 o114)])) (upd 12 (some (.bx [.v (.string x23.sid), .v (.bool x23.deny), .d (.sl (List.map eS x23.users)) true, .d (.sl (List.map eS x23.groups)) true, .d (.sl (List.map eS x23.actions)) true, .d (.sl (List.map eS x23.resources)) true])) (upd 17 (some (.rw [[.v (.string x23.sid)]] 1 0 false false)) noHp))), 31⟩) (fun | ⟨o114, _⟩ => .tu []) (by rintro ⟨o114, he439⟩; first | ((simp -implicitDefEqProofs only [go_sem, Try.f45]) <;> rfl) | rfl) ?_) ?_)
                · unfold law23_Small_C8_law23_Small_c1 at E415
                  try dsimp only at E415
                  refine runR_seq ?_
                  refine runR_seq ?_
                  refine runR_take tab_ok fol 1 ?_
                  try simp -implicitDefEqProofs only [go_sem, Nat.reduceAdd]
                  obtain ⟨e_31, E417, H418⟩ := bind_inv E415
                  refine runR_join (α := { y : Int // e_31 = y }) (fun | ⟨t142, _⟩ => ⟨upd 0 (.d (.sl (List.map eS x23.actions)) true) (upd 1 (.pt 1 0) noFr), upd 0 (some (.bx [.d (.sl (List.map eS t0.users)) true, .d (.sl (List.map eS t0.actions)) true, .d (.sl (List.map eS t0.resources)) true, .d (.sl (List.map eGGroup t0.groups)) true, .d (.sl (List.map eGStmt t0.stmts)) true, .d (.sl (List.map eGBound t0.bounds)) true])) (upd 1 (some (.bx [.v (.int .i64 t142)])) (upd 12 (some (.bx [.v (.string x23.sid), .v (.bool x23.deny), .d (.sl (List.map eS x23.users)) true, .d (.sl (List.map eS x23.groups)) true, .d (.sl (List.map eS x23.actions)) true, .d (.sl (List.map eS x23.resources)) true])) (upd 17 (some (.rw [[.v (.string x23.sid)]] 1 0 false false)) noHp))), 31⟩) ?_ ?_
                  · refine runR_block ?_
                    refine runR_loop (α := { q : Nat × (Int × Int) // law23_Small_L10 n x23 q.1 q.2 = some e_31 }) (fun | ⟨⟨c, ⟨t140, i27⟩⟩, _⟩ => ⟨upd 0 (.d (.sl (List.map eS x23.actions)) true) (upd 1 (.pt 1 0) (upd 3 (.v (.int .i64 i27)) noFr)), upd 0 (some (.bx [.d (.sl (List.map eS t0.users)) true, .d (.sl (List.map eS t0.actions)) true, .d (.sl (List.map eS t0.resources)) true, .d (.sl (List.map eGGroup t0.groups)) true, .d (.sl (List.map eGStmt t0.stmts)) true, .d (.sl (List.map eGBound t0.bounds)) true])) (upd 1 (some (.bx [.v (.int .i64 t140)])) (upd 12 (some (.bx [.v (.string x23.sid), .v (.bool x23.deny), .d (.sl (List.map eS x23.users)) true, .d (.sl (List.map eS x23.groups)) true, .d (.sl (List.map eS x23.actions)) true, .d (.sl (List.map eS x23.resources)) true])) (upd 17 (some (.rw [[.v (.string x23.sid)]] 1 0 false false)) noHp))), 31⟩) (fun q => q.1.1) ⟨(n, (o113, 0)), E417⟩ ?_ ?_
                    · exact ren_mk [] (by rfl) (rf_upd (by rfl) (rf_upd (by rfl) (rf_upd (by rfl) (rf_no _)))) (rh_upd (rh_one (by rfl) (by rfl) (by rfl)) (rh_upd (rh_one (by rfl) (by rfl) (by rfl)) (rh_upd (rh_one (by rfl) (by rfl) (by rfl)) (rh_upd (rh_one (by rfl) (by rfl) (by rfl)) (rh_no _)))))
                    · rintro ⟨⟨c, ⟨t140, i27⟩⟩, L419⟩
                      rcases c with _ | c
                      · exact nomatch (show none = some _ from L419)
                      · unfold law23_Small_L10 at L419
                        try dsimp only at L419
                        refine runR_take tab_ok fol 1 ?_
                        try simp -implicitDefEqProofs only [go_sem, Nat.reduceEqDiff, Nat.reduceAdd, reduceCtorEq, ↓reduceIte]
                        rcases ite_inv L419 with ⟨c428, H429⟩ | ⟨c428, H429⟩
                        · try simp -implicitDefEqProofs only [go_sem, Nat.reduceEqDiff, Nat.reduceAdd, reduceCtorEq, ↓reduceIte, c428]
                          rcases ite_inv H429 with ⟨c430, H431⟩ | ⟨c430, H431⟩
                          · obtain ⟨x30, b432, H433⟩ := bind_inv H431
                            obtain ⟨h434, h435⟩ := idx_inv b432
                            try simp only [Int.reduceToNat, Int.toNat_natCast] at h435
                            have h436 := map_at eS h435
                            try simp -implicitDefEqProofs only [go_sem, Int.reduceEq, Nat.reduceEqDiff, Nat.reduceAdd, reduceCtorEq, ↓reduceIte, c430, nat_of .i64 h434, h436]
                            refine Rd_endF (by rfl) ?_
                            try simp -implicitDefEqProofs only [go_sem, Nat.reduceEqDiff, Nat.reduceAdd, reduceCtorEq, ↓reduceIte]
                            exact ⟨⟨(c, ((IntKind.i64.wrap ((IntKind.i64.wrap (t140 + 1)) + (IntKind.i64.wrap (Int.tdiv (x30.size : Int) 10)))), (IntKind.i64.wrap (i27 + 1)))), H433⟩, ren_mk [] (by rfl) (rf_upd (by rfl) (rf_upd (by rfl) (rf_upd (by rfl) (rf_no _)))) (rh_upd (rh_one (by rfl) (by rfl) (by rfl)) (rh_upd (rh_one (by rfl) (by rfl) (by rfl)) (rh_upd (rh_one (by rfl) (by rfl) (by rfl)) (rh_upd (rh_one (by rfl) (by rfl) (by rfl)) (rh_no _))))), Nat.lt_succ_self _⟩
                          · try simp -implicitDefEqProofs only [go_sem, ↓reduceIte, c430]
                            obtain rfl := Option.some.inj H431
                            exact ⟨⟨t140, rfl⟩, ren_mk [] (by rfl) (rf_upd (by rfl) (rf_upd (by rfl) (rf_no _))) (rh_upd (rh_one (by rfl) (by rfl) (by rfl)) (rh_upd (rh_one (by rfl) (by rfl) (by rfl)) (rh_upd (rh_one (by rfl) (by rfl) (by rfl)) (rh_upd (rh_one (by rfl) (by rfl) (by rfl)) (rh_no _)))))⟩
                        · try simp -implicitDefEqProofs only [go_sem, Nat.reduceEqDiff, Nat.reduceAdd, ↓reduceIte, c428]
                          obtain rfl := Option.some.inj H429
                          exact ⟨⟨t140, rfl⟩, ren_mk [] (by rfl) (rf_upd (by rfl) (rf_upd (by rfl) (rf_no _))) (rh_upd (rh_one (by rfl) (by rfl) (by rfl)) (rh_upd (rh_one (by rfl) (by rfl) (by rfl)) (rh_upd (rh_one (by rfl) (by rfl) (by rfl)) (rh_upd (rh_one (by rfl) (by rfl) (by rfl)) (rh_no _)))))⟩
                  · rintro ⟨t142, he438⟩
                    replace he438 := he438.symm
                    subst he438
                    try dsimp only at H418
                    refine runR_take tab_ok fol 1 ?_
                    try simp -implicitDefEqProofs only [go_sem, Nat.reduceEqDiff, Nat.reduceAdd, reduceCtorEq, ↓reduceIte]
                    obtain rfl := Option.some.inj H418
                    exact endJ_norm ⟨(IntKind.i64.wrap (t142 + (x23.actions.length : Int))), rfl⟩ (ren_mk [] (by rfl) (rf_no _) (rh_upd (rh_one (by rfl) (by rfl) (by rfl)) (rh_upd (rh_one (by rfl) (by rfl) (by rfl)) (rh_upd (rh_one (by rfl) (by rfl) (by rfl)) (rh_upd (rh_one (by rfl) (by rfl) (by rfl)) (rh_no _))))))
                rintro v440 hp441 nx442 ⟨⟨o114, he439⟩, rfl, rfl, rfl⟩
                replace he439 := he439.symm
                subst he439
                try dsimp only at H416
                dsimp only
                try simp -implicitDefEqProofs only [go_sem, Nat.reduceEqDiff, Nat.reduceAdd, reduceCtorEq, ↓reduceIte]
                obtain ⟨e_32, E443, H444⟩ := bind_inv H416
                refine onCall_inl (InlOK.mono (inl_runRJ (α := { y : Int // e_32 = y }) tab_ok Try.func45 rfl (by kernel_rfl) (by kernel_rfl) (by simp [Try.f45]) (fun | ⟨o115, _⟩ => ⟨noFr, upd 0 (some (.bx [.d (.sl (List.map eS t0.users)) true, .d (.sl (List.map eS t0.actions)) true, .d (.sl (List.map eS t0.resources)) true, .d (.sl (List.map eGGroup t0.groups)) true, .d (.sl (List.map eGStmt t0.stmts)) true, .d (.sl (List.map eGBound t0.bounds)) true])) (upd 1 (some (.bx [.v (.int .i64 o115)])) (upd 12 (some (.bx [.v (.string x23.sid), .v (.bool x23.deny), .d (.sl (List.map eS x23.users)) true, .d (.sl (List.map eS x23.groups)) true, .d (.sl (List.map eS x23.actions)) true, .d (.sl (List.map eS x23.resources)) true])) (upd 17 (some (.rw [[.v (.string x23.sid)]] 1 0 false false)) noHp))), 35⟩) (fun | ⟨o115, _⟩ => .tu []) (by rintro ⟨o115, he467⟩; first | ((simp -implicitDefEqProofs only [go_sem, Try.f45]) <;> rfl) | rfl) ?_) ?_)
                · unfold law23_Small_C9_law23_Small_c1 at E443
                  try dsimp only at E443
                  refine runR_seq ?_
                  refine runR_seq ?_
                  refine runR_take tab_ok fol 1 ?_
                  try simp -implicitDefEqProofs only [go_sem, Nat.reduceAdd]
                  obtain ⟨e_33, E445, H446⟩ := bind_inv E443
                  refine runR_join (α := { y : Int // e_33 = y }) (fun | ⟨t145, _⟩ => ⟨upd 0 (.d (.sl (List.map eS x23.resources)) true) (upd 1 (.pt 1 0) noFr), upd 0 (some (.bx [.d (.sl (List.map eS t0.users)) true, .d (.sl (List.map eS t0.actions)) true, .d (.sl (List.map eS t0.resources)) true, .d (.sl (List.map eGGroup t0.groups)) true, .d (.sl (List.map eGStmt t0.stmts)) true, .d (.sl (List.map eGBound t0.bounds)) true])) (upd 1 (some (.bx [.v (.int .i64 t145)])) (upd 12 (some (.bx [.v (.string x23.sid), .v (.bool x23.deny), .d (.sl (List.map eS x23.users)) true, .d (.sl (List.map eS x23.groups)) true, .d (.sl (List.map eS x23.actions)) true, .d (.sl (List.map eS x23.resources)) true])) (upd 17 (some (.rw [[.v (.string x23.sid)]] 1 0 false false)) noHp))), 35⟩) ?_ ?_
                  · refine runR_block ?_
                    refine runR_loop (α := { q : Nat × (Int × Int) // law23_Small_L11 n x23 q.1 q.2 = some e_33 }) (fun | ⟨⟨c, ⟨t143, i29⟩⟩, _⟩ => ⟨upd 0 (.d (.sl (List.map eS x23.resources)) true) (upd 1 (.pt 1 0) (upd 3 (.v (.int .i64 i29)) noFr)), upd 0 (some (.bx [.d (.sl (List.map eS t0.users)) true, .d (.sl (List.map eS t0.actions)) true, .d (.sl (List.map eS t0.resources)) true, .d (.sl (List.map eGGroup t0.groups)) true, .d (.sl (List.map eGStmt t0.stmts)) true, .d (.sl (List.map eGBound t0.bounds)) true])) (upd 1 (some (.bx [.v (.int .i64 t143)])) (upd 12 (some (.bx [.v (.string x23.sid), .v (.bool x23.deny), .d (.sl (List.map eS x23.users)) true, .d (.sl (List.map eS x23.groups)) true, .d (.sl (List.map eS x23.actions)) true, .d (.sl (List.map eS x23.resources)) true])) (upd 17 (some (.rw [[.v (.string x23.sid)]] 1 0 false false)) noHp))), 35⟩) (fun q => q.1.1) ⟨(n, (o114, 0)), E445⟩ ?_ ?_
                    · exact ren_mk [] (by rfl) (rf_upd (by rfl) (rf_upd (by rfl) (rf_upd (by rfl) (rf_no _)))) (rh_upd (rh_one (by rfl) (by rfl) (by rfl)) (rh_upd (rh_one (by rfl) (by rfl) (by rfl)) (rh_upd (rh_one (by rfl) (by rfl) (by rfl)) (rh_upd (rh_one (by rfl) (by rfl) (by rfl)) (rh_no _)))))
                    · rintro ⟨⟨c, ⟨t143, i29⟩⟩, L447⟩
                      rcases c with _ | c
                      · exact nomatch (show none = some _ from L447)
                      · unfold law23_Small_L11 at L447
                        try dsimp only at L447
                        refine runR_take tab_ok fol 1 ?_
                        try simp -implicitDefEqProofs only [go_sem, Nat.reduceEqDiff, Nat.reduceAdd, reduceCtorEq, ↓reduceIte]
                        rcases ite_inv L447 with ⟨c456, H457⟩ | ⟨c456, H457⟩
                        · try simp -implicitDefEqProofs only [go_sem, Nat.reduceEqDiff, Nat.reduceAdd, reduceCtorEq, ↓reduceIte, c456]
                          rcases ite_inv H457 with ⟨c458, H459⟩ | ⟨c458, H459⟩
                          · obtain ⟨x32, b460, H461⟩ := bind_inv H459
                            obtain ⟨h462, h463⟩ := idx_inv b460
                            try simp only [Int.reduceToNat, Int.toNat_natCast] at h463
                            have h464 := map_at eS h463
                            try simp -implicitDefEqProofs only [go_sem, Int.reduceEq, Nat.reduceEqDiff, Nat.reduceAdd, reduceCtorEq, ↓reduceIte, c458, nat_of .i64 h462, h464]
                            refine Rd_endF (by rfl) ?_
                            try simp -implicitDefEqProofs only [go_sem, Nat.reduceEqDiff, Nat.reduceAdd, reduceCtorEq, ↓reduceIte]
                            exact ⟨⟨(c, ((IntKind.i64.wrap ((IntKind.i64.wrap (t143 + 1)) + (IntKind.i64.wrap (Int.tdiv (x32.size : Int) 10)))), (IntKind.i64.wrap (i29 + 1)))), H461⟩, ren_mk [] (by rfl) (rf_upd (by rfl) (rf_upd (by rfl) (rf_upd (by rfl) (rf_no _)))) (rh_upd (rh_one (by rfl) (by rfl) (by rfl)) (rh_upd (rh_one (by rfl) (by rfl) (by rfl)) (rh_upd (rh_one (by rfl) (by rfl) (by rfl)) (rh_upd (rh_one (by rfl) (by rfl) (by rfl)) (rh_no _))))), Nat.lt_succ_self _⟩
                          · try simp -implicitDefEqProofs only [go_sem, ↓reduceIte, c458]
                            obtain rfl := Option.some.inj H459
                            exact ⟨⟨t143, rfl⟩, ren_mk [] (by rfl) (rf_upd (by rfl) (rf_upd (by rfl) (rf_no _))) (rh_upd (rh_one (by rfl) (by rfl) (by rfl)) (rh_upd (rh_one (by rfl) (by rfl) (by rfl)) (rh_upd (rh_one (by rfl) (by rfl) (by rfl)) (rh_upd (rh_one (by rfl) (by rfl) (by rfl)) (rh_no _)))))⟩
                        · try simp -implicitDefEqProofs only [go_sem, Nat.reduceEqDiff, Nat.reduceAdd, ↓reduceIte, c456]
                          obtain rfl := Option.some.inj H457
                          exact ⟨⟨t143, rfl⟩, ren_mk [] (by rfl) (rf_upd (by rfl) (rf_upd (by rfl) (rf_no _))) (rh_upd (rh_one (by rfl) (by rfl) (by rfl)) (rh_upd (rh_one (by rfl) (by rfl) (by rfl)) (rh_upd (rh_one (by rfl) (by rfl) (by rfl)) (rh_upd (rh_one (by rfl) (by rfl) (by rfl)) (rh_no _)))))⟩
                  · rintro ⟨t145, he466⟩
                    replace he466 := he466.symm
                    subst he466
                    try dsimp only at H446
                    refine runR_take tab_ok fol 1 ?_
                    try simp -implicitDefEqProofs only [go_sem, Nat.reduceEqDiff, Nat.reduceAdd, reduceCtorEq, ↓reduceIte]
                    obtain rfl := Option.some.inj H446
                    exact endJ_norm ⟨(IntKind.i64.wrap (t145 + (x23.resources.length : Int))), rfl⟩ (ren_mk [] (by rfl) (rf_no _) (rh_upd (rh_one (by rfl) (by rfl) (by rfl)) (rh_upd (rh_one (by rfl) (by rfl) (by rfl)) (rh_upd (rh_one (by rfl) (by rfl) (by rfl)) (rh_upd (rh_one (by rfl) (by rfl) (by rfl)) (rh_no _))))))
                rintro v468 hp469 nx470 ⟨⟨o115, he467⟩, rfl, rfl, rfl⟩
                replace he467 := he467.symm
                subst he467
                try dsimp only at H444
                dsimp only
                try simp -implicitDefEqProofs only [go_sem, Nat.reduceEqDiff, Nat.reduceAdd, ↓reduceIte]
                exact ⟨⟨(c, (o115, (IntKind.i64.wrap (t6 + 1)))), H444⟩, ren_mk [(0, 0), (1, 1)] (by rfl) (rf_upd (by rfl) (rf_upd (by rfl) (rf_upd (by rfl) (rf_upd (by rfl) (rf_no _))))) (rh_upd (rh_one (by rfl) (by rfl) (by rfl)) (rh_upd (rh_one (by rfl) (by rfl) (by rfl)) (rh_no _))), Nat.lt_succ_self _⟩
              · try simp -implicitDefEqProofs only [go_sem, ↓reduceIte, c331]
                obtain rfl := Option.some.inj H332
                exact ⟨⟨t34, rfl⟩, ren_mk [(0, 0), (1, 1)] (by rfl) (rf_upd (by rfl) (rf_upd (by rfl) (rf_upd (by rfl) (rf_no _)))) (rh_upd (rh_one (by rfl) (by rfl) (by rfl)) (rh_upd (rh_one (by rfl) (by rfl) (by rfl)) (rh_no _)))⟩
        · rintro ⟨t36, he667⟩
          replace he667 := he667.symm
          subst he667
          try dsimp only at H189
          refine runR_seq ?_
          refine runR_seq ?_
          refine runR_take tab_ok fol 1 ?_
          try simp -implicitDefEqProofs only [go_sem, Nat.reduceAdd]
          obtain ⟨e_34, E471, H472⟩ := bind_inv H189
          refine runR_join (α := { y : Int // e_34 = y }) (fun | ⟨t39, _⟩ => ⟨upd 3 (.pt 0 0) noFr, upd 0 (some (.bx [.v (.int .i64 t39)])) noHp, 1⟩) ?_ ?_
          · refine runR_block ?_
            refine runR_loop (α := { q : Nat × (Int × Int) // law23_Small_L12 n t0 q.1 q.2 = some e_34 }) (fun | ⟨⟨c, ⟨t37, t8⟩⟩, _⟩ => ⟨upd 1 (.pt 0 0) (upd 3 (.pt 1 0) (upd 4 (.fn 45 [.pt 1 0]) (upd 8 (.v (.int .i64 t8)) noFr))), upd 0 (some (.bx [.d (.sl (List.map eS t0.users)) true, .d (.sl (List.map eS t0.actions)) true, .d (.sl (List.map eS t0.resources)) true, .d (.sl (List.map eGGroup t0.groups)) true, .d (.sl (List.map eGStmt t0.stmts)) true, .d (.sl (List.map eGBound t0.bounds)) true])) (upd 1 (some (.bx [.v (.int .i64 t37)])) noHp), 2⟩) (fun q => q.1.1) ⟨(n, (t36, 0)), E471⟩ ?_ ?_
            · exact ren_mk [(0, 0), (1, 1)] (by rfl) (rf_upd (by rfl) (rf_upd (by rfl) (rf_upd (by rfl) (rf_upd (by rfl) (rf_no _))))) (rh_upd (rh_one (by rfl) (by rfl) (by rfl)) (rh_upd (rh_one (by rfl) (by rfl) (by rfl)) (rh_no _)))
            · rintro ⟨⟨c, ⟨t37, t8⟩⟩, L473⟩
              rcases c with _ | c
              · exact nomatch (show none = some _ from L473)
              · unfold law23_Small_L12 at L473
                try dsimp only at L473
                refine runR_take tab_ok fol 1 ?_
                try simp -implicitDefEqProofs only [go_sem, Nat.reduceEqDiff, Nat.reduceAdd, reduceCtorEq, ↓reduceIte]
                rcases ite_inv L473 with ⟨c570, H571⟩ | ⟨c570, H571⟩
                · obtain ⟨x41, b572, H573⟩ := bind_inv H571
                  obtain ⟨h574, h575⟩ := idx_inv b572
                  try simp only [Int.reduceToNat, Int.toNat_natCast] at h575
                  have h576 := map_at eGBound h575
                  try simp -implicitDefEqProofs only [go_sem, Nat.reduceLT, Nat.reduceEqDiff, Nat.reduceAdd, Nat.reduceLeDiff, reduceCtorEq, ↓reduceIte, eGBound, c570, nat_of .i64 h574, h576]
                  obtain ⟨e_41, E578, H579⟩ := bind_inv H573
                  refine onCall_inl (InlOK.mono (inl_runRJ (α := { y : Int // e_41 = y }) tab_ok Try.func45 rfl (by kernel_rfl) (by kernel_rfl) (by simp [Try.f45]) (fun | ⟨o119, _⟩ => ⟨noFr, upd 0 (some (.bx [.d (.sl (List.map eS t0.users)) true, .d (.sl (List.map eS t0.actions)) true, .d (.sl (List.map eS t0.resources)) true, .d (.sl (List.map eGGroup t0.groups)) true, .d (.sl (List.map eGStmt t0.stmts)) true, .d (.sl (List.map eGBound t0.bounds)) true])) (upd 1 (some (.bx [.v (.int .i64 o119)])) (upd 14 (some (.rw [[.v (.string x41.user)]] 1 0 false false)) noHp)), 16⟩) (fun | ⟨o119, _⟩ => .tu []) (by rintro ⟨o119, he594⟩; first | ((simp -implicitDefEqProofs only [go_sem, Try.f45]) <;> rfl) | rfl) ?_) ?_)
                  · unfold law23_Small_C10_law23_Small_c1 at E578
                    try dsimp only at E578
                    refine runR_seq ?_
                    refine runR_seq ?_
                    refine runR_take tab_ok fol 1 ?_
                    try simp -implicitDefEqProofs only [go_sem, Nat.reduceAdd]
                    obtain ⟨e_42, E580, H581⟩ := bind_inv E578
                    refine runR_join (α := { y : Int // e_42 = y }) (fun | ⟨t157, _⟩ => ⟨upd 0 (.so 14 0 0 1) (upd 1 (.pt 1 0) noFr), upd 0 (some (.bx [.d (.sl (List.map eS t0.users)) true, .d (.sl (List.map eS t0.actions)) true, .d (.sl (List.map eS t0.resources)) true, .d (.sl (List.map eGGroup t0.groups)) true, .d (.sl (List.map eGStmt t0.stmts)) true, .d (.sl (List.map eGBound t0.bounds)) true])) (upd 1 (some (.bx [.v (.int .i64 t157)])) (upd 14 (some (.rw [[.v (.string x41.user)]] 1 0 false false)) noHp)), 16⟩) ?_ ?_
                    · refine runR_block ?_
                      refine runR_loop (α := { q : Nat × (Int × Int) // law23_Small_L13 n x41 q.1 q.2 = some e_42 }) (fun | ⟨⟨c, ⟨t155, i37⟩⟩, _⟩ => ⟨upd 0 (.so 14 0 0 1) (upd 1 (.pt 1 0) (upd 3 (.v (.int .i64 i37)) noFr)), upd 0 (some (.bx [.d (.sl (List.map eS t0.users)) true, .d (.sl (List.map eS t0.actions)) true, .d (.sl (List.map eS t0.resources)) true, .d (.sl (List.map eGGroup t0.groups)) true, .d (.sl (List.map eGStmt t0.stmts)) true, .d (.sl (List.map eGBound t0.bounds)) true])) (upd 1 (some (.bx [.v (.int .i64 t155)])) (upd 14 (some (.rw [[.v (.string x41.user)]] 1 0 false false)) noHp)), 16⟩) (fun q => q.1.1) ⟨(n, (t37, 0)), E580⟩ ?_ ?_
                      · exact ren_mk [] (by rfl) (rf_upd (by rfl) (rf_upd (by rfl) (rf_upd (by rfl) (rf_no _)))) (rh_upd (rh_one (by rfl) (by rfl) (by rfl)) (rh_upd (rh_one (by rfl) (by rfl) (by rfl)) (rh_upd (rh_one (by rfl) (by rfl) (by rfl)) (rh_no _))))
                      · rintro ⟨⟨c, ⟨t155, i37⟩⟩, L582⟩
                        rcases c with _ | c
                        · exact nomatch (show none = some _ from L582)
                        · unfold law23_Small_L13 at L582
                          try dsimp only at L582
                          refine runR_take tab_ok fol 1 ?_
                          try simp -implicitDefEqProofs only [go_sem, Nat.reduceEqDiff, Nat.reduceAdd, reduceCtorEq, ↓reduceIte]
                          rcases ite_inv L582 with ⟨c583, H584⟩ | ⟨c583, H584⟩
                          · try simp -implicitDefEqProofs only [go_sem, Nat.reduceEqDiff, Nat.reduceAdd, reduceCtorEq, ↓reduceIte, c583]
                            rcases ite_inv H584 with ⟨c585, H586⟩ | ⟨c585, H586⟩
                            · obtain ⟨x42, b587, H588⟩ := bind_inv H586
                              obtain ⟨h589, h590⟩ := idx_inv b587
                              try simp only [Int.reduceToNat, Int.toNat_natCast] at h590
                              have h591 := map_at eS h590
                              simp only [List.map_cons, List.map_nil, eS] at h591
                              have h592 := at_lt h590
                              simp only [List.length_cons, List.length_nil, Nat.reduceAdd] at h592
                              try simp -implicitDefEqProofs only [go_sem, Int.reduceEq, Nat.reduceEqDiff, Nat.reduceAdd, reduceCtorEq, ↓reduceIte, c585, nat_of .i64 h589, h591, h592]
                              refine Rd_endF (by rfl) ?_
                              try simp -implicitDefEqProofs only [go_sem, Nat.reduceEqDiff, Nat.reduceAdd, reduceCtorEq, ↓reduceIte]
                              exact ⟨⟨(c, ((IntKind.i64.wrap ((IntKind.i64.wrap (t155 + 1)) + (IntKind.i64.wrap (Int.tdiv (x42.size : Int) 10)))), (IntKind.i64.wrap (i37 + 1)))), H588⟩, ren_mk [] (by rfl) (rf_upd (by rfl) (rf_upd (by rfl) (rf_upd (by rfl) (rf_no _)))) (rh_upd (rh_one (by rfl) (by rfl) (by rfl)) (rh_upd (rh_one (by rfl) (by rfl) (by rfl)) (rh_upd (rh_one (by rfl) (by rfl) (by rfl)) (rh_no _)))), Nat.lt_succ_self _⟩
                            · try simp -implicitDefEqProofs only [go_sem, ↓reduceIte, c585]
                              obtain rfl := Option.some.inj H586
                              exact ⟨⟨t155, rfl⟩, ren_mk [] (by rfl) (rf_upd (by rfl) (rf_upd (by rfl) (rf_no _))) (rh_upd (rh_one (by rfl) (by rfl) (by rfl)) (rh_upd (rh_one (by rfl) (by rfl) (by rfl)) (rh_upd (rh_one (by rfl) (by rfl) (by rfl)) (rh_no _))))⟩
                          · try simp -implicitDefEqProofs only [go_sem, Nat.reduceEqDiff, Nat.reduceAdd, ↓reduceIte, c583]
                            obtain rfl := Option.some.inj H584
                            exact ⟨⟨t155, rfl⟩, ren_mk [] (by rfl) (rf_upd (by rfl) (rf_upd (by rfl) (rf_no _))) (rh_upd (rh_one (by rfl) (by rfl) (by rfl)) (rh_upd (rh_one (by rfl) (by rfl) (by rfl)) (rh_upd (rh_one (by rfl) (by rfl) (by rfl)) (rh_no _))))⟩
                    · rintro ⟨t157, he593⟩
                      replace he593 := he593.symm
                      subst he593
                      try dsimp only at H581
                      refine runR_take tab_ok fol 1 ?_
                      try simp -implicitDefEqProofs only [go_sem, Nat.reduceEqDiff, Nat.reduceAdd, reduceCtorEq, ↓reduceIte]
                      obtain rfl := Option.some.inj H581
                      exact endJ_norm ⟨(IntKind.i64.wrap (t157 + 1)), rfl⟩ (ren_mk [] (by rfl) (rf_no _) (rh_upd (rh_one (by rfl) (by rfl) (by rfl)) (rh_upd (rh_one (by rfl) (by rfl) (by rfl)) (rh_upd (rh_one (by rfl) (by rfl) (by rfl)) (rh_no _)))))
                  rintro v595 hp596 nx597 ⟨⟨o119, he594⟩, rfl, rfl, rfl⟩
                  replace he594 := he594.symm
                  subst he594
                  try dsimp only at H579
                  dsimp only
                  obtain ⟨x43, b598, H599⟩ := bind_inv H579
                  obtain ⟨h600, h601⟩ := idx_inv b598
                  try simp only [Int.reduceToNat, Int.toNat_natCast] at h601
                  have h602 := map_at eGBound h601
                  try simp -implicitDefEqProofs only [go_sem, Nat.reduceEqDiff, Nat.reduceAdd, reduceCtorEq, ↓reduceIte, eGBound, nat_of .i64 h600, h602]
                  obtain ⟨e_43, E604, H605⟩ := bind_inv H599
                  refine onCall_inl (InlOK.mono (inl_runRJ (α := { y : Int // e_43 = y }) tab_ok Try.func45 rfl (by kernel_rfl) (by kernel_rfl) (by simp [Try.f45]) (fun | ⟨o120, _⟩ => ⟨noFr, upd 0 (some (.bx [.d (.sl (List.map eS t0.users)) true, .d (.sl (List.map eS t0.actions)) true, .d (.sl (List.map eS t0.resources)) true, .d (.sl (List.map eGGroup t0.groups)) true, .d (.sl (List.map eGStmt t0.stmts)) true, .d (.sl (List.map eGBound t0.bounds)) true])) (upd 1 (some (.bx [.v (.int .i64 o120)])) (upd 14 (some (.rw [[.v (.string x41.user)]] 1 0 false false)) noHp)), 24⟩) (fun | ⟨o120, _⟩ => .tu []) (by rintro ⟨o120, he628⟩; first | ((simp -implicitDefEqProofs only [go_sem, Try.f45]) <;> rfl) | rfl) ?_) ?_)
                  · unfold law23_Small_C11_law23_Small_c1 at E604
                    try dsimp only at E604
                    refine runR_seq ?_
                    refine runR_seq ?_
                    refine runR_take tab_ok fol 1 ?_
                    try simp -implicitDefEqProofs only [go_sem, Nat.reduceAdd]
                    obtain ⟨e_44, E606, H607⟩ := bind_inv E604
                    refine runR_join (α := { y : Int // e_44 = y }) (fun | ⟨t160, _⟩ => ⟨upd 0 (.d (.sl (List.map eS x43.actions)) true) (upd 1 (.pt 1 0) noFr), upd 0 (some (.bx [.d (.sl (List.map eS t0.users)) true, .d (.sl (List.map eS t0.actions)) true, .d (.sl (List.map eS t0.resources)) true, .d (.sl (List.map eGGroup t0.groups)) true, .d (.sl (List.map eGStmt t0.stmts)) true, .d (.sl (List.map eGBound t0.bounds)) true])) (upd 1 (some (.bx [.v (.int .i64 t160)])) (upd 14 (some (.rw [[.v (.string x41.user)]] 1 0 false false)) noHp)), 24⟩) ?_ ?_
                    · refine runR_block ?_
                      refine runR_loop (α := { q : Nat × (Int × Int) // law23_Small_L14 n x43 q.1 q.2 = some e_44 }) (fun | ⟨⟨c, ⟨t158, i39⟩⟩, _⟩ => ⟨upd 0 (.d (.sl (List.map eS x43.actions)) true) (upd 1 (.pt 1 0) (upd 3 (.v (.int .i64 i39)) noFr)), upd 0 (some (.bx [.d (.sl (List.map eS t0.users)) true, .d (.sl (List.map eS t0.actions)) true, .d (.sl (List.map eS t0.resources)) true, .d (.sl (List.map eGGroup t0.groups)) true, .d (.sl (List.map eGStmt t0.stmts)) true, .d (.sl (List.map eGBound t0.bounds)) true])) (upd 1 (some (.bx [.v (.int .i64 t158)])) (upd 14 (some (.rw [[.v (.string x41.user)]] 1 0 false false)) noHp)), 24⟩) (fun q => q.1.1) ⟨(n, (o119, 0)), E606⟩ ?_ ?_
                      · exact ren_mk [] (by rfl) (rf_upd (by rfl) (rf_upd (by rfl) (rf_upd (by rfl) (rf_no _)))) (rh_upd (rh_one (by rfl) (by rfl) (by rfl)) (rh_upd (rh_one (by rfl) (by rfl) (by rfl)) (rh_upd (rh_one (by rfl) (by rfl) (by rfl)) (rh_no _))))
                      · rintro ⟨⟨c, ⟨t158, i39⟩⟩, L608⟩
                        rcases c with _ | c
                        · exact nomatch (show none = some _ from L608)
                        · unfold law23_Small_L14 at L608
                          try dsimp only at L608
                          refine runR_take tab_ok fol 1 ?_
                          try simp -implicitDefEqProofs only [go_sem, Nat.reduceEqDiff, Nat.reduceAdd, reduceCtorEq, ↓reduceIte]
                          rcases ite_inv L608 with ⟨c617, H618⟩ | ⟨c617, H618⟩
                          · try simp -implicitDefEqProofs only [go_sem, Nat.reduceEqDiff, Nat.reduceAdd, reduceCtorEq, ↓reduceIte, c617]
                            rcases ite_inv H618 with ⟨c619, H620⟩ | ⟨c619, H620⟩
                            · obtain ⟨x45, b621, H622⟩ := bind_inv H620
                              obtain ⟨h623, h624⟩ := idx_inv b621
                              try simp only [Int.reduceToNat, Int.toNat_natCast] at h624
                              have h625 := map_at eS h624
                              try simp -implicitDefEqProofs only [go_sem, Int.reduceEq, Nat.reduceEqDiff, Nat.reduceAdd, reduceCtorEq, ↓reduceIte, c619, nat_of .i64 h623, h625]
                              refine Rd_endF (by rfl) ?_
                              try simp -implicitDefEqProofs only [go_sem, Nat.reduceEqDiff, Nat.reduceAdd, reduceCtorEq, ↓reduceIte]
                              exact ⟨⟨(c, ((IntKind.i64.wrap ((IntKind.i64.wrap (t158 + 1)) + (IntKind.i64.wrap (Int.tdiv (x45.size : Int) 10)))), (IntKind.i64.wrap (i39 + 1)))), H622⟩, ren_mk [] (by rfl) (rf_upd (by rfl) (rf_upd (by rfl) (rf_upd (by rfl) (rf_no _)))) (rh_upd (rh_one (by rfl) (by rfl) (by rfl)) (rh_upd (rh_one (by rfl) (by rfl) (by rfl)) (rh_upd (rh_one (by rfl) (by rfl) (by rfl)) (rh_no _)))), Nat.lt_succ_self _⟩
                            · try simp -implicitDefEqProofs only [go_sem, ↓reduceIte, c619]
                              obtain rfl := Option.some.inj H620
                              exact ⟨⟨t158, rfl⟩, ren_mk [] (by rfl) (rf_upd (by rfl) (rf_upd (by rfl) (rf_no _))) (rh_upd (rh_one (by rfl) (by rfl) (by rfl)) (rh_upd (rh_one (by rfl) (by rfl) (by rfl)) (rh_upd (rh_one (by rfl) (by rfl) (by rfl)) (rh_no _))))⟩
                          · try simp -implicitDefEqProofs only [go_sem, Nat.reduceEqDiff, Nat.reduceAdd, ↓reduceIte, c617]
                            obtain rfl := Option.some.inj H618
                            exact ⟨⟨t158, rfl⟩, ren_mk [] (by rfl) (rf_upd (by rfl) (rf_upd (by rfl) (rf_no _))) (rh_upd (rh_one (by rfl) (by rfl) (by rfl)) (rh_upd (rh_one (by rfl) (by rfl) (by rfl)) (rh_upd (rh_one (by rfl) (by rfl) (by rfl)) (rh_no _))))⟩
                    · rintro ⟨t160, he627⟩
                      replace he627 := he627.symm
                      subst he627
                      try dsimp only at H607
                      refine runR_take tab_ok fol 1 ?_
                      try simp -implicitDefEqProofs only [go_sem, Nat.reduceEqDiff, Nat.reduceAdd, reduceCtorEq, ↓reduceIte]
                      obtain rfl := Option.some.inj H607
                      exact endJ_norm ⟨(IntKind.i64.wrap (t160 + (x43.actions.length : Int))), rfl⟩ (ren_mk [] (by rfl) (rf_no _) (rh_upd (rh_one (by rfl) (by rfl) (by rfl)) (rh_upd (rh_one (by rfl) (by rfl) (by rfl)) (rh_upd (rh_one (by rfl) (by rfl) (by rfl)) (rh_no _)))))
                  rintro v629 hp630 nx631 ⟨⟨o120, he628⟩, rfl, rfl, rfl⟩
                  replace he628 := he628.symm
                  subst he628
                  try dsimp only at H605
                  dsimp only
                  obtain ⟨x46, b632, H633⟩ := bind_inv H605
                  obtain ⟨h634, h635⟩ := idx_inv b632
                  try simp only [Int.reduceToNat, Int.toNat_natCast] at h635
                  have h636 := map_at eGBound h635
                  try simp -implicitDefEqProofs only [go_sem, Nat.reduceEqDiff, Nat.reduceAdd, reduceCtorEq, ↓reduceIte, eGBound, nat_of .i64 h634, h636]
                  obtain ⟨e_45, E638, H639⟩ := bind_inv H633
                  refine onCall_inl (InlOK.mono (inl_runRJ (α := { y : Int // e_45 = y }) tab_ok Try.func45 rfl (by kernel_rfl) (by kernel_rfl) (by simp [Try.f45]) (fun | ⟨o121, _⟩ => ⟨noFr, upd 0 (some (.bx [.d (.sl (List.map eS t0.users)) true, .d (.sl (List.map eS t0.actions)) true, .d (.sl (List.map eS t0.resources)) true, .d (.sl (List.map eGGroup t0.groups)) true, .d (.sl (List.map eGStmt t0.stmts)) true, .d (.sl (List.map eGBound t0.bounds)) true])) (upd 1 (some (.bx [.v (.int .i64 o121)])) (upd 14 (some (.rw [[.v (.string x41.user)]] 1 0 false false)) noHp)), 32⟩) (fun | ⟨o121, _⟩ => .tu []) (by rintro ⟨o121, he662⟩; first | ((simp -implicitDefEqProofs only [go_sem, Try.f45]) <;> rfl) | rfl) ?_) ?_)
                  · unfold law23_Small_C12_law23_Small_c1 at E638
                    try dsimp only at E638
                    refine runR_seq ?_
                    refine runR_seq ?_
                    refine runR_take tab_ok fol 1 ?_
                    try simp -implicitDefEqProofs only [go_sem, Nat.reduceAdd]
                    obtain ⟨e_46, E640, H641⟩ := bind_inv E638
                    refine runR_join (α := { y : Int // e_46 = y }) (fun | ⟨t163, _⟩ => ⟨upd 0 (.d (.sl (List.map eS x46.resources)) true) (upd 1 (.pt 1 0) noFr), upd 0 (some (.bx [.d (.sl (List.map eS t0.users)) true, .d (.sl (List.map eS t0.actions)) true, .d (.sl (List.map eS t0.resources)) true, .d (.sl (List.map eGGroup t0.groups)) true, .d (.sl (List.map eGStmt t0.stmts)) true, .d (.sl (List.map eGBound t0.bounds)) true])) (upd 1 (some (.bx [.v (.int .i64 t163)])) (upd 14 (some (.rw [[.v (.string x41.user)]] 1 0 false false)) noHp)), 32⟩) ?_ ?_
                    · refine runR_block ?_
                      refine runR_loop (α := { q : Nat × (Int × Int) // law23_Small_L15 n x46 q.1 q.2 = some e_46 }) (fun | ⟨⟨c, ⟨t161, i41⟩⟩, _⟩ => ⟨upd 0 (.d (.sl (List.map eS x46.resources)) true) (upd 1 (.pt 1 0) (upd 3 (.v (.int .i64 i41)) noFr)), upd 0 (some (.bx [.d (.sl (List.map eS t0.users)) true, .d (.sl (List.map eS t0.actions)) true, .d (.sl (List.map eS t0.resources)) true, .d (.sl (List.map eGGroup t0.groups)) true, .d (.sl (List.map eGStmt t0.stmts)) true, .d (.sl (List.map eGBound t0.bounds)) true])) (upd 1 (some (.bx [.v (.int .i64 t161)])) (upd 14 (some (.rw [[.v (.string x41.user)]] 1 0 false false)) noHp)), 32⟩) (fun q => q.1.1) ⟨(n, (o120, 0)), E640⟩ ?_ ?_
                      · exact ren_mk [] (by rfl) (rf_upd (by rfl) (rf_upd (by rfl) (rf_upd (by rfl) (rf_no _)))) (rh_upd (rh_one (by rfl) (by rfl) (by rfl)) (rh_upd (rh_one (by rfl) (by rfl) (by rfl)) (rh_upd (rh_one (by rfl) (by rfl) (by rfl)) (rh_no _))))
                      · rintro ⟨⟨c, ⟨t161, i41⟩⟩, L642⟩
                        rcases c with _ | c
                        · exact nomatch (show none = some _ from L642)
                        · unfold law23_Small_L15 at L642
                          try dsimp only at L642
                          refine runR_take tab_ok fol 1 ?_
                          try simp -implicitDefEqProofs only [go_sem, Nat.reduceEqDiff, Nat.reduceAdd, reduceCtorEq, ↓reduceIte]
                          rcases ite_inv L642 with ⟨c651, H652⟩ | ⟨c651, H652⟩
                          · try simp -implicitDefEqProofs only [go_sem, Nat.reduceEqDiff, Nat.reduceAdd, reduceCtorEq, ↓reduceIte, c651]
                            rcases ite_inv H652 with ⟨c653, H654⟩ | ⟨c653, H654⟩
                            · obtain ⟨x48, b655, H656⟩ := bind_inv H654
                              obtain ⟨h657, h658⟩ := idx_inv b655
                              try simp only [Int.reduceToNat, Int.toNat_natCast] at h658
                              have h659 := map_at eS h658
                              try simp -implicitDefEqProofs only [go_sem, Int.reduceEq, Nat.reduceEqDiff, Nat.reduceAdd, reduceCtorEq, ↓reduceIte, c653, nat_of .i64 h657, h659]
                              refine Rd_endF (by rfl) ?_
                              try simp -implicitDefEqProofs only [go_sem, Nat.reduceEqDiff, Nat.reduceAdd, reduceCtorEq, ↓reduceIte]
                              exact ⟨⟨(c, ((IntKind.i64.wrap ((IntKind.i64.wrap (t161 + 1)) + (IntKind.i64.wrap (Int.tdiv (x48.size : Int) 10)))), (IntKind.i64.wrap (i41 + 1)))), H656⟩, ren_mk [] (by rfl) (rf_upd (by rfl) (rf_upd (by rfl) (rf_upd (by rfl) (rf_no _)))) (rh_upd (rh_one (by rfl) (by rfl) (by rfl)) (rh_upd (rh_one (by rfl) (by rfl) (by rfl)) (rh_upd (rh_one (by rfl) (by rfl) (by rfl)) (rh_no _)))), Nat.lt_succ_self _⟩
                            · try simp -implicitDefEqProofs only [go_sem, ↓reduceIte, c653]
                              obtain rfl := Option.some.inj H654
                              exact ⟨⟨t161, rfl⟩, ren_mk [] (by rfl) (rf_upd (by rfl) (rf_upd (by rfl) (rf_no _))) (rh_upd (rh_one (by rfl) (by rfl) (by rfl)) (rh_upd (rh_one (by rfl) (by rfl) (by rfl)) (rh_upd (rh_one (by rfl) (by rfl) (by rfl)) (rh_no _))))⟩
                          · try simp -implicitDefEqProofs only [go_sem, Nat.reduceEqDiff, Nat.reduceAdd, ↓reduceIte, c651]
                            obtain rfl := Option.some.inj H652
                            exact ⟨⟨t161, rfl⟩, ren_mk [] (by rfl) (rf_upd (by rfl) (rf_upd (by rfl) (rf_no _))) (rh_upd (rh_one (by rfl) (by rfl) (by rfl)) (rh_upd (rh_one (by rfl) (by rfl) (by rfl)) (rh_upd (rh_one (by rfl) (by rfl) (by rfl)) (rh_no _))))⟩
                    · rintro ⟨t163, he661⟩
                      replace he661 := he661.symm
                      subst he661
                      try dsimp only at H641
                      refine runR_take tab_ok fol 1 ?_
                      try simp -implicitDefEqProofs only [go_sem, Nat.reduceEqDiff, Nat.reduceAdd, reduceCtorEq, ↓reduceIte]
                      obtain rfl := Option.some.inj H641
                      exact endJ_norm ⟨(IntKind.i64.wrap (t163 + (x46.resources.length : Int))), rfl⟩ (ren_mk [] (by rfl) (rf_no _) (rh_upd (rh_one (by rfl) (by rfl) (by rfl)) (rh_upd (rh_one (by rfl) (by rfl) (by rfl)) (rh_upd (rh_one (by rfl) (by rfl) (by rfl)) (rh_no _)))))
                  rintro v663 hp664 nx665 ⟨⟨o121, he662⟩, rfl, rfl, rfl⟩
                  replace he662 := he662.symm
                  subst he662
                  try dsimp only at H639
                  dsimp only
                  try simp -implicitDefEqProofs only [go_sem, Nat.reduceEqDiff, Nat.reduceAdd, ↓reduceIte]
                  exact ⟨⟨(c, (o121, (IntKind.i64.wrap (t8 + 1)))), H639⟩, ren_mk [(0, 0), (1, 1)] (by rfl) (rf_upd (by rfl) (rf_upd (by rfl) (rf_upd (by rfl) (rf_upd (by rfl) (rf_no _))))) (rh_upd (rh_one (by rfl) (by rfl) (by rfl)) (rh_upd (rh_one (by rfl) (by rfl) (by rfl)) (rh_no _))), Nat.lt_succ_self _⟩
                · try simp -implicitDefEqProofs only [go_sem, ↓reduceIte, c570]
                  obtain rfl := Option.some.inj H571
                  exact ⟨⟨t37, rfl⟩, ren_mk [(0, 1)] (by rfl) (rf_upd (by rfl) (rf_no _)) (rh_upd (rh_one (by rfl) (by rfl) (by rfl)) (rh_no _))⟩
          · rintro ⟨t39, he666⟩
            replace he666 := he666.symm
            subst he666
            try dsimp only at H472
            refine runR_take tab_ok fol 1 ?_
            try simp -implicitDefEqProofs only [go_sem, Nat.reduceAdd, ↓reduceIte]
            obtain rfl := Option.some.inj H472
            exact end_pure (by first | (simp -implicitDefEqProofs only [go_sem, ↓reduceIte, Try.f16] <;> rfl) | rfl) (by first | rfl | (simp -implicitDefEqProofs only [go_sem, Int.reduceToNat, Int.reduceLT, Int.reduceLE, Int.reduceBEq, Int.reduceBNe, Nat.reduceLT, Nat.reduceBEq, Int.reduceEq, Nat.reduceEqDiff, Nat.reduceAdd, Nat.reduceSub, Nat.reduceMul, Nat.reduceLeDiff, reduceCtorEq, ↓reduceIte, eGPolicy, eGGroup, eGBound, eGStmt, eGAsk]; done) | (simp -implicitDefEqProofs only [go_sem, Int.reduceToNat, Int.reduceLT, Int.reduceLE, Int.reduceBEq, Int.reduceBNe, Nat.reduceLT, Nat.reduceBEq, Int.reduceEq, Nat.reduceEqDiff, Nat.reduceAdd, Nat.reduceSub, Nat.reduceMul, Nat.reduceLeDiff, reduceCtorEq, ↓reduceIte, eGPolicy, eGGroup, eGBound, eGStmt, eGAsk]; rfl)) rfl (by intro h; first | rfl | cases h)
end Go.Proofs.Ytkkhgdmmbhpckaa.Ab
