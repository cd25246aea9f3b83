/-
 Functions, read off the code.
-/
import Derived.Test.YtkkhgdmmbhpckaaGreatNms
import Derived.Test.YtkkhgdmmbhpckaaGreatNca
namespace Go.Proofs.YtkkhgdmmbhpckaaGreat.Ab
open Go.RowKit
def cmp_isNaN_string (_ : Nat) (_ : ByteArray) : Option Bool :=
 some false
theorem cmp_isNaN_string_ok {n : Nat} {x : ByteArray} {r : Bool} (H : cmp_isNaN_string n x = some r) : PureOK Tryz.prog 138 [D.v (.string x)] (D.v (.bool r)) true := by
 unfold cmp_isNaN_string at H
 refine pure_runR (tab := tab) tab_ok Tryz.func138 rfl (by kernel_rfl) (by kernel_rfl) (by simp [Tryz.f138]) ?_
 refine runR_take tab_ok fol 1 ?_
 try simp -implicitDefEqProofs only [go_sem, Nat.reduceEqDiff, Nat.reduceAdd, reduceCtorEq, ↓reduceIte]
 obtain rfl := Option.some.inj H
 exact end_pure (by simp -implicitDefEqProofs only [go_sem, ↓reduceIte, Tryz.f138] <;> rfl) (by rfl) rfl (by intro h; rfl)
def cmp_Compare_string (n : Nat) (x : ByteArray) (y : ByteArray) : Option Int :=
 (cmp_isNaN_string n x).bind fun t8 =>
 (cmp_isNaN_string n y).bind fun t10 =>
 (if t8 then
  (if t10 then
   some 0
  else
   some (-1))
 else
  (if t10 then
   some 1
  else
   (if (Op.bytesLess x.toList y.toList) then
    some (-1)
   else
    (if (Op.bytesLess x.toList y.toList || x.toList == y.toList) then
     some 0
    else
     some 1))))
theorem cmp_Compare_string_ok {n : Nat} {x : ByteArray} {y : ByteArray} {r : Int} (H : cmp_Compare_string n x y = some r) : PureOK Tryz.prog 89 [D.v (.string x), D.v (.string y)] (D.v (.int .i64 r)) true := by
 unfold cmp_Compare_string at H
 refine pure_runR (tab := tab) tab_ok Tryz.func89 rfl (by kernel_rfl) (by kernel_rfl) (by simp [Tryz.f89]) ?_
 refine runR_take tab_ok fol 1 ?_
 obtain ⟨t8, b1, H2⟩ := bind_inv H
 try simp -implicitDefEqProofs only [go_sem, Nat.reduceAdd, reduceCtorEq, ↓reduceIte]
 refine onCall_pure (by rfl) (cmp_isNaN_string_ok b1) (by exact .inr rfl) ?_
 obtain ⟨t10, b3, H4⟩ := bind_inv H2
 try simp -implicitDefEqProofs only [go_sem, Bool.false_and, Nat.reduceEqDiff, Nat.reduceAdd, ↓reduceIte]
 refine onCall_pure (by rfl) (cmp_isNaN_string_ok b3) (by exact .inr rfl) ?_
 try simp -implicitDefEqProofs only [go_sem, Bool.false_and, Nat.reduceEqDiff, Nat.reduceAdd, ↓reduceIte]
 rcases ite_inv H4 with ⟨c5, H6⟩ | ⟨c5, H6⟩
 ·try simp -implicitDefEqProofs only [go_sem, Nat.reduceEqDiff, Nat.reduceAdd, ↓reduceIte, c5]
  rcases ite_inv H6 with ⟨c7, H8⟩ | ⟨c7, H8⟩
  ·try simp -implicitDefEqProofs only [go_sem, Nat.reduceAdd, c7]
   obtain rfl := Option.some.inj H8
   exact end_pure (by simp -implicitDefEqProofs only [go_sem, ↓reduceIte, Tryz.f89] <;> rfl) (by rfl) rfl (by intro h; rfl)
  ·try simp -implicitDefEqProofs only [go_sem, Nat.reduceAdd, c7]
   obtain rfl := Option.some.inj H8
   exact end_pure (by simp -implicitDefEqProofs only [go_sem, ↓reduceIte, Tryz.f89] <;> rfl) (by rfl) rfl (by intro h; rfl)
 ·try simp -implicitDefEqProofs only [go_sem, Nat.reduceEqDiff, Nat.reduceAdd, ↓reduceIte, c5]
  rcases ite_inv H6 with ⟨c9, H10⟩ | ⟨c9, H10⟩
  ·try simp -implicitDefEqProofs only [go_sem, Nat.reduceAdd, c9]
   obtain rfl := Option.some.inj H10
   exact end_pure (by simp -implicitDefEqProofs only [go_sem, ↓reduceIte, Tryz.f89] <;> rfl) (by rfl) rfl (by intro h; rfl)
  ·try simp -implicitDefEqProofs only [go_sem, Nat.reduceEqDiff, Nat.reduceAdd, reduceCtorEq, ↓reduceIte, c9]
   rcases ite_inv H10 with ⟨c11, H12⟩ | ⟨c11, H12⟩
   ·try simp -implicitDefEqProofs only [go_sem, Nat.reduceAdd, c11]
    obtain rfl := Option.some.inj H12
    exact end_pure (by simp -implicitDefEqProofs only [go_sem, ↓reduceIte, Tryz.f89] <;> rfl) (by rfl) rfl (by intro h; rfl)
   ·try simp -implicitDefEqProofs only [go_sem, Nat.reduceEqDiff, Nat.reduceAdd, reduceCtorEq, ↓reduceIte, c11]
    rcases ite_inv H12 with ⟨c13, H14⟩ | ⟨c13, H14⟩
    ·try rw [c11, Bool.false_or] at c13
     try simp -implicitDefEqProofs only [go_sem, Nat.reduceAdd, c13]
     obtain rfl := Option.some.inj H14
     exact end_pure (by simp -implicitDefEqProofs only [go_sem, ↓reduceIte, Tryz.f89] <;> rfl) (by rfl) rfl (by intro h; rfl)
    ·try rw [c11, Bool.false_or] at c13
     try simp -implicitDefEqProofs only [go_sem, Nat.reduceAdd, c13]
     obtain rfl := Option.some.inj H14
     exact end_pure (by simp -implicitDefEqProofs only [go_sem, ↓reduceIte, Tryz.f89] <;> rfl) (by rfl) rfl (by intro h; rfl)
def slices_Compare_string_L1 (n : Nat) (s1 : List ByteArray) (s2 : List ByteArray) : Nat → Int → Option ((Unit) ⊕ Int)
 | 0, _ => none
 | c + 1, t11 =>
  (if (decide (t11 < (s1.length : Int))) then
   (idx s1 t11).bind fun x3 =>
   (if (decide ((s2.length : Int) ≤ t11)) then
    some (.inr 1)
   else
    (idx s2 t11).bind fun x4 =>
    (cmp_Compare_string n x3 x4).bind fun t262 =>
    (if (t262 != 0) then
     some (.inr t262)
    else
     slices_Compare_string_L1 n s1 s2 c (IntKind.i64.wrap (t11 + 1))))
  else
   some (.inl ()))

def slices_Compare_string (n : Nat) (s1 : List ByteArray) (s2 : List ByteArray) : Option Int :=
 (
  slices_Compare_string_L1 n s1 s2 n 0 : Option ((Unit) ⊕ Int)).bind fun
  | .inl _ =>
   (if (decide ((s1.length : Int) < (s2.length : Int))) then
    some (-1)
   else
    some 0)
  | .inr r => some r
theorem slices_Compare_string_ok {n : Nat} {s1 : List ByteArray} {s2 : List ByteArray} {r : Int} (H : slices_Compare_string n s1 s2 = some r) : PureOK Tryz.prog 71 [D.sl (List.map eS s1), D.sl (List.map eS s2)] (D.v (.int .i64 r)) true := by
 unfold slices_Compare_string at H
 refine pure_runR (tab := tab) tab_ok Tryz.func71 rfl (by kernel_rfl) (by kernel_rfl) (by simp [Tryz.f71]) ?_
 refine runR_seq ?_
 refine runR_take tab_ok fol 1 ?_
 try simp -implicitDefEqProofs only [go_sem]
 refine runR_seq ?_
 refine runR_seq ?_
 refine runR_take tab_ok fol 1 ?_
 try simp -implicitDefEqProofs only [go_sem, Nat.reduceAdd, reduceCtorEq, ↓reduceIte]
 obtain ⟨e_, E1, H2⟩ := bind_inv H
 refine runR_join (α := { y : Unit // e_ = .inl y }) (fun | ⟨_, _⟩ => ⟨upd 0 (.d (.sl (List.map eS s1)) true) (upd 1 (.d (.sl (List.map eS s2)) true) noFr), noHp, 0⟩) ?_ ?_
 ·refine runR_block ?_
  refine runR_loop (α := { q : Nat × Int // slices_Compare_string_L1 n s1 s2 q.1 q.2 = some e_ }) (fun | ⟨⟨c, t11⟩, _⟩ => ⟨upd 0 (.d (.sl (List.map eS s1)) true) (upd 1 (.d (.sl (List.map eS s2)) true) (upd 9 (.d (.sl (List.map eS s1)) true) (upd 10 (.v (.int .i64 (s1.length : Int))) (upd 11 (.v (.int .i64 t11)) noFr)))), noHp, 0⟩) (fun q => q.1.1) ⟨(n, 0), E1⟩ ?_ ?_
  ·exact ren_mk [] (by rfl) (ru_ (ru_ (ru_ (ru_ (ru_ (rf_no _)))))) (rh_no _)
  ·rintro ⟨⟨c, t11⟩, L3⟩
   rcases c with _ | c
   ·exact nomatch (show none = some _ from L3)
   ·unfold slices_Compare_string_L1 at L3
    try dsimp only at L3
    refine runR_take tab_ok fol 1 ?_
    try simp -implicitDefEqProofs only [go_sem, Nat.reduceEqDiff, reduceCtorEq, ↓reduceIte]
    rcases ite_inv L3 with ⟨c24, H25⟩ | ⟨c24, H25⟩
    ·obtain ⟨x3, b26, H27⟩ := bind_inv H25
     obtain ⟨h28, h29⟩ := idx_inv b26
     try simp only [Int.reduceToNat, Int.toNat_natCast] at h29
     have h30 := map_at eS h29
     try simp -implicitDefEqProofs only [go_sem, Nat.reduceEqDiff, Nat.reduceAdd, reduceCtorEq, ↓reduceIte, c24, nat_of .i64 h28, h30]
     rcases ite_inv H27 with ⟨c32, H33⟩ | ⟨c32, H33⟩
     ·try simp -implicitDefEqProofs only [go_sem, Nat.reduceAdd, c32]
      obtain rfl := Option.some.inj H33
      obtain rfl := Option.some.inj H2
      exact end_pure (by simp -implicitDefEqProofs only [go_sem, ↓reduceIte, Tryz.f71] <;> rfl) (by rfl) rfl (by intro h; rfl)
     ·obtain ⟨x4, b34, H35⟩ := bind_inv H33
      obtain ⟨h36, h37⟩ := idx_inv b34
      try simp only [Int.reduceToNat, Int.toNat_natCast] at h37
      have h38 := map_at eS h37
      obtain ⟨t262, b40, H41⟩ := bind_inv H35
      try simp -implicitDefEqProofs only [go_sem, Nat.reduceEqDiff, Nat.reduceAdd, reduceCtorEq, ↓reduceIte, nat_of .i64 h28, c32, h38]
      refine onCall_pure (by rfl) (cmp_Compare_string_ok b40) (by exact .inr rfl) ?_
      try simp -implicitDefEqProofs only [go_sem, Bool.false_and, Nat.reduceAdd, ↓reduceIte]
      rcases ite_inv H41 with ⟨c42, H43⟩ | ⟨c42, H43⟩
      ·try simp -implicitDefEqProofs only [go_sem, Nat.reduceEqDiff, Nat.reduceAdd, ↓reduceIte, c42]
       obtain rfl := Option.some.inj H43
       obtain rfl := Option.some.inj H2
       exact end_pure (by simp -implicitDefEqProofs only [go_sem, ↓reduceIte, Tryz.f71] <;> rfl) (by rfl) rfl (by intro h; rfl)
      ·try simp -implicitDefEqProofs only [go_sem, Nat.reduceEqDiff, Nat.reduceAdd, reduceCtorEq, ↓reduceIte, c42]
       exact ⟨⟨(c, (IntKind.i64.wrap (t11 + 1))), H43⟩, ren_mk [] (by rfl) (ru_ (ru_ (ru_ (ru_ (ru_ (rf_no _)))))) (rh_no _), Nat.lt_succ_self _⟩
    ·try simp -implicitDefEqProofs only [go_sem, ↓reduceIte, c24]
     obtain rfl := Option.some.inj H25
     exact ⟨⟨(), rfl⟩, ren_mk [] (by rfl) (ru_ (ru_ (rf_no _))) (rh_no _)⟩
 ·rintro ⟨_, he46⟩
  replace he46 := he46.symm
  subst he46
  try dsimp only at H2
  refine runR_take tab_ok fol 1 ?_
  try simp -implicitDefEqProofs only [go_sem, Nat.reduceEqDiff, Nat.reduceAdd, reduceCtorEq, ↓reduceIte]
  rcases ite_inv H2 with ⟨c44, H45⟩ | ⟨c44, H45⟩
  ·try simp -implicitDefEqProofs only [go_sem, Nat.reduceAdd, c44]
   obtain rfl := Option.some.inj H45
   exact end_pure (by simp -implicitDefEqProofs only [go_sem, ↓reduceIte, Tryz.f71] <;> rfl) (by rfl) rfl (by intro h; rfl)
  ·try simp -implicitDefEqProofs only [go_sem, Nat.reduceAdd, c44]
   obtain rfl := Option.some.inj H45
   exact end_pure (by simp -implicitDefEqProofs only [go_sem, ↓reduceIte, Tryz.f71] <;> rfl) (by rfl) rfl (by intro h; rfl)
def cmp_isNaN (_ : Nat) (x : Int) : Option Bool :=
 some (x != x)
theorem cmp_isNaN_ok {n : Nat} {x : Int} {r : Bool} (H : cmp_isNaN n x = some r) : PureOK Tryz.prog 129 [D.v (.int .i64 x)] (D.v (.bool r)) true := by
 unfold cmp_isNaN at H
 refine pure_runR (tab := tab) tab_ok Tryz.func129 rfl (by kernel_rfl) (by kernel_rfl) (by simp [Tryz.f129]) ?_
 refine runR_take tab_ok fol 1 ?_
 try simp -implicitDefEqProofs only [go_sem, Nat.reduceEqDiff, Nat.reduceAdd, reduceCtorEq, ↓reduceIte]
 obtain rfl := Option.some.inj H
 exact end_pure (by simp -implicitDefEqProofs only [go_sem, ↓reduceIte, Tryz.f129] <;> rfl) (by simp -implicitDefEqProofs only [go_sem]; rfl) rfl (by intro h; rfl)
def cmp_Compare (n : Nat) (x : Int) (y : Int) : Option Int :=
 (cmp_isNaN n x).bind fun t8 =>
 (cmp_isNaN n y).bind fun t10 =>
 (if t8 then
  (if t10 then
   some 0
  else
   some (-1))
 else
  (if t10 then
   some 1
  else
   (if (decide (x < y)) then
    some (-1)
   else
    (if (decide (y < x)) then
     some 1
    else
     some 0))))
theorem cmp_Compare_ok {n : Nat} {x : Int} {y : Int} {r : Int} (H : cmp_Compare n x y = some r) : PureOK Tryz.prog 87 [D.v (.int .i64 x), D.v (.int .i64 y)] (D.v (.int .i64 r)) true := by
 unfold cmp_Compare at H
 refine pure_runR (tab := tab) tab_ok Tryz.func87 rfl (by kernel_rfl) (by kernel_rfl) (by simp [Tryz.f87]) ?_
 refine runR_take tab_ok fol 1 ?_
 obtain ⟨t8, b1, H2⟩ := bind_inv H
 try simp -implicitDefEqProofs only [go_sem, Nat.reduceAdd, reduceCtorEq, ↓reduceIte]
 refine onCall_pure (by rfl) (cmp_isNaN_ok b1) (by exact .inr rfl) ?_
 obtain ⟨t10, b3, H4⟩ := bind_inv H2
 try simp -implicitDefEqProofs only [go_sem, Bool.false_and, Nat.reduceEqDiff, Nat.reduceAdd, ↓reduceIte]
 refine onCall_pure (by rfl) (cmp_isNaN_ok b3) (by exact .inr rfl) ?_
 try simp -implicitDefEqProofs only [go_sem, Bool.false_and, Nat.reduceEqDiff, Nat.reduceAdd, ↓reduceIte]
 rcases ite_inv H4 with ⟨c5, H6⟩ | ⟨c5, H6⟩
 ·try simp -implicitDefEqProofs only [go_sem, Nat.reduceEqDiff, Nat.reduceAdd, ↓reduceIte, c5]
  rcases ite_inv H6 with ⟨c7, H8⟩ | ⟨c7, H8⟩
  ·try simp -implicitDefEqProofs only [go_sem, Nat.reduceAdd, c7]
   obtain rfl := Option.some.inj H8
   exact end_pure (by simp -implicitDefEqProofs only [go_sem, ↓reduceIte, Tryz.f87] <;> rfl) (by rfl) rfl (by intro h; rfl)
  ·try simp -implicitDefEqProofs only [go_sem, Nat.reduceAdd, c7]
   obtain rfl := Option.some.inj H8
   exact end_pure (by simp -implicitDefEqProofs only [go_sem, ↓reduceIte, Tryz.f87] <;> rfl) (by rfl) rfl (by intro h; rfl)
 ·try simp -implicitDefEqProofs only [go_sem, Nat.reduceEqDiff, Nat.reduceAdd, ↓reduceIte, c5]
  rcases ite_inv H6 with ⟨c9, H10⟩ | ⟨c9, H10⟩
  ·try simp -implicitDefEqProofs only [go_sem, Nat.reduceAdd, c9]
   obtain rfl := Option.some.inj H10
   exact end_pure (by simp -implicitDefEqProofs only [go_sem, ↓reduceIte, Tryz.f87] <;> rfl) (by rfl) rfl (by intro h; rfl)
  ·try simp -implicitDefEqProofs only [go_sem, Nat.reduceEqDiff, Nat.reduceAdd, reduceCtorEq, ↓reduceIte, c9]
   rcases ite_inv H10 with ⟨c11, H12⟩ | ⟨c11, H12⟩
   ·try simp -implicitDefEqProofs only [go_sem, Nat.reduceAdd, c11]
    obtain rfl := Option.some.inj H12
    exact end_pure (by simp -implicitDefEqProofs only [go_sem, ↓reduceIte, Tryz.f87] <;> rfl) (by rfl) rfl (by intro h; rfl)
   ·try simp -implicitDefEqProofs only [go_sem, Nat.reduceEqDiff, Nat.reduceAdd, reduceCtorEq, ↓reduceIte, c11]
    rcases ite_inv H12 with ⟨c13, H14⟩ | ⟨c13, H14⟩
    ·try rw [c11, Bool.false_or] at c13
     try simp -implicitDefEqProofs only [go_sem, Nat.reduceAdd, c13]
     obtain rfl := Option.some.inj H14
     exact end_pure (by simp -implicitDefEqProofs only [go_sem, ↓reduceIte, Tryz.f87] <;> rfl) (by rfl) rfl (by intro h; rfl)
    ·try rw [c11, Bool.false_or] at c13
     try simp -implicitDefEqProofs only [go_sem, Nat.reduceAdd, c13]
     obtain rfl := Option.some.inj H14
     exact end_pure (by simp -implicitDefEqProofs only [go_sem, ↓reduceIte, Tryz.f87] <;> rfl) (by rfl) rfl (by intro h; rfl)
def norm_compareSods (n : Nat) (a : GSod) (b : GSod) : Option Int :=
 (strings_Compare n a.name b.name).bind fun t9 =>
 (cmp_Compare n a.n_ b.n_).bind fun t14 =>
 (slices_Compare_string n a.roles b.roles).bind fun t19 =>
 (cmp_Or n [t9, t14, t19]).bind fun t21 =>
 some t21
theorem norm_compareSods_ok {n : Nat} {a : GSod} {b : GSod} {r : Int} (H : norm_compareSods n a b = some r) : PureOK Tryz.prog 67 [D.ag (eGSod a), D.ag (eGSod b)] (D.v (.int .i64 r)) true := by
 unfold norm_compareSods at H
 refine pure_runR (tab := tab) tab_ok Tryz.func67 rfl (by kernel_rfl) (by kernel_rfl) (by simp [Tryz.f67]) ?_
 refine runR_take tab_ok fol 1 ?_
 obtain ⟨t9, b1, H2⟩ := bind_inv H
 try simp -implicitDefEqProofs only [go_sem, Nat.reduceEqDiff, Nat.reduceAdd, reduceCtorEq, ↓reduceIte, eGSod]
 refine onCallD_pure (by rfl) (strings_Compare_ok b1) (by exact .inr rfl) ?_
 obtain ⟨t14, b3, H4⟩ := bind_inv H2
 try simp -implicitDefEqProofs only [go_sem, Bool.false_and, Nat.reduceEqDiff, Nat.reduceAdd, reduceCtorEq, ↓reduceIte]
 refine onCallD_pure (by rfl) (cmp_Compare_ok b3) (by exact .inr rfl) ?_
 obtain ⟨t19, b5, H6⟩ := bind_inv H4
 try simp -implicitDefEqProofs only [go_sem, Bool.false_and, Nat.reduceEqDiff, Nat.reduceAdd, reduceCtorEq, ↓reduceIte]
 refine onCallD_pure (by rfl) (slices_Compare_string_ok b5) (by exact .inr rfl) ?_
 obtain ⟨t21, b7, H8⟩ := bind_inv H6
 try simp -implicitDefEqProofs only [go_sem, Bool.false_and, Nat.reduceLT, Nat.reduceEqDiff, Nat.reduceAdd, Nat.reduceLeDiff, ↓reduceIte]
 refine onCallD_pure (by rfl) (cmp_Or_ok b7) (by exact .inr rfl) ?_
 try simp -implicitDefEqProofs only [go_sem, Bool.false_and, Nat.reduceAdd, ↓reduceIte]
 refine Rd_endF (by rfl) ?_
 try simp -implicitDefEqProofs only [go_sem]
 obtain rfl := Option.some.inj H8
 exact end_pure (by simp -implicitDefEqProofs only [go_sem, ↓reduceIte, Tryz.f67] <;> rfl) (by rfl) rfl (by intro h; rfl)
def norm_sessions_c1 (n : Nat) (a : GSession) (b : GSession) : Option Int :=
 (strings_Compare n a.name b.name).bind fun t9 =>
 (strings_Compare n a.user b.user).bind fun t14 =>
 (slices_Compare_string n a.roles b.roles).bind fun t19 =>
 (cmp_Or n [t9, t14, t19]).bind fun t21 =>
 some t21
theorem norm_sessions_c1_ok {n : Nat} {a : GSession} {b : GSession} {r : Int} (H : norm_sessions_c1 n a b = some r) : PureOK Tryz.prog 70 [D.ag (eGSession a), D.ag (eGSession b)] (D.v (.int .i64 r)) true := by
 unfold norm_sessions_c1 at H
 refine pure_runR (tab := tab) tab_ok Tryz.func70 rfl (by kernel_rfl) (by kernel_rfl) (by simp [Tryz.f70]) ?_
 refine runR_take tab_ok fol 1 ?_
 obtain ⟨t9, b1, H2⟩ := bind_inv H
 try simp -implicitDefEqProofs only [go_sem, Nat.reduceEqDiff, Nat.reduceAdd, reduceCtorEq, ↓reduceIte, eGSession]
 refine onCallD_pure (by rfl) (strings_Compare_ok b1) (by exact .inr rfl) ?_
 obtain ⟨t14, b3, H4⟩ := bind_inv H2
 try simp -implicitDefEqProofs only [go_sem, Bool.false_and, Nat.reduceEqDiff, Nat.reduceAdd, reduceCtorEq, ↓reduceIte]
 refine onCallD_pure (by rfl) (strings_Compare_ok b3) (by exact .inr rfl) ?_
 obtain ⟨t19, b5, H6⟩ := bind_inv H4
 try simp -implicitDefEqProofs only [go_sem, Bool.false_and, Nat.reduceEqDiff, Nat.reduceAdd, reduceCtorEq, ↓reduceIte]
 refine onCallD_pure (by rfl) (slices_Compare_string_ok b5) (by exact .inr rfl) ?_
 obtain ⟨t21, b7, H8⟩ := bind_inv H6
 try simp -implicitDefEqProofs only [go_sem, Bool.false_and, Nat.reduceLT, Nat.reduceEqDiff, Nat.reduceAdd, Nat.reduceLeDiff, ↓reduceIte]
 refine onCallD_pure (by rfl) (cmp_Or_ok b7) (by exact .inr rfl) ?_
 try simp -implicitDefEqProofs only [go_sem, Bool.false_and, Nat.reduceAdd, ↓reduceIte]
 refine Rd_endF (by rfl) ?_
 try simp -implicitDefEqProofs only [go_sem]
 obtain rfl := Option.some.inj H8
 exact end_pure (by simp -implicitDefEqProofs only [go_sem, ↓reduceIte, Tryz.f70] <;> rfl) (by rfl) rfl (by intro h; rfl)
def slices_Equal_string_L1 (n : Nat) (s1 : List ByteArray) (s2 : List ByteArray) : Nat → Int → Option ((Unit) ⊕ Bool)
 | 0, _ => none
 | c + 1, t13 =>
  (if (decide (t13 < (s1.length : Int))) then
   (idx s1 t13).bind fun x3 =>
   (idx s2 t13).bind fun x4 =>
   (if (x3.toList == x4.toList) then
    slices_Equal_string_L1 n s1 s2 c (IntKind.i64.wrap (t13 + 1))
   else
    some (.inr false))
  else
   some (.inl ()))

def slices_Equal_string (n : Nat) (s1 : List ByteArray) (s2 : List ByteArray) : Option Bool :=
 (if ((s1.length : Int) != (s2.length : Int)) then
  some false
 else
  (
   slices_Equal_string_L1 n s1 s2 n 0 : Option ((Unit) ⊕ Bool)).bind fun
   | .inl _ =>
    some true
   | .inr r => some r)
theorem slices_Equal_string_ok {n : Nat} {s1 : List ByteArray} {s2 : List ByteArray} {r : Bool} (H : slices_Equal_string n s1 s2 = some r) : PureOK Tryz.prog 40 [D.sl (List.map eS s1), D.sl (List.map eS s2)] (D.v (.bool r)) true := by
 unfold slices_Equal_string at H
 refine pure_runR (tab := tab) tab_ok Tryz.func40 rfl (by kernel_rfl) (by kernel_rfl) (by simp [Tryz.f40]) ?_
 refine runR_seq ?_
 refine runR_take tab_ok fol 1 ?_
 try simp -implicitDefEqProofs only [go_sem]
 refine runR_seq ?_
 refine runR_take tab_ok fol 1 ?_
 try simp -implicitDefEqProofs only [go_sem, Nat.reduceEqDiff, Nat.reduceAdd, reduceCtorEq, ↓reduceIte]
 rcases ite_inv H with ⟨c1, H2⟩ | ⟨c1, H2⟩
 ·try simp -implicitDefEqProofs only [go_sem, Nat.reduceAdd, c1]
  obtain rfl := Option.some.inj H2
  exact end_pure (by simp -implicitDefEqProofs only [go_sem, ↓reduceIte, Tryz.f40] <;> rfl) (by rfl) rfl (by intro h; rfl)
 ·try simp -implicitDefEqProofs only [go_sem, c1]
  refine runR_seq ?_
  refine runR_seq ?_
  refine runR_take tab_ok fol 1 ?_
  try simp -implicitDefEqProofs only [go_sem, Nat.reduceAdd, reduceCtorEq, ↓reduceIte]
  obtain ⟨e_, E3, H4⟩ := bind_inv H2
  refine runR_join (α := { y : Unit // e_ = .inl y }) (fun | ⟨_, _⟩ => ⟨noFr, noHp, 0⟩) ?_ ?_
  ·refine runR_block ?_
   refine runR_loop (α := { q : Nat × Int // slices_Equal_string_L1 n s1 s2 q.1 q.2 = some e_ }) (fun | ⟨⟨c, t13⟩, _⟩ => ⟨upd 0 (.d (.sl (List.map eS s1)) true) (upd 1 (.d (.sl (List.map eS s2)) true) (upd 12 (.v (.int .i64 (s1.length : Int))) (upd 13 (.v (.int .i64 t13)) noFr))), noHp, 0⟩) (fun q => q.1.1) ⟨(n, 0), E3⟩ ?_ ?_
   ·exact ren_mk [] (by rfl) (ru_ (ru_ (ru_ (ru_ (rf_no _))))) (rh_no _)
   ·rintro ⟨⟨c, t13⟩, L5⟩
    rcases c with _ | c
    ·exact nomatch (show none = some _ from L5)
    ·unfold slices_Equal_string_L1 at L5
     try dsimp only at L5
     refine runR_take tab_ok fol 1 ?_
     try simp -implicitDefEqProofs only [go_sem, Nat.reduceEqDiff, reduceCtorEq, ↓reduceIte]
     rcases ite_inv L5 with ⟨c22, H23⟩ | ⟨c22, H23⟩
     ·obtain ⟨x3, b24, H25⟩ := bind_inv H23
      obtain ⟨h26, h27⟩ := idx_inv b24
      try simp only [Int.reduceToNat, Int.toNat_natCast] at h27
      have h28 := map_at eS h27
      obtain ⟨x4, b30, H31⟩ := bind_inv H25
      obtain ⟨h32, h33⟩ := idx_inv b30
      try simp only [Int.reduceToNat, Int.toNat_natCast] at h33
      have h34 := map_at eS h33
      try simp -implicitDefEqProofs only [go_sem, Nat.reduceEqDiff, Nat.reduceAdd, reduceCtorEq, ↓reduceIte, c22, nat_of .i64 h26, h28, h34]
      refine Rd_endF (by rfl) ?_
      try simp -implicitDefEqProofs only [go_sem, ↓reduceIte]
      rcases ite_inv H31 with ⟨c36, H37⟩ | ⟨c36, H37⟩
      ·try simp -implicitDefEqProofs only [go_sem, Nat.reduceEqDiff, Nat.reduceAdd, reduceCtorEq, ↓reduceIte, c36]
       exact ⟨⟨(c, (IntKind.i64.wrap (t13 + 1))), H37⟩, ren_mk [] (by rfl) (ru_ (ru_ (ru_ (ru_ (rf_no _))))) (rh_no _), Nat.lt_succ_self _⟩
      ·try simp -implicitDefEqProofs only [go_sem, Nat.reduceAdd, c36]
       obtain rfl := Option.some.inj H37
       obtain rfl := Option.some.inj H4
       exact end_pure (by simp -implicitDefEqProofs only [go_sem, ↓reduceIte, Tryz.f40] <;> rfl) (by rfl) rfl (by intro h; rfl)
     ·try simp -implicitDefEqProofs only [go_sem, ↓reduceIte, c22]
      obtain rfl := Option.some.inj H23
      exact ⟨⟨(), rfl⟩, ren_mk [] (by rfl) (rf_no _) (rh_no _)⟩
  ·rintro ⟨_, he38⟩
   replace he38 := he38.symm
   subst he38
   try dsimp only at H4
   refine runR_take tab_ok fol 1 ?_
   try simp -implicitDefEqProofs only [go_sem]
   obtain rfl := Option.some.inj H4
   exact end_pure (by simp -implicitDefEqProofs only [go_sem, ↓reduceIte, Tryz.f40] <;> rfl) (by rfl) rfl (by intro h; rfl)
def norm_sameSod (n : Nat) (a : GSod) (b : GSod) : Option Bool :=
 (if (a.name.toList == b.name.toList) then
  (if (a.n_ == b.n_) then
   (slices_Equal_string n a.roles b.roles).bind fun t22 =>
   some t22
  else
   some false)
 else
  some false)
theorem norm_sameSod_ok {n : Nat} {a : GSod} {b : GSod} {r : Bool} (H : norm_sameSod n a b = some r) : PureOK Tryz.prog 44 [D.ag (eGSod a), D.ag (eGSod b)] (D.v (.bool r)) true := by
 unfold norm_sameSod at H
 refine pure_runR (tab := tab) tab_ok Tryz.func44 rfl (by kernel_rfl) (by kernel_rfl) (by simp [Tryz.f44]) ?_
 refine runR_take tab_ok fol 1 ?_
 try simp -implicitDefEqProofs only [go_sem, Nat.reduceEqDiff, Nat.reduceAdd, reduceCtorEq, ↓reduceIte, eGSod]
 rcases ite_inv H with ⟨c1, H2⟩ | ⟨c1, H2⟩
 ·try simp -implicitDefEqProofs only [go_sem, Nat.reduceEqDiff, Nat.reduceAdd, reduceCtorEq, ↓reduceIte, c1]
  rcases ite_inv H2 with ⟨c3, H4⟩ | ⟨c3, H4⟩
  ·obtain ⟨t22, b5, H6⟩ := bind_inv H4
   try simp -implicitDefEqProofs only [go_sem, Nat.reduceEqDiff, Nat.reduceAdd, reduceCtorEq, ↓reduceIte, c3]
   refine onCall_pure (by rfl) (slices_Equal_string_ok b5) (by exact .inr rfl) ?_
   try simp -implicitDefEqProofs only [go_sem, Bool.false_and, Nat.reduceEqDiff, Nat.reduceAdd, ↓reduceIte]
   obtain rfl := Option.some.inj H6
   exact end_pure (by simp -implicitDefEqProofs only [go_sem, ↓reduceIte, Tryz.f44] <;> rfl) (by rfl) rfl (by intro h; rfl)
  ·try simp -implicitDefEqProofs only [go_sem, Nat.reduceEqDiff, Nat.reduceAdd, ↓reduceIte, c3]
   obtain rfl := Option.some.inj H4
   exact end_pure (by simp -implicitDefEqProofs only [go_sem, ↓reduceIte, Tryz.f44] <;> rfl) (by rfl) rfl (by intro h; rfl)
 ·try simp -implicitDefEqProofs only [go_sem, Nat.reduceEqDiff, Nat.reduceAdd, ↓reduceIte, c1]
  obtain rfl := Option.some.inj H2
  exact end_pure (by simp -implicitDefEqProofs only [go_sem, ↓reduceIte, Tryz.f44] <;> rfl) (by rfl) rfl (by intro h; rfl)
def norm_sameSession (n : Nat) (a : GSession) (b : GSession) : Option Bool :=
 (if (a.name.toList == b.name.toList) then
  (if (a.user.toList == b.user.toList) then
   (slices_Equal_string n a.roles b.roles).bind fun t22 =>
   some t22
  else
   some false)
 else
  some false)
theorem norm_sameSession_ok {n : Nat} {a : GSession} {b : GSession} {r : Bool} (H : norm_sameSession n a b = some r) : PureOK Tryz.prog 46 [D.ag (eGSession a), D.ag (eGSession b)] (D.v (.bool r)) true := by
 unfold norm_sameSession at H
 refine pure_runR (tab := tab) tab_ok Tryz.func46 rfl (by kernel_rfl) (by kernel_rfl) (by simp [Tryz.f46]) ?_
 refine runR_take tab_ok fol 1 ?_
 try simp -implicitDefEqProofs only [go_sem, Nat.reduceEqDiff, Nat.reduceAdd, reduceCtorEq, ↓reduceIte, eGSession]
 rcases ite_inv H with ⟨c1, H2⟩ | ⟨c1, H2⟩
 ·try simp -implicitDefEqProofs only [go_sem, Nat.reduceEqDiff, Nat.reduceAdd, reduceCtorEq, ↓reduceIte, c1]
  rcases ite_inv H2 with ⟨c3, H4⟩ | ⟨c3, H4⟩
  ·obtain ⟨t22, b5, H6⟩ := bind_inv H4
   try simp -implicitDefEqProofs only [go_sem, Nat.reduceEqDiff, Nat.reduceAdd, reduceCtorEq, ↓reduceIte, c3]
   refine onCall_pure (by rfl) (slices_Equal_string_ok b5) (by exact .inr rfl) ?_
   try simp -implicitDefEqProofs only [go_sem, Bool.false_and, Nat.reduceEqDiff, Nat.reduceAdd, ↓reduceIte]
   obtain rfl := Option.some.inj H6
   exact end_pure (by simp -implicitDefEqProofs only [go_sem, ↓reduceIte, Tryz.f46] <;> rfl) (by rfl) rfl (by intro h; rfl)
  ·try simp -implicitDefEqProofs only [go_sem, Nat.reduceEqDiff, Nat.reduceAdd, ↓reduceIte, c3]
   obtain rfl := Option.some.inj H4
   exact end_pure (by simp -implicitDefEqProofs only [go_sem, ↓reduceIte, Tryz.f46] <;> rfl) (by rfl) rfl (by intro h; rfl)
 ·try simp -implicitDefEqProofs only [go_sem, Nat.reduceEqDiff, Nat.reduceAdd, ↓reduceIte, c1]
  obtain rfl := Option.some.inj H2
  exact end_pure (by simp -implicitDefEqProofs only [go_sem, ↓reduceIte, Tryz.f46] <;> rfl) (by rfl) rfl (by intro h; rfl)
end Go.Proofs.YtkkhgdmmbhpckaaGreat.Ab
