/-
  Functions, read off the code.
-/
import Derived.Test.YtkikhbfdadambaaDoorAcs
import Derived.Test.YtkikhbfdadambaaDoorLsc
import Derived.Test.YtkikhbfdadambaaDoorLsj
import Derived.Test.YtkikhbfdadambaaDoorSpm
import Derived.Test.YtkikhbfdadambaaDoorBxl
namespace Go.Proofs.YtkikhbfdadambaaDoor.Ab
open Go.RowKit
def strings_Split (n : Nat) (s : ByteArray) (sep : ByteArray) : Option (List ByteArray) :=
  (strings_genSplit n s sep 0 (-1)).bind fun t7 =>
  some t7
theorem strings_Split_ok {n : Nat} {s : ByteArray} {sep : ByteArray} {r : List ByteArray} (H : strings_Split n s sep = some r) : PureOK Tryd.prog 17 [D.v (.string s), D.v (.string sep)] (D.sl (List.map eS r)) true := by
  unfold strings_Split at H
  refine ZP tab_ok fol (rs := #[.tmp 4]) Tryd.func17 ?_
  refine ZT 1 ?_
  obtain ⟨t7, b1, H2⟩ := bind_inv H
  refine Z0 ?_
  refine ZC0 (strings_genSplit_ok b1) ?_
  refine Z0 ?_
  obtain rfl := Zi H2
  exact ZE0
def atom_first (n : Nat) (c2 : Int) : Option Bool :=
  (if (decide (97 ≤ c2)) then
    (if (decide (c2 ≤ 122)) then
      some true
    else
      (if (decide (48 ≤ c2)) then
        some (decide (c2 ≤ 57))
      else
        some false))
  else
    (if (decide (48 ≤ c2)) then
      some (decide (c2 ≤ 57))
    else
      some false))
theorem atom_first_ok {n : Nat} {c2 : Int} {r : Bool} (H : atom_first n c2 = some r) : PureOK Tryd.prog 57 [D.v (.int .u8 c2)] (D.v (.bool r)) true := by
  unfold atom_first at H
  refine ZP tab_ok fol (rs := #[.tmp 2]) Tryd.func57 ?_
  refine ZT 1 ?_
  refine Z0 ?_
  rcases ite_inv H with ⟨c1, H2⟩ | ⟨c1, H2⟩
  · refine Z1 c1 ?_
    rcases ite_inv H2 with ⟨c3, H4⟩ | ⟨c3, H4⟩
    · refine Z1 (Y2 c1 c3) ?_
      obtain rfl := Zi H4
      exact ZE0
    · refine Z1 (Y2 c1 c3) ?_
      rcases ite_inv H4 with ⟨c5, H6⟩ | ⟨c5, H6⟩
      · refine Z1 (Y3 c1 c3 c5) ?_
        obtain rfl := Zi H6
        exact ZE0
      · refine Z1 (Y3 c1 c3 c5) ?_
        obtain rfl := Zi H6
        exact ZE0
  · refine Z1 c1 ?_
    rcases ite_inv H2 with ⟨c7, H8⟩ | ⟨c7, H8⟩
    · refine Z1 (Y2 c1 c7) ?_
      obtain rfl := Zi H8
      exact ZE0
    · refine Z1 (Y2 c1 c7) ?_
      obtain rfl := Zi H8
      exact ZE0
def atom_plain (n : Nat) (c2 : Int) : Option Bool :=
  (atom_first n c2).bind fun t4 =>
  (if t4 then
    some true
  else
    (if (c2 == 95) then
      some true
    else
      (if (c2 == 45) then
        some true
      else
        some (c2 == 46))))
theorem atom_plain_ok {n : Nat} {c2 : Int} {r : Bool} (H : atom_plain n c2 = some r) : PureOK Tryd.prog 58 [D.v (.int .u8 c2)] (D.v (.bool r)) true := by
  unfold atom_plain at H
  refine ZP tab_ok fol (rs := #[.tmp 2]) Tryd.func58 ?_
  refine ZT 1 ?_
  obtain ⟨t4, b1, H2⟩ := bind_inv H
  refine Z0 ?_
  refine ZC0 (atom_first_ok b1) ?_
  refine Z0 ?_
  rcases ite_inv H2 with ⟨c3, H4⟩ | ⟨c3, H4⟩
  · refine Z1 c3 ?_
    obtain rfl := Zi H4
    exact ZE0
  · refine Z1 c3 ?_
    rcases ite_inv H4 with ⟨c5, H6⟩ | ⟨c5, H6⟩
    · refine Z1 (Y2 c3 c5) ?_
      obtain rfl := Zi H6
      exact ZE0
    · refine Z1 (Y2 c3 c5) ?_
      rcases ite_inv H6 with ⟨c7, H8⟩ | ⟨c7, H8⟩
      · refine Z1 (Y3 c3 c5 c7) ?_
        obtain rfl := Zi H8
        exact ZE0
      · refine Z1 (Y3 c3 c5 c7) ?_
        obtain rfl := Zi H8
        exact ZE0
def atom_Name_L1 (n : Nat) (s : ByteArray) : Nat → Int → Option ((Unit) ⊕ Bool)
  | 0, _ => none
  | c + 1, t19 =>
    (if (decide (t19 < (s.size : Int))) then
      (bidx s t19).bind fun ch3 =>
      (atom_plain n ch3).bind fun t252 =>
      (if t252 then
        atom_Name_L1 n s c (IntKind.i64.wrap (t19 + 1))
      else
        some (.inr false))
    else
      some (.inl ()))

def atom_Name (n : Nat) (s : ByteArray) : Option Bool :=
  (
    (if (s.toList == ({ data := #[] } : ByteArray).toList) then
      some true
    else
      (if (decide (30 < (s.size : Int))) then
        some true
      else
        (bidx s 0).bind fun ch =>
        (atom_first n ch).bind fun t14 =>
        some (!t14))) : Option (Bool)).bind fun t16 =>
  (if t16 then
    some false
  else
    (
      atom_Name_L1 n s n 0 : Option ((Unit) ⊕ Bool)).bind fun
      | .inl _ =>
        some true
      | .inr r => some r)
theorem atom_Name_ok {n : Nat} {s : ByteArray} {r : Bool} (H : atom_Name n s = some r) : PureOK Tryd.prog 36 [D.v (.string s)] (D.v (.bool r)) true := by
  unfold atom_Name at H
  refine ZP tab_ok fol (rs := #[.tmp 2]) Tryd.func36 ?_
  refine runR_seq ?_
  refine ZT 1 ?_
  refine Z0 ?_
  refine runR_seq ?_
  refine runR_seq ?_
  obtain ⟨e_, E1, H2⟩ := bind_inv H
  refine runR_join (α := { y : Bool // e_ = y }) (fun | ⟨t16, _⟩ => ⟨upd 0 (.v (.string s)) (upd 16 (.v (.bool t16)) noFr), noHp, 0⟩) ?_ ?_
  · refine ZT 1 ?_
    refine Z0 ?_
    rcases ite_inv E1 with ⟨c3, H4⟩ | ⟨c3, H4⟩
    · refine Z1 c3 ?_
      obtain rfl := Zi H4
      exact ⟨⟨true, rfl⟩, ZR []⟩
    · refine Z1 c3 ?_
      rcases ite_inv H4 with ⟨c5, H6⟩ | ⟨c5, H6⟩
      · refine Z1 (Y2 c3 c5) ?_
        obtain rfl := Zi H6
        exact ⟨⟨true, rfl⟩, ZR []⟩
      · obtain ⟨ch, b7, H8⟩ := bind_inv H6
        obtain ⟨h9, by_, h10, h11⟩ := bidx_inv b7
        try simp only [Int.reduceToNat, Int.toNat_natCast] at h10
        obtain ⟨t14, b12, H13⟩ := bind_inv H8
        refine Z1 (Y5 c3 c5 (nat_of .i64 h9) h10 h11.symm) ?_
        refine ZC0 (atom_first_ok b12) ?_
        refine Z1 (Y5 c3 c5 (nat_of .i64 h9) h10 h11.symm) ?_
        obtain rfl := Zi H13
        exact ⟨⟨(!t14), rfl⟩, ZR []⟩
  · rintro ⟨t16, he42⟩
    replace he42 := he42.symm
    subst he42
    try dsimp only at H2
    refine ZT 1 ?_
    refine Z0 ?_
    rcases ite_inv H2 with ⟨c14, H15⟩ | ⟨c14, H15⟩
    · refine Z1 c14 ?_
      obtain rfl := Zi H15
      exact ZE0
    · refine Z1 c14 ?_
      refine runR_seq ?_
      refine runR_seq ?_
      refine ZT 1 ?_
      refine Z1 c14 ?_
      obtain ⟨e_2, E16, H17⟩ := bind_inv H15
      refine runR_join (α := { y : Unit // e_2 = .inl y }) (fun | ⟨_, _⟩ => ⟨noFr, noHp, 0⟩) ?_ ?_
      · refine runR_block ?_
        refine runR_loop (α := { q : Nat × Int // atom_Name_L1 n s q.1 q.2 = some e_2 }) (fun | ⟨⟨c, t19⟩, _⟩ => ⟨upd 0 (.v (.string s)) (upd 18 (.v (.int .i64 (s.size : Int))) (upd 19 (.v (.int .i64 t19)) noFr)), noHp, 0⟩) (fun q => q.1.1) ⟨(n, 0), E16⟩ ?_ ?_
        · exact ZR []
        · rintro ⟨⟨c, t19⟩, L18⟩
          rcases c with _ | c
          · exact nomatch (show none = some _ from L18)
          · unfold atom_Name_L1 at L18
            try dsimp only at L18
            refine ZT 1 ?_
            refine Z0 ?_
            rcases ite_inv L18 with ⟨c30, H31⟩ | ⟨c30, H31⟩
            · obtain ⟨ch3, b32, H33⟩ := bind_inv H31
              obtain ⟨h34, by_3, h35, h36⟩ := bidx_inv b32
              try simp only [Int.reduceToNat, Int.toNat_natCast] at h35
              obtain ⟨t252, b37, H38⟩ := bind_inv H33
              refine Z1 (Y4 c30 (nat_of .i64 h34) h35 h36.symm) ?_
              refine ZC0 (atom_plain_ok b37) ?_
              refine Z1 (Y4 c30 (nat_of .i64 h34) h35 h36.symm) ?_
              rcases ite_inv H38 with ⟨c39, H40⟩ | ⟨c39, H40⟩
              · refine Z1 (Y5 c30 (nat_of .i64 h34) h35 h36.symm c39) ?_
                exact ⟨⟨(c, (IntKind.i64.wrap (t19 + 1))), H40⟩, ZR [], Nat.lt_succ_self _⟩
              · refine Z1 (Y5 c30 (nat_of .i64 h34) h35 h36.symm c39) ?_
                obtain rfl := Zi H40
                obtain rfl := Zi H17
                exact ZE0
            · refine Z1 c30 ?_
              obtain rfl := Zi H31
              exact ⟨⟨(), rfl⟩, ZR []⟩
      · rintro ⟨_, he41⟩
        replace he41 := he41.symm
        subst he41
        try dsimp only at H17
        refine ZT 1 ?_
        refine Z0 ?_
        obtain rfl := Zi H17
        exact ZE0
def stringslite_HasPrefix (n : Nat) (s : ByteArray) (prefix_ : ByteArray) : Option Bool :=
  (if (decide ((prefix_.size : Int) ≤ (s.size : Int))) then
    (bslc s 0 (prefix_.size : Int)).bind fun s2 =>
    some (s2.toList == prefix_.toList)
  else
    some false)
theorem stringslite_HasPrefix_ok {n : Nat} {s : ByteArray} {prefix_ : ByteArray} {r : Bool} (H : stringslite_HasPrefix n s prefix_ = some r) : PureOK Tryd.prog 76 [D.v (.string s), D.v (.string prefix_)] (D.v (.bool r)) true := by
  unfold stringslite_HasPrefix at H
  refine ZP tab_ok fol (rs := #[.tmp 4]) Tryd.func76 ?_
  refine ZT 1 ?_
  refine Z0 ?_
  rcases ite_inv H with ⟨c1, H2⟩ | ⟨c1, H2⟩
  · obtain ⟨s2, b3, H4⟩ := bind_inv H2
    obtain ⟨h5, h6, h7, h8⟩ := bslc_inv b3
    have h9 : 0 ≤ Int.toNat (prefix_.size : Int) := by omega
    have h10 : Int.toNat (prefix_.size : Int) ≤ s.size := by omega
    have h11 : ByteArray.extract s (0) (Int.toNat (prefix_.size : Int)) = s2 := h8.symm
    try simp only [Int.toNat_natCast] at h9 h10 h11
    refine Z1 (Y5 c1 (nat_of .i64 (Int.le_trans h5 h6)) h9 h10 h11) ?_
    obtain rfl := Zi H4
    exact ZE0
  · refine Z1 c1 ?_
    obtain rfl := Zi H2
    exact ZE0
def stringslite_CutPrefix (n : Nat) (s : ByteArray) (prefix_ : ByteArray) : Option (ByteArray × Bool) :=
  (stringslite_HasPrefix n s prefix_).bind fun t8 =>
  (if t8 then
    (bslc s (prefix_.size : Int) (s.size : Int)).bind fun s2 =>
    some (s2, true)
  else
    some (s, false))
theorem stringslite_CutPrefix_ok {n : Nat} {s : ByteArray} {prefix_ : ByteArray} {r : ByteArray × Bool} (H : stringslite_CutPrefix n s prefix_ = some r) : PureOK Tryd.prog 63 [D.v (.string s), D.v (.string prefix_)] (D.tu [D.v (.string r.1), D.v (.bool r.2)]) true := by
  unfold stringslite_CutPrefix at H
  refine ZP tab_ok fol (rs := #[.tmp 4, .tmp 5]) Tryd.func63 ?_
  refine ZT 1 ?_
  obtain ⟨t8, b1, H2⟩ := bind_inv H
  refine Z0 ?_
  refine ZC0 (stringslite_HasPrefix_ok b1) ?_
  refine Z0 ?_
  rcases ite_inv H2 with ⟨c3, H4⟩ | ⟨c3, H4⟩
  · obtain ⟨s2, b5, H6⟩ := bind_inv H4
    obtain ⟨h7, h8, h9, h10⟩ := bslc_inv b5
    have h11 : Int.toNat (prefix_.size : Int) ≤ s.size := by omega
    have h12 : s.size ≤ s.size := by omega
    have h13 : ByteArray.extract s (Int.toNat (prefix_.size : Int)) (s.size) = s2 := h10.symm
    try simp only [Int.toNat_natCast] at h11 h12 h13
    refine Z1 (Y5 c3 (nat_of .i64 h7) h11 h12 h13) ?_
    obtain rfl := Zi H6
    exact ZE0
  · refine Z1 c3 ?_
    obtain rfl := Zi H4
    exact ZE0
def strings_CutPrefix (n : Nat) (s : ByteArray) (prefix_ : ByteArray) : Option (ByteArray × Bool) :=
  (stringslite_CutPrefix n s prefix_).bind fun t8 =>
  some (t8.1, t8.2)
theorem strings_CutPrefix_ok {n : Nat} {s : ByteArray} {prefix_ : ByteArray} {r : ByteArray × Bool} (H : strings_CutPrefix n s prefix_ = some r) : PureOK Tryd.prog 40 [D.v (.string s), D.v (.string prefix_)] (D.tu [D.v (.string r.1), D.v (.bool r.2)]) true := by
  unfold strings_CutPrefix at H
  refine ZP tab_ok fol (rs := #[.tmp 4, .tmp 5]) Tryd.func40 ?_
  refine ZT 1 ?_
  obtain ⟨t8, b1, H2⟩ := bind_inv H
  refine Z0 ?_
  refine ZC0 (stringslite_CutPrefix_ok b1) ?_
  refine Z0 ?_
  obtain rfl := Zi H2
  exact ZE0
def acls_bitsOf_L1 (n : Nat) (s : ByteArray) : Nat → (Int × Int) → Option ((Int) ⊕ (Int × Bool))
  | 0, _ => none
  | c + 1, (n_, t9) =>
    (if (decide (t9 < 3)) then
      (bidx s t9).bind fun ch3 =>
      (bidx ({ data := #[114, 119, 120] }) t9).bind fun ch4 =>
      (if (ch3 == ch4) then
        acls_bitsOf_L1 n s c ((IntKind.i64.wrap ((IntKind.i64.wrap (sl n_ 1)) + 1)), (IntKind.i64.wrap (t9 + 1)))
      else
        (if (ch3 == 45) then
          acls_bitsOf_L1 n s c ((IntKind.i64.wrap (sl n_ 1)), (IntKind.i64.wrap (t9 + 1)))
        else
          some (.inr (0, false))))
    else
      some (.inl n_))

def acls_bitsOf (n : Nat) (s : ByteArray) : Option (Int × Bool) :=
  (if ((s.size : Int) != 3) then
    some (0, false)
  else
    (
      acls_bitsOf_L1 n s n (0, 0) : Option ((Int) ⊕ (Int × Bool))).bind fun
      | .inl n_3 =>
        some (n_3, true)
      | .inr r => some r)
theorem acls_bitsOf_ok {n : Nat} {s : ByteArray} {r : Int × Bool} (H : acls_bitsOf n s = some r) : PureOK Tryd.prog 41 [D.v (.string s)] (D.tu [D.v (.int .i64 r.1), D.v (.bool r.2)]) true := by
  unfold acls_bitsOf at H
  refine ZP tab_ok fol (rs := #[.tmp 2, .tmp 3]) Tryd.func41 ?_
  refine runR_seq ?_
  refine ZT 1 ?_
  refine Z0 ?_
  refine runR_seq ?_
  refine ZT 1 ?_
  refine Z0 ?_
  rcases ite_inv H with ⟨c1, H2⟩ | ⟨c1, H2⟩
  · refine Z1 c1 ?_
    obtain rfl := Zi H2
    exact ZE0
  · refine Z1 c1 ?_
    refine runR_seq ?_
    refine ZT 1 ?_
    refine Z1 c1 ?_
    refine runR_seq ?_
    refine runR_seq ?_
    refine ZT 1 ?_
    refine Z1 c1 ?_
    obtain ⟨e_, E3, H4⟩ := bind_inv H2
    refine runR_join (α := { y : Int // e_ = .inl y }) (fun | ⟨n_3, _⟩ => ⟨upd 4 (.v (.int .i64 n_3)) noFr, noHp, 0⟩) ?_ ?_
    · refine runR_block ?_
      refine runR_loop (α := { q : Nat × (Int × Int) // acls_bitsOf_L1 n s q.1 q.2 = some e_ }) (fun | ⟨⟨c, ⟨n_, t9⟩⟩, _⟩ => ⟨upd 0 (.v (.string s)) (upd 4 (.v (.int .i64 n_)) (upd 9 (.v (.int .i64 t9)) noFr)), noHp, 0⟩) (fun q => q.1.1) ⟨(n, (0, 0)), E3⟩ ?_ ?_
      · exact ZR []
      · rintro ⟨⟨c, ⟨n_, t9⟩⟩, L5⟩
        rcases c with _ | c
        · exact nomatch (show none = some _ from L5)
        · unfold acls_bitsOf_L1 at L5
          try dsimp only at L5
          refine ZT 1 ?_
          refine Z0 ?_
          rcases ite_inv L5 with ⟨c20, H21⟩ | ⟨c20, H21⟩
          · obtain ⟨ch3, b22, H23⟩ := bind_inv H21
            obtain ⟨h24, by_3, h25, h26⟩ := bidx_inv b22
            try simp only [Int.reduceToNat, Int.toNat_natCast] at h25
            obtain ⟨ch4, b27, H28⟩ := bind_inv H23
            obtain ⟨h29, by_4, h30, h31⟩ := bidx_inv b27
            try simp only [Int.reduceToNat, Int.toNat_natCast] at h30
            refine Z1 (Y2 (Y6 c20 (nat_of .i64 h24) h25 h26.symm (nat_of .i64 h29) h30) h31.symm) ?_
            rcases ite_inv H28 with ⟨c32, H33⟩ | ⟨c32, H33⟩
            · refine Z1 (Y2 (Y6 c20 (nat_of .i64 h24) h25 h26.symm (nat_of .i64 h29) h30) (Y2 h31.symm c32)) ?_
              exact ⟨⟨(c, ((IntKind.i64.wrap ((IntKind.i64.wrap (sl n_ 1)) + 1)), (IntKind.i64.wrap (t9 + 1)))), H33⟩, ZR [], Nat.lt_succ_self _⟩
            · refine Z1 (Y2 (Y6 c20 (nat_of .i64 h24) h25 h26.symm (nat_of .i64 h29) h30) (Y2 h31.symm c32)) ?_
              rcases ite_inv H33 with ⟨c34, H35⟩ | ⟨c34, H35⟩
              · refine Z1 (Y2 (Y6 c20 (nat_of .i64 h24) h25 h26.symm (nat_of .i64 h29) h30) (Y3 h31.symm c32 c34)) ?_
                exact ⟨⟨(c, ((IntKind.i64.wrap (sl n_ 1)), (IntKind.i64.wrap (t9 + 1)))), H35⟩, ZR [], Nat.lt_succ_self _⟩
              · refine Z1 (Y2 (Y6 c20 (nat_of .i64 h24) h25 h26.symm (nat_of .i64 h29) h30) (Y3 h31.symm c32 c34)) ?_
                obtain rfl := Zi H35
                obtain rfl := Zi H4
                exact ZE0
          · refine Z1 c20 ?_
            obtain rfl := Zi H21
            exact ⟨⟨n_, rfl⟩, ZR []⟩
    · rintro ⟨n_3, he36⟩
      replace he36 := he36.symm
      subst he36
      try dsimp only at H4
      refine ZT 1 ?_
      refine Z0 ?_
      obtain rfl := Zi H4
      exact ZE0
def acls_kindOf (n : Nat) (letter : ByteArray) (named : Bool) : Option Int :=
  (
    (if (letter.toList == ({ data := #[117] } : ByteArray).toList) then
      some named
    else
      some false) : Option (Bool)).bind fun t5 =>
  (if t5 then
    some 2
  else
    (if (letter.toList == ({ data := #[117] } : ByteArray).toList) then
      some 1
    else
      (
        (if (letter.toList == ({ data := #[103] } : ByteArray).toList) then
          some named
        else
          some false) : Option (Bool)).bind fun t14 =>
      (if t14 then
        some 4
      else
        (if (letter.toList == ({ data := #[103] } : ByteArray).toList) then
          some 3
        else
          (if (letter.toList == ({ data := #[109] } : ByteArray).toList) then
            (if named then
              (if (letter.toList == ({ data := #[111] } : ByteArray).toList) then
                some 0
              else
                some 0)
            else
              some 5)
          else
            (if (letter.toList == ({ data := #[111] } : ByteArray).toList) then
              (if named then
                some 0
              else
                some 6)
            else
              some 0))))))
theorem acls_kindOf_ok {n : Nat} {letter : ByteArray} {named : Bool} {r : Int} (H : acls_kindOf n letter named = some r) : PureOK Tryd.prog 42 [D.v (.string letter), D.v (.bool named)] (D.v (.int .i64 r)) true := by
  unfold acls_kindOf at H
  refine ZP tab_ok fol (rs := #[.tmp 4]) Tryd.func42 ?_
  refine runR_seq ?_
  refine ZT 1 ?_
  refine Z0 ?_
  refine runR_seq ?_
  refine runR_block ?_
  refine runR_seq ?_
  obtain ⟨e_, E1, H2⟩ := bind_inv H
  refine runR_join (α := { y : Bool // e_ = y }) (fun | ⟨t5, _⟩ => ⟨upd 0 (.v (.string letter)) (upd 1 (.v (.bool named)) (upd 5 (.v (.bool t5)) noFr)), noHp, 0⟩) ?_ ?_
  · refine ZT 1 ?_
    refine Z0 ?_
    rcases ite_inv E1 with ⟨c3, H4⟩ | ⟨c3, H4⟩
    · refine Z1 c3 ?_
      obtain rfl := Zi H4
      exact ⟨⟨named, rfl⟩, ZR []⟩
    · refine Z1 c3 ?_
      obtain rfl := Zi H4
      exact ⟨⟨false, rfl⟩, ZR []⟩
  · rintro ⟨t5, he28⟩
    replace he28 := he28.symm
    subst he28
    try dsimp only at H2
    rcases ite_inv H2 with ⟨c5, H6⟩ | ⟨c5, H6⟩
    · refine runR_condT (by rfl) c5 ?_
      refine Z1 c5 ?_
      refine ZT 3 ?_
      refine Z1 c5 ?_
      obtain rfl := Zi H6
      exact ZE0
    · refine runR_condF (by rfl) c5 ?_
      refine Z1 c5 ?_
      refine runR_seq ?_
      refine ZT 1 ?_
      refine Z1 c5 ?_
      rcases ite_inv H6 with ⟨c7, H8⟩ | ⟨c7, H8⟩
      · refine runR_condT (by rfl) c7 ?_
        refine Z1 (Y2 c5 c7) ?_
        refine ZT 3 ?_
        refine Z1 (Y2 c5 c7) ?_
        obtain rfl := Zi H8
        exact ZE0
      · refine runR_condF (by rfl) c7 ?_
        refine Z1 (Y2 c5 c7) ?_
        refine runR_seq ?_
        obtain ⟨e_2, E9, H10⟩ := bind_inv H8
        refine runR_join (α := { y : Bool // e_2 = y }) (fun | ⟨t14, _⟩ => ⟨upd 0 (.v (.string letter)) (upd 1 (.v (.bool named)) (upd 14 (.v (.bool t14)) noFr)), noHp, 0⟩) ?_ ?_
        · refine ZT 1 ?_
          refine Z0 ?_
          rcases ite_inv E9 with ⟨c11, H12⟩ | ⟨c11, H12⟩
          · refine Z1 c11 ?_
            obtain rfl := Zi H12
            exact ⟨⟨named, rfl⟩, ZR []⟩
          · refine Z1 c11 ?_
            obtain rfl := Zi H12
            exact ⟨⟨false, rfl⟩, ZR []⟩
        · rintro ⟨t14, he27⟩
          replace he27 := he27.symm
          subst he27
          try dsimp only at H10
          refine ZT 3 ?_
          refine Z0 ?_
          rcases ite_inv H10 with ⟨c13, H14⟩ | ⟨c13, H14⟩
          · refine Z1 c13 ?_
            obtain rfl := Zi H14
            exact ZE0
          · refine Z1 c13 ?_
            rcases ite_inv H14 with ⟨c15, H16⟩ | ⟨c15, H16⟩
            · refine Z1 (Y2 c13 c15) ?_
              obtain rfl := Zi H16
              exact ZE0
            · refine Z1 (Y2 c13 c15) ?_
              rcases ite_inv H16 with ⟨c17, H18⟩ | ⟨c17, H18⟩
              · refine Z1 (Y3 c13 c15 c17) ?_
                rcases ite_inv H18 with ⟨c19, H20⟩ | ⟨c19, H20⟩
                · refine Z1 (Y4 c13 c15 c17 c19) ?_
                  rcases ite_inv H20 with ⟨c21, H22⟩ | ⟨c21, H22⟩
                  · refine Z1 (Y5 c13 c15 c17 c19 c21) ?_
                    obtain rfl := Zi H22
                    exact ZE0
                  · refine Z1 (Y5 c13 c15 c17 c19 c21) ?_
                    obtain rfl := Zi H22
                    exact ZE0
                · refine Z1 (Y4 c13 c15 c17 c19) ?_
                  obtain rfl := Zi H20
                  exact ZE0
              · refine Z1 (Y3 c13 c15 c17) ?_
                rcases ite_inv H18 with ⟨c23, H24⟩ | ⟨c23, H24⟩
                · refine Z1 (Y4 c13 c15 c17 c23) ?_
                  rcases ite_inv H24 with ⟨c25, H26⟩ | ⟨c25, H26⟩
                  · refine Z1 (Y5 c13 c15 c17 c23 c25) ?_
                    obtain rfl := Zi H26
                    exact ZE0
                  · refine Z1 (Y5 c13 c15 c17 c23 c25) ?_
                    obtain rfl := Zi H26
                    exact ZE0
                · refine Z1 (Y4 c13 c15 c17 c23) ?_
                  obtain rfl := Zi H24
                  exact ZE0
def acls_entry (n : Nat) (s : ByteArray) : Option (GEntry × Bool) :=
  (strings_CutPrefix n s ({ data := #[100, 58] })).bind fun t12 =>
  (strings_Split n t12.1 ({ data := #[58] })).bind fun t16 =>
  (
    (if ((t16.length : Int) != 3) then
      some true
    else
      (idx t16 1).bind fun x =>
      (if (x.toList == ({ data := #[] } : ByteArray).toList) then
        some false
      else
        (atom_Name n x).bind fun t29 =>
        some (!t29))) : Option (Bool)).bind fun t32 =>
  (if t32 then
    some ((⟨0, false, ByteArray.empty, 0⟩ : GEntry), false)
  else
    (idx t16 2).bind fun x2 =>
    (acls_bitsOf n x2).bind fun t38 =>
    (idx t16 0).bind fun x3 =>
    (idx t16 1).bind fun x4 =>
    (acls_kindOf n x3 (!(x4.toList == ({ data := #[] } : ByteArray).toList))).bind fun t48 =>
    (if t38.2 then
      some ((⟨t48, t12.2, x4, t38.1⟩ : GEntry), (decide (0 < t48)))
    else
      some ((⟨t48, t12.2, x4, t38.1⟩ : GEntry), false)))
theorem acls_entry_ok {n : Nat} {s : ByteArray} {r : GEntry × Bool} (H : acls_entry n s = some r) : PureOK Tryd.prog 18 [D.v (.string s)] (D.tu [D.ag (eGEntry r.1), D.v (.bool r.2)]) true := by
  unfold acls_entry at H
  refine ZP tab_ok fol (rs := #[.cell 2 24, .tmp 3]) Tryd.func18 ?_
  refine runR_seq ?_
  refine ZT 1 ?_
  refine Z0 ?_
  refine runR_seq ?_
  refine ZT 1 ?_
  obtain ⟨t12, b1, H2⟩ := bind_inv H
  refine Z0 ?_
  refine ZC0 (strings_CutPrefix_ok b1) ?_
  refine Z0 ?_
  refine runR_seq ?_
  refine ZT 1 ?_
  obtain ⟨t16, b3, H4⟩ := bind_inv H2
  refine Z0 ?_
  refine ZC0 (strings_Split_ok b3) ?_
  refine Z0 ?_
  refine runR_seq ?_
  refine runR_seq ?_
  obtain ⟨e_, E5, H6⟩ := bind_inv H4
  refine runR_join (α := { y : Bool // e_ = y }) (fun | ⟨t32, _⟩ => ⟨upd 2 (.pt 0 0) (upd 5 (.v (.bool t12.2)) (upd 6 (.d (.sl (List.map eS t16)) false) (upd 32 (.v (.bool t32)) noFr))), upd 0 (some (.bx [.v (.int .i64 0), .v (.bool false), .v (.string ByteArray.empty), .v (.int .i64 0)])) noHp, 1⟩) ?_ ?_
  · refine ZT 1 ?_
    refine Z0 ?_
    rcases ite_inv E5 with ⟨c7, H8⟩ | ⟨c7, H8⟩
    · refine Z1 c7 ?_
      obtain rfl := Zi H8
      exact ⟨⟨true, rfl⟩, ZR [(0, 0)]⟩
    · obtain ⟨x, b9, H10⟩ := bind_inv H8
      obtain ⟨h11, h12⟩ := idx_inv b9
      try simp only [Int.reduceToNat, Int.toNat_natCast] at h12
      have h13 := map_at eS h12
      refine Z1 (Y3 c7 (nat_of .i64 h11) h13) ?_
      rcases ite_inv H10 with ⟨c15, H16⟩ | ⟨c15, H16⟩
      · refine Z1 (Y4 c7 (nat_of .i64 h11) h13 c15) ?_
        obtain rfl := Zi H16
        exact ⟨⟨false, rfl⟩, ZR [(0, 0)]⟩
      · obtain ⟨t29, b17, H18⟩ := bind_inv H16
        refine Z1 (Y4 c7 (nat_of .i64 h11) h13 c15) ?_
        refine ZC0 (atom_Name_ok b17) ?_
        refine Z1 (Y4 c7 (nat_of .i64 h11) h13 c15) ?_
        obtain rfl := Zi H18
        exact ⟨⟨(!t29), rfl⟩, ZR [(0, 0)]⟩
  · rintro ⟨t32, he45⟩
    replace he45 := he45.symm
    subst he45
    try dsimp only at H6
    refine ZT 2 ?_
    refine Z0 ?_
    rcases ite_inv H6 with ⟨c19, H20⟩ | ⟨c19, H20⟩
    · refine Z1 c19 ?_
      obtain rfl := Zi H20
      exact ZE0
    · obtain ⟨x2, b21, H22⟩ := bind_inv H20
      obtain ⟨h23, h24⟩ := idx_inv b21
      try simp only [Int.reduceToNat, Int.toNat_natCast] at h24
      have h25 := map_at eS h24
      obtain ⟨t38, b27, H28⟩ := bind_inv H22
      refine Z1 (Y3 c19 (nat_of .i64 h23) h25) ?_
      refine ZC0 (acls_bitsOf_ok b27) ?_
      obtain ⟨x3, b29, H30⟩ := bind_inv H28
      obtain ⟨h31, h32⟩ := idx_inv b29
      try simp only [Int.reduceToNat, Int.toNat_natCast] at h32
      have h33 := map_at eS h32
      obtain ⟨x4, b35, H36⟩ := bind_inv H30
      obtain ⟨h37, h38⟩ := idx_inv b35
      try simp only [Int.reduceToNat, Int.toNat_natCast] at h38
      have h39 := map_at eS h38
      obtain ⟨t48, b41, H42⟩ := bind_inv H36
      refine Z1 (Y2 (Y6 c19 (nat_of .i64 h23) h25 (nat_of .i64 h31) h33 (nat_of .i64 h37)) h39) ?_
      refine ZD0 (acls_kindOf_ok b41) ?_
      refine Z1 (Y2 (Y6 c19 (nat_of .i64 h23) h25 (nat_of .i64 h31) h33 (nat_of .i64 h37)) h39) ?_
      refine Rd_endF (by rfl) ?_
      refine Z1 (Y2 (Y6 c19 (nat_of .i64 h23) h25 (nat_of .i64 h31) h33 (nat_of .i64 h37)) h39) ?_
      rcases ite_inv H42 with ⟨c43, H44⟩ | ⟨c43, H44⟩
      · refine Z1 (Y2 (Y6 c19 (nat_of .i64 h23) h25 (nat_of .i64 h31) h33 (nat_of .i64 h37)) (Y2 h39 c43)) ?_
        refine Rd_endF (by rfl) ?_
        refine Z1 (Y2 (Y6 c19 (nat_of .i64 h23) h25 (nat_of .i64 h31) h33 (nat_of .i64 h37)) (Y2 h39 c43)) ?_
        obtain rfl := Zi H44
        exact ZE0
      · refine Z1 (Y2 (Y6 c19 (nat_of .i64 h23) h25 (nat_of .i64 h31) h33 (nat_of .i64 h37)) (Y2 h39 c43)) ?_
        refine Rd_endF (by rfl) ?_
        refine Z1 (Y2 (Y6 c19 (nat_of .i64 h23) h25 (nat_of .i64 h31) h33 (nat_of .i64 h37)) (Y2 h39 c43)) ?_
        obtain rfl := Zi H44
        exact ZE0
def acls_Entries_L1 (n : Nat) (t11 : List ByteArray) : Nat → (List GEntry × Int) → Option ((List GEntry) ⊕ (List GEntry × Bool))
  | 0, _ => none
  | c + 1, (out, t17) =>
    (if (decide (t17 < (t11.length : Int))) then
      (idx t11 t17).bind fun x2 =>
      (acls_entry n x2).bind fun t232 =>
      (if t232.2 then
        (app out [(⟨t232.1.kind, t232.1.default, t232.1.name, t232.1.bits⟩ : GEntry)]).bind fun l =>
        acls_Entries_L1 n t11 c (l, (IntKind.i64.wrap (t17 + 1)))
      else
        some (.inr ([], false)))
    else
      some (.inl out))
def acls_Entries_L1_f (n : Nat) (t11 : List ByteArray) (st : List GEntry) (x2 : ByteArray) (k : List GEntry → Option ((List GEntry) ⊕ (List GEntry × Bool))) : Option ((List GEntry) ⊕ (List GEntry × Bool)) :=
  match st with
  | out =>
    (acls_entry n x2).bind fun t232 =>
    (if t232.2 then
      (app out [(⟨t232.1.kind, t232.1.default, t232.1.name, t232.1.bits⟩ : GEntry)]).bind fun l =>
      k l
    else
      some (.inr ([], false)))
def acls_Entries_L1_e (n : Nat) (t11 : List ByteArray) (st : List GEntry) : Option ((List GEntry) ⊕ (List GEntry × Bool)) :=
  match st with
  | out => some (.inl out)
theorem acls_Entries_L1_list (n : Nat) (t11 : List ByteArray) (hx : t11.length < 4611686018427387904) (c : Nat) (st : List GEntry) (ix : Nat) (hi : ix ≤ t11.length) (hc : t11.length - ix < c) : acls_Entries_L1 n t11 c (match st, (ix : Int) with | out, ix => (out, ix)) = foldK (acls_Entries_L1_f n t11) (acls_Entries_L1_e n t11) (t11.drop ix) st :=
  loop_list (fun c st ix => acls_Entries_L1 n t11 c (match st, ix with | out, ix => (out, ix))) t11 (acls_Entries_L1_f n t11) (acls_Entries_L1_e n t11) (fun _ _ _ => rfl) hx c st ix hi hc

def acls_Entries (n : Nat) (s : ByteArray) : Option (List GEntry × Bool) :=
  (strings_Split n s ({ data := #[44] })).bind fun t11 =>
  (if (decide (100 < (t11.length : Int))) then
    some ([], false)
  else
    (
      acls_Entries_L1 n t11 n ([], 0) : Option ((List GEntry) ⊕ (List GEntry × Bool))).bind fun
      | .inl out3 =>
        some (out3, true)
      | .inr r => some r)
theorem acls_Entries_ok {n : Nat} {s : ByteArray} {r : List GEntry × Bool} (H : acls_Entries n s = some r) : PureOK Tryd.prog 6 [D.v (.string s)] (D.tu [D.sl (List.map eGEntry r.1), D.v (.bool r.2)]) true := by
  unfold acls_Entries at H
  refine ZP tab_ok fol (rs := #[.tmp 2, .tmp 3]) Tryd.func6 ?_
  refine runR_seq ?_
  refine ZT 1 ?_
  refine Z0 ?_
  refine runR_seq ?_
  refine ZT 1 ?_
  refine Z0 ?_
  refine runR_seq ?_
  refine ZT 1 ?_
  obtain ⟨t11, b1, H2⟩ := bind_inv H
  refine Z0 ?_
  refine ZC0 (strings_Split_ok b1) ?_
  refine Z0 ?_
  refine runR_seq ?_
  refine ZT 1 ?_
  refine Z0 ?_
  rcases ite_inv H2 with ⟨c3, H4⟩ | ⟨c3, H4⟩
  · refine Z1 c3 ?_
    obtain rfl := Zi H4
    exact ZE0
  · refine Z1 c3 ?_
    refine runR_seq ?_
    refine runR_seq ?_
    refine ZT 1 ?_
    refine Z1 c3 ?_
    obtain ⟨e_, E5, H6⟩ := bind_inv H4
    refine runR_join (α := { y : List GEntry // e_ = .inl y } × Nat) (fun | ⟨⟨out3, _⟩, g3⟩ => ⟨upd 4 (accV 0 g3 (List.map eGEntry out3)) noFr, upd 0 (accO 4 g3 false (List.map eGEntry out3)) noHp, 1⟩) ?_ ?_
    · refine runR_block ?_
      refine runR_loop (α := { q : (Nat × (List GEntry × Int)) × Nat // acls_Entries_L1 n t11 q.1.1 q.1.2 = some e_ }) (fun | ⟨⟨⟨c, ⟨out, t17⟩⟩, g⟩, _⟩ => ⟨upd 4 (accV 0 g (List.map eGEntry out)) (upd 15 (.d (.sl (List.map eS t11)) false) (upd 16 (.v (.int .i64 (t11.length : Int))) (upd 17 (.v (.int .i64 t17)) noFr))), upd 0 (accO 4 g false (List.map eGEntry out)) noHp, 1⟩) (fun q => q.1.1.1) ⟨((n, ([], 0)), 0), E5⟩ ?_ ?_
      · exact ZR []
      · rintro ⟨⟨⟨c, ⟨out, t17⟩⟩, g⟩, L7⟩
        rcases c with _ | c
        · exact nomatch (show none = some _ from L7)
        · unfold acls_Entries_L1 at L7
          try dsimp only at L7
          refine ZT 1 ?_
          refine Z0 ?_
          rcases ite_inv L7 with ⟨c20, H21⟩ | ⟨c20, H21⟩
          · obtain ⟨x2, b22, H23⟩ := bind_inv H21
            obtain ⟨h24, h25⟩ := idx_inv b22
            try simp only [Int.reduceToNat, Int.toNat_natCast] at h25
            have h26 := map_at eS h25
            obtain ⟨t232, b28, H29⟩ := bind_inv H23
            refine Z1 (Y3 c20 (nat_of .i64 h24) h26) ?_
            refine ZC0 (acls_entry_ok b28) ?_
            refine Z1 (Y3 c20 (nat_of .i64 h24) h26) ?_
            rcases ite_inv H29 with ⟨c30, H31⟩ | ⟨c30, H31⟩
            · obtain ⟨l, b32, H33⟩ := bind_inv H31
              obtain ⟨h34, h35⟩ := app_inv b32
              have h34 : out.length + 1 ≤ 4294967296 := h34
              have h36 : List.map eGEntry out ++ [[.v (.int .i64 t232.1.kind), .v (.bool t232.1.default), .v (.string t232.1.name), .v (.int .i64 t232.1.bits)]] = List.map eGEntry l := app_map eGEntry h35
              have h37 : out.length + 1 = l.length := app_len h35
              have h38 : l.length ≤ 4294967296 := by omega
              have q39 : 0 < l.length := by omega
              refine Z1 (Y2 (Y6 c20 (nat_of .i64 h24) h26 c30 h34 h36) (Y2 h37 h38)) ?_
              rcases out with _ | ⟨q0, q1⟩
              · try simp only [List.map_nil, accI, accN]
                exact ⟨⟨((c, (l, (IntKind.i64.wrap (t17 + 1)))), 0), H33⟩, ZR [(0, 18)], Nat.lt_succ_self _⟩
              · try simp only [List.map_cons, accI, accN]
                exact ⟨⟨((c, (l, (IntKind.i64.wrap (t17 + 1)))), (g + 1)), H33⟩, ZR [(0, 0)], Nat.lt_succ_self _⟩
            · refine Z1 (Y4 c20 (nat_of .i64 h24) h26 c30) ?_
              obtain rfl := Zi H31
              obtain rfl := Zi H6
              exact ZE0
          · refine Z1 c20 ?_
            obtain rfl := Zi H21
            exact ⟨⟨⟨out, rfl⟩, g⟩, ZR [(0, 0)]⟩
    · rintro ⟨⟨out3, he40⟩, g3⟩
      replace he40 := he40.symm
      subst he40
      try dsimp only at H6
      refine ZT 1 ?_
      refine Z0 ?_
      obtain rfl := Zi H6
      exact ZE0
def acls_told_L1 (n : Nat) (x : GEntry) : Nat → (ByteArray × Int) → Option (ByteArray)
  | 0, _ => none
  | c + 1, (out2, t38) =>
    (if (decide (t38 < 3)) then
      grd (decide (0 ≤ (IntKind.i64.wrap (2 - t38)))) <|
      (if ((IntKind.i64.wrap (an (sh x.bits (Int.toNat (IntKind.i64.wrap (2 - t38)))) 1 : Int)) == 1) then
        (bslc ({ data := #[114, 119, 120] }) t38 (IntKind.i64.wrap (t38 + 1))).bind fun s8 =>
        (cat out2 s8).bind fun s9 =>
        acls_told_L1 n x c (s9, (IntKind.i64.wrap (t38 + 1)))
      else
        (cat out2 ({ data := #[45] })).bind fun s10 =>
        acls_told_L1 n x c (s10, (IntKind.i64.wrap (t38 + 1))))
    else
      some out2)

def acls_told (n : Nat) (x : GEntry) : Option ByteArray :=
  (
    (if (decide (x.kind < 1)) then
      some true
    else
      (if (decide (7 ≤ x.kind)) then
        some true
      else
        (if (decide (x.bits < 0)) then
          some true
        else
          some (decide (7 < x.bits))))) : Option (Bool)).bind fun t24 =>
  (if t24 then
    some ({ data := #[] })
  else
    (aix 7 x.kind).bind fun k2 =>
    (([{ data := #[] }, { data := #[117] }, { data := #[117] }, { data := #[103] }, { data := #[103] }, { data := #[109] }, { data := #[111] }] : List ByteArray)[k2]?).bind fun u =>
    (cat u ({ data := #[58] })).bind fun s =>
    (cat s x.name).bind fun s2 =>
    (cat s2 ({ data := #[58] })).bind fun s3 =>
    (
      (if x.default then
        (cat ({ data := #[100, 58] }) s3).bind fun s4 =>
        some (true, s4)
      else
        some (false, s3)) : Option (Bool × ByteArray)).bind fun (x1, out) =>
    (
      acls_told_L1 n x n (out, 0) : Option (ByteArray)).bind fun out4 =>
    some out4)
theorem acls_told_ok {n : Nat} {x : GEntry} {r : ByteArray} (H : acls_told n x = some r) : PureOK Tryd.prog 31 [D.ag (eGEntry x)] (D.v (.string r)) true := by
  unfold acls_told at H
  refine ZP tab_ok fol (rs := #[.tmp 2]) Tryd.func31 ?_
  refine runR_seq ?_
  refine ZT 1 ?_
  refine Z0 ?_
  refine runR_seq ?_
  refine ZT 1 ?_
  try simp -implicitDefEqProofs only [go_sem, Bool.false_and, Int.reduceToNat, Int.reduceLT, Int.reduceLE, Int.reduceBEq, Int.reduceBNe, Nat.reduceLT, Nat.reduceBEq, Int.reduceEq, Nat.reduceEqDiff, Nat.reduceAdd, Nat.reduceSub, Nat.reduceMul, Nat.reduceLeDiff, reduceCtorEq, ↓reduceIte, eGEntry, (show AO.bx [AV.v (.string ByteArray.empty), AV.v (.string ByteArray.empty), AV.v (.string ByteArray.empty), AV.v (.string ByteArray.empty), AV.v (.string ByteArray.empty), AV.v (.string ByteArray.empty), AV.v (.string ByteArray.empty)] = AO.bx (boxL Value.string (List.replicate 7 ByteArray.empty)) from rfl), (boxL_drop (f := Value.string) (l := (List.replicate 7 ByteArray.empty)) (n := 7) (by rfl)), (boxL_length (f := Value.string) (l := (List.replicate 7 ByteArray.empty)) (n := 7) (by rfl)), (show AO.bx [.v (.string { data := #[] }), .v (.string { data := #[117] }), .v (.string { data := #[117] }), .v (.string { data := #[103] }), .v (.string { data := #[103] }), .v (.string { data := #[109] }), .v (.string { data := #[111] })] = AO.bx (boxL Value.string ([{ data := #[] }, { data := #[117] }, { data := #[117] }, { data := #[103] }, { data := #[103] }, { data := #[109] }, { data := #[111] }] : List ByteArray)) from rfl), List.take_zero, List.nil_append, List.append_nil]
  refine runR_seq ?_
  refine runR_seq ?_
  obtain ⟨e_, E1, H2⟩ := bind_inv H
  refine runR_join (α := { y : Bool // e_ = y }) (fun | ⟨t24, _⟩ => ⟨upd 1 (.pt 0 0) (upd 3 (.pt 1 0) (upd 24 (.v (.bool t24)) noFr)), upd 0 (some (.bx [.v (.int .i64 x.kind), .v (.bool x.default), .v (.string x.name), .v (.int .i64 x.bits)])) (upd 1 (some (.bx (boxL Value.string ([{ data := #[] }, { data := #[117] }, { data := #[117] }, { data := #[103] }, { data := #[103] }, { data := #[109] }, { data := #[111] }] : List ByteArray)))) noHp), 2⟩) ?_ ?_
  · refine ZT 1 ?_
    refine Z0 ?_
    rcases ite_inv E1 with ⟨c3, H4⟩ | ⟨c3, H4⟩
    · refine Z1 c3 ?_
      obtain rfl := Zi H4
      exact ⟨⟨true, rfl⟩, ren_mk [(0, 0), (1, 3)] (by rfl) (rf_upd (by rfl) (rf_upd (by rfl) (rf_upd (by rfl) (rf_no _)))) (rh_upd (rh_one (by rfl) (by rfl) (by rfl)) (rh_upd (rh_one (by rfl) (renO_boxL _) (by rfl)) (rh_no _)))⟩
    · refine Z1 c3 ?_
      rcases ite_inv H4 with ⟨c5, H6⟩ | ⟨c5, H6⟩
      · refine Z1 (Y2 c3 c5) ?_
        obtain rfl := Zi H6
        exact ⟨⟨true, rfl⟩, ren_mk [(0, 0), (1, 3)] (by rfl) (rf_upd (by rfl) (rf_upd (by rfl) (rf_upd (by rfl) (rf_no _)))) (rh_upd (rh_one (by rfl) (by rfl) (by rfl)) (rh_upd (rh_one (by rfl) (renO_boxL _) (by rfl)) (rh_no _)))⟩
      · refine Z1 (Y2 c3 c5) ?_
        rcases ite_inv H6 with ⟨c7, H8⟩ | ⟨c7, H8⟩
        · refine Z1 (Y3 c3 c5 c7) ?_
          obtain rfl := Zi H8
          exact ⟨⟨true, rfl⟩, ren_mk [(0, 0), (1, 3)] (by rfl) (rf_upd (by rfl) (rf_upd (by rfl) (rf_upd (by rfl) (rf_no _)))) (rh_upd (rh_one (by rfl) (by rfl) (by rfl)) (rh_upd (rh_one (by rfl) (renO_boxL _) (by rfl)) (rh_no _)))⟩
        · refine Z1 (Y3 c3 c5 c7) ?_
          obtain rfl := Zi H8
          exact ⟨⟨(decide (7 < x.bits)), rfl⟩, ren_mk [(0, 0), (1, 3)] (by rfl) (rf_upd (by rfl) (rf_upd (by rfl) (rf_upd (by rfl) (rf_no _)))) (rh_upd (rh_one (by rfl) (by rfl) (by rfl)) (rh_upd (rh_one (by rfl) (renO_boxL _) (by rfl)) (rh_no _)))⟩
  · rintro ⟨t24, he92⟩
    replace he92 := he92.symm
    subst he92
    try dsimp only at H2
    refine ZT 1 ?_
    refine Z0 ?_
    rcases ite_inv H2 with ⟨c9, H10⟩ | ⟨c9, H10⟩
    · refine Z1 c9 ?_
      obtain rfl := Zi H10
      exact ZE0
    · refine Z1 c9 ?_
      refine runR_seq ?_
      refine ZT 1 ?_
      obtain ⟨k2, b11, H12⟩ := bind_inv H10
      obtain ⟨h13, h14, h15⟩ := aix_inv b11
      obtain ⟨u, b16, H17⟩ := bind_inv H12
      obtain ⟨s, b18, H19⟩ := bind_inv H17
      obtain ⟨h20, h21⟩ := cat_inv b18
      have h22 : u.size + 1 ≤ maxLen := h20
      obtain ⟨s2, b23, H24⟩ := bind_inv H19
      obtain ⟨h25, h26⟩ := cat_inv b23
      obtain ⟨s3, b27, H28⟩ := bind_inv H24
      obtain ⟨h29, h30⟩ := cat_inv b27
      have h31 : s2.size + 1 ≤ maxLen := h29
      refine Z1 (Y3 (Y6 c9 (nat_of .i64 h13) h14 h15 (boxL_at (f := Value.string) b16) h20) (Y6 h21 h22 h25 h26 h29 h30) h31) ?_
      refine Rd_endF (by rfl) ?_
      refine Z1 (Y3 (Y6 c9 (nat_of .i64 h13) h14 h15 (boxL_at (f := Value.string) b16) h20) (Y6 h21 h22 h25 h26 h29 h30) h31) ?_
      refine runR_seq ?_
      refine runR_seq ?_
      refine ZT 1 ?_
      refine Z1 (Y3 (Y6 c9 (nat_of .i64 h13) h14 h15 (boxL_at (f := Value.string) b16) h20) (Y6 h21 h22 h25 h26 h29 h30) h31) ?_
      obtain ⟨e_2, E32, H33⟩ := bind_inv H28
      refine runR_join (α := { y : Bool × ByteArray // e_2 = y }) (fun | ⟨⟨x1, out⟩, _⟩ => ⟨upd 1 (.pt 0 0) (upd 4 (.v (.string out)) noFr), upd 0 (some (.bx [.v (.int .i64 x.kind), .v (.bool x1), .v (.string x.name), .v (.int .i64 x.bits)])) noHp, 1⟩) ?_ ?_
      · refine ZT 1 ?_
        refine Z0 ?_
        rcases ite_inv E32 with ⟨c34, H35⟩ | ⟨c34, H35⟩
        · obtain ⟨s4, b36, H37⟩ := bind_inv H35
          obtain ⟨h38, h39⟩ := cat_inv b36
          have h40 : 2 + s3.size ≤ maxLen := h38
          refine Z1 (Y4 c34 h38 h39 h40) ?_
          obtain rfl := Zi H37
          exact ⟨⟨(true, s4), rfl⟩, ZR [(0, 0)]⟩
        · refine Z1 c34 ?_
          obtain rfl := Zi H35
          exact ⟨⟨(false, s3), rfl⟩, ZR [(0, 0)]⟩
      · rintro ⟨⟨x1, out⟩, he91⟩
        replace he91 := he91.symm
        subst he91
        try dsimp only at H33
        refine runR_seq ?_
        refine runR_seq ?_
        refine ZT 1 ?_
        refine Z0 ?_
        obtain ⟨e_3, E41, H42⟩ := bind_inv H33
        refine runR_join (α := { y : ByteArray // e_3 = y }) (fun | ⟨out4, _⟩ => ⟨upd 4 (.v (.string out4)) noFr, noHp, 0⟩) ?_ ?_
        · refine runR_block ?_
          refine runR_loop (α := { q : Nat × (ByteArray × Int) // acls_told_L1 n x q.1 q.2 = some e_3 }) (fun | ⟨⟨c, ⟨out2, t38⟩⟩, _⟩ => ⟨upd 1 (.pt 0 0) (upd 4 (.v (.string out2)) (upd 38 (.v (.int .i64 t38)) noFr)), upd 0 (some (.bx [.v (.int .i64 x.kind), .v (.bool x1), .v (.string x.name), .v (.int .i64 x.bits)])) noHp, 1⟩) (fun q => q.1.1) ⟨(n, (out, 0)), E41⟩ ?_ ?_
          · exact ZR [(0, 0)]
          · rintro ⟨⟨c, ⟨out2, t38⟩⟩, L43⟩
            rcases c with _ | c
            · exact nomatch (show none = some _ from L43)
            · unfold acls_told_L1 at L43
              try dsimp only at L43
              refine ZT 1 ?_
              refine Z0 ?_
              rcases ite_inv L43 with ⟨c65, H66⟩ | ⟨c65, H66⟩
              · obtain ⟨g67, H68⟩ := grd_inv H66
                have g67 : ¬ (IntKind.i64.wrap (2 - t38)) < 0 := by have := of_decide_eq_true g67; omega
                refine Z1 (Y2 c65 g67) ?_
                rcases ite_inv H68 with ⟨c69, H70⟩ | ⟨c69, H70⟩
                · obtain ⟨s8, b71, H72⟩ := bind_inv H70
                  obtain ⟨h73, h74, h75, h76⟩ := bslc_inv b71
                  have h77 : Int.toNat t38 ≤ Int.toNat (IntKind.i64.wrap (t38 + 1)) := by omega
                  have h78 : Int.toNat (IntKind.i64.wrap (t38 + 1)) ≤ (ByteArray.size ({ data := #[114, 119, 120] })) := by omega
                  have h79 : ByteArray.extract ({ data := #[114, 119, 120] }) (Int.toNat t38) (Int.toNat (IntKind.i64.wrap (t38 + 1))) = s8 := h76.symm
                  have h80 : Int.toNat (IntKind.i64.wrap (t38 + 1)) ≤ 3 := h78
                  try simp only [Int.toNat_natCast] at h77 h80 h79
                  obtain ⟨s9, b81, H82⟩ := bind_inv H72
                  obtain ⟨h83, h84⟩ := cat_inv b81
                  refine Z1 (Y2 (Y6 c65 g67 c69 (nat_of .i64 h73) (nat_of .i64 (Int.le_trans h73 h74)) h77) (Y4 h80 h79 h83 h84)) ?_
                  exact ⟨⟨(c, (s9, (IntKind.i64.wrap (t38 + 1)))), H82⟩, ZR [(0, 0)], Nat.lt_succ_self _⟩
                · obtain ⟨s10, b85, H86⟩ := bind_inv H70
                  obtain ⟨h87, h88⟩ := cat_inv b85
                  have h89 : out2.size + 1 ≤ maxLen := h87
                  refine Z1 (Y6 c65 g67 c69 h87 h88 h89) ?_
                  exact ⟨⟨(c, (s10, (IntKind.i64.wrap (t38 + 1)))), H86⟩, ZR [(0, 0)], Nat.lt_succ_self _⟩
              · refine Z1 c65 ?_
                obtain rfl := Zi H66
                exact ⟨⟨out2, rfl⟩, ZR []⟩
        · rintro ⟨out4, he90⟩
          replace he90 := he90.symm
          subst he90
          try dsimp only at H42
          refine ZT 1 ?_
          refine Z0 ?_
          obtain rfl := Zi H42
          exact ZE0
def slices_Equal_Entry_L1 (n : Nat) (s1 : List GEntry) (s2 : List GEntry) : Nat → Int → Option ((Unit) ⊕ Bool)
  | 0, _ => none
  | c + 1, t13 =>
    (if (decide (t13 < (s1.length : Int))) then
      (idx s1 t13).bind fun x3 =>
      (idx s2 t13).bind fun x4 =>
      (if ((x3.kind == x4.kind) && ((x3.default == x4.default) && ((x3.name == x4.name) && (x3.bits == x4.bits)))) then
        slices_Equal_Entry_L1 n s1 s2 c (IntKind.i64.wrap (t13 + 1))
      else
        some (.inr false))
    else
      some (.inl ()))

def slices_Equal_Entry (n : Nat) (s1 : List GEntry) (s2 : List GEntry) : Option Bool :=
  (if ((s1.length : Int) != (s2.length : Int)) then
    some false
  else
    (
      slices_Equal_Entry_L1 n s1 s2 n 0 : Option ((Unit) ⊕ Bool)).bind fun
      | .inl _ =>
        some true
      | .inr r => some r)
theorem slices_Equal_Entry_ok {n : Nat} {s1 : List GEntry} {s2 : List GEntry} {r : Bool} (H : slices_Equal_Entry n s1 s2 = some r) : PureOK Tryd.prog 33 [D.sl (List.map eGEntry s1), D.sl (List.map eGEntry s2)] (D.v (.bool r)) true := by
  unfold slices_Equal_Entry at H
  refine ZP tab_ok fol (rs := #[.tmp 4]) Tryd.func33 ?_
  refine runR_seq ?_
  refine ZT 1 ?_
  refine Z0 ?_
  refine runR_seq ?_
  refine ZT 1 ?_
  refine Z0 ?_
  rcases ite_inv H with ⟨c1, H2⟩ | ⟨c1, H2⟩
  · refine Z1 c1 ?_
    obtain rfl := Zi H2
    exact ZE0
  · refine Z1 c1 ?_
    refine runR_seq ?_
    refine runR_seq ?_
    refine ZT 1 ?_
    refine Z1 c1 ?_
    obtain ⟨e_, E3, H4⟩ := bind_inv H2
    refine runR_join (α := { y : Unit // e_ = .inl y }) (fun | ⟨_, _⟩ => ⟨noFr, noHp, 0⟩) ?_ ?_
    · refine runR_block ?_
      refine runR_loop (α := { q : Nat × Int // slices_Equal_Entry_L1 n s1 s2 q.1 q.2 = some e_ }) (fun | ⟨⟨c, t13⟩, _⟩ => ⟨upd 0 (.d (.sl (List.map eGEntry s1)) true) (upd 1 (.d (.sl (List.map eGEntry s2)) true) (upd 12 (.v (.int .i64 (s1.length : Int))) (upd 13 (.v (.int .i64 t13)) noFr))), noHp, 0⟩) (fun q => q.1.1) ⟨(n, 0), E3⟩ ?_ ?_
      · exact ZR []
      · rintro ⟨⟨c, t13⟩, L5⟩
        rcases c with _ | c
        · exact nomatch (show none = some _ from L5)
        · unfold slices_Equal_Entry_L1 at L5
          try dsimp only at L5
          refine ZT 1 ?_
          refine Z0 ?_
          rcases ite_inv L5 with ⟨c22, H23⟩ | ⟨c22, H23⟩
          · obtain ⟨x3, b24, H25⟩ := bind_inv H23
            obtain ⟨h26, h27⟩ := idx_inv b24
            try simp only [Int.reduceToNat, Int.toNat_natCast] at h27
            have h28 := map_at eGEntry h27
            obtain ⟨x4, b30, H31⟩ := bind_inv H25
            obtain ⟨h32, h33⟩ := idx_inv b30
            try simp only [Int.reduceToNat, Int.toNat_natCast] at h33
            have h34 := map_at eGEntry h33
            refine Z1 (Y5 c22 (nat_of .i64 h26) h28 (nat_of .i64 h32) h34) ?_
            refine Rd_endF (by rfl) ?_
            refine Z1 (Y5 c22 (nat_of .i64 h26) h28 (nat_of .i64 h32) h34) ?_
            rcases ite_inv H31 with ⟨c36, H37⟩ | ⟨c36, H37⟩
            · refine Z1 (Y6 c22 (nat_of .i64 h26) h28 (nat_of .i64 h32) h34 c36) ?_
              exact ⟨⟨(c, (IntKind.i64.wrap (t13 + 1))), H37⟩, ZR [], Nat.lt_succ_self _⟩
            · refine Z1 (Y6 c22 (nat_of .i64 h26) h28 (nat_of .i64 h32) h34 c36) ?_
              obtain rfl := Zi H37
              obtain rfl := Zi H4
              exact ZE0
          · refine Z1 c22 ?_
            obtain rfl := Zi H23
            exact ⟨⟨(), rfl⟩, ZR []⟩
    · rintro ⟨_, he38⟩
      replace he38 := he38.symm
      subst he38
      try dsimp only at H4
      refine ZT 1 ?_
      refine Z0 ?_
      obtain rfl := Zi H4
      exact ZE0
def acls_EntriesText_L1 (n : Nat) (l : List GEntry) : Nat → (List ByteArray × Int) → Option (List ByteArray)
  | 0, _ => none
  | c + 1, (parts, t15) =>
    (if (decide (t15 < (l.length : Int))) then
      (idx l t15).bind fun x2 =>
      (acls_told n x2).bind fun t212 =>
      (app parts [t212]).bind fun l2 =>
      acls_EntriesText_L1 n l c (l2, (IntKind.i64.wrap (t15 + 1)))
    else
      some parts)
def acls_EntriesText_L1_f (n : Nat) (l : List GEntry) (st : List ByteArray) (x2 : GEntry) (k : List ByteArray → Option (List ByteArray)) : Option (List ByteArray) :=
  match st with
  | parts =>
    (acls_told n x2).bind fun t212 =>
    (app parts [t212]).bind fun l2 =>
    k l2
def acls_EntriesText_L1_e (n : Nat) (l : List GEntry) (st : List ByteArray) : Option (List ByteArray) :=
  match st with
  | parts => some parts
theorem acls_EntriesText_L1_list (n : Nat) (l : List GEntry) (hx : l.length < 4611686018427387904) (c : Nat) (st : List ByteArray) (ix : Nat) (hi : ix ≤ l.length) (hc : l.length - ix < c) : acls_EntriesText_L1 n l c (match st, (ix : Int) with | parts, ix => (parts, ix)) = foldK (acls_EntriesText_L1_f n l) (acls_EntriesText_L1_e n l) (l.drop ix) st :=
  loop_list (fun c st ix => acls_EntriesText_L1 n l c (match st, ix with | parts, ix => (parts, ix))) l (acls_EntriesText_L1_f n l) (acls_EntriesText_L1_e n l) (fun _ _ _ => rfl) hx c st ix hi hc

def acls_EntriesText (n : Nat) (l : List GEntry) : Option (ByteArray × Bool) :=
  (if (decide (100 < (l.length : Int))) then
    some ({ data := #[] }, false)
  else
    (
      acls_EntriesText_L1 n l n ([], 0) : Option (List ByteArray)).bind fun parts3 =>
    (strings_Join n parts3 ({ data := #[44] })).bind fun t26 =>
    (acls_Entries n t26).bind fun t29 =>
    (if t29.2 then
      (slices_Equal_Entry n t29.1 l).bind fun t37 =>
      (if t37 then
        some (t26, true)
      else
        some ({ data := #[] }, false))
    else
      some ({ data := #[] }, false)))
theorem acls_EntriesText_ok {n : Nat} {l : List GEntry} {r : ByteArray × Bool} (H : acls_EntriesText n l = some r) : PureOK Tryd.prog 13 [D.sl (List.map eGEntry l)] (D.tu [D.v (.string r.1), D.v (.bool r.2)]) true := by
  unfold acls_EntriesText at H
  refine ZP tab_ok fol (rs := #[.tmp 2, .tmp 3]) Tryd.func13 ?_
  refine runR_seq ?_
  refine ZT 1 ?_
  refine Z0 ?_
  refine runR_seq ?_
  refine ZT 1 ?_
  refine Z0 ?_
  rcases ite_inv H with ⟨c1, H2⟩ | ⟨c1, H2⟩
  · refine Z1 c1 ?_
    obtain rfl := Zi H2
    exact ZE0
  · refine Z1 c1 ?_
    refine runR_seq ?_
    refine ZT 1 ?_
    refine Z1 c1 ?_
    refine runR_seq ?_
    refine runR_seq ?_
    refine ZT 1 ?_
    refine Z1 c1 ?_
    obtain ⟨e_, E3, H4⟩ := bind_inv H2
    refine runR_join (α := { y : List ByteArray // e_ = y } × Nat) (fun | ⟨⟨parts3, _⟩, g3⟩ => ⟨upd 0 (.d (.sl (List.map eGEntry l)) true) (upd 4 (accV 0 g3 (List.map eS parts3)) noFr), upd 0 (accO 1 g3 false (List.map eS parts3)) noHp, 1⟩) ?_ ?_
    · refine runR_block ?_
      refine runR_loop (α := { q : (Nat × (List ByteArray × Int)) × Nat // acls_EntriesText_L1 n l q.1.1 q.1.2 = some e_ }) (fun | ⟨⟨⟨c, ⟨parts, t15⟩⟩, g⟩, _⟩ => ⟨upd 0 (.d (.sl (List.map eGEntry l)) true) (upd 4 (accV 0 g (List.map eS parts)) (upd 13 (.d (.sl (List.map eGEntry l)) true) (upd 14 (.v (.int .i64 (l.length : Int))) (upd 15 (.v (.int .i64 t15)) noFr)))), upd 0 (accO 1 g false (List.map eS parts)) noHp, 1⟩) (fun q => q.1.1.1) ⟨((n, ([], 0)), 0), E3⟩ ?_ ?_
      · exact ZR []
      · rintro ⟨⟨⟨c, ⟨parts, t15⟩⟩, g⟩, L5⟩
        rcases c with _ | c
        · exact nomatch (show none = some _ from L5)
        · unfold acls_EntriesText_L1 at L5
          try dsimp only at L5
          refine ZT 1 ?_
          refine Z0 ?_
          rcases ite_inv L5 with ⟨c16, H17⟩ | ⟨c16, H17⟩
          · obtain ⟨x2, b18, H19⟩ := bind_inv H17
            obtain ⟨h20, h21⟩ := idx_inv b18
            try simp only [Int.reduceToNat, Int.toNat_natCast] at h21
            have h22 := map_at eGEntry h21
            obtain ⟨t212, b24, H25⟩ := bind_inv H19
            refine Z1 (Y3 c16 (nat_of .i64 h20) h22) ?_
            refine ZC0 (acls_told_ok b24) ?_
            obtain ⟨l2, b26, H27⟩ := bind_inv H25
            obtain ⟨h28, h29⟩ := app_inv b26
            have h28 : parts.length + 1 ≤ 4294967296 := h28
            have h30 : List.map eS parts ++ [[.v (.string t212)]] = List.map eS l2 := app_map eS h29
            have h31 : parts.length + 1 = l2.length := app_len h29
            have h32 : l2.length ≤ 4294967296 := by omega
            have q33 : 0 < l2.length := by omega
            refine Z1 (Y2 (Y6 c16 (nat_of .i64 h20) h22 h28 h30 h31) h32) ?_
            rcases parts with _ | ⟨q0, q1⟩
            · try simp only [List.map_nil, accI, accN]
              exact ⟨⟨((c, (l2, (IntKind.i64.wrap (t15 + 1)))), 0), H27⟩, ZR [(0, 10)], Nat.lt_succ_self _⟩
            · try simp only [List.map_cons, accI, accN]
              exact ⟨⟨((c, (l2, (IntKind.i64.wrap (t15 + 1)))), (g + 1)), H27⟩, ZR [(0, 0)], Nat.lt_succ_self _⟩
          · refine Z1 c16 ?_
            obtain rfl := Zi H17
            exact ⟨⟨⟨parts, rfl⟩, g⟩, ZR [(0, 0)]⟩
    · rintro ⟨⟨parts3, he44⟩, g3⟩
      replace he44 := he44.symm
      subst he44
      try dsimp only at H4
      refine ZT 1 ?_
      obtain ⟨t26, b34, H35⟩ := bind_inv H4
      refine Z0 ?_
      refine ZC0 (strings_Join_ok b34) ?_
      obtain ⟨t29, b36, H37⟩ := bind_inv H35
      refine Z0 ?_
      refine ZC0 (acls_Entries_ok b36) ?_
      refine Z0 ?_
      rcases ite_inv H37 with ⟨c38, H39⟩ | ⟨c38, H39⟩
      · obtain ⟨t37, b40, H41⟩ := bind_inv H39
        refine Z1 c38 ?_
        refine ZC0 (slices_Equal_Entry_ok b40) ?_
        refine Z1 c38 ?_
        rcases ite_inv H41 with ⟨c42, H43⟩ | ⟨c42, H43⟩
        · refine Z1 (Y2 c38 c42) ?_
          obtain rfl := Zi H43
          exact ZE0
        · refine Z1 (Y2 c38 c42) ?_
          obtain rfl := Zi H43
          exact ZE0
      · refine Z1 c38 ?_
        obtain rfl := Zi H39
        exact ZE0
def line_Join (n : Nat) (words : List ByteArray) : Option ByteArray :=
  (strings_Join n words ({ data := #[32] })).bind fun t4 =>
  some t4
theorem line_Join_ok {n : Nat} {words : List ByteArray} {r : ByteArray} (H : line_Join n words = some r) : PureOK Tryd.prog 52 [D.sl (List.map eS words)] (D.v (.string r)) true := by
  unfold line_Join at H
  refine ZP tab_ok fol (rs := #[.tmp 2]) Tryd.func52 ?_
  refine ZT 1 ?_
  obtain ⟨t4, b1, H2⟩ := bind_inv H
  refine Z0 ?_
  refine ZC0 (strings_Join_ok b1) ?_
  refine Z0 ?_
  obtain rfl := Zi H2
  exact ZE0
def acls_toldFile (n : Nat) (f : GFile) : Option ByteArray :=
  (acls_EntriesText n f.acl).bind fun t8 =>
  (if (f.kind == 1) then
    (line_Join n ([{ data := #[117, 115, 101, 114] }, f.name] : List ByteArray)).bind fun t18 =>
    some t18
  else
    (if (f.kind == 2) then
      (app ([{ data := #[103, 114, 111, 117, 112] }, f.name] : List ByteArray) f.users).bind fun l =>
      (line_Join n l).bind fun t27 =>
      some t27
    else
      (if (f.kind == 3) then
        (line_Join n ([{ data := #[100, 105, 114] }, f.name, f.owner, f.group, t8.1] : List ByteArray)).bind fun t38 =>
        some t38
      else
        (if (f.kind == 4) then
          (line_Join n ([{ data := #[102, 105, 108, 101] }, f.name, f.owner, f.group, t8.1] : List ByteArray)).bind fun t49 =>
          some t49
        else
          some ({ data := #[] })))))
theorem acls_toldFile_ok {n : Nat} {f : GFile} {r : ByteArray} (H : acls_toldFile n f = some r) : PureOK Tryd.prog 24 [D.ag (eGFile f)] (D.v (.string r)) true := by
  unfold acls_toldFile at H
  refine ZP tab_ok fol (rs := #[.tmp 2]) Tryd.func24 ?_
  refine ZT 1 ?_
  obtain ⟨t8, b1, H2⟩ := bind_inv H
  refine Z0 ?_
  refine ZC0 (acls_EntriesText_ok b1) ?_
  refine Z0 ?_
  rcases ite_inv H2 with ⟨c3, H4⟩ | ⟨c3, H4⟩
  · obtain ⟨t18, b5, H6⟩ := bind_inv H4
    refine Z1 c3 ?_
    refine ZC1 c3 (line_Join_ok b5) ?_
    refine Z1 c3 ?_
    obtain rfl := Zi H6
    exact ZE0
  · refine Z1 c3 ?_
    rcases ite_inv H4 with ⟨c7, H8⟩ | ⟨c7, H8⟩
    · obtain ⟨l, b9, H10⟩ := bind_inv H8
      obtain ⟨h11, h12⟩ := app_inv b9
      have h11 : 2 + f.users.length ≤ 4294967296 := h11
      have h13 : [[.v (.string { data := #[103, 114, 111, 117, 112] })], [.v (.string f.name)]] ++ List.map eS f.users = List.map eS l := app_map eS h12
      have h14 : 2 + f.users.length = l.length := app_len h12
      have h15 : l.length ≤ 4294967296 := by omega
      have q16 : 0 < l.length := by omega
      simp only [List.cons_append, List.nil_append] at h13
      obtain ⟨t27, b17, H18⟩ := bind_inv H10
      refine Z1 (Y2 (Y6 c3 c7 (plainR_map (f := eS) (fun _ => rfl) f.users) (chk_map (n := 1) (f := eS) (fun _ => rfl) f.users) h11 h13) (Y2 h14 h15)) ?_
      refine ZC1 (Y2 (Y6 c3 c7 (plainR_map (f := eS) (fun _ => rfl) f.users) (chk_map (n := 1) (f := eS) (fun _ => rfl) f.users) h11 h13) (Y2 h14 h15)) (line_Join_ok b17) ?_
      refine Z1 (Y2 (Y6 c3 c7 (plainR_map (f := eS) (fun _ => rfl) f.users) (chk_map (n := 1) (f := eS) (fun _ => rfl) f.users) h11 h13) (Y2 h14 h15)) ?_
      obtain rfl := Zi H18
      exact ZE0
    · refine Z1 (Y2 c3 c7) ?_
      rcases ite_inv H8 with ⟨c19, H20⟩ | ⟨c19, H20⟩
      · obtain ⟨t38, b21, H22⟩ := bind_inv H20
        refine Z1 (Y3 c3 c7 c19) ?_
        refine ZC1 (Y3 c3 c7 c19) (line_Join_ok b21) ?_
        refine Z1 (Y3 c3 c7 c19) ?_
        obtain rfl := Zi H22
        exact ZE0
      · refine Z1 (Y3 c3 c7 c19) ?_
        rcases ite_inv H20 with ⟨c23, H24⟩ | ⟨c23, H24⟩
        · obtain ⟨t49, b25, H26⟩ := bind_inv H24
          refine Z1 (Y4 c3 c7 c19 c23) ?_
          refine ZC1 (Y4 c3 c7 c19 c23) (line_Join_ok b25) ?_
          refine Z1 (Y4 c3 c7 c19 c23) ?_
          obtain rfl := Zi H26
          exact ZE0
        · refine Z1 (Y4 c3 c7 c19 c23) ?_
          obtain rfl := Zi H24
          exact ZE0
def stringslite_HasSuffix (n : Nat) (s : ByteArray) (suffix : ByteArray) : Option Bool :=
  (if (decide ((suffix.size : Int) ≤ (s.size : Int))) then
    (bslc s (IntKind.i64.wrap ((s.size : Int) - (suffix.size : Int))) (s.size : Int)).bind fun s2 =>
    some (s2.toList == suffix.toList)
  else
    some false)
theorem stringslite_HasSuffix_ok {n : Nat} {s : ByteArray} {suffix : ByteArray} {r : Bool} (H : stringslite_HasSuffix n s suffix = some r) : PureOK Tryd.prog 85 [D.v (.string s), D.v (.string suffix)] (D.v (.bool r)) true := by
  unfold stringslite_HasSuffix at H
  refine ZP tab_ok fol (rs := #[.tmp 4]) Tryd.func85 ?_
  refine ZT 1 ?_
  refine Z0 ?_
  rcases ite_inv H with ⟨c1, H2⟩ | ⟨c1, H2⟩
  · obtain ⟨s2, b3, H4⟩ := bind_inv H2
    obtain ⟨h5, h6, h7, h8⟩ := bslc_inv b3
    have h9 : Int.toNat (IntKind.i64.wrap ((s.size : Int) - (suffix.size : Int))) ≤ s.size := by omega
    have h10 : s.size ≤ s.size := by omega
    have h11 : ByteArray.extract s (Int.toNat (IntKind.i64.wrap ((s.size : Int) - (suffix.size : Int)))) (s.size) = s2 := h8.symm
    try simp only [Int.toNat_natCast] at h9 h10 h11
    refine Z1 (Y5 c1 (nat_of .i64 h5) h9 h10 h11) ?_
    obtain rfl := Zi H4
    exact ZE0
  · refine Z1 c1 ?_
    obtain rfl := Zi H2
    exact ZE0
def stringslite_TrimSuffix (n : Nat) (s : ByteArray) (suffix : ByteArray) : Option ByteArray :=
  (stringslite_HasSuffix n s suffix).bind fun t7 =>
  (if t7 then
    (bslc s 0 (IntKind.i64.wrap ((s.size : Int) - (suffix.size : Int)))).bind fun s2 =>
    some s2
  else
    some s)
theorem stringslite_TrimSuffix_ok {n : Nat} {s : ByteArray} {suffix : ByteArray} {r : ByteArray} (H : stringslite_TrimSuffix n s suffix = some r) : PureOK Tryd.prog 78 [D.v (.string s), D.v (.string suffix)] (D.v (.string r)) true := by
  unfold stringslite_TrimSuffix at H
  refine ZP tab_ok fol (rs := #[.tmp 4]) Tryd.func78 ?_
  refine ZT 1 ?_
  obtain ⟨t7, b1, H2⟩ := bind_inv H
  refine Z0 ?_
  refine ZC0 (stringslite_HasSuffix_ok b1) ?_
  refine Z0 ?_
  rcases ite_inv H2 with ⟨c3, H4⟩ | ⟨c3, H4⟩
  · obtain ⟨s2, b5, H6⟩ := bind_inv H4
    obtain ⟨h7, h8, h9, h10⟩ := bslc_inv b5
    have h11 : 0 ≤ Int.toNat (IntKind.i64.wrap ((s.size : Int) - (suffix.size : Int))) := by omega
    have h12 : Int.toNat (IntKind.i64.wrap ((s.size : Int) - (suffix.size : Int))) ≤ s.size := by omega
    have h13 : ByteArray.extract s (0) (Int.toNat (IntKind.i64.wrap ((s.size : Int) - (suffix.size : Int)))) = s2 := h10.symm
    try simp only [Int.toNat_natCast] at h11 h12 h13
    refine Z1 (Y5 c3 (nat_of .i64 (Int.le_trans h7 h8)) h11 h12 h13) ?_
    obtain rfl := Zi H6
    exact ZE0
  · refine Z1 c3 ?_
    obtain rfl := Zi H4
    exact ZE0
def strings_TrimSuffix (n : Nat) (s : ByteArray) (suffix : ByteArray) : Option ByteArray :=
  (stringslite_TrimSuffix n s suffix).bind fun t7 =>
  some t7
theorem strings_TrimSuffix_ok {n : Nat} {s : ByteArray} {suffix : ByteArray} {r : ByteArray} (H : strings_TrimSuffix n s suffix = some r) : PureOK Tryd.prog 67 [D.v (.string s), D.v (.string suffix)] (D.v (.string r)) true := by
  unfold strings_TrimSuffix at H
  refine ZP tab_ok fol (rs := #[.tmp 4]) Tryd.func67 ?_
  refine ZT 1 ?_
  obtain ⟨t7, b1, H2⟩ := bind_inv H
  refine Z0 ?_
  refine ZC0 (stringslite_TrimSuffix_ok b1) ?_
  refine Z0 ?_
  obtain rfl := Zi H2
  exact ZE0
def line_bare (n : Nat) (s : ByteArray) : Option ByteArray :=
  (strings_TrimSuffix n s ({ data := #[13] })).bind fun t4 =>
  some t4
theorem line_bare_ok {n : Nat} {s : ByteArray} {r : ByteArray} (H : line_bare n s = some r) : PureOK Tryd.prog 45 [D.v (.string s)] (D.v (.string r)) true := by
  unfold line_bare at H
  refine ZP tab_ok fol (rs := #[.tmp 2]) Tryd.func45 ?_
  refine ZT 1 ?_
  obtain ⟨t4, b1, H2⟩ := bind_inv H
  refine Z0 ?_
  refine ZC0 (strings_TrimSuffix_ok b1) ?_
  refine Z0 ?_
  obtain rfl := Zi H2
  exact ZE0
def line_wrong_L1 (n : Nat) (s : ByteArray) : Nat → Int → Option ((Unit) ⊕ Int)
  | 0, _ => none
  | c + 1, t7 =>
    (if (decide (t7 < (s.size : Int))) then
      (bidx s t7).bind fun ch2 =>
      (if (ch2 != 9) then
        (if (decide (ch2 < 32)) then
          some (.inr t7)
        else
          (if (decide (126 < ch2)) then
            some (.inr t7)
          else
            line_wrong_L1 n s c (IntKind.i64.wrap (t7 + 1))))
      else
        line_wrong_L1 n s c (IntKind.i64.wrap (t7 + 1)))
    else
      some (.inl ()))

def line_wrong (n : Nat) (s : ByteArray) : Option Int :=
  (
    line_wrong_L1 n s n 0 : Option ((Unit) ⊕ Int)).bind fun
    | .inl _ =>
      some (-1)
    | .inr r => some r
theorem line_wrong_ok {n : Nat} {s : ByteArray} {r : Int} (H : line_wrong n s = some r) : PureOK Tryd.prog 46 [D.v (.string s)] (D.v (.int .i64 r)) true := by
  unfold line_wrong at H
  refine ZP tab_ok fol (rs := #[.tmp 2]) Tryd.func46 ?_
  refine runR_seq ?_
  refine ZT 1 ?_
  refine Z0 ?_
  refine runR_seq ?_
  refine runR_seq ?_
  refine ZT 1 ?_
  refine Z0 ?_
  obtain ⟨e_, E1, H2⟩ := bind_inv H
  refine runR_join (α := { y : Unit // e_ = .inl y }) (fun | ⟨_, _⟩ => ⟨noFr, noHp, 0⟩) ?_ ?_
  · refine runR_block ?_
    refine runR_loop (α := { q : Nat × Int // line_wrong_L1 n s q.1 q.2 = some e_ }) (fun | ⟨⟨c, t7⟩, _⟩ => ⟨upd 0 (.v (.string s)) (upd 6 (.v (.int .i64 (s.size : Int))) (upd 7 (.v (.int .i64 t7)) noFr)), noHp, 0⟩) (fun q => q.1.1) ⟨(n, 0), E1⟩ ?_ ?_
    · exact ZR []
    · rintro ⟨⟨c, t7⟩, L3⟩
      rcases c with _ | c
      · exact nomatch (show none = some _ from L3)
      · unfold line_wrong_L1 at L3
        try dsimp only at L3
        refine ZT 1 ?_
        refine Z0 ?_
        rcases ite_inv L3 with ⟨c17, H18⟩ | ⟨c17, H18⟩
        · obtain ⟨ch2, b19, H20⟩ := bind_inv H18
          obtain ⟨h21, by_2, h22, h23⟩ := bidx_inv b19
          try simp only [Int.reduceToNat, Int.toNat_natCast] at h22
          refine Z1 (Y4 c17 (nat_of .i64 h21) h22 h23.symm) ?_
          rcases ite_inv H20 with ⟨c24, H25⟩ | ⟨c24, H25⟩
          · refine Z1 (Y5 c17 (nat_of .i64 h21) h22 h23.symm c24) ?_
            rcases ite_inv H25 with ⟨c26, H27⟩ | ⟨c26, H27⟩
            · refine Z1 (Y6 c17 (nat_of .i64 h21) h22 h23.symm c24 c26) ?_
              obtain rfl := Zi H27
              obtain rfl := Zi H2
              exact ZE0
            · refine Z1 (Y6 c17 (nat_of .i64 h21) h22 h23.symm c24 c26) ?_
              rcases ite_inv H27 with ⟨c28, H29⟩ | ⟨c28, H29⟩
              · refine Z1 (Y2 (Y6 c17 (nat_of .i64 h21) h22 h23.symm c24 c26) c28) ?_
                obtain rfl := Zi H29
                obtain rfl := Zi H2
                exact ZE0
              · refine Z1 (Y2 (Y6 c17 (nat_of .i64 h21) h22 h23.symm c24 c26) c28) ?_
                exact ⟨⟨(c, (IntKind.i64.wrap (t7 + 1))), H29⟩, ZR [], Nat.lt_succ_self _⟩
          · refine Z1 (Y5 c17 (nat_of .i64 h21) h22 h23.symm c24) ?_
            exact ⟨⟨(c, (IntKind.i64.wrap (t7 + 1))), H25⟩, ZR [], Nat.lt_succ_self _⟩
        · refine Z1 c17 ?_
          obtain rfl := Zi H18
          exact ⟨⟨(), rfl⟩, ZR []⟩
  · rintro ⟨_, he30⟩
    replace he30 := he30.symm
    subst he30
    try dsimp only at H2
    refine ZT 1 ?_
    refine Z0 ?_
    obtain rfl := Zi H2
    exact ZE0
def strings_IndexByte (n : Nat) (s : ByteArray) (c2 : Int) : Option Int :=
  (stringslite_IndexByte n s c2).bind fun t7 =>
  some t7
theorem strings_IndexByte_ok {n : Nat} {s : ByteArray} {c2 : Int} {r : Int} (H : strings_IndexByte n s c2 = some r) : PureOK Tryd.prog 69 [D.v (.string s), D.v (.int .u8 c2)] (D.v (.int .i64 r)) true := by
  unfold strings_IndexByte at H
  refine ZP tab_ok fol (rs := #[.tmp 4]) Tryd.func69 ?_
  refine ZT 1 ?_
  obtain ⟨t7, b1, H2⟩ := bind_inv H
  refine Z0 ?_
  refine ZC0 (stringslite_IndexByte_ok b1) ?_
  refine Z0 ?_
  obtain rfl := Zi H2
  exact ZE0
def line_words_L1 (n : Nat) (s : ByteArray) (at_ : Int) : Nat → (List GWord × Int) → Option (List GWord)
  | 0, _ => none
  | c + 1, (out, i) =>
    (if (decide (i < (s.size : Int))) then
      (bslc s i (s.size : Int)).bind fun s5 =>
      (bslc s5 0 1).bind fun s6 =>
      (strings_Contains n ({ data := #[32, 9] }) s6).bind fun t192 =>
      (if t192 then
        line_words_L1 n s at_ c (out, (IntKind.i64.wrap (i + 1)))
      else
        (bidx s5 0).bind fun ch2 =>
        (if (ch2 == 35) then
          some out
        else
          (strings_IndexByte n s5 32).bind fun t262 =>
          (strings_IndexByte n s5 9).bind fun t282 =>
          (
            (if (decide (t262 < 0)) then
              some true
            else
              (if (decide (0 ≤ t282)) then
                some (decide (t282 < t262))
              else
                some false)) : Option (Bool)).bind fun t392 =>
          (
            (if t392 then
              some t282
            else
              some t262) : Option (Int)).bind fun n_3 =>
          (
            (if (decide (n_3 < 0)) then
              some (s5.size : Int)
            else
              some n_3) : Option (Int)).bind fun n_4 =>
          (bslc s5 0 n_4).bind fun s7 =>
          (app out [(⟨s7, (IntKind.i64.wrap (at_ + i))⟩ : GWord)]).bind fun l =>
          line_words_L1 n s at_ c (l, (IntKind.i64.wrap (i + n_4)))))
    else
      some out)

def line_words (n : Nat) (s : ByteArray) (at_ : Int) : Option (List GWord) :=
  (
    line_words_L1 n s at_ n ([], 0) : Option (List GWord)).bind fun out3 =>
  some out3
set_option maxHeartbeats 8000000 in
theorem line_words_ok {n : Nat} {s : ByteArray} {at_ : Int} {r : List GWord} (H : line_words n s at_ = some r) : PureOK Tryd.prog 47 [D.v (.string s), D.v (.int .i64 at_)] (D.sl (List.map eGWord r)) true := by
  unfold line_words at H
  refine ZP tab_ok fol (rs := #[.tmp 4]) Tryd.func47 ?_
  refine runR_seq ?_
  refine ZT 1 ?_
  refine Z0 ?_
  refine runR_seq ?_
  refine ZT 1 ?_
  refine Z0 ?_
  refine runR_seq ?_
  refine runR_seq ?_
  refine ZT 1 ?_
  refine Z0 ?_
  obtain ⟨e_, E1, H2⟩ := bind_inv H
  refine runR_join (α := { y : List GWord // e_ = y } × Nat) (fun | ⟨⟨out3, _⟩, g6⟩ => ⟨upd 5 (accV 0 g6 (List.map eGWord out3)) noFr, upd 0 (accO 2 g6 false (List.map eGWord out3)) noHp, 1⟩) ?_ ?_
  · refine runR_block ?_
    refine runR_loop (α := { q : (Nat × (List GWord × Int)) × Nat // line_words_L1 n s at_ q.1.1 q.1.2 = some e_ }) (fun | ⟨⟨⟨c, ⟨out, i⟩⟩, g⟩, _⟩ => ⟨upd 0 (.v (.string s)) (upd 1 (.v (.int .i64 at_)) (upd 5 (accV 0 g (List.map eGWord out)) (upd 6 (.v (.int .i64 i)) noFr))), upd 0 (accO 2 g false (List.map eGWord out)) noHp, 1⟩) (fun q => q.1.1.1) ⟨((n, ([], 0)), 0), E1⟩ ?_ ?_
    · exact ZR []
    · rintro ⟨⟨⟨c, ⟨out, i⟩⟩, g⟩, L3⟩
      rcases c with _ | c
      · exact nomatch (show none = some _ from L3)
      · unfold line_words_L1 at L3
        try dsimp only at L3
        refine runR_seq ?_
        refine ZT 1 ?_
        refine Z0 ?_
        rcases ite_inv L3 with ⟨c65, H66⟩ | ⟨c65, H66⟩
        · refine Z1 c65 ?_
          refine runR_block ?_
          refine runR_seq ?_
          refine ZT 1 ?_
          obtain ⟨s5, b67, H68⟩ := bind_inv H66
          obtain ⟨h69, h70, h71, h72⟩ := bslc_inv b67
          have h73 : Int.toNat i ≤ s.size := by omega
          have h74 : s.size ≤ s.size := by omega
          have h75 : ByteArray.extract s (Int.toNat i) (s.size) = s5 := h72.symm
          try simp only [Int.toNat_natCast] at h73 h74 h75
          refine Z1 (Y5 c65 (nat_of .i64 h69) h73 h74 h75) ?_
          refine runR_seq ?_
          refine ZT 1 ?_
          obtain ⟨s6, b76, H77⟩ := bind_inv H68
          obtain ⟨h78, h79, h80, h81⟩ := bslc_inv b76
          have h82 : 0 ≤ 1 := by omega
          have h83 : 1 ≤ s5.size := by omega
          have h84 : ByteArray.extract s5 (0) (1) = s6 := h81.symm
          try simp only [Int.toNat_natCast] at h82 h83 h84
          obtain ⟨t192, b85, H86⟩ := bind_inv H77
          refine Z1 (Y2 (Y6 c65 (nat_of .i64 h69) h73 h74 h75 (nat_of .i64 (Int.le_trans h78 h79))) (Y3 h82 h83 h84)) ?_
          refine ZC0 (strings_Contains_ok b85) ?_
          refine Z1 (Y2 (Y6 c65 (nat_of .i64 h69) h73 h74 h75 (nat_of .i64 (Int.le_trans h78 h79))) (Y3 h82 h83 h84)) ?_
          rcases ite_inv H86 with ⟨c87, H88⟩ | ⟨c87, H88⟩
          · refine Z1 (Y2 (Y6 c65 (nat_of .i64 h69) h73 h74 h75 (nat_of .i64 (Int.le_trans h78 h79))) (Y4 h82 h83 h84 c87)) ?_
            exact ⟨⟨((c, (out, (IntKind.i64.wrap (i + 1)))), g), H88⟩, ZR [(0, 0)], Nat.lt_succ_self _⟩
          · refine Z1 (Y2 (Y6 c65 (nat_of .i64 h69) h73 h74 h75 (nat_of .i64 (Int.le_trans h78 h79))) (Y4 h82 h83 h84 c87)) ?_
            refine runR_seq ?_
            refine ZT 1 ?_
            obtain ⟨ch2, b89, H90⟩ := bind_inv H88
            obtain ⟨h91, by_2, h92, h93⟩ := bidx_inv b89
            try simp only [Int.reduceToNat, Int.toNat_natCast] at h92
            refine Z1 (Y3 (Y6 c65 (nat_of .i64 h69) h73 h74 h75 (nat_of .i64 (Int.le_trans h78 h79))) (Y6 h82 h83 h84 c87 (nat_of .i64 h91) h92) h93.symm) ?_
            rcases ite_inv H90 with ⟨c94, H95⟩ | ⟨c94, H95⟩
            · refine Z1 (Y3 (Y6 c65 (nat_of .i64 h69) h73 h74 h75 (nat_of .i64 (Int.le_trans h78 h79))) (Y6 h82 h83 h84 c87 (nat_of .i64 h91) h92) (Y2 h93.symm c94)) ?_
              obtain rfl := Zi H95
              exact ⟨⟨⟨out, rfl⟩, g⟩, ZR [(0, 0)]⟩
            · refine Z1 (Y3 (Y6 c65 (nat_of .i64 h69) h73 h74 h75 (nat_of .i64 (Int.le_trans h78 h79))) (Y6 h82 h83 h84 c87 (nat_of .i64 h91) h92) (Y2 h93.symm c94)) ?_
              refine runR_seq ?_
              refine ZT 1 ?_
              obtain ⟨t262, b96, H97⟩ := bind_inv H95
              refine Z1 (Y3 (Y6 c65 (nat_of .i64 h69) h73 h74 h75 (nat_of .i64 (Int.le_trans h78 h79))) (Y6 h82 h83 h84 c87 (nat_of .i64 h91) h92) (Y2 h93.symm c94)) ?_
              refine ZC0 (strings_IndexByte_ok b96) ?_
              refine Z1 (Y3 (Y6 c65 (nat_of .i64 h69) h73 h74 h75 (nat_of .i64 (Int.le_trans h78 h79))) (Y6 h82 h83 h84 c87 (nat_of .i64 h91) h92) (Y2 h93.symm c94)) ?_
              refine runR_seq ?_
              refine runR_seq ?_
              refine ZT 1 ?_
              obtain ⟨t282, b98, H99⟩ := bind_inv H97
              refine Z1 (Y3 (Y6 c65 (nat_of .i64 h69) h73 h74 h75 (nat_of .i64 (Int.le_trans h78 h79))) (Y6 h82 h83 h84 c87 (nat_of .i64 h91) h92) (Y2 h93.symm c94)) ?_
              refine ZC0 (strings_IndexByte_ok b98) ?_
              refine Z1 (Y3 (Y6 c65 (nat_of .i64 h69) h73 h74 h75 (nat_of .i64 (Int.le_trans h78 h79))) (Y6 h82 h83 h84 c87 (nat_of .i64 h91) h92) (Y2 h93.symm c94)) ?_
              refine runR_seq ?_
              obtain ⟨e_5, E100, H101⟩ := bind_inv H99
              refine runR_join (α := { y : Bool // e_5 = y } × Nat) (fun | ⟨⟨t392, _⟩, g2⟩ => ⟨upd 0 (.v (.string s)) (upd 1 (.v (.int .i64 at_)) (upd 5 (accV 0 g2 (List.map eGWord out)) (upd 6 (.v (.int .i64 i)) (upd 7 (.v (.string s5)) (upd 8 (.v (.int .i64 t262)) (upd 9 (.v (.int .i64 t282)) (upd 39 (.v (.bool t392)) noFr))))))), upd 0 (accO 2 g2 false (List.map eGWord out)) noHp, 1⟩) ?_ ?_
              · refine ZT 1 ?_
                refine Z0 ?_
                rcases ite_inv E100 with ⟨c102, H103⟩ | ⟨c102, H103⟩
                · refine Z1 c102 ?_
                  obtain rfl := Zi H103
                  exact ⟨⟨⟨true, rfl⟩, g⟩, ZR [(0, 0)]⟩
                · refine Z1 c102 ?_
                  rcases ite_inv H103 with ⟨c104, H105⟩ | ⟨c104, H105⟩
                  · refine Z1 (Y2 c102 c104) ?_
                    obtain rfl := Zi H105
                    exact ⟨⟨⟨(decide (t282 < t262)), rfl⟩, g⟩, ZR [(0, 0)]⟩
                  · refine Z1 (Y2 c102 c104) ?_
                    obtain rfl := Zi H105
                    exact ⟨⟨⟨false, rfl⟩, g⟩, ZR [(0, 0)]⟩
              · rintro ⟨⟨t392, he133⟩, g2⟩
                replace he133 := he133.symm
                subst he133
                try dsimp only at H101
                obtain ⟨e_6, E106, H107⟩ := bind_inv H101
                refine runR_join (α := { y : Int // e_6 = y } × Nat) (fun | ⟨⟨n_3, _⟩, g3⟩ => ⟨upd 0 (.v (.string s)) (upd 1 (.v (.int .i64 at_)) (upd 5 (accV 0 g3 (List.map eGWord out)) (upd 6 (.v (.int .i64 i)) (upd 7 (.v (.string s5)) (upd 8 (.v (.int .i64 n_3)) noFr))))), upd 0 (accO 2 g3 false (List.map eGWord out)) noHp, 1⟩) ?_ ?_
                · refine ZT 1 ?_
                  refine Z0 ?_
                  rcases ite_inv E106 with ⟨c108, H109⟩ | ⟨c108, H109⟩
                  · refine Z1 c108 ?_
                    obtain rfl := Zi H109
                    exact ⟨⟨⟨t282, rfl⟩, g2⟩, ZR [(0, 0)]⟩
                  · refine Z1 c108 ?_
                    obtain rfl := Zi H109
                    exact ⟨⟨⟨t262, rfl⟩, g2⟩, ZR [(0, 0)]⟩
                · rintro ⟨⟨n_3, he132⟩, g3⟩
                  replace he132 := he132.symm
                  subst he132
                  try dsimp only at H107
                  refine runR_seq ?_
                  refine runR_seq ?_
                  refine ZT 1 ?_
                  refine Z0 ?_
                  obtain ⟨e_7, E110, H111⟩ := bind_inv H107
                  refine runR_join (α := { y : Int // e_7 = y } × Nat) (fun | ⟨⟨n_4, _⟩, g4⟩ => ⟨upd 0 (.v (.string s)) (upd 1 (.v (.int .i64 at_)) (upd 5 (accV 0 g4 (List.map eGWord out)) (upd 6 (.v (.int .i64 i)) (upd 7 (.v (.string s5)) (upd 8 (.v (.int .i64 n_4)) noFr))))), upd 0 (accO 2 g4 false (List.map eGWord out)) noHp, 1⟩) ?_ ?_
                  · refine ZT 1 ?_
                    refine Z0 ?_
                    rcases ite_inv E110 with ⟨c112, H113⟩ | ⟨c112, H113⟩
                    · refine Z1 c112 ?_
                      obtain rfl := Zi H113
                      exact ⟨⟨⟨(s5.size : Int), rfl⟩, g3⟩, ZR [(0, 0)]⟩
                    · refine Z1 c112 ?_
                      obtain rfl := Zi H113
                      exact ⟨⟨⟨n_3, rfl⟩, g3⟩, ZR [(0, 0)]⟩
                  · rintro ⟨⟨n_4, he131⟩, g4⟩
                    replace he131 := he131.symm
                    subst he131
                    try dsimp only at H111
                    refine ZT 2 ?_
                    obtain ⟨s7, b114, H115⟩ := bind_inv H111
                    obtain ⟨h116, h117, h118, h119⟩ := bslc_inv b114
                    have h120 : 0 ≤ Int.toNat n_4 := by omega
                    have h121 : Int.toNat n_4 ≤ s5.size := by omega
                    have h122 : ByteArray.extract s5 (0) (Int.toNat n_4) = s7 := h119.symm
                    try simp only [Int.toNat_natCast] at h120 h121 h122
                    obtain ⟨l, b123, H124⟩ := bind_inv H115
                    obtain ⟨h125, h126⟩ := app_inv b123
                    have h125 : out.length + 1 ≤ 4294967296 := h125
                    have h127 : List.map eGWord out ++ [[.v (.string s7), .v (.int .i64 (IntKind.i64.wrap (at_ + i)))]] = List.map eGWord l := app_map eGWord h126
                    have h128 : out.length + 1 = l.length := app_len h126
                    have h129 : l.length ≤ 4294967296 := by omega
                    have q130 : 0 < l.length := by omega
                    refine Z1 (Y2 (Y6 (nat_of .i64 (Int.le_trans h116 h117)) h120 h121 h122 h125 h127) (Y2 h128 h129)) ?_
                    rcases out with _ | ⟨q0, q1⟩
                    · try simp only [List.map_nil, accI, accN]
                      exact ⟨⟨((c, (l, (IntKind.i64.wrap (i + n_4)))), 0), H124⟩, ZR [(0, 10)], Nat.lt_succ_self _⟩
                    · try simp only [List.map_cons, accI, accN]
                      exact ⟨⟨((c, (l, (IntKind.i64.wrap (i + n_4)))), (g4 + 1)), H124⟩, ZR [(0, 0)], Nat.lt_succ_self _⟩
        · refine Z1 c65 ?_
          obtain rfl := Zi H66
          exact ⟨⟨⟨out, rfl⟩, g⟩, ZR [(0, 0)]⟩
  · rintro ⟨⟨out3, he134⟩, g6⟩
    replace he134 := he134.symm
    subst he134
    try dsimp only at H2
    refine ZT 1 ?_
    refine Z0 ?_
    obtain rfl := Zi H2
    exact ZE0
def line_Lines_C2_strings_splitSeq (n : Nat) : Option Unit :=
  some ()

def line_Lines_C1_strings_SplitSeq (n : Nat) : Option Unit :=
  (line_Lines_C2_strings_splitSeq n : Option Unit).bind fun _ =>
  some ()

def line_Lines_R1 (n : Nat) : List ByteArray → (List GLine × Int) → Option ((List GLine) ⊕ (List GLine × Int × Int))
  | [], (out, at_) =>
    some (.inl out)
  | ln :: lns, (out, at_) =>
    (line_bare n ln).bind fun t232 =>
    (line_wrong n t232).bind fun t252 =>
    (if (decide (0 ≤ t252)) then
      some (.inr ([], (IntKind.i64.wrap (at_ + t252)), 7))
    else
      (line_words n t232 at_).bind fun t332 =>
      (if (decide (0 < (t332.length : Int))) then
        (idx t332 0).bind fun x2 =>
        (app out [(⟨x2.at_, t332⟩ : GLine)]).bind fun l =>
        line_Lines_R1 n lns (l, (IntKind.i64.wrap (at_ + (IntKind.i64.wrap ((ln.size : Int) + 1)))))
      else
        line_Lines_R1 n lns (out, (IntKind.i64.wrap (at_ + (IntKind.i64.wrap ((ln.size : Int) + 1)))))))

def line_Lines (n : Nat) (s : ByteArray) : Option (List GLine × Int × Int) :=
  (if (decide (200000 < (s.size : Int))) then
    some ([], 0, 8)
  else
    (strings_Count n s ({ data := #[10] })).bind fun t16 =>
    (if (decide (5000 < t16)) then
      some ([], 0, 8)
    else
      (line_Lines_C1_strings_SplitSeq n : Option Unit).bind fun _ =>
      (
        (grd (decide (ByteArray.size s < 4611686018427387904)) (some ())).bind fun _ =>
        line_Lines_R1 n (splitT 10 s) ([], 0) : Option ((List GLine) ⊕ (List GLine × Int × Int))).bind fun
        | .inl out3 =>
          some (out3, 0, 0)
        | .inr r => some r))
theorem line_Lines_ok {n : Nat} {s : ByteArray} {r : List GLine × Int × Int} (H : line_Lines n s = some r) : PureOK Tryd.prog 19 [D.v (.string s)] (D.tu [D.sl (List.map eGLine r.1), D.v (.int .i64 r.2.1), D.v (.int .i64 r.2.2)]) true := by
  unfold line_Lines at H
  refine ZP tab_ok fol (rs := #[.cell 2 53, .cell 3 3, .cell 4 34]) Tryd.func19 ?_
  refine runR_seq ?_
  refine ZT 1 ?_
  refine Z0 ?_
  refine runR_seq ?_
  refine ZT 1 ?_
  refine Z0 ?_
  rcases ite_inv H with ⟨c1, H2⟩ | ⟨c1, H2⟩
  · refine Z1 c1 ?_
    obtain rfl := Zi H2
    exact ZE0
  · obtain ⟨t16, b3, H4⟩ := bind_inv H2
    refine Z1 c1 ?_
    refine ZC0 (strings_Count_ok b3) ?_
    refine Z1 c1 ?_
    rcases ite_inv H4 with ⟨c5, H6⟩ | ⟨c5, H6⟩
    · refine Z1 (Y2 c1 c5) ?_
      obtain rfl := Zi H6
      exact ZE0
    · refine Z1 (Y2 c1 c5) ?_
      refine runR_seq ?_
      refine ZT 1 ?_
      refine Z1 (Y2 c1 c5) ?_
      refine runR_seq ?_
      refine ZT 1 ?_
      refine Z1 (Y2 c1 c5) ?_
      refine runR_seq ?_
      refine runR_seq ?_
      refine ZT 1 ?_
      refine Z1 (Y2 c1 c5) ?_
      obtain ⟨e_, E7, H8⟩ := bind_inv H6
      refine onCall_inl (InlOK.mono (inl_runRJ (α := { y : Unit // e_ = y }) tab_ok Tryd.func44 rfl (by kernel_rfl) (by kernel_rfl) (by simp [Tryd.f44]) (fun | ⟨_, _⟩ => ⟨upd 4 (.fn 77 [.pt 16 0, .pt 17 0, .pt 18 0]) noFr, upd 0 (some (.bx [.v (.slice none 0 0)])) (upd 1 (some (.bx [.v (.int .i64 0)])) (upd 2 (some (.bx [.v (.int .i64 0)])) (upd 11 (some (.bx [.v (.slice none 0 0)])) (upd 12 (some (.bx [.v (.int .i64 0)])) (upd 16 (some (.bx [.v (.string { data := #[10] })])) (upd 17 (some (.bx [.v (.string s)])) (upd 18 (some (.bx [.v (.int .i64 0)])) noHp))))))), 19⟩) (fun | ⟨_, _⟩ => .fn 77 [.pt 16 0, .pt 17 0, .pt 18 0]) (by rintro ⟨_, he15⟩; first | ((simp -implicitDefEqProofs only [go_sem, Bool.false_and, Int.reduceToNat, Int.reduceLT, Int.reduceLE, Int.reduceBEq, Int.reduceBNe, Nat.reduceLT, Nat.reduceBEq, Int.reduceEq, Nat.reduceEqDiff, Nat.reduceAdd, Nat.reduceSub, Nat.reduceMul, Nat.reduceLeDiff, reduceCtorEq, ↓reduceIte, eGEntry, eGFile, eGWord, eGLine, Tryd.f44]) <;> rfl) | rfl) ?_) ?_)
      · unfold line_Lines_C1_strings_SplitSeq at E7
        try dsimp only at E7
        refine ZT 1 ?_
        refine Z0 ?_
        obtain ⟨e_2, E9, H10⟩ := bind_inv E7
        refine onCall_inl (InlOK.mono (inl_runRJ (α := { y : Unit // e_2 = y }) tab_ok Tryd.func66 rfl (by kernel_rfl) (by kernel_rfl) (by simp [Tryd.f66]) (fun | ⟨_, _⟩ => ⟨upd 6 (.fn 77 [.pt 21 0, .pt 22 0, .pt 23 0]) noFr, upd 0 (some (.bx [.v (.slice none 0 0)])) (upd 1 (some (.bx [.v (.int .i64 0)])) (upd 2 (some (.bx [.v (.int .i64 0)])) (upd 11 (some (.bx [.v (.slice none 0 0)])) (upd 12 (some (.bx [.v (.int .i64 0)])) (upd 21 (some (.bx [.v (.string { data := #[10] })])) (upd 22 (some (.bx [.v (.string s)])) (upd 23 (some (.bx [.v (.int .i64 0)])) noHp))))))), 24⟩) (fun | ⟨_, _⟩ => .fn 77 [.pt 21 0, .pt 22 0, .pt 23 0]) (by rintro ⟨_, he11⟩; first | ((simp -implicitDefEqProofs only [go_sem, Bool.false_and, Int.reduceToNat, Int.reduceLT, Int.reduceLE, Int.reduceBEq, Int.reduceBNe, Nat.reduceLT, Nat.reduceBEq, Int.reduceEq, Nat.reduceEqDiff, Nat.reduceAdd, Nat.reduceSub, Nat.reduceMul, Nat.reduceLeDiff, reduceCtorEq, ↓reduceIte, eGEntry, eGFile, eGWord, eGLine, Tryd.f66]) <;> rfl) | rfl) ?_) ?_)
        · unfold line_Lines_C2_strings_splitSeq at E9
          try dsimp only at E9
          refine ZT 1 ?_
          refine Z0 ?_
          obtain rfl := Option.some.inj E9
          exact endJ_ret ⟨(), rfl⟩ (ZR [(21, 22), (22, 21), (23, 23)])
        rintro v12 hp13 nx14 ⟨⟨_, he11⟩, rfl, rfl, rfl⟩
        replace he11 := he11.symm
        subst he11
        try dsimp only at H10
        dsimp only
        refine Z0 ?_
        obtain rfl := Option.some.inj H10
        exact endJ_ret ⟨(), rfl⟩ (ZR [(16, 21), (17, 22), (18, 23)])
      rintro v16 hp17 nx18 ⟨⟨_, he15⟩, rfl, rfl, rfl⟩
      replace he15 := he15.symm
      subst he15
      try dsimp only at H8
      dsimp only
      refine Z0 ?_
      obtain ⟨e_3, E19, H20⟩ := bind_inv H8
      refine runR_join (α := { y : List GLine // e_3 = .inl y } × Nat) (fun | ⟨⟨out3, _⟩, g3⟩ => ⟨upd 2 (.pt 0 0) (upd 3 (.pt 1 0) (upd 4 (.pt 2 0) (upd 5 (.pt 3 0) noFr))), upd 0 (some (.bx [.v (.slice none 0 0)])) (upd 1 (some (.bx [.v (.int .i64 0)])) (upd 2 (some (.bx [.v (.int .i64 0)])) (upd 3 (some (.bx [accV 4 g3 (List.map eGLine out3)])) (upd 4 (accO 2 g3 false (List.map eGLine out3)) noHp)))), 5⟩) ?_ ?_
      · refine runR_block ?_
        obtain ⟨_, b21, H22⟩ := bind_inv E19
        have h23 := of_decide_eq_true (grd_inv b21).1
        refine runR_range (τ := List GLine × Int) (γ := Nat) tab_ok fol (upd 2 (.pt 0 0) (upd 3 (.pt 1 0) (upd 4 (.pt 2 0) (upd 5 (.pt 3 0) (upd 6 (.pt 5 0) noFr))))) (fun | ⟨⟨out, at_⟩, g⟩ => (upd 0 (some (.bx [.v (.slice none 0 0)])) (upd 1 (some (.bx [.v (.int .i64 0)])) (upd 2 (some (.bx [.v (.int .i64 0)])) (upd 3 (some (.bx [accV 4 g (List.map eGLine out)])) (upd 4 (accO 2 g false (List.map eGLine out)) (upd 5 (some (.bx [.v (.int .i64 at_)])) noHp))))), 6)) (line_Lines_R1 n) e_3 (by rfl) split_en (split_hit (i1 := 16) (i0 := 17) (i2 := 18) 10 h23 (by rfl) (by rfl) (by rfl)) (ids3 (i1 := 16) (i0 := 17) (i2 := 18) (by rfl) (by rfl) (by rfl)) ?_ ?_ ?_ rfl (by kernel_rfl) (by kernel_rfl)
        · exact ⟨(([], 0), 0), H22, ZR [(0, 0), (1, 1), (2, 2), (3, 11), (5, 12)]⟩
        · rintro ln lns ⟨⟨out, at_⟩, g⟩ L24
          unfold line_Lines_R1 at L24
          try dsimp only at L24
          try dsimp only
          obtain ⟨t232, b42, H43⟩ := bind_inv L24
          refine Z0 ?_
          refine ZC0 (line_bare_ok b42) ?_
          obtain ⟨t252, b44, H45⟩ := bind_inv H43
          refine Z0 ?_
          refine ZC0 (line_wrong_ok b44) ?_
          refine Z0 ?_
          rcases ite_inv H45 with ⟨c46, H47⟩ | ⟨c46, H47⟩
          · refine Z1 c46 ?_
            refine Rd_endF (by rfl) ?_
            refine Z1 c46 ?_
            refine rq_ret ?_
            refine Z1 c46 ?_
            obtain rfl := Zi H47
            obtain rfl := Zi H20
            exact ZE0
          · obtain ⟨t332, b48, H49⟩ := bind_inv H47
            refine Z1 c46 ?_
            refine ZC0 (line_words_ok b48) ?_
            refine Z1 c46 ?_
            rcases ite_inv H49 with ⟨c50, H51⟩ | ⟨c50, H51⟩
            · obtain ⟨x2, b52, H53⟩ := bind_inv H51
              obtain ⟨h54, h55⟩ := idx_inv b52
              try simp only [Int.reduceToNat, Int.toNat_natCast] at h55
              have h56 := map_at eGWord h55
              obtain ⟨l, b58, H59⟩ := bind_inv H53
              obtain ⟨h60, h61⟩ := app_inv b58
              have h60 : out.length + 1 ≤ 4294967296 := h60
              have h62 : List.map eGLine out ++ [[.v (.int .i64 x2.at_), .sl (List.map eGWord t332)]] = List.map eGLine l := app_map eGLine h61
              have h63 : out.length + 1 = l.length := app_len h61
              have h64 : l.length ≤ 4294967296 := by omega
              have q65 : 0 < l.length := by omega
              refine Z1 (Y2 (Y6 c46 c50 (nat_of .i64 h54) h56 h60 h62) (Y2 h63 h64)) ?_
              refine Rd_endF (by (cases out <;> rfl)) ?_
              refine Z1 (Y2 (Y6 c46 c50 (nat_of .i64 h54) h56 h60 h62) (Y2 h63 h64)) ?_
              rcases out with _ | ⟨q0, q1⟩
              · try simp only [List.map_nil, accI, accN]
                exact rq_next ((l, (IntKind.i64.wrap (at_ + (IntKind.i64.wrap ((ln.size : Int) + 1))))), 0) H59 (ZR [(0, 0), (1, 1), (2, 2), (3, 3), (4, 30), (5, 5)])
              · try simp only [List.map_cons, accI, accN]
                exact rq_next ((l, (IntKind.i64.wrap (at_ + (IntKind.i64.wrap ((ln.size : Int) + 1))))), (g + 1)) H59 (ZR [(0, 0), (1, 1), (2, 2), (3, 3), (4, 4), (5, 5)])
            · refine Z1 (Y2 c46 c50) ?_
              exact rq_next ((out, (IntKind.i64.wrap (at_ + (IntKind.i64.wrap ((ln.size : Int) + 1))))), g) H51 (ZR [(0, 0), (1, 1), (2, 2), (3, 3), (4, 4), (5, 5)])
        · rintro ⟨⟨out, at_⟩, g⟩ L25
          unfold line_Lines_R1 at L25
          try dsimp only at L25
          try dsimp only
          show runR _ _ _ _ _
          refine Z0 ?_
          obtain rfl := Zi L25
          exact ⟨⟨⟨out, rfl⟩, g⟩, ZR [(0, 0), (1, 1), (2, 2), (3, 3), (4, 4)]⟩
      · rintro ⟨⟨out3, he66⟩, g3⟩
        replace he66 := he66.symm
        subst he66
        try dsimp only at H20
        refine ZT 1 ?_
        refine Z0 ?_
        obtain rfl := Zi H20
        exact ZE0
def acls_words (n : Nat) (word : ByteArray) : Option (Int × Int × Int) :=
  (if (word.toList == ({ data := #[117, 115, 101, 114] } : ByteArray).toList) then
    some (1, 2, 2)
  else
    (if (word.toList == ({ data := #[103, 114, 111, 117, 112] } : ByteArray).toList) then
      some (2, 2, 1073741824)
    else
      (if (word.toList == ({ data := #[100, 105, 114] } : ByteArray).toList) then
        some (3, 5, 5)
      else
        (if (word.toList == ({ data := #[102, 105, 108, 101] } : ByteArray).toList) then
          some (4, 5, 5)
        else
          some (0, 0, 0)))))
theorem acls_words_ok {n : Nat} {word : ByteArray} {r : Int × Int × Int} (H : acls_words n word = some r) : PureOK Tryd.prog 48 [D.v (.string word)] (D.tu [D.v (.int .i64 r.1), D.v (.int .i64 r.2.1), D.v (.int .i64 r.2.2)]) true := by
  unfold acls_words at H
  refine ZP tab_ok fol (rs := #[.tmp 2, .tmp 3, .tmp 4]) Tryd.func48 ?_
  refine ZT 1 ?_
  refine Z0 ?_
  rcases ite_inv H with ⟨c1, H2⟩ | ⟨c1, H2⟩
  · refine Z1 c1 ?_
    obtain rfl := Zi H2
    exact ZE0
  · refine Z1 c1 ?_
    rcases ite_inv H2 with ⟨c3, H4⟩ | ⟨c3, H4⟩
    · refine Z1 (Y2 c1 c3) ?_
      obtain rfl := Zi H4
      exact ZE0
    · refine Z1 (Y2 c1 c3) ?_
      rcases ite_inv H4 with ⟨c5, H6⟩ | ⟨c5, H6⟩
      · refine Z1 (Y3 c1 c3 c5) ?_
        obtain rfl := Zi H6
        exact ZE0
      · refine Z1 (Y3 c1 c3 c5) ?_
        rcases ite_inv H6 with ⟨c7, H8⟩ | ⟨c7, H8⟩
        · refine Z1 (Y4 c1 c3 c5 c7) ?_
          obtain rfl := Zi H8
          exact ZE0
        · refine Z1 (Y4 c1 c3 c5 c7) ?_
          obtain rfl := Zi H8
          exact ZE0
def acls_Path_c1 (n : Nat) (p : ByteArray) : Option Bool :=
  (atom_Name n p).bind fun t4 =>
  some (!t4)
theorem acls_Path_c1_ok {n : Nat} {p : ByteArray} {r : Bool} (H : acls_Path_c1 n p = some r) : PureOK Tryd.prog 35 [D.v (.string p)] (D.v (.bool r)) true := by
  unfold acls_Path_c1 at H
  refine ZP tab_ok fol (rs := #[.tmp 2]) Tryd.func35 ?_
  refine ZT 1 ?_
  obtain ⟨t4, b1, H2⟩ := bind_inv H
  refine Z0 ?_
  refine ZC0 (atom_Name_ok b1) ?_
  refine Z0 ?_
  obtain rfl := Zi H2
  exact ZE0
def slices_IndexFunc_string__acls_Path_c1_L1 (n : Nat) (s : List ByteArray) : Nat → Int → Option ((Unit) ⊕ Int)
  | 0, _ => none
  | c + 1, t8 =>
    (if (decide (t8 < (s.length : Int))) then
      (idx s t8).bind fun x2 =>
      (acls_Path_c1 n x2).bind fun t162 =>
      (if t162 then
        some (.inr t8)
      else
        slices_IndexFunc_string__acls_Path_c1_L1 n s c (IntKind.i64.wrap (t8 + 1)))
    else
      some (.inl ()))

def slices_IndexFunc_string__acls_Path_c1 (n : Nat) (s : List ByteArray) : Option Int :=
  (
    slices_IndexFunc_string__acls_Path_c1_L1 n s n 0 : Option ((Unit) ⊕ Int)).bind fun
    | .inl _ =>
      some (-1)
    | .inr r => some r
theorem slices_IndexFunc_string__acls_Path_c1_ok {n : Nat} {s : List ByteArray} {r : Int} (H : slices_IndexFunc_string__acls_Path_c1 n s = some r) : PureA Tryd.prog 56 [.d (D.sl (List.map eS s)), .fn 35 []] (D.v (.int .i64 r)) true := by
  unfold slices_IndexFunc_string__acls_Path_c1 at H
  refine ZPA tab_ok fol (rs := #[.tmp 4]) Tryd.func56 ?_
  refine runR_seq ?_
  refine ZT 1 ?_
  refine Z0 ?_
  refine runR_seq ?_
  refine runR_seq ?_
  refine ZT 1 ?_
  refine Z0 ?_
  obtain ⟨e_, E1, H2⟩ := bind_inv H
  refine runR_join (α := { y : Unit // e_ = .inl y }) (fun | ⟨_, _⟩ => ⟨noFr, noHp, 0⟩) ?_ ?_
  · refine runR_block ?_
    refine runR_loop (α := { q : Nat × Int // slices_IndexFunc_string__acls_Path_c1_L1 n s q.1 q.2 = some e_ }) (fun | ⟨⟨c, t8⟩, _⟩ => ⟨upd 0 (.d (.sl (List.map eS s)) true) (upd 1 (.fn 35 []) (upd 7 (.v (.int .i64 (s.length : Int))) (upd 8 (.v (.int .i64 t8)) noFr))), noHp, 0⟩) (fun q => q.1.1) ⟨(n, 0), E1⟩ ?_ ?_
    · exact ZR []
    · rintro ⟨⟨c, t8⟩, L3⟩
      rcases c with _ | c
      · exact nomatch (show none = some _ from L3)
      · unfold slices_IndexFunc_string__acls_Path_c1_L1 at L3
        try dsimp only at L3
        refine ZT 1 ?_
        refine Z0 ?_
        rcases ite_inv L3 with ⟨c16, H17⟩ | ⟨c16, H17⟩
        · obtain ⟨x2, b18, H19⟩ := bind_inv H17
          obtain ⟨h20, h21⟩ := idx_inv b18
          try simp only [Int.reduceToNat, Int.toNat_natCast] at h21
          have h22 := map_at eS h21
          obtain ⟨t162, b24, H25⟩ := bind_inv H19
          refine Z1 (Y3 c16 (nat_of .i64 h20) h22) ?_
          refine ZC0 (acls_Path_c1_ok b24) ?_
          refine Z1 (Y3 c16 (nat_of .i64 h20) h22) ?_
          rcases ite_inv H25 with ⟨c26, H27⟩ | ⟨c26, H27⟩
          · refine Z1 (Y4 c16 (nat_of .i64 h20) h22 c26) ?_
            obtain rfl := Zi H27
            obtain rfl := Zi H2
            exact ZE0
          · refine Z1 (Y4 c16 (nat_of .i64 h20) h22 c26) ?_
            exact ⟨⟨(c, (IntKind.i64.wrap (t8 + 1))), H27⟩, ZR [], Nat.lt_succ_self _⟩
        · refine Z1 c16 ?_
          obtain rfl := Zi H17
          exact ⟨⟨(), rfl⟩, ZR []⟩
  · rintro ⟨_, he28⟩
    replace he28 := he28.symm
    subst he28
    try dsimp only at H2
    refine ZT 1 ?_
    refine Z0 ?_
    obtain rfl := Zi H2
    exact ZE0
def slices_ContainsFunc_string__acls_Path_c1 (n : Nat) (s : List ByteArray) : Option Bool :=
  (slices_IndexFunc_string__acls_Path_c1 n s).bind fun t7 =>
  some (decide (0 ≤ t7))
theorem slices_ContainsFunc_string__acls_Path_c1_ok {n : Nat} {s : List ByteArray} {r : Bool} (H : slices_ContainsFunc_string__acls_Path_c1 n s = some r) : PureA Tryd.prog 34 [.d (D.sl (List.map eS s)), .fn 35 []] (D.v (.bool r)) true := by
  unfold slices_ContainsFunc_string__acls_Path_c1 at H
  refine ZPA tab_ok fol (rs := #[.tmp 4]) Tryd.func34 ?_
  refine ZT 1 ?_
  obtain ⟨t7, b1, H2⟩ := bind_inv H
  refine Z0 ?_
  refine ZA0 (slices_IndexFunc_string__acls_Path_c1_ok b1) ?_
  refine Z0 ?_
  obtain rfl := Zi H2
  exact ZE0
def acls_Path (n : Nat) (s : ByteArray) : Option Bool :=
  (if (s.toList == ({ data := #[47] } : ByteArray).toList) then
    some true
  else
    (strings_Split n s ({ data := #[47] })).bind fun t7 =>
    (if (decide (200 < (s.size : Int))) then
      some false
    else
      (if (decide ((t7.length : Int) < 2)) then
        some false
      else
        (if (decide (21 < (t7.length : Int))) then
          some false
        else
          (idx t7 0).bind fun x =>
          (if (x.toList == ({ data := #[] } : ByteArray).toList) then
            (slc t7 1 ((List.length t7) : Int)).bind fun l =>
            (slices_ContainsFunc_string__acls_Path_c1 n l).bind fun t29 =>
            some (!t29)
          else
            some false)))))
theorem acls_Path_ok {n : Nat} {s : ByteArray} {r : Bool} (H : acls_Path n s = some r) : PureOK Tryd.prog 14 [D.v (.string s)] (D.v (.bool r)) true := by
  unfold acls_Path at H
  refine ZP tab_ok fol (rs := #[.tmp 2]) Tryd.func14 ?_
  refine ZT 1 ?_
  refine Z0 ?_
  rcases ite_inv H with ⟨c1, H2⟩ | ⟨c1, H2⟩
  · refine Z1 c1 ?_
    obtain rfl := Zi H2
    exact ZE0
  · obtain ⟨t7, b3, H4⟩ := bind_inv H2
    refine Z1 c1 ?_
    refine ZC0 (strings_Split_ok b3) ?_
    refine Z1 c1 ?_
    rcases ite_inv H4 with ⟨c5, H6⟩ | ⟨c5, H6⟩
    · refine Z1 (Y2 c1 c5) ?_
      obtain rfl := Zi H6
      exact ZE0
    · refine Z1 (Y2 c1 c5) ?_
      rcases ite_inv H6 with ⟨c7, H8⟩ | ⟨c7, H8⟩
      · refine Z1 (Y3 c1 c5 c7) ?_
        obtain rfl := Zi H8
        exact ZE0
      · refine Z1 (Y3 c1 c5 c7) ?_
        rcases ite_inv H8 with ⟨c9, H10⟩ | ⟨c9, H10⟩
        · refine Z1 (Y4 c1 c5 c7 c9) ?_
          obtain rfl := Zi H10
          exact ZE0
        · obtain ⟨x, b11, H12⟩ := bind_inv H10
          obtain ⟨h13, h14⟩ := idx_inv b11
          try simp only [Int.reduceToNat, Int.toNat_natCast] at h14
          have h15 := map_at eS h14
          refine Z1 (Y6 c1 c5 c7 c9 (nat_of .i64 h13) h15) ?_
          rcases ite_inv H12 with ⟨c17, H18⟩ | ⟨c17, H18⟩
          · obtain ⟨l, b19, H20⟩ := bind_inv H18
            obtain ⟨h21, h22, h23, h24⟩ := slc_inv b19
            have h25 : 1 ≤ (List.length t7) := by omega
            have h26 : (List.length t7) ≤ (List.length t7) := by omega
            have h27 : List.drop (1) (List.map eS t7) = List.map eS l := by rw [h24]; simp [List.map_drop, List.map_take]
            try simp only [Int.toNat_natCast] at h25 h26 h27
            obtain ⟨t29, b28, H29⟩ := bind_inv H20
            refine Z1 (Y2 (Y6 c1 c5 c7 c9 (nat_of .i64 h13) h15) (Y6 c17 (nat_of .i64 h21) h25 h26 h27 (chk_map (n := 1) (f := eS) (fun _ => rfl) t7))) ?_
            refine ZA0 (slices_ContainsFunc_string__acls_Path_c1_ok b28) ?_
            refine Z1 (Y2 (Y6 c1 c5 c7 c9 (nat_of .i64 h13) h15) (Y6 c17 (nat_of .i64 h21) h25 h26 h27 (chk_map (n := 1) (f := eS) (fun _ => rfl) t7))) ?_
            obtain rfl := Zi H29
            exact ZE0
          · refine Z1 (Y2 (Y6 c1 c5 c7 c9 (nat_of .i64 h13) h15) c17) ?_
            obtain rfl := Zi H18
            exact ZE0
end Go.Proofs.YtkikhbfdadambaaDoor.Ab
