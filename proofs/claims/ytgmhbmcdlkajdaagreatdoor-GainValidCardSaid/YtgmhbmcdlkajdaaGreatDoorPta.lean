/-
 Functions, read off the code.
-/
import Derived.Test.YtgmhbmcdlkajdaaGreatDoorSe
import Derived.Test.YtgmhbmcdlkajdaaGreatDoorSpl
namespace Go.Proofs.YtgmhbmcdlkajdaaGreatDoor.Ab
open Go.RowKit
def ref1_Find_L1 (n : Nat) (s : ByteArray) (c2 : Int) : Nat → Int → Option ((Unit) ⊕ Int)
 | 0, _ => none
 | c + 1, i =>
  (if (decide (i < (s.size : Int))) then
   (bidx s i).bind fun ch2 =>
   (if (ch2 == c2) then
    some (.inr i)
   else
    ref1_Find_L1 n s c2 c (IntKind.i64.wrap (i + 1)))
  else
   some (.inl ()))
def ref1_Find (n : Nat) (s : ByteArray) (c2 : Int) (from_ : Int) : Option Int :=
 (
  ref1_Find_L1 n s c2 n from_ : Option ((Unit) ⊕ Int)).bind fun
  | .inl _ =>
   some (-1)
  | .inr r => some r
theorem ref1_Find_ok {n : Nat} {s : ByteArray} {c2 : Int} {from_ : Int} {r : Int} (H : ref1_Find n s c2 from_ = some r) : PureOK Tryz.prog 69 [D.v (.string s), D.v (.int .u8 c2), D.v (.int .i64 from_)] (D.v (.int .i64 r)) true := by
 unfold ref1_Find at H
 refine ZP tab_ok fol (rs := #[.tmp 6]) Tryz.func69 ?_
 refine zsq (ZT 1 ?_)
 refine Z0 ?_
 refine zsq (zsq ?_)
 refine ZT 1 ?_
 refine Z0 ?_
 obtain ⟨e_, E1, H2⟩ := zbi H
 refine zjn (α := { y : Unit // e_ = .inl y }) (fun | ⟨_, _⟩ => ⟨noFr, noHp, 0⟩) ?_ ?_
 ·refine zbk ?_
  refine zlp (α := { q : Nat × Int // ref1_Find_L1 n s c2 q.1 q.2 = some e_ }) (fun | ⟨⟨c, i⟩, _⟩ => ⟨upd 0 (.v (.string s)) (upd 1 (.v (.int .u8 c2)) (upd 7 (.v (.int .i64 i)) noFr)), noHp, 0⟩) (fun q => q.1.1) ⟨(n, from_), E1⟩ ?_ ?_
  ·exact ZR []
  ·rintro ⟨⟨c, i⟩, L3⟩
   rcases c with _ | c
   ·exact Zx L3
   ·unfold ref1_Find_L1 at L3
    try dsimp only at L3
    refine ZT 1 ?_
    refine Z0 ?_
    rcases zit L3 with ⟨c13, H14⟩ | ⟨c13, H14⟩
    ·obtain ⟨ch2, b15, H16⟩ := zbi H14
     obtain ⟨h17, by_2, h18, h19⟩ := zbx b15
     try simp only [Int.reduceToNat, Int.toNat_natCast] at h18
     refine Z1 (Y4 c13 (zno .i64 h17) h18 h19.symm) ?_
     rcases zit H16 with ⟨c20, H21⟩ | ⟨c20, H21⟩
     ·refine Z1 (Y5 c13 (zno .i64 h17) h18 h19.symm c20) ?_
      obtain rfl := Zi H21
      obtain rfl := Zi H2
      exact ZE0
     ·refine Z1 (Y5 c13 (zno .i64 h17) h18 h19.symm c20) ?_
      exact ⟨⟨(c, (IntKind.i64.wrap (i + 1))), H21⟩, ZR [], Nat.lt_succ_self _⟩
    ·refine Z1 c13 ?_
     obtain rfl := Zi H14
     exact ⟨⟨(), rfl⟩, ZR []⟩
 ·rintro ⟨_, he22⟩
  obtain rfl := he22.symm
  try dsimp only at H2
  refine ZT 1 ?_
  refine Z0 ?_
  obtain rfl := Zi H2
  exact ZE0
def ref1_alnum (_ : Nat) (c2 : Int) : Option Bool :=
 (if (decide (97 ≤ c2)) then
  (if (decide (c2 ≤ 122)) then
   some true
  else
   (if (decide (48 ≤ c2)) then
    some (decide (c2 ≤ 57))
   else
    some false))
 else
  (if (decide (48 ≤ c2)) then
   some (decide (c2 ≤ 57))
  else
   some false))
theorem ref1_alnum_ok {n : Nat} {c2 : Int} {r : Bool} (H : ref1_alnum n c2 = some r) : PureOK Tryz.prog 96 [D.v (.int .u8 c2)] (D.v (.bool r)) true := by
 unfold ref1_alnum at H
 refine ZP tab_ok fol (rs := #[.tmp 2]) Tryz.func96 ?_
 refine ZT 1 ?_
 refine Z0 ?_
 rcases zit H with ⟨c1, H2⟩ | ⟨c1, H2⟩
 ·refine Z1 c1 ?_
  rcases zit H2 with ⟨c3, H4⟩ | ⟨c3, H4⟩
  ·refine Z1 (Y2 c1 c3) ?_
   obtain rfl := Zi H4
   exact ZE0
  ·refine Z1 (Y2 c1 c3) ?_
   rcases zit H4 with ⟨c5, H6⟩ | ⟨c5, H6⟩
   ·refine Z1 (Y3 c1 c3 c5) ?_
    obtain rfl := Zi H6
    exact ZE0
   ·refine Z1 (Y3 c1 c3 c5) ?_
    obtain rfl := Zi H6
    exact ZE0
 ·refine Z1 c1 ?_
  rcases zit H2 with ⟨c7, H8⟩ | ⟨c7, H8⟩
  ·refine Z1 (Y2 c1 c7) ?_
   obtain rfl := Zi H8
   exact ZE0
  ·refine Z1 (Y2 c1 c7) ?_
   obtain rfl := Zi H8
   exact ZE0
def ref1_Name_L1 (n : Nat) (s : ByteArray) : Nat → Int → Option ((Unit) ⊕ Bool)
 | 0, _ => none
 | c + 1, i =>
  (if (decide (i < (s.size : Int))) then
   (bidx s i).bind fun ch3 =>
   (ref1_alnum n ch3).bind fun t272 =>
   (if t272 then
    ref1_Name_L1 n s c (IntKind.i64.wrap (i + 1))
   else
    (if (ch3 != 95) then
     (if (ch3 != 45) then
      (if (ch3 != 46) then
       some (.inr false)
      else
       ref1_Name_L1 n s c (IntKind.i64.wrap (i + 1)))
     else
      ref1_Name_L1 n s c (IntKind.i64.wrap (i + 1)))
    else
     ref1_Name_L1 n s c (IntKind.i64.wrap (i + 1))))
  else
   some (.inl ()))
def ref1_Name (n : Nat) (s : ByteArray) : Option Bool :=
 (
  (if (decide ((s.size : Int) < 1)) then
   some true
  else
   (if (decide (30 < (s.size : Int))) then
    some true
   else
    (bidx s 0).bind fun ch =>
    (ref1_alnum n ch).bind fun t15 =>
    some (!t15))) : Option (Bool)).bind fun t17 =>
 (if t17 then
  some false
 else
  (
   ref1_Name_L1 n s n 0 : Option ((Unit) ⊕ Bool)).bind fun
   | .inl _ =>
    some true
   | .inr r => some r)
theorem ref1_Name_ok {n : Nat} {s : ByteArray} {r : Bool} (H : ref1_Name n s = some r) : PureOK Tryz.prog 70 [D.v (.string s)] (D.v (.bool r)) true := by
 unfold ref1_Name at H
 refine ZP tab_ok fol (rs := #[.tmp 2]) Tryz.func70 ?_
 refine zsq (ZT 1 ?_)
 refine Z0 ?_
 refine zsq (zsq ?_)
 obtain ⟨e_, E1, H2⟩ := zbi H
 refine zjn (α := { y : Bool // e_ = y }) (fun | ⟨t17, _⟩ => ⟨upd 0 (.v (.string s)) (upd 17 (.v (.bool t17)) noFr), noHp, 0⟩) ?_ ?_
 ·refine ZT 1 ?_
  refine Z0 ?_
  rcases zit E1 with ⟨c3, H4⟩ | ⟨c3, H4⟩
  ·refine Z1 c3 ?_
   obtain rfl := Zi H4
   exact ⟨⟨true, rfl⟩, ZR []⟩
  ·refine Z1 c3 ?_
   rcases zit H4 with ⟨c5, H6⟩ | ⟨c5, H6⟩
   ·refine Z1 (Y2 c3 c5) ?_
    obtain rfl := Zi H6
    exact ⟨⟨true, rfl⟩, ZR []⟩
   ·obtain ⟨ch, b7, H8⟩ := zbi H6
    obtain ⟨h9, by_, h10, h11⟩ := zbx b7
    try simp only [Int.reduceToNat] at h10
    obtain ⟨t15, b12, H13⟩ := zbi H8
    refine Z1 (Y5 c3 c5 (zno .i64 h9) h10 h11.symm) ?_
    refine ZC0 (ref1_alnum_ok b12) ?_
    refine Z1 (Y5 c3 c5 (zno .i64 h9) h10 h11.symm) ?_
    obtain rfl := Zi H13
    exact ⟨⟨(!t15), rfl⟩, ZR []⟩
 ·rintro ⟨t17, he54⟩
  obtain rfl := he54.symm
  try dsimp only at H2
  refine ZT 1 ?_
  refine Z0 ?_
  rcases zit H2 with ⟨c14, H15⟩ | ⟨c14, H15⟩
  ·refine Z1 c14 ?_
   obtain rfl := Zi H15
   exact ZE0
  ·refine Z1 c14 ?_
   refine zsq (zsq ?_)
   refine ZT 1 ?_
   refine Z1 c14 ?_
   obtain ⟨e_2, E16, H17⟩ := zbi H15
   refine zjn (α := { y : Unit // e_2 = .inl y }) (fun | ⟨_, _⟩ => ⟨noFr, noHp, 0⟩) ?_ ?_
   ·refine zbk ?_
    refine zlp (α := { q : Nat × Int // ref1_Name_L1 n s q.1 q.2 = some e_2 }) (fun | ⟨⟨c, i⟩, _⟩ => ⟨upd 0 (.v (.string s)) (upd 3 (.v (.int .i64 i)) noFr), noHp, 0⟩) (fun q => q.1.1) ⟨(n, 0), E16⟩ ?_ ?_
    ·exact ZR []
    ·rintro ⟨⟨c, i⟩, L18⟩
     rcases c with _ | c
     ·exact Zx L18
     ·unfold ref1_Name_L1 at L18
      try dsimp only at L18
      refine ZT 1 ?_
      refine Z0 ?_
      rcases zit L18 with ⟨c36, H37⟩ | ⟨c36, H37⟩
      ·obtain ⟨ch3, b38, H39⟩ := zbi H37
       obtain ⟨h40, by_3, h41, h42⟩ := zbx b38
       try simp only [Int.reduceToNat, Int.toNat_natCast] at h41
       obtain ⟨t272, b43, H44⟩ := zbi H39
       refine Z1 (Y4 c36 (zno .i64 h40) h41 h42.symm) ?_
       refine ZC0 (ref1_alnum_ok b43) ?_
       refine Z1 (Y4 c36 (zno .i64 h40) h41 h42.symm) ?_
       rcases zit H44 with ⟨c45, H46⟩ | ⟨c45, H46⟩
       ·refine Z1 (Y5 c36 (zno .i64 h40) h41 h42.symm c45) ?_
        exact ⟨⟨(c, (IntKind.i64.wrap (i + 1))), H46⟩, ZR [], Nat.lt_succ_self _⟩
       ·refine Z1 (Y5 c36 (zno .i64 h40) h41 h42.symm c45) ?_
        rcases zit H46 with ⟨c47, H48⟩ | ⟨c47, H48⟩
        ·refine Z1 (Y6 c36 (zno .i64 h40) h41 h42.symm c45 c47) ?_
         rcases zit H48 with ⟨c49, H50⟩ | ⟨c49, H50⟩
         ·refine Z1 (Y2 (Y6 c36 (zno .i64 h40) h41 h42.symm c45 c47) c49) ?_
          rcases zit H50 with ⟨c51, H52⟩ | ⟨c51, H52⟩
          ·refine Z1 (Y2 (Y6 c36 (zno .i64 h40) h41 h42.symm c45 c47) (Y2 c49 c51)) ?_
           obtain rfl := Zi H52
           obtain rfl := Zi H17
           exact ZE0
          ·refine Z1 (Y2 (Y6 c36 (zno .i64 h40) h41 h42.symm c45 c47) (Y2 c49 c51)) ?_
           exact ⟨⟨(c, (IntKind.i64.wrap (i + 1))), H52⟩, ZR [], Nat.lt_succ_self _⟩
         ·refine Z1 (Y2 (Y6 c36 (zno .i64 h40) h41 h42.symm c45 c47) c49) ?_
          exact ⟨⟨(c, (IntKind.i64.wrap (i + 1))), H50⟩, ZR [], Nat.lt_succ_self _⟩
        ·refine Z1 (Y6 c36 (zno .i64 h40) h41 h42.symm c45 c47) ?_
         exact ⟨⟨(c, (IntKind.i64.wrap (i + 1))), H48⟩, ZR [], Nat.lt_succ_self _⟩
      ·refine Z1 c36 ?_
       obtain rfl := Zi H37
       exact ⟨⟨(), rfl⟩, ZR []⟩
   ·rintro ⟨_, he53⟩
    obtain rfl := he53.symm
    try dsimp only at H17
    refine ZT 1 ?_
    refine Z0 ?_
    obtain rfl := Zi H17
    exact ZE0
def ref17_Path_L1 (n : Nat) (s : ByteArray) : Nat → (Int × Int) → Option ((Int) ⊕ Bool)
 | 0, _ => none
 | c + 1, (n_, from_) =>
  (if (decide (from_ ≤ (s.size : Int))) then
   (ref1_Find n s 47 from_).bind fun t292 =>
   (
    (if (decide (t292 < 0)) then
     some (s.size : Int)
    else
     some t292) : Option (Int)).bind fun k3 =>
   (bslc s from_ k3).bind fun s3 =>
   (ref1_Name n s3).bind fun t382 =>
   (if t382 then
    ref17_Path_L1 n s c ((IntKind.i64.wrap (n_ + 1)), (IntKind.i64.wrap (k3 + 1)))
   else
    some (.inr false))
  else
   some (.inl n_))
def ref17_Path (n : Nat) (s : ByteArray) : Option Bool :=
 (if (s.toList == ({ data := #[47] } : ByteArray).toList) then
  some true
 else
  (
   (if (decide (200 < (s.size : Int))) then
    some true
   else
    (if (decide ((s.size : Int) < 2)) then
     some true
    else
     (bidx s 0).bind fun ch =>
     some (ch != 47))) : Option (Bool)).bind fun t20 =>
  (if t20 then
   some false
  else
   (
    ref17_Path_L1 n s n (0, 1) : Option ((Int) ⊕ Bool)).bind fun
    | .inl n_3 =>
     (if (decide (n_3 ≤ 20)) then
      (bidx s (IntKind.i64.wrap ((s.size : Int) - 1))).bind fun ch2 =>
      some (ch2 != 47)
     else
      some false)
    | .inr r => some r))
theorem ref17_Path_ok {n : Nat} {s : ByteArray} {r : Bool} (H : ref17_Path n s = some r) : PureOK Tryz.prog 39 [D.v (.string s)] (D.v (.bool r)) true := by
 unfold ref17_Path at H
 refine ZP tab_ok fol (rs := #[.tmp 2]) Tryz.func39 ?_
 refine zsq (ZT 1 ?_)
 refine Z0 ?_
 refine zsq (ZT 1 ?_)
 refine Z0 ?_
 rcases zit H with ⟨c1, H2⟩ | ⟨c1, H2⟩
 ·refine Z1 c1 ?_
  obtain rfl := Zi H2
  exact ZE0
 ·refine Z1 c1 ?_
  refine zsq (zsq ?_)
  obtain ⟨e_, E3, H4⟩ := zbi H2
  refine zjn (α := { y : Bool // e_ = y }) (fun | ⟨t20, _⟩ => ⟨upd 0 (.v (.string s)) (upd 20 (.v (.bool t20)) noFr), noHp, 0⟩) ?_ ?_
  ·refine ZT 1 ?_
   refine Z0 ?_
   rcases zit E3 with ⟨c5, H6⟩ | ⟨c5, H6⟩
   ·refine Z1 c5 ?_
    obtain rfl := Zi H6
    exact ⟨⟨true, rfl⟩, ZR []⟩
   ·refine Z1 c5 ?_
    rcases zit H6 with ⟨c7, H8⟩ | ⟨c7, H8⟩
    ·refine Z1 (Y2 c5 c7) ?_
     obtain rfl := Zi H8
     exact ⟨⟨true, rfl⟩, ZR []⟩
    ·obtain ⟨ch, b9, H10⟩ := zbi H8
     obtain ⟨h11, by_, h12, h13⟩ := zbx b9
     try simp only [Int.reduceToNat] at h12
     refine Z1 (Y5 c5 c7 (zno .i64 h11) h12 h13.symm) ?_
     obtain rfl := Zi H10
     exact ⟨⟨(ch != 47), rfl⟩, ZR []⟩
  ·rintro ⟨t20, he71⟩
   obtain rfl := he71.symm
   try dsimp only at H4
   refine ZT 1 ?_
   refine Z0 ?_
   rcases zit H4 with ⟨c14, H15⟩ | ⟨c14, H15⟩
   ·refine Z1 c14 ?_
    obtain rfl := Zi H15
    exact ZE0
   ·refine Z1 c14 ?_
    refine zsq (ZT 1 ?_)
    refine Z1 c14 ?_
    refine zsq (zsq ?_)
    refine ZT 1 ?_
    refine Z1 c14 ?_
    obtain ⟨e_2, E16, H17⟩ := zbi H15
    refine zjn (α := { y : Int // e_2 = .inl y }) (fun | ⟨n_3, _⟩ => ⟨upd 0 (.v (.string s)) (upd 3 (.v (.int .i64 n_3)) noFr), noHp, 0⟩) ?_ ?_
    ·refine zbk ?_
     refine zlp (α := { q : Nat × (Int × Int) // ref17_Path_L1 n s q.1 q.2 = some e_2 }) (fun | ⟨⟨c, ⟨n_, from_⟩⟩, _⟩ => ⟨upd 0 (.v (.string s)) (upd 3 (.v (.int .i64 n_)) (upd 4 (.v (.int .i64 from_)) noFr)), noHp, 0⟩) (fun q => q.1.1) ⟨(n, (0, 1)), E16⟩ ?_ ?_
     ·exact ZR []
     ·rintro ⟨⟨c, ⟨n_, from_⟩⟩, L18⟩
      rcases c with _ | c
      ·exact Zx L18
      ·unfold ref17_Path_L1 at L18
       try dsimp only at L18
       refine zsq (ZT 1 ?_)
       refine Z0 ?_
       rcases zit L18 with ⟨c41, H42⟩ | ⟨c41, H42⟩
       ·refine Z1 c41 ?_
        refine zsq (zbk ?_)
        refine zsq (ZT 1 ?_)
        obtain ⟨t292, b43, H44⟩ := zbi H42
        refine Z1 c41 ?_
        refine ZC0 (ref1_Find_ok b43) ?_
        refine Z1 c41 ?_
        refine zsq (zsq ?_)
        refine ZT 1 ?_
        refine Z1 c41 ?_
        obtain ⟨e_4, E45, H46⟩ := zbi H44
        refine zjn (α := { y : Int // e_4 = y }) (fun | ⟨k3, _⟩ => ⟨upd 0 (.v (.string s)) (upd 3 (.v (.int .i64 n_)) (upd 4 (.v (.int .i64 from_)) (upd 5 (.v (.int .i64 k3)) noFr))), noHp, 0⟩) ?_ ?_
        ·refine ZT 1 ?_
         refine Z0 ?_
         rcases zit E45 with ⟨c47, H48⟩ | ⟨c47, H48⟩
         ·refine Z1 c47 ?_
          obtain rfl := Zi H48
          exact ⟨⟨(s.size : Int), rfl⟩, ZR []⟩
         ·refine Z1 c47 ?_
          obtain rfl := Zi H48
          exact ⟨⟨t292, rfl⟩, ZR []⟩
        ·rintro ⟨k3, he62⟩
         obtain rfl := he62.symm
         try dsimp only at H46
         refine ZT 3 ?_
         obtain ⟨s3, b49, H50⟩ := zbi H46
         obtain ⟨h51, h52, h53, h54⟩ := zbs b49
         have h55 : Int.toNat from_ ≤ Int.toNat k3 := by omega
         have h56 : Int.toNat k3 ≤ s.size := by omega
         have h57 : ByteArray.extract s (Int.toNat from_) (Int.toNat k3) = s3 := h54.symm
         try simp only [Int.toNat_natCast] at h55 h56 h57
         obtain ⟨t382, b58, H59⟩ := zbi H50
         refine Z1 (Y5 (zno .i64 h51) (zno .i64 (Int.le_trans h51 h52)) h55 h56 h57) ?_
         refine ZC0 (ref1_Name_ok b58) ?_
         refine Z1 (Y5 (zno .i64 h51) (zno .i64 (Int.le_trans h51 h52)) h55 h56 h57) ?_
         rcases zit H59 with ⟨c60, H61⟩ | ⟨c60, H61⟩
         ·refine Z1 (Y6 (zno .i64 h51) (zno .i64 (Int.le_trans h51 h52)) h55 h56 h57 c60) ?_
          exact ⟨⟨(c, ((IntKind.i64.wrap (n_ + 1)), (IntKind.i64.wrap (k3 + 1)))), H61⟩, ZR [], Nat.lt_succ_self _⟩
         ·refine Z1 (Y6 (zno .i64 h51) (zno .i64 (Int.le_trans h51 h52)) h55 h56 h57 c60) ?_
          obtain rfl := Zi H61
          obtain rfl := Zi H17
          exact ZE0
       ·refine Z1 c41 ?_
        obtain rfl := Zi H42
        exact ⟨⟨n_, rfl⟩, ZR []⟩
    ·rintro ⟨n_3, he70⟩
     obtain rfl := he70.symm
     try dsimp only at H17
     refine ZT 1 ?_
     refine Z0 ?_
     rcases zit H17 with ⟨c63, H64⟩ | ⟨c63, H64⟩
     ·obtain ⟨ch2, b65, H66⟩ := zbi H64
      obtain ⟨h67, by_2, h68, h69⟩ := zbx b65
      try simp only [Int.reduceToNat, Int.toNat_natCast] at h68
      refine Z1 (Y4 c63 (zno .i64 h67) h68 h69.symm) ?_
      obtain rfl := Zi H66
      exact ZE0
     ·refine Z1 c63 ?_
      obtain rfl := Zi H64
      exact ZE0
def ref17_Parent_L1 (n : Nat) (path : ByteArray) : Nat → Int → Option (Int)
 | 0, _ => none
 | c + 1, k2 =>
  (bidx path k2).bind fun ch2 =>
  (if (ch2 != 47) then
   ref17_Parent_L1 n path c (IntKind.i64.wrap (k2 - 1))
  else
   some k2)
def ref17_Parent (n : Nat) (path : ByteArray) : Option ByteArray :=
 (
  (ref17_Path n path).bind fun t5 =>
  (if t5 then
   some (path.toList == ({ data := #[47] } : ByteArray).toList)
  else
   some true) : Option (Bool)).bind fun t10 =>
 (if t10 then
  some ({ data := #[] })
 else
  (
   ref17_Parent_L1 n path n (IntKind.i64.wrap ((path.size : Int) - 1)) : Option (Int)).bind fun k4 =>
  (if (k4 == 0) then
   some ({ data := #[47] })
  else
   (bslc path 0 k4).bind fun s =>
   some s))
theorem ref17_Parent_ok {n : Nat} {path : ByteArray} {r : ByteArray} (H : ref17_Parent n path = some r) : PureOK Tryz.prog 16 [D.v (.string path)] (D.v (.string r)) true := by
 unfold ref17_Parent at H
 refine ZP tab_ok fol (rs := #[.tmp 2]) Tryz.func16 ?_
 refine zsq (ZT 1 ?_)
 refine Z0 ?_
 refine zsq (zsq ?_)
 obtain ⟨e_, E1, H2⟩ := zbi H
 refine zjn (α := { y : Bool // e_ = y }) (fun | ⟨t10, _⟩ => ⟨upd 0 (.v (.string path)) (upd 10 (.v (.bool t10)) noFr), noHp, 0⟩) ?_ ?_
 ·refine ZT 1 ?_
  obtain ⟨t5, b3, H4⟩ := zbi E1
  refine Z0 ?_
  refine ZC0 (ref17_Path_ok b3) ?_
  refine Z0 ?_
  rcases zit H4 with ⟨c5, H6⟩ | ⟨c5, H6⟩
  ·refine Z1 c5 ?_
   obtain rfl := Zi H6
   exact ⟨⟨(path.toList == ({ data := #[47] } : ByteArray).toList), rfl⟩, ZR []⟩
  ·refine Z1 c5 ?_
   obtain rfl := Zi H6
   exact ⟨⟨true, rfl⟩, ZR []⟩
 ·rintro ⟨t10, he38⟩
  obtain rfl := he38.symm
  try dsimp only at H2
  refine ZT 1 ?_
  refine Z0 ?_
  rcases zit H2 with ⟨c7, H8⟩ | ⟨c7, H8⟩
  ·refine Z1 c7 ?_
   obtain rfl := Zi H8
   exact ZE0
  ·refine Z1 c7 ?_
   refine zsq (ZT 1 ?_)
   refine Z1 c7 ?_
   refine zsq ?_
   obtain ⟨e_2, E9, H10⟩ := zbi H8
   refine zjn (α := { y : Int // e_2 = y }) (fun | ⟨k4, _⟩ => ⟨upd 0 (.v (.string path)) (upd 3 (.v (.int .i64 k4)) noFr), noHp, 0⟩) ?_ ?_
   ·refine zbk ?_
    refine zlp (α := { q : Nat × Int // ref17_Parent_L1 n path q.1 q.2 = some e_2 }) (fun | ⟨⟨c, k2⟩, _⟩ => ⟨upd 0 (.v (.string path)) (upd 3 (.v (.int .i64 k2)) noFr), noHp, 0⟩) (fun q => q.1.1) ⟨(n, (IntKind.i64.wrap ((path.size : Int) - 1))), E9⟩ ?_ ?_
    ·exact ZR []
    ·rintro ⟨⟨c, k2⟩, L11⟩
     rcases c with _ | c
     ·exact Zx L11
     ·unfold ref17_Parent_L1 at L11
      try dsimp only at L11
      refine ZT 1 ?_
      obtain ⟨ch2, b19, H20⟩ := zbi L11
      obtain ⟨h21, by_2, h22, h23⟩ := zbx b19
      try simp only [Int.reduceToNat, Int.toNat_natCast] at h22
      refine Z1 (Y3 (zno .i64 h21) h22 h23.symm) ?_
      rcases zit H20 with ⟨c24, H25⟩ | ⟨c24, H25⟩
      ·refine Z1 (Y4 (zno .i64 h21) h22 h23.symm c24) ?_
       exact ⟨⟨(c, (IntKind.i64.wrap (k2 - 1))), H25⟩, ZR [], Nat.lt_succ_self _⟩
      ·refine Z1 (Y4 (zno .i64 h21) h22 h23.symm c24) ?_
       obtain rfl := Zi H25
       exact ⟨⟨k2, rfl⟩, ZR []⟩
   ·rintro ⟨k4, he37⟩
    obtain rfl := he37.symm
    try dsimp only at H10
    refine ZT 1 ?_
    refine Z0 ?_
    rcases zit H10 with ⟨c26, H27⟩ | ⟨c26, H27⟩
    ·refine Z1 c26 ?_
     obtain rfl := Zi H27
     exact ZE0
    ·obtain ⟨s, b28, H29⟩ := zbi H27
     obtain ⟨h30, h31, h32, h33⟩ := zbs b28
     have h34 : 0 ≤ Int.toNat k4 := by omega
     have h35 : Int.toNat k4 ≤ path.size := by omega
     have h36 : ByteArray.extract path (0) (Int.toNat k4) = s := h33.symm
     try simp only [Int.toNat_natCast] at h34 h35 h36
     refine Z1 (Y5 c26 (zno .i64 (Int.le_trans h30 h31)) h34 h35 h36) ?_
     obtain rfl := Zi H29
     exact ZE0
def ref17_told_L1 (n : Nat) (l : List GFile) (kind : Int) (name : ByteArray) : Nat → Int → Option ((Unit) ⊕ Bool)
 | 0, _ => none
 | c + 1, i =>
  (if (decide (i < (l.length : Int))) then
   (idx l i).bind fun x2 =>
   (if (x2.kind == kind) then
    (if (x2.name.toList == name.toList) then
     some (.inr true)
    else
     ref17_told_L1 n l kind name c (IntKind.i64.wrap (i + 1)))
   else
    ref17_told_L1 n l kind name c (IntKind.i64.wrap (i + 1)))
  else
   some (.inl ()))
def ref17_told (n : Nat) (l : List GFile) (kind : Int) (name : ByteArray) : Option Bool :=
 (
  ref17_told_L1 n l kind name n 0 : Option ((Unit) ⊕ Bool)).bind fun
  | .inl _ =>
   some false
  | .inr r => some r
theorem ref17_told_ok {n : Nat} {l : List GFile} {kind : Int} {name : ByteArray} {r : Bool} (H : ref17_told n l kind name = some r) : PureOK Tryz.prog 36 [D.sl (List.map eGFile l), D.v (.int .i64 kind), D.v (.string name)] (D.v (.bool r)) true := by
 unfold ref17_told at H
 refine ZP tab_ok fol (rs := #[.tmp 6]) Tryz.func36 ?_
 refine zsq (ZT 1 ?_)
 refine Z0 ?_
 refine zsq (zsq ?_)
 refine ZT 1 ?_
 refine Z0 ?_
 obtain ⟨e_, E1, H2⟩ := zbi H
 refine zjn (α := { y : Unit // e_ = .inl y }) (fun | ⟨_, _⟩ => ⟨noFr, noHp, 0⟩) ?_ ?_
 ·refine zbk ?_
  refine zlp (α := { q : Nat × Int // ref17_told_L1 n l kind name q.1 q.2 = some e_ }) (fun | ⟨⟨c, i⟩, _⟩ => ⟨upd 0 (.d (.sl (List.map eGFile l)) true) (upd 1 (.v (.int .i64 kind)) (upd 2 (.v (.string name)) (upd 7 (.v (.int .i64 i)) noFr))), noHp, 0⟩) (fun q => q.1.1) ⟨(n, 0), E1⟩ ?_ ?_
  ·exact ZR []
  ·rintro ⟨⟨c, i⟩, L3⟩
   rcases c with _ | c
   ·exact Zx L3
   ·unfold ref17_told_L1 at L3
    try dsimp only at L3
    refine ZT 1 ?_
    refine Z0 ?_
    rcases zit L3 with ⟨c16, H17⟩ | ⟨c16, H17⟩
    ·obtain ⟨x2, b18, H19⟩ := zbi H17
     obtain ⟨h20, h21⟩ := zix b18
     try simp only [Int.reduceToNat, Int.toNat_natCast] at h21
     have h22 := map_at eGFile h21
     refine Z1 (Y3 c16 (zno .i64 h20) h22) ?_
     rcases zit H19 with ⟨c24, H25⟩ | ⟨c24, H25⟩
     ·refine Z1 (Y4 c16 (zno .i64 h20) h22 c24) ?_
      rcases zit H25 with ⟨c26, H27⟩ | ⟨c26, H27⟩
      ·refine Z1 (Y5 c16 (zno .i64 h20) h22 c24 c26) ?_
       obtain rfl := Zi H27
       obtain rfl := Zi H2
       exact ZE0
      ·refine Z1 (Y5 c16 (zno .i64 h20) h22 c24 c26) ?_
       exact ⟨⟨(c, (IntKind.i64.wrap (i + 1))), H27⟩, ZR [], Nat.lt_succ_self _⟩
     ·refine Z1 (Y4 c16 (zno .i64 h20) h22 c24) ?_
      exact ⟨⟨(c, (IntKind.i64.wrap (i + 1))), H25⟩, ZR [], Nat.lt_succ_self _⟩
    ·refine Z1 c16 ?_
     obtain rfl := Zi H17
     exact ⟨⟨(), rfl⟩, ZR []⟩
 ·rintro ⟨_, he28⟩
  obtain rfl := he28.symm
  try dsimp only at H2
  refine ZT 1 ?_
  refine Z0 ?_
  obtain rfl := Zi H2
  exact ZE0
def ref17_entryText_L1 (n : Nat) (t0 : GEntry) : Nat → (ByteArray × Int) → Option (ByteArray)
 | 0, _ => none
 | c + 1, (t42, t6) =>
  (if (decide (t6 < 3)) then
   grd (decide (0 ≤ (IntKind.u64.wrap t6))) <|
   (if ((IntKind.i64.wrap (an t0.bits (sh 4 (Int.toNat (IntKind.u64.wrap t6))) : Int)) != 0) then
    (bslc ({ data := #[114, 119, 120] }) t6 (IntKind.i64.wrap (t6 + 1))).bind fun s7 =>
    (cat t42 s7).bind fun s8 =>
    ref17_entryText_L1 n t0 c (s8, (IntKind.i64.wrap (t6 + 1)))
   else
    (cat t42 ({ data := #[45] })).bind fun s9 =>
    ref17_entryText_L1 n t0 c (s9, (IntKind.i64.wrap (t6 + 1))))
  else
   some t42)
def ref17_entryText (n : Nat) (t0 : GEntry) : Option (ByteArray × Bool) :=
 (
  (if t0.default then
   some (true, { data := #[100, 58] })
  else
   some (false, { data := #[] })) : Option (Bool × ByteArray)).bind fun (_, t4) =>
 (
  (if (t0.kind == 2) then
   some true
  else
   some (t0.kind == 4)) : Option (Bool)).bind fun t5 =>
 (
  (if (decide (t0.kind < 1)) then
   some true
  else
   (if (decide (6 < t0.kind)) then
    some true
   else
    (if (decide (t0.bits < 0)) then
     some true
    else
     (if (decide (7 < t0.bits)) then
      some true
     else
      (if (t5 == (!(t0.name.toList == ({ data := #[] } : ByteArray).toList))) then
       (if t5 then
        (ref1_Name n t0.name).bind fun t47 =>
        some (!t47)
       else
        some false)
      else
       some true))))) : Option (Bool)).bind fun t50 =>
 (if t50 then
  some ({ data := #[] }, false)
 else
  (idx ([{ data := #[] }, { data := #[117, 58] }, { data := #[117, 58] }, { data := #[103, 58] }, { data := #[103, 58] }, { data := #[109, 58] }, { data := #[111, 58] }] : List ByteArray) t0.kind).bind fun x =>
  (cat t4 x).bind fun s =>
  (cat s t0.name).bind fun s2 =>
  (cat s2 ({ data := #[58] })).bind fun s3 =>
  (
   ref17_entryText_L1 n t0 n (s3, 0) : Option (ByteArray)).bind fun t44 =>
  some (t44, true))
set_option maxHeartbeats 8000000 in
theorem ref17_entryText_ok {n : Nat} {t0 : GEntry} {r : ByteArray × Bool} (H : ref17_entryText n t0 = some r) : PureOK Tryz.prog 50 [D.ag (eGEntry t0)] (D.tu [D.v (.string r.1), D.v (.bool r.2)]) true := by
 unfold ref17_entryText at H
 refine ZP tab_ok fol (rs := #[.tmp 2, .tmp 3]) Tryz.func50 ?_
 refine zsq (ZT 1 ?_)
 refine Z0 ?_
 refine zsq (ZT 1 ?_)
 refine Z0 ?_
 refine zsq (zsq ?_)
 refine ZT 1 ?_
 refine Z0 ?_
 obtain ⟨e_, E1, H2⟩ := zbi H
 refine zjn (α := { y : Bool × ByteArray // e_ = y }) (fun | ⟨⟨t11, t4⟩, _⟩ => ⟨upd 1 (.pt 0 0) (upd 4 (.v (.string t4)) noFr), upd 0 (some (.bx [.v (.int .i64 t0.kind), .v (.bool t11), .v (.string t0.name), .v (.int .i64 t0.bits)])) noHp, 1⟩) ?_ ?_
 ·refine ZT 1 ?_
  refine Z0 ?_
  rcases zit E1 with ⟨c3, H4⟩ | ⟨c3, H4⟩
  ·refine Z1 c3 ?_
   obtain rfl := Zi H4
   exact ⟨⟨(true, { data := #[100, 58] }), rfl⟩, ZR [(0, 0)]⟩
  ·refine Z1 c3 ?_
   obtain rfl := Zi H4
   exact ⟨⟨(false, { data := #[] }), rfl⟩, ZR [(0, 0)]⟩
 ·rintro ⟨⟨t11, t4⟩, he98⟩
  obtain rfl := he98.symm
  try dsimp only at H2
  refine zsq ?_
  obtain ⟨e_2, E5, H6⟩ := zbi H2
  refine zjn (α := { y : Bool // e_2 = y }) (fun | ⟨t5, _⟩ => ⟨upd 1 (.pt 0 0) (upd 4 (.v (.string t4)) (upd 5 (.v (.bool t5)) noFr)), upd 0 (some (.bx [.v (.int .i64 t0.kind), .v (.bool t11), .v (.string t0.name), .v (.int .i64 t0.bits)])) noHp, 1⟩) ?_ ?_
  ·refine ZT 1 ?_
   refine Z0 ?_
   rcases zit E5 with ⟨c7, H8⟩ | ⟨c7, H8⟩
   ·refine Z1 c7 ?_
    obtain rfl := Zi H8
    exact ⟨⟨true, rfl⟩, ZR [(0, 0)]⟩
   ·refine Z1 c7 ?_
    obtain rfl := Zi H8
    exact ⟨⟨(t0.kind == 4), rfl⟩, ZR [(0, 0)]⟩
  ·rintro ⟨t5, he97⟩
   obtain rfl := he97.symm
   try dsimp only at H6
   refine zsq (zsq ?_)
   obtain ⟨e_3, E9, H10⟩ := zbi H6
   refine zjn (α := { y : Bool // e_3 = y }) (fun | ⟨t50, _⟩ => ⟨upd 1 (.pt 0 0) (upd 4 (.v (.string t4)) (upd 50 (.v (.bool t50)) noFr)), upd 0 (some (.bx [.v (.int .i64 t0.kind), .v (.bool t11), .v (.string t0.name), .v (.int .i64 t0.bits)])) noHp, 1⟩) ?_ ?_
   ·refine ZT 1 ?_
    refine Z0 ?_
    rcases zit E9 with ⟨c11, H12⟩ | ⟨c11, H12⟩
    ·refine Z1 c11 ?_
     obtain rfl := Zi H12
     exact ⟨⟨true, rfl⟩, ZR [(0, 0)]⟩
    ·refine Z1 c11 ?_
     rcases zit H12 with ⟨c13, H14⟩ | ⟨c13, H14⟩
     ·refine Z1 (Y2 c11 c13) ?_
      obtain rfl := Zi H14
      exact ⟨⟨true, rfl⟩, ZR [(0, 0)]⟩
     ·refine Z1 (Y2 c11 c13) ?_
      rcases zit H14 with ⟨c15, H16⟩ | ⟨c15, H16⟩
      ·refine Z1 (Y3 c11 c13 c15) ?_
       obtain rfl := Zi H16
       exact ⟨⟨true, rfl⟩, ZR [(0, 0)]⟩
      ·refine Z1 (Y3 c11 c13 c15) ?_
       rcases zit H16 with ⟨c17, H18⟩ | ⟨c17, H18⟩
       ·refine Z1 (Y4 c11 c13 c15 c17) ?_
        obtain rfl := Zi H18
        exact ⟨⟨true, rfl⟩, ZR [(0, 0)]⟩
       ·refine Z1 (Y4 c11 c13 c15 c17) ?_
        rcases zit H18 with ⟨c19, H20⟩ | ⟨c19, H20⟩
        ·refine Z1 (Y5 c11 c13 c15 c17 c19) ?_
         rcases zit H20 with ⟨c21, H22⟩ | ⟨c21, H22⟩
         ·obtain ⟨t47, b23, H24⟩ := zbi H22
          refine Z1 (Y6 c11 c13 c15 c17 c19 c21) ?_
          refine ZC0 (ref1_Name_ok b23) ?_
          refine Z1 (Y6 c11 c13 c15 c17 c19 c21) ?_
          obtain rfl := Zi H24
          exact ⟨⟨(!t47), rfl⟩, ZR [(0, 0)]⟩
         ·refine Z1 (Y6 c11 c13 c15 c17 c19 c21) ?_
          obtain rfl := Zi H22
          exact ⟨⟨false, rfl⟩, ZR [(0, 0)]⟩
        ·refine Z1 (Y5 c11 c13 c15 c17 c19) ?_
         obtain rfl := Zi H20
         exact ⟨⟨true, rfl⟩, ZR [(0, 0)]⟩
   ·rintro ⟨t50, he96⟩
    obtain rfl := he96.symm
    try dsimp only at H10
    refine ZT 1 ?_
    refine Z0 ?_
    rcases zit H10 with ⟨c25, H26⟩ | ⟨c25, H26⟩
    ·refine Z1 c25 ?_
     obtain rfl := Zi H26
     exact ZE0
    ·refine Z1 c25 ?_
     refine zsq (ZT 1 ?_)
     obtain ⟨x, b27, H28⟩ := zbi H26
     obtain ⟨h29, h30⟩ := zix b27
     try simp only [Int.reduceToNat, Int.toNat_natCast] at h30
     have h31 := map_at eS h30
     simp only [List.map_cons, List.map_nil, eS] at h31
     have h32 := at_lt h30
     simp only [List.length_cons, List.length_nil, Nat.reduceAdd] at h32
     obtain ⟨s, b33, H34⟩ := zbi H28
     obtain ⟨h35, h36⟩ := zct b33
     obtain ⟨s2, b37, H38⟩ := zbi H34
     obtain ⟨h39, h40⟩ := zct b37
     obtain ⟨s3, b41, H42⟩ := zbi H38
     obtain ⟨h43, h44⟩ := zct b41
     have h45 : s2.size + 1 ≤ maxLen := h43
     refine Z1 (Y2 (Y6 c25 (zno .i64 h29) h31 h32 h35 h36) (Y5 h39 h40 h43 h44 h45)) ?_
     refine Rd_endF (by rfl) ?_
     refine Z1 (Y2 (Y6 c25 (zno .i64 h29) h31 h32 h35 h36) (Y5 h39 h40 h43 h44 h45)) ?_
     refine zsq (zsq ?_)
     refine ZT 1 ?_
     refine Z1 (Y2 (Y6 c25 (zno .i64 h29) h31 h32 h35 h36) (Y5 h39 h40 h43 h44 h45)) ?_
     obtain ⟨e_4, E46, H47⟩ := zbi H42
     refine zjn (α := { y : ByteArray // e_4 = y }) (fun | ⟨t44, _⟩ => ⟨upd 4 (.v (.string t44)) noFr, noHp, 0⟩) ?_ ?_
     ·refine zbk ?_
      refine zlp (α := { q : Nat × (ByteArray × Int) // ref17_entryText_L1 n t0 q.1 q.2 = some e_4 }) (fun | ⟨⟨c, ⟨t42, t6⟩⟩, _⟩ => ⟨upd 1 (.pt 0 0) (upd 4 (.v (.string t42)) (upd 6 (.v (.int .i64 t6)) noFr)), upd 0 (some (.bx [.v (.int .i64 t0.kind), .v (.bool t11), .v (.string t0.name), .v (.int .i64 t0.bits)])) noHp, 1⟩) (fun q => q.1.1) ⟨(n, (s3, 0)), E46⟩ ?_ ?_
      ·exact ZR [(0, 0)]
      ·rintro ⟨⟨c, ⟨t42, t6⟩⟩, L48⟩
       rcases c with _ | c
       ·exact Zx L48
       ·unfold ref17_entryText_L1 at L48
        try dsimp only at L48
        refine ZT 1 ?_
        refine Z0 ?_
        rcases zit L48 with ⟨c70, H71⟩ | ⟨c70, H71⟩
        ·obtain ⟨g72, H73⟩ := grd_inv H71
         have g72 : ¬ (IntKind.u64.wrap t6) < 0 := by have := of_decide_eq_true g72; omega
         refine Z1 (Y2 c70 g72) ?_
         rcases zit H73 with ⟨c74, H75⟩ | ⟨c74, H75⟩
         ·obtain ⟨s7, b76, H77⟩ := zbi H75
          obtain ⟨h78, h79, h80, h81⟩ := zbs b76
          have h82 : Int.toNat t6 ≤ Int.toNat (IntKind.i64.wrap (t6 + 1)) := by omega
          have h83 : Int.toNat (IntKind.i64.wrap (t6 + 1)) ≤ (ByteArray.size ({ data := #[114, 119, 120] })) := by omega
          have h84 : ByteArray.extract ({ data := #[114, 119, 120] }) (Int.toNat t6) (Int.toNat (IntKind.i64.wrap (t6 + 1))) = s7 := h81.symm
          have h85 : Int.toNat (IntKind.i64.wrap (t6 + 1)) ≤ 3 := h83
          try simp only [Int.toNat_natCast] at h82 h85 h84
          obtain ⟨s8, b86, H87⟩ := zbi H77
          obtain ⟨h88, h89⟩ := zct b86
          refine Z1 (Y2 (Y6 c70 g72 c74 (zno .i64 h78) (zno .i64 (Int.le_trans h78 h79)) h82) (Y4 h85 h84 h88 h89)) ?_
          exact ⟨⟨(c, (s8, (IntKind.i64.wrap (t6 + 1)))), H87⟩, ZR [(0, 0)], Nat.lt_succ_self _⟩
         ·obtain ⟨s9, b90, H91⟩ := zbi H75
          obtain ⟨h92, h93⟩ := zct b90
          have h94 : t42.size + 1 ≤ maxLen := h92
          refine Z1 (Y6 c70 g72 c74 h92 h93 h94) ?_
          exact ⟨⟨(c, (s9, (IntKind.i64.wrap (t6 + 1)))), H91⟩, ZR [(0, 0)], Nat.lt_succ_self _⟩
        ·refine Z1 c70 ?_
         obtain rfl := Zi H71
         exact ⟨⟨t42, rfl⟩, ZR []⟩
     ·rintro ⟨t44, he95⟩
      obtain rfl := he95.symm
      try dsimp only at H47
      refine ZT 1 ?_
      refine Z0 ?_
      obtain rfl := Zi H47
      exact ZE0
def ref17_lessEntry (_ : Nat) (a : GEntry) (b : GEntry) : Option Bool :=
 (if (a.default == b.default) then
  (if (a.kind != b.kind) then
   some (decide (a.kind < b.kind))
  else
   some (Op.bytesLess a.name.toList b.name.toList))
 else
  some b.default)
theorem ref17_lessEntry_ok {n : Nat} {a : GEntry} {b : GEntry} {r : Bool} (H : ref17_lessEntry n a b = some r) : PureOK Tryz.prog 79 [D.ag (eGEntry a), D.ag (eGEntry b)] (D.v (.bool r)) true := by
 unfold ref17_lessEntry at H
 refine ZP tab_ok fol (rs := #[.tmp 4]) Tryz.func79 ?_
 refine ZT 1 ?_
 refine Z0 ?_
 rcases zit H with ⟨c1, H2⟩ | ⟨c1, H2⟩
 ·refine Z1 c1 ?_
  rcases zit H2 with ⟨c3, H4⟩ | ⟨c3, H4⟩
  ·refine Z1 (Y2 c1 c3) ?_
   obtain rfl := Zi H4
   exact ZE0
  ·refine Z1 (Y2 c1 c3) ?_
   obtain rfl := Zi H4
   exact ZE0
 ·refine Z1 c1 ?_
  obtain rfl := Zi H2
  exact ZE0
def ref17_masked_L2 (n : Nat) (t6 : List GEntry) (x2 : GEntry) : Nat → Int → Option (Int)
 | 0, _ => none
 | c + 1, t12 =>
  (if (decide (0 < t12)) then
   (idx t6 (IntKind.i64.wrap (t12 - 1))).bind fun x4 =>
   (ref17_lessEntry n x2 x4).bind fun t412 =>
   (if t412 then
    ref17_masked_L2 n t6 x2 c (IntKind.i64.wrap (t12 - 1))
   else
    some t12)
  else
   some t12)
def ref17_masked_L1 (n : Nat) (t0 : List GEntry) (t1 : Bool) : Nat → (List GEntry × Int × Bool × Int × Int) → Option ((List GEntry × Int × Bool × Int) ⊕ (List GEntry × Bool))
 | 0, _ => none
 | c + 1, (t6, t7, t8, t9, t10) =>
  (if (decide (t10 < (t0.length : Int))) then
   (idx t0 t10).bind fun x2 =>
   (if (x2.default == t1) then
    (
     ref17_masked_L2 n t6 x2 n (t6.length : Int) : Option (Int)).bind fun t123 =>
    (
     (if (decide (0 < t123)) then
      (idx t6 (IntKind.i64.wrap (t123 - 1))).bind fun x5 =>
      (ref17_lessEntry n x5 x2).bind fun t54 =>
      some (!t54)
     else
      some false) : Option (Bool)).bind fun t56 =>
    (if t56 then
     some (.inr ([], false))
    else
     (if (decide (t6.length = 0)) then
      (slc ([] : List GEntry) 0 t123).bind fun _ =>
      (slc ([] : List GEntry) t123 0).bind fun _ =>
      (
       (if (x2.kind == 1) then
        some true
       else
        some (x2.kind == 6)) : Option (Bool)).bind fun t762 =>
      (if t762 then
       ref17_masked_L1 n t0 t1 c ([x2], t7, t8, (IntKind.i64.wrap (t9 + 1)), (IntKind.i64.wrap (t10 + 1)))
      else
       (if (x2.kind == 3) then
        ref17_masked_L1 n t0 t1 c ([x2], (IntKind.i64.wrap ((BitVec.ofInt IntKind.i64.bits t7 ||| BitVec.ofInt IntKind.i64.bits x2.bits).toNat : Int)), t8, (IntKind.i64.wrap (t9 + 1)), (IntKind.i64.wrap (t10 + 1)))
       else
        (if (x2.kind == 5) then
         ref17_masked_L1 n t0 t1 c ([x2], t7, true, t9, (IntKind.i64.wrap (t10 + 1)))
        else
         ref17_masked_L1 n t0 t1 c ([x2], (IntKind.i64.wrap ((BitVec.ofInt IntKind.i64.bits t7 ||| BitVec.ofInt IntKind.i64.bits x2.bits).toNat : Int)), t8, t9, (IntKind.i64.wrap (t10 + 1))))))
     else
      (slc t6 0 t123).bind fun l5 =>
      (app [] l5).bind fun _ =>
      (app l5 [x2]).bind fun l7 =>
      (slc t6 t123 (t6.length : Int)).bind fun l8 =>
      (if (decide (Int.toNat t123 < t6.length)) then
       (app l7 l8).bind fun l9 =>
       (
        (if (x2.kind == 1) then
         some true
        else
         some (x2.kind == 6)) : Option (Bool)).bind fun t763 =>
       (if t763 then
        ref17_masked_L1 n t0 t1 c (l9, t7, t8, (IntKind.i64.wrap (t9 + 1)), (IntKind.i64.wrap (t10 + 1)))
       else
        (if (x2.kind == 3) then
         ref17_masked_L1 n t0 t1 c (l9, (IntKind.i64.wrap ((BitVec.ofInt IntKind.i64.bits t7 ||| BitVec.ofInt IntKind.i64.bits x2.bits).toNat : Int)), t8, (IntKind.i64.wrap (t9 + 1)), (IntKind.i64.wrap (t10 + 1)))
        else
         (if (x2.kind == 5) then
          ref17_masked_L1 n t0 t1 c (l9, t7, true, t9, (IntKind.i64.wrap (t10 + 1)))
         else
          ref17_masked_L1 n t0 t1 c (l9, (IntKind.i64.wrap ((BitVec.ofInt IntKind.i64.bits t7 ||| BitVec.ofInt IntKind.i64.bits x2.bits).toNat : Int)), t8, t9, (IntKind.i64.wrap (t10 + 1))))))
      else
       (
        (if (x2.kind == 1) then
         some true
        else
         some (x2.kind == 6)) : Option (Bool)).bind fun t764 =>
       (if t764 then
        ref17_masked_L1 n t0 t1 c (l7, t7, t8, (IntKind.i64.wrap (t9 + 1)), (IntKind.i64.wrap (t10 + 1)))
       else
        (if (x2.kind == 3) then
         ref17_masked_L1 n t0 t1 c (l7, (IntKind.i64.wrap ((BitVec.ofInt IntKind.i64.bits t7 ||| BitVec.ofInt IntKind.i64.bits x2.bits).toNat : Int)), t8, (IntKind.i64.wrap (t9 + 1)), (IntKind.i64.wrap (t10 + 1)))
        else
         (if (x2.kind == 5) then
          ref17_masked_L1 n t0 t1 c (l7, t7, true, t9, (IntKind.i64.wrap (t10 + 1)))
         else
          ref17_masked_L1 n t0 t1 c (l7, (IntKind.i64.wrap ((BitVec.ofInt IntKind.i64.bits t7 ||| BitVec.ofInt IntKind.i64.bits x2.bits).toNat : Int)), t8, t9, (IntKind.i64.wrap (t10 + 1)))))))))
   else
    ref17_masked_L1 n t0 t1 c (t6, t7, t8, t9, (IntKind.i64.wrap (t10 + 1))))
  else
   some (.inl (t6, t7, t8, t9)))
def ref17_masked (n : Nat) (t0 : List GEntry) (t1 : Bool) : Option (List GEntry × Bool) :=
 (
  ref17_masked_L1 n t0 t1 n ([], 0, false, 0, 0) : Option ((List GEntry × Int × Bool × Int) ⊕ (List GEntry × Bool))).bind fun
  | .inl (t63, t73, t83, t93) =>
   (
    (if t1 then
     some (true, ((t63.length : Int) == 0))
    else
     some (false, false)) : Option (Bool × Bool)).bind fun (t13, t96) =>
   (if t96 then
    some ([], true)
   else
    (if (t93 != 3) then
     some ([], false)
    else
     (if t83 then
      some (t63, true)
     else
      (if (decide (t63.length = 0)) then
       (slc ([] : List GEntry) 0 (IntKind.i64.wrap ((([] : List GEntry).length : Int) - 1))).bind fun _ =>
       none
      else
       (slc t63 0 (IntKind.i64.wrap ((t63.length : Int) - 1))).bind fun l11 =>
       (app [] l11).bind fun _ =>
       (idx t63 (IntKind.i64.wrap ((t63.length : Int) - 1))).bind fun x6 =>
       (app l11 [(⟨5, t13, ByteArray.empty, t73⟩ : GEntry), x6]).bind fun l13 =>
       some (l13, true)))))
  | .inr r => some r
set_option maxHeartbeats 8000000 in
theorem ref17_masked_ok {n : Nat} {t0 : List GEntry} {t1 : Bool} {r : List GEntry × Bool} (H : ref17_masked n t0 t1 = some r) : PureOK Tryz.prog 51 [D.sl (List.map eGEntry t0), D.v (.bool t1)] (D.tu [D.sl (List.map eGEntry r.1), D.v (.bool r.2)]) true := by
 unfold ref17_masked at H
 refine ZP tab_ok fol (rs := #[.tmp 4, .tmp 5]) Tryz.func51 ?_
 refine zsq (ZT 1 ?_)
 refine Z0 ?_
 refine zsq (ZT 1 ?_)
 refine Z0 ?_
 refine zsq (ZT 1 ?_)
 refine Z0 ?_
 refine zsq (zsq ?_)
 refine ZT 1 ?_
 refine Z0 ?_
 obtain ⟨e_, E1, H2⟩ := zbi H
 refine zjn (α := { y : List GEntry × Int × Bool × Int // e_ = .inl y } × Nat) (fun | ⟨⟨⟨t63, t73, t83, t93⟩, _⟩, g8⟩ => ⟨upd 1 (.v (.bool t1)) (upd 6 (accV 0 g8 (List.map eGEntry t63)) (upd 7 (.v (.int .i64 t73)) (upd 8 (.v (.bool t83)) (upd 9 (.v (.int .i64 t93)) noFr)))), upd 0 (accO 4 g8 false (List.map eGEntry t63)) noHp, 1⟩) ?_ ?_
 ·refine zbk ?_
  refine zlp (α := { q : (Nat × (List GEntry × Int × Bool × Int × Int)) × Nat // ref17_masked_L1 n t0 t1 q.1.1 q.1.2 = some e_ }) (fun | ⟨⟨⟨c, ⟨t6, t7, t8, t9, t10⟩⟩, g⟩, _⟩ => ⟨upd 0 (.d (.sl (List.map eGEntry t0)) true) (upd 1 (.v (.bool t1)) (upd 6 (accV 0 g (List.map eGEntry t6)) (upd 7 (.v (.int .i64 t7)) (upd 8 (.v (.bool t8)) (upd 9 (.v (.int .i64 t9)) (upd 10 (.v (.int .i64 t10)) noFr)))))), upd 0 (accO 4 g false (List.map eGEntry t6)) noHp, 1⟩) (fun q => q.1.1.1) ⟨((n, ([], 0, false, 0, 0)), 0), E1⟩ ?_ ?_
  ·exact ZR []
  ·rintro ⟨⟨⟨c, ⟨t6, t7, t8, t9, t10⟩⟩, g⟩, L3⟩
   rcases c with _ | c
   ·exact Zx L3
   ·unfold ref17_masked_L1 at L3
    try dsimp only at L3
    refine zsq (ZT 1 ?_)
    refine Z0 ?_
    rcases zit L3 with ⟨c48, H49⟩ | ⟨c48, H49⟩
    ·refine Z1 c48 ?_
     refine zsq (zbk ?_)
     refine zsq (ZT 1 ?_)
     obtain ⟨x2, b50, H51⟩ := zbi H49
     obtain ⟨h52, h53⟩ := zix b50
     try simp only [Int.reduceToNat, Int.toNat_natCast] at h53
     have h54 := map_at eGEntry h53
     refine Z1 (Y3 c48 (zno .i64 h52) h54) ?_
     refine zsq (ZT 1 ?_)
     refine Z1 (Y3 c48 (zno .i64 h52) h54) ?_
     rcases zit H51 with ⟨c56, H57⟩ | ⟨c56, H57⟩
     ·refine Z1 (Y4 c48 (zno .i64 h52) h54 c56) ?_
      refine zsq (ZT 1 ?_)
      refine Z1 (Y4 c48 (zno .i64 h52) h54 c56) ?_
      refine zsq ?_
      obtain ⟨e_5, E58, H59⟩ := zbi H57
      refine zjn (α := { y : Int // e_5 = y } × Nat) (fun | ⟨⟨t123, _⟩, g5⟩ => ⟨upd 0 (.d (.sl (List.map eGEntry t0)) true) (upd 1 (.v (.bool t1)) (upd 6 (accV 0 g5 (List.map eGEntry t6)) (upd 7 (.v (.int .i64 t7)) (upd 8 (.v (.bool t8)) (upd 9 (.v (.int .i64 t9)) (upd 10 (.v (.int .i64 t10)) (upd 11 (.pt 1 0) (upd 12 (.v (.int .i64 t123)) noFr)))))))), upd 0 (accO 4 g5 false (List.map eGEntry t6)) (upd 1 (some (.bx [.v (.int .i64 x2.kind), .v (.bool x2.default), .v (.string x2.name), .v (.int .i64 x2.bits)])) noHp), 2⟩) ?_ ?_
      ·refine zbk ?_
       refine zlp (α := { q : (Nat × Int) × Nat // ref17_masked_L2 n t6 x2 q.1.1 q.1.2 = some e_5 }) (fun | ⟨⟨⟨c, t12⟩, g3⟩, _⟩ => ⟨upd 0 (.d (.sl (List.map eGEntry t0)) true) (upd 1 (.v (.bool t1)) (upd 6 (accV 0 g3 (List.map eGEntry t6)) (upd 7 (.v (.int .i64 t7)) (upd 8 (.v (.bool t8)) (upd 9 (.v (.int .i64 t9)) (upd 10 (.v (.int .i64 t10)) (upd 11 (.pt 1 0) (upd 12 (.v (.int .i64 t12)) noFr)))))))), upd 0 (accO 4 g3 false (List.map eGEntry t6)) (upd 1 (some (.bx [.v (.int .i64 x2.kind), .v (.bool x2.default), .v (.string x2.name), .v (.int .i64 x2.bits)])) noHp), 2⟩) (fun q => q.1.1.1) ⟨((n, (t6.length : Int)), g), E58⟩ ?_ ?_
       ·exact ZR [(0, 0), (1, 9)]
       ·rintro ⟨⟨⟨c, t12⟩, g3⟩, L60⟩
        rcases c with _ | c
        ·exact Zx L60
        ·unfold ref17_masked_L2 at L60
         try dsimp only at L60
         refine ZT 1 ?_
         refine Z0 ?_
         rcases zit L60 with ⟨c74, H75⟩ | ⟨c74, H75⟩
         ·obtain ⟨x4, b76, H77⟩ := zbi H75
          obtain ⟨h78, h79⟩ := zix b76
          try simp only [Int.reduceToNat, Int.toNat_natCast] at h79
          have h80 := map_at eGEntry h79
          have h81 := at_lt h79
          have q82 : 0 < t6.length := by omega
          obtain ⟨t412, b83, H84⟩ := zbi H77
          refine Z1 (Y6 c74 (zno .i64 h78) h80 h81 (YV (f := eGEntry) q82) (YO (f := eGEntry) q82)) ?_
          refine ZD0 (ref17_lessEntry_ok b83) ?_
          refine Z1 (Y6 c74 (zno .i64 h78) h80 h81 (YV (f := eGEntry) q82) (YO (f := eGEntry) q82)) ?_
          refine Rd_endF (by rfl) ?_
          refine Z1 (Y6 c74 (zno .i64 h78) h80 h81 (YV (f := eGEntry) q82) (YO (f := eGEntry) q82)) ?_
          rcases zit H84 with ⟨c85, H86⟩ | ⟨c85, H86⟩
          ·refine Z1 (Y2 (Y6 c74 (zno .i64 h78) h80 h81 (YV (f := eGEntry) q82) (YO (f := eGEntry) q82)) c85) ?_
           exact ⟨⟨((c, (IntKind.i64.wrap (t12 - 1))), g3), H86⟩, ZR [(0, 0), (1, 1)], Nat.lt_succ_self _⟩
          ·refine Z1 (Y2 (Y6 c74 (zno .i64 h78) h80 h81 (YV (f := eGEntry) q82) (YO (f := eGEntry) q82)) c85) ?_
           obtain rfl := Zi H86
           exact ⟨⟨⟨t12, rfl⟩, g3⟩, ZR [(0, 0), (1, 1)]⟩
         ·refine Z1 c74 ?_
          refine Rd_endF (by rfl) ?_
          refine Z1 c74 ?_
          obtain rfl := Zi H75
          exact ⟨⟨⟨t12, rfl⟩, g3⟩, ZR [(0, 0), (1, 1)]⟩
      ·rintro ⟨⟨t123, he207⟩, g5⟩
       obtain rfl := he207.symm
       try dsimp only at H59
       refine zsq (zsq ?_)
       obtain ⟨e_6, E87, H88⟩ := zbi H59
       refine zjn (α := { y : Bool // e_6 = y } × Nat) (fun | ⟨⟨t56, _⟩, g6⟩ => ⟨upd 0 (.d (.sl (List.map eGEntry t0)) true) (upd 1 (.v (.bool t1)) (upd 6 (accV 0 g6 (List.map eGEntry t6)) (upd 7 (.v (.int .i64 t7)) (upd 8 (.v (.bool t8)) (upd 9 (.v (.int .i64 t9)) (upd 10 (.v (.int .i64 t10)) (upd 11 (.pt 1 0) (upd 12 (.v (.int .i64 t123)) (upd 56 (.v (.bool t56)) noFr))))))))), upd 0 (accO 4 g6 false (List.map eGEntry t6)) (upd 1 (some (.bx [.v (.int .i64 x2.kind), .v (.bool x2.default), .v (.string x2.name), .v (.int .i64 x2.bits)])) noHp), 2⟩) ?_ ?_
       ·refine ZT 1 ?_
        refine Z0 ?_
        rcases zit E87 with ⟨c89, H90⟩ | ⟨c89, H90⟩
        ·obtain ⟨x5, b91, H92⟩ := zbi H90
         obtain ⟨h93, h94⟩ := zix b91
         try simp only [Int.reduceToNat, Int.toNat_natCast] at h94
         have h95 := map_at eGEntry h94
         have h96 := at_lt h94
         have q97 : 0 < t6.length := by omega
         obtain ⟨t54, b98, H99⟩ := zbi H92
         refine Z1 (Y6 c89 (zno .i64 h93) h95 h96 (YV (f := eGEntry) q97) (YO (f := eGEntry) q97)) ?_
         refine ZD0 (ref17_lessEntry_ok b98) ?_
         refine Z1 (Y6 c89 (zno .i64 h93) h95 h96 (YV (f := eGEntry) q97) (YO (f := eGEntry) q97)) ?_
         refine Rd_endF (by rfl) ?_
         refine Z1 (Y6 c89 (zno .i64 h93) h95 h96 (YV (f := eGEntry) q97) (YO (f := eGEntry) q97)) ?_
         obtain rfl := Zi H99
         exact ⟨⟨⟨(!t54), rfl⟩, g5⟩, ZR [(0, 0), (1, 1)]⟩
        ·refine Z1 c89 ?_
         refine Rd_endF (by rfl) ?_
         refine Z1 c89 ?_
         obtain rfl := Zi H90
         exact ⟨⟨⟨false, rfl⟩, g5⟩, ZR [(0, 0), (1, 1)]⟩
       ·rintro ⟨⟨t56, he206⟩, g6⟩
        obtain rfl := he206.symm
        try dsimp only at H88
        refine ZT 1 ?_
        refine Z0 ?_
        rcases zit H88 with ⟨c100, H101⟩ | ⟨c100, H101⟩
        ·refine Z1 c100 ?_
         obtain rfl := Zi H101
         obtain rfl := Zi H2
         exact ZE0
        ·refine Z1 c100 ?_
         refine zsq (ZT 1 ?_)
         refine Z1 c100 ?_
         rcases zit H101 with ⟨c102, H103⟩ | ⟨c102, H103⟩
         ·have e104 : t6 = [] := List.eq_nil_of_length_eq_zero (of_decide_eq_true c102)
          subst e104
          simp only [List.map_nil, accV_nil, accO_nil]
          try simp only [accK, accB]
          obtain ⟨l3, b105, H106⟩ := zbi H103
          obtain ⟨h107, h108, h109, h110⟩ := slc_inv b105
          simp only [List.length_nil, Int.natCast_zero] at h109
          have h111 : 0 ≤ Int.toNat t123 := by first | omega | (simp only [List.length_nil, Int.natCast_zero] at *; omega)
          have h112 : Int.toNat t123 ≤ 0 := by first | omega | (simp only [List.length_nil, Int.natCast_zero] at *; omega)
          refine Z1 (Y4 c100 (zno .i64 (Int.le_trans h107 h108)) h111 h112) ?_
          refine zsq (ZT 1 ?_)
          obtain ⟨l4, b113, H114⟩ := zbi H106
          obtain ⟨h115, h116, h117, h118⟩ := slc_inv b113
          simp only [List.length_nil, Int.natCast_zero] at h117
          have h119 : Int.toNat t123 ≤ 0 := by first | omega | (simp only [List.length_nil, Int.natCast_zero] at *; omega)
          have h120 : 0 ≤ 0 := by first | omega | (simp only [List.length_nil, Int.natCast_zero] at *; omega)
          refine Z1 (Y2 (Y6 c100 (zno .i64 (Int.le_trans h107 h108)) h111 h112 (zno .i64 h115) h119) h120) ?_
          refine Rd_endF (by rfl) ?_
          refine Z1 (Y2 (Y6 c100 (zno .i64 (Int.le_trans h107 h108)) h111 h112 (zno .i64 h115) h119) h120) ?_
          refine zsq (ZT 1 ?_)
          refine Z1 (Y2 (Y6 c100 (zno .i64 (Int.le_trans h107 h108)) h111 h112 (zno .i64 h115) h119) h120) ?_
          refine zbk ?_
          refine zsq (zsq ?_)
          refine ZT 1 ?_
          refine Z1 (Y2 (Y6 c100 (zno .i64 (Int.le_trans h107 h108)) h111 h112 (zno .i64 h115) h119) h120) ?_
          obtain ⟨e_7, E121, H122⟩ := zbi H114
          refine zjn (α := { y : Bool // e_7 = y }) (fun | ⟨t762, _⟩ => ⟨upd 0 (.d (.sl (List.map eGEntry t0)) true) (upd 1 (.v (.bool t1)) (upd 6 (.so 0 3 0 1) (upd 7 (.v (.int .i64 t7)) (upd 8 (.v (.bool t8)) (upd 9 (.v (.int .i64 t9)) (upd 10 (.v (.int .i64 t10)) (upd 11 (.pt 1 0) (upd 71 (.v (.int .i64 x2.kind)) (upd 76 (.v (.bool t762)) noFr))))))))), upd 0 (some (.rw [[.v (.int .i64 x2.kind), .v (.bool x2.default), .v (.string x2.name), .v (.int .i64 x2.bits)]] 4 3 false false)) (upd 1 (some (.bx [.v (.int .i64 x2.kind), .v (.bool x2.default), .v (.string x2.name), .v (.int .i64 x2.bits)])) noHp), 2⟩) ?_ ?_
          ·refine ZT 1 ?_
           refine Z0 ?_
           rcases zit E121 with ⟨c123, H124⟩ | ⟨c123, H124⟩
           ·refine Z1 c123 ?_
            obtain rfl := Zi H124
            exact ⟨⟨true, rfl⟩, ZR [(0, 2), (1, 1)]⟩
           ·refine Z1 c123 ?_
            obtain rfl := Zi H124
            exact ⟨⟨(x2.kind == 6), rfl⟩, ZR [(0, 2), (1, 1)]⟩
          ·rintro ⟨t762, he131⟩
           obtain rfl := he131.symm
           try dsimp only at H122
           refine ZT 4 ?_
           refine Z0 ?_
           rcases zit H122 with ⟨c125, H126⟩ | ⟨c125, H126⟩
           ·refine Z1 c125 ?_
            exact ⟨⟨((c, ([x2], t7, t8, (IntKind.i64.wrap (t9 + 1)), (IntKind.i64.wrap (t10 + 1)))), 3), H126⟩, ZR [(0, 0)], Nat.lt_succ_self _⟩
           ·refine Z1 c125 ?_
            rcases zit H126 with ⟨c127, H128⟩ | ⟨c127, H128⟩
            ·refine Z1 (Y2 c125 c127) ?_
             exact ⟨⟨((c, ([x2], (IntKind.i64.wrap ((BitVec.ofInt IntKind.i64.bits t7 ||| BitVec.ofInt IntKind.i64.bits x2.bits).toNat : Int)), t8, (IntKind.i64.wrap (t9 + 1)), (IntKind.i64.wrap (t10 + 1)))), 3), H128⟩, ZR [(0, 0)], Nat.lt_succ_self _⟩
            ·refine Z1 (Y2 c125 c127) ?_
             rcases zit H128 with ⟨c129, H130⟩ | ⟨c129, H130⟩
             ·refine Z1 (Y3 c125 c127 c129) ?_
              exact ⟨⟨((c, ([x2], t7, true, t9, (IntKind.i64.wrap (t10 + 1)))), 3), H130⟩, ZR [(0, 0)], Nat.lt_succ_self _⟩
             ·refine Z1 (Y3 c125 c127 c129) ?_
              exact ⟨⟨((c, ([x2], (IntKind.i64.wrap ((BitVec.ofInt IntKind.i64.bits t7 ||| BitVec.ofInt IntKind.i64.bits x2.bits).toNat : Int)), t8, t9, (IntKind.i64.wrap (t10 + 1)))), 3), H130⟩, ZR [(0, 0)], Nat.lt_succ_self _⟩
         ·have q132 : 0 < t6.length := by have := of_decide_eq_false c102; omega
          have h133 : ∀ i, accK i (List.map eGEntry t6) = [i] := fun i => by cases hx : t6 with | nil => (rw [hx] at q132; simp at q132) | cons a r => rfl
          have h134 : ∀ b, accB b (List.map eGEntry t6) = b := fun b => by cases hx : t6 with | nil => (rw [hx] at q132; simp at q132) | cons a r => rfl
          obtain ⟨l5, b135, H136⟩ := zbi H103
          obtain ⟨h137, h138, h139, h140⟩ := slc_inv b135
          have h141 : 0 ≤ Int.toNat t123 := by omega
          have h142 : Int.toNat t123 ≤ t6.length := by omega
          have h144 : Int.toNat t123 - 0 = l5.length := by rw [h140]; simp; try omega
          have h143 : List.take l5.length (List.map eGEntry t6) = List.map eGEntry l5 := part_ini eGEntry h140
          try simp only [Int.toNat_natCast] at h141 h142 h143 h144
          obtain ⟨l6, b145, H146⟩ := zbi H136
          obtain ⟨h147, h148⟩ := app_inv b145
          have h148 : l5 = l6 := h148
          subst h148
          have h147 : l5.length ≤ 4294967296 := by have := h147; simpa using this
          refine Z1 (Y3 (Y6 c100 c102 h133 h134 q132 (YV (f := eGEntry) q132)) (Y6 (YO (f := eGEntry) q132) (zno .i64 (Int.le_trans h137 h138)) h141 h142 h144 h143) (Y2 (chk_map (n := 4) (f := eGEntry) (fun _ => rfl) l5) h147)) ?_
          refine zsq (ZT 1 ?_)
          obtain ⟨l7, b151, H152⟩ := zbi H146
          obtain ⟨h153, h154⟩ := app_inv b151
          have h153 : l5.length + 1 ≤ 4294967296 := h153
          have h155 : List.map eGEntry l5 ++ [[.v (.int .i64 x2.kind), .v (.bool x2.default), .v (.string x2.name), .v (.int .i64 x2.bits)]] = List.map eGEntry l7 := app_map eGEntry h154
          have h156 : l5.length + 1 = l7.length := app_len h154
          have h157 : l7.length ≤ 4294967296 := by omega
          have q158 : 0 < l7.length := by omega
          obtain ⟨l8, b159, H160⟩ := zbi H152
          obtain ⟨h161, h162, h163, h164⟩ := slc_inv b159
          have h165 : Int.toNat t123 ≤ t6.length := by omega
          have h166 : t6.length ≤ t6.length := by omega
          simp only [Int.toNat_natCast, List.take_length] at h164
          have h168 : t6.length - Int.toNat t123 = l8.length := by rw [h164]; simp; try omega
          have h167 : List.take l8.length (List.drop (Int.toNat t123) (List.map eGEntry t6)) = List.map eGEntry l8 := part_all eGEntry h164
          try simp only [Int.toNat_natCast] at h165 h166 h167 h168
          refine Z1 (Y4 (Y6 c100 c102 h133 h134 q132 (YV (f := eGEntry) q132)) (Y6 (YO (f := eGEntry) q132) (zno .i64 (Int.le_trans h137 h138)) h141 h142 h144 h143) (Y6 (chk_map (n := 4) (f := eGEntry) (fun _ => rfl) l5) h147 h153 h155 h156 h157) (Y5 (zno .i64 h161) h165 h166 h168 h167)) ?_
          rcases zit H160 with ⟨c169, H170⟩ | ⟨c169, H170⟩
          ·have h171 : Int.toNat t123 < t6.length := of_decide_eq_true c169
           obtain ⟨l9, b172, H173⟩ := zbi H170
           obtain ⟨h174, h175⟩ := app_inv b172
           have h174 : l7.length + l8.length ≤ 4294967296 := h174
           have h176 : List.map eGEntry l7 ++ List.map eGEntry l8 = List.map eGEntry l9 := app_map eGEntry h175
           have h177 : l7.length + l8.length = l9.length := app_len h175
           have h178 : l9.length ≤ 4294967296 := by omega
           have q179 : 0 < l9.length := by omega
           refine Z1 (Y5 (Y6 c100 c102 h133 h134 q132 (YV (f := eGEntry) q132)) (Y6 (YO (f := eGEntry) q132) (zno .i64 (Int.le_trans h137 h138)) h141 h142 h144 h143) (Y6 (chk_map (n := 4) (f := eGEntry) (fun _ => rfl) l5) h147 h153 h155 h156 h157) (Y6 (zno .i64 h161) h165 h166 h168 h167 h171) (Y5 (chk_map (n := 4) (f := eGEntry) (fun _ => rfl) l8) h174 h176 h177 h178)) ?_
           refine Rd_endF (by rfl) ?_
           refine Z1 (Y5 (Y6 c100 c102 h133 h134 q132 (YV (f := eGEntry) q132)) (Y6 (YO (f := eGEntry) q132) (zno .i64 (Int.le_trans h137 h138)) h141 h142 h144 h143) (Y6 (chk_map (n := 4) (f := eGEntry) (fun _ => rfl) l5) h147 h153 h155 h156 h157) (Y6 (zno .i64 h161) h165 h166 h168 h167 h171) (Y5 (chk_map (n := 4) (f := eGEntry) (fun _ => rfl) l8) h174 h176 h177 h178)) ?_
           refine zsq (ZT 1 ?_)
           refine Z1 (Y5 (Y6 c100 c102 h133 h134 q132 (YV (f := eGEntry) q132)) (Y6 (YO (f := eGEntry) q132) (zno .i64 (Int.le_trans h137 h138)) h141 h142 h144 h143) (Y6 (chk_map (n := 4) (f := eGEntry) (fun _ => rfl) l5) h147 h153 h155 h156 h157) (Y6 (zno .i64 h161) h165 h166 h168 h167 h171) (Y5 (chk_map (n := 4) (f := eGEntry) (fun _ => rfl) l8) h174 h176 h177 h178)) ?_
           refine zbk ?_
           refine zsq (zsq ?_)
           refine ZT 1 ?_
           refine Z1 (Y5 (Y6 c100 c102 h133 h134 q132 (YV (f := eGEntry) q132)) (Y6 (YO (f := eGEntry) q132) (zno .i64 (Int.le_trans h137 h138)) h141 h142 h144 h143) (Y6 (chk_map (n := 4) (f := eGEntry) (fun _ => rfl) l5) h147 h153 h155 h156 h157) (Y6 (zno .i64 h161) h165 h166 h168 h167 h171) (Y5 (chk_map (n := 4) (f := eGEntry) (fun _ => rfl) l8) h174 h176 h177 h178)) ?_
           obtain ⟨e_8, E180, H181⟩ := zbi H173
           refine zjn (α := { y : Bool // e_8 = y }) (fun | ⟨t763, _⟩ => ⟨upd 0 (.d (.sl (List.map eGEntry t0)) true) (upd 1 (.v (.bool t1)) (upd 6 (.so 0 3 0 (l9.length)) (upd 7 (.v (.int .i64 t7)) (upd 8 (.v (.bool t8)) (upd 9 (.v (.int .i64 t9)) (upd 10 (.v (.int .i64 t10)) (upd 11 (.pt 1 0) (upd 71 (.v (.int .i64 x2.kind)) (upd 76 (.v (.bool t763)) noFr))))))))), upd 0 (some (.rw (List.map eGEntry l9) 4 3 false false)) (upd 1 (some (.bx [.v (.int .i64 x2.kind), .v (.bool x2.default), .v (.string x2.name), .v (.int .i64 x2.bits)])) noHp), 2⟩) ?_ ?_
           ·refine ZT 1 ?_
            refine Z0 ?_
            rcases zit E180 with ⟨c182, H183⟩ | ⟨c182, H183⟩
            ·refine Z1 c182 ?_
             obtain rfl := Zi H183
             exact ⟨⟨true, rfl⟩, ZR [(0, 2), (1, 1)]⟩
            ·refine Z1 c182 ?_
             obtain rfl := Zi H183
             exact ⟨⟨(x2.kind == 6), rfl⟩, ZR [(0, 2), (1, 1)]⟩
           ·rintro ⟨t763, he190⟩
            obtain rfl := he190.symm
            try dsimp only at H181
            refine ZT 4 ?_
            refine Z0 ?_
            rcases zit H181 with ⟨c184, H185⟩ | ⟨c184, H185⟩
            ·refine Z1 c184 ?_
             exact ⟨⟨((c, (l9, t7, t8, (IntKind.i64.wrap (t9 + 1)), (IntKind.i64.wrap (t10 + 1)))), 3), H185⟩, ZR [(0, 0)], Nat.lt_succ_self _⟩
            ·refine Z1 c184 ?_
             rcases zit H185 with ⟨c186, H187⟩ | ⟨c186, H187⟩
             ·refine Z1 (Y2 c184 c186) ?_
              exact ⟨⟨((c, (l9, (IntKind.i64.wrap ((BitVec.ofInt IntKind.i64.bits t7 ||| BitVec.ofInt IntKind.i64.bits x2.bits).toNat : Int)), t8, (IntKind.i64.wrap (t9 + 1)), (IntKind.i64.wrap (t10 + 1)))), 3), H187⟩, ZR [(0, 0)], Nat.lt_succ_self _⟩
             ·refine Z1 (Y2 c184 c186) ?_
              rcases zit H187 with ⟨c188, H189⟩ | ⟨c188, H189⟩
              ·refine Z1 (Y3 c184 c186 c188) ?_
               exact ⟨⟨((c, (l9, t7, true, t9, (IntKind.i64.wrap (t10 + 1)))), 3), H189⟩, ZR [(0, 0)], Nat.lt_succ_self _⟩
              ·refine Z1 (Y3 c184 c186 c188) ?_
               exact ⟨⟨((c, (l9, (IntKind.i64.wrap ((BitVec.ofInt IntKind.i64.bits t7 ||| BitVec.ofInt IntKind.i64.bits x2.bits).toNat : Int)), t8, t9, (IntKind.i64.wrap (t10 + 1)))), 3), H189⟩, ZR [(0, 0)], Nat.lt_succ_self _⟩
          ·have h191 : ¬ Int.toNat t123 < t6.length := of_decide_eq_false c169
           have h192 : l8 = [] := List.eq_nil_of_length_eq_zero (by omega)
           have h193 : ¬ Int.toNat t123 = 0 := by omega
           have h194 : l7.length ≤ 4294967296 := by omega
           try simp -implicitDefEqProofs only [go_sem, Bool.false_and, Nat.reduceLT, Nat.reduceEqDiff, Nat.reduceAdd, Nat.reduceLeDiff, ↓reduceIte, h157, h191, or_false, h193, Nat.add_zero, List.append_nil]
           refine Rd_endF (by rfl) ?_
           try simp -implicitDefEqProofs only [go_sem]
           refine zsq (ZT 1 ?_)
           try simp -implicitDefEqProofs only [go_sem, Nat.reduceEqDiff, Nat.reduceAdd, reduceCtorEq, ↓reduceIte, List.take_succ_cons, List.take_zero, Nat.zero_add, Nat.add_zero]
           refine zbk ?_
           refine zsq (zsq ?_)
           refine ZT 1 ?_
           try simp -implicitDefEqProofs only [go_sem, Nat.reduceAdd, ↓reduceIte, List.take_succ_cons, List.take_zero, Nat.zero_add]
           obtain ⟨e_9, E195, H196⟩ := zbi H170
           refine zjn (α := { y : Bool // e_9 = y }) (fun | ⟨t764, _⟩ => ⟨upd 0 (.d (.sl (List.map eGEntry t0)) true) (upd 1 (.v (.bool t1)) (upd 6 (.so 0 3 0 (l7.length)) (upd 7 (.v (.int .i64 t7)) (upd 8 (.v (.bool t8)) (upd 9 (.v (.int .i64 t9)) (upd 10 (.v (.int .i64 t10)) (upd 11 (.pt 1 0) (upd 71 (.v (.int .i64 x2.kind)) (upd 76 (.v (.bool t764)) noFr))))))))), upd 0 (some (.rw (List.map eGEntry l7) 4 3 false false)) (upd 1 (some (.bx [.v (.int .i64 x2.kind), .v (.bool x2.default), .v (.string x2.name), .v (.int .i64 x2.bits)])) noHp), 2⟩) ?_ ?_
           ·refine ZT 1 ?_
            refine Z0 ?_
            rcases zit E195 with ⟨c197, H198⟩ | ⟨c197, H198⟩
            ·refine Z1 c197 ?_
             obtain rfl := Zi H198
             exact ⟨⟨true, rfl⟩, ZR [(0, 2), (1, 1)]⟩
            ·refine Z1 c197 ?_
             obtain rfl := Zi H198
             exact ⟨⟨(x2.kind == 6), rfl⟩, ZR [(0, 2), (1, 1)]⟩
           ·rintro ⟨t764, he205⟩
            obtain rfl := he205.symm
            try dsimp only at H196
            refine ZT 4 ?_
            refine Z0 ?_
            rcases zit H196 with ⟨c199, H200⟩ | ⟨c199, H200⟩
            ·refine Z1 c199 ?_
             exact ⟨⟨((c, (l7, t7, t8, (IntKind.i64.wrap (t9 + 1)), (IntKind.i64.wrap (t10 + 1)))), 3), H200⟩, ZR [(0, 0)], Nat.lt_succ_self _⟩
            ·refine Z1 c199 ?_
             rcases zit H200 with ⟨c201, H202⟩ | ⟨c201, H202⟩
             ·refine Z1 (Y2 c199 c201) ?_
              exact ⟨⟨((c, (l7, (IntKind.i64.wrap ((BitVec.ofInt IntKind.i64.bits t7 ||| BitVec.ofInt IntKind.i64.bits x2.bits).toNat : Int)), t8, (IntKind.i64.wrap (t9 + 1)), (IntKind.i64.wrap (t10 + 1)))), 3), H202⟩, ZR [(0, 0)], Nat.lt_succ_self _⟩
             ·refine Z1 (Y2 c199 c201) ?_
              rcases zit H202 with ⟨c203, H204⟩ | ⟨c203, H204⟩
              ·refine Z1 (Y3 c199 c201 c203) ?_
               exact ⟨⟨((c, (l7, t7, true, t9, (IntKind.i64.wrap (t10 + 1)))), 3), H204⟩, ZR [(0, 0)], Nat.lt_succ_self _⟩
              ·refine Z1 (Y3 c199 c201 c203) ?_
               exact ⟨⟨((c, (l7, (IntKind.i64.wrap ((BitVec.ofInt IntKind.i64.bits t7 ||| BitVec.ofInt IntKind.i64.bits x2.bits).toNat : Int)), t8, t9, (IntKind.i64.wrap (t10 + 1)))), 3), H204⟩, ZR [(0, 0)], Nat.lt_succ_self _⟩
     ·refine Z1 (Y4 c48 (zno .i64 h52) h54 c56) ?_
      refine ZT 1 ?_
      refine Z1 (Y4 c48 (zno .i64 h52) h54 c56) ?_
      exact ⟨⟨((c, (t6, t7, t8, t9, (IntKind.i64.wrap (t10 + 1)))), g), H57⟩, ZR [(0, 0)], Nat.lt_succ_self _⟩
    ·refine Z1 c48 ?_
     obtain rfl := Zi H49
     exact ⟨⟨⟨(t6, t7, t8, t9), rfl⟩, g⟩, ZR [(0, 0)]⟩
 ·rintro ⟨⟨⟨t63, t73, t83, t93⟩, he263⟩, g8⟩
  obtain rfl := he263.symm
  try dsimp only at H2
  refine zsq (zsq ?_)
  obtain ⟨e_10, E208, H209⟩ := zbi H2
  refine zjn (α := { y : Bool × Bool // e_10 = y } × Nat) (fun | ⟨⟨⟨t13, t96⟩, _⟩, g9⟩ => ⟨upd 1 (.v (.bool t13)) (upd 6 (accV 0 g9 (List.map eGEntry t63)) (upd 7 (.v (.int .i64 t73)) (upd 8 (.v (.bool t83)) (upd 9 (.v (.int .i64 t93)) (upd 96 (.v (.bool t96)) noFr))))), upd 0 (accO 4 g9 false (List.map eGEntry t63)) noHp, 1⟩) ?_ ?_
  ·refine ZT 1 ?_
   refine Z0 ?_
   rcases zit E208 with ⟨c210, H211⟩ | ⟨c210, H211⟩
   ·refine Z1 c210 ?_
    obtain rfl := Zi H211
    exact ⟨⟨⟨(true, ((t63.length : Int) == 0)), rfl⟩, g8⟩, ZR [(0, 0)]⟩
   ·refine Z1 c210 ?_
    obtain rfl := Zi H211
    exact ⟨⟨⟨(false, false), rfl⟩, g8⟩, ZR [(0, 0)]⟩
  ·rintro ⟨⟨⟨t13, t96⟩, he262⟩, g9⟩
   obtain rfl := he262.symm
   try dsimp only at H209
   refine ZT 2 ?_
   refine Z0 ?_
   rcases zit H209 with ⟨c212, H213⟩ | ⟨c212, H213⟩
   ·refine Z1 c212 ?_
    obtain rfl := Zi H213
    exact ZE0
   ·refine Z1 c212 ?_
    rcases zit H213 with ⟨c214, H215⟩ | ⟨c214, H215⟩
    ·refine Z1 (Y2 c212 c214) ?_
     obtain rfl := Zi H215
     exact ZE0
    ·refine Z1 (Y2 c212 c214) ?_
     rcases zit H215 with ⟨c216, H217⟩ | ⟨c216, H217⟩
     ·refine Z1 (Y3 c212 c214 c216) ?_
      obtain rfl := Zi H217
      exact ZE1 (Y3 c212 c214 c216)
     ·refine Z1 (Y3 c212 c214 c216) ?_
      rcases zit H217 with ⟨c218, H219⟩ | ⟨c218, H219⟩
      ·have e220 : t63 = [] := List.eq_nil_of_length_eq_zero (of_decide_eq_true c218)
       subst e220
       simp only [List.map_nil, accV_nil, accO_nil]
       try simp only [accK, accB]
       obtain ⟨l10, b221, H222⟩ := zbi H219
       obtain ⟨h223, h224, h225, h226⟩ := slc_inv b221
       simp only [List.length_nil, Int.natCast_zero] at h225
       have h227 : 0 ≤ Int.toNat (IntKind.i64.wrap ((([] : List GEntry).length : Int) - 1)) := by first | omega | (simp only [List.length_nil, Int.natCast_zero] at *; omega)
       have h228 : Int.toNat (IntKind.i64.wrap ((([] : List GEntry).length : Int) - 1)) ≤ 0 := by first | omega | (simp only [List.length_nil, Int.natCast_zero] at *; omega)
       cases H222
      ·have q229 : 0 < t63.length := by have := of_decide_eq_false c218; omega
       have h230 : ∀ i, accK i (List.map eGEntry t63) = [i] := fun i => by cases hx : t63 with | nil => (rw [hx] at q229; simp at q229) | cons a r => rfl
       have h231 : ∀ b, accB b (List.map eGEntry t63) = b := fun b => by cases hx : t63 with | nil => (rw [hx] at q229; simp at q229) | cons a r => rfl
       obtain ⟨l11, b232, H233⟩ := zbi H219
       obtain ⟨h234, h235, h236, h237⟩ := slc_inv b232
       have h238 : 0 ≤ Int.toNat (IntKind.i64.wrap ((t63.length : Int) - 1)) := by omega
       have h239 : Int.toNat (IntKind.i64.wrap ((t63.length : Int) - 1)) ≤ t63.length := by omega
       have h241 : Int.toNat (IntKind.i64.wrap ((t63.length : Int) - 1)) - 0 = l11.length := by rw [h237]; simp; try omega
       have h240 : List.take l11.length (List.map eGEntry t63) = List.map eGEntry l11 := part_ini eGEntry h237
       try simp only [Int.toNat_natCast] at h238 h239 h240 h241
       obtain ⟨l12, b242, H243⟩ := zbi H233
       obtain ⟨h244, h245⟩ := app_inv b242
       have h245 : l11 = l12 := h245
       subst h245
       have h244 : l11.length ≤ 4294967296 := by have := h244; simpa using this
       obtain ⟨x6, b248, H249⟩ := zbi H243
       obtain ⟨h250, h251⟩ := zix b248
       try simp only [Int.reduceToNat, Int.toNat_natCast] at h251
       have h252 := map_at eGEntry h251
       have h253 := at_lt h251
       obtain ⟨l13, b254, H255⟩ := zbi H249
       obtain ⟨h256, h257⟩ := app_inv b254
       have h256 : l11.length + 2 ≤ 4294967296 := h256
       have h258 : List.map eGEntry l11 ++ [[.v (.int .i64 5), .v (.bool t13), .v (.string ByteArray.empty), .v (.int .i64 t73)], [.v (.int .i64 x6.kind), .v (.bool x6.default), .v (.string x6.name), .v (.int .i64 x6.bits)]] = List.map eGEntry l13 := app_map eGEntry h257
       have h259 : l11.length + 2 = l13.length := app_len h257
       have h260 : l13.length ≤ 4294967296 := by omega
       have q261 : 0 < l13.length := by omega
       refine Z1 (Y4 (Y6 c212 c214 c216 c218 h230 h231) (Y6 q229 (YV (f := eGEntry) q229) (YO (f := eGEntry) q229) (zno .i64 (Int.le_trans h234 h235)) h238 h239) (Y6 h241 h240 (chk_map (n := 4) (f := eGEntry) (fun _ => rfl) l11) h244 (zno .i64 h250) h252) (Y5 h253 h256 h258 h259 h260)) ?_
       obtain rfl := Zi H255
       exact ZE1 (Y4 (Y6 c212 c214 c216 c218 h230 h231) (Y6 q229 (YV (f := eGEntry) q229) (YO (f := eGEntry) q229) (zno .i64 (Int.le_trans h234 h235)) h238 h239) (Y6 h241 h240 (chk_map (n := 4) (f := eGEntry) (fun _ => rfl) l11) h244 (zno .i64 h250) h252) (Y5 h253 h256 h258 h259 h260))
def ref17_Acl_L1 (n : Nat) (l : List GEntry) : Nat → Int → Option ((Unit) ⊕ (List GEntry × Bool))
 | 0, _ => none
 | c + 1, i =>
  (if (decide (i < (l.length : Int))) then
   (idx l i).bind fun x2 =>
   (ref17_entryText n x2).bind fun t222 =>
   (if t222.2 then
    ref17_Acl_L1 n l c (IntKind.i64.wrap (i + 1))
   else
    some (.inr ([], false)))
  else
   some (.inl ()))
def ref17_Acl (n : Nat) (l : List GEntry) : Option (List GEntry × Bool) :=
 (
  ref17_Acl_L1 n l n 0 : Option ((Unit) ⊕ (List GEntry × Bool))).bind fun
  | .inl _ =>
   (ref17_masked n l false).bind fun t29 =>
   (ref17_masked n l true).bind fun t34 =>
   (if t29.2 then
    (if t34.2 then
     (if (decide (100 < (IntKind.i64.wrap ((t29.1.length : Int) + (t34.1.length : Int))))) then
      some ([], false)
     else
      (app [] t29.1).bind fun _ =>
      (app t29.1 t34.1).bind fun l3 =>
      some (l3, true))
    else
     some ([], false))
   else
    some ([], false))
  | .inr r => some r
theorem ref17_Acl_ok {n : Nat} {l : List GEntry} {r : List GEntry × Bool} (H : ref17_Acl n l = some r) : PureOK Tryz.prog 21 [D.sl (List.map eGEntry l)] (D.tu [D.sl (List.map eGEntry r.1), D.v (.bool r.2)]) true := by
 unfold ref17_Acl at H
 refine ZP tab_ok fol (rs := #[.tmp 2, .tmp 3]) Tryz.func21 ?_
 refine zsq (ZT 1 ?_)
 refine Z0 ?_
 refine zsq (zsq ?_)
 refine ZT 1 ?_
 refine Z0 ?_
 obtain ⟨e_, E1, H2⟩ := zbi H
 refine zjn (α := { y : Unit // e_ = .inl y }) (fun | ⟨_, _⟩ => ⟨upd 0 (.d (.sl (List.map eGEntry l)) true) noFr, noHp, 0⟩) ?_ ?_
 ·refine zbk ?_
  refine zlp (α := { q : Nat × Int // ref17_Acl_L1 n l q.1 q.2 = some e_ }) (fun | ⟨⟨c, i⟩, _⟩ => ⟨upd 0 (.d (.sl (List.map eGEntry l)) true) (upd 4 (.v (.int .i64 i)) noFr), noHp, 0⟩) (fun q => q.1.1) ⟨(n, 0), E1⟩ ?_ ?_
  ·exact ZR []
  ·rintro ⟨⟨c, i⟩, L3⟩
   rcases c with _ | c
   ·exact Zx L3
   ·unfold ref17_Acl_L1 at L3
    try dsimp only at L3
    refine ZT 1 ?_
    refine Z0 ?_
    rcases zit L3 with ⟨c16, H17⟩ | ⟨c16, H17⟩
    ·obtain ⟨x2, b18, H19⟩ := zbi H17
     obtain ⟨h20, h21⟩ := zix b18
     try simp only [Int.reduceToNat, Int.toNat_natCast] at h21
     have h22 := map_at eGEntry h21
     obtain ⟨t222, b24, H25⟩ := zbi H19
     refine Z1 (Y3 c16 (zno .i64 h20) h22) ?_
     refine ZC0 (ref17_entryText_ok b24) ?_
     refine Z1 (Y3 c16 (zno .i64 h20) h22) ?_
     rcases zit H25 with ⟨c26, H27⟩ | ⟨c26, H27⟩
     ·refine Z1 (Y4 c16 (zno .i64 h20) h22 c26) ?_
      exact ⟨⟨(c, (IntKind.i64.wrap (i + 1))), H27⟩, ZR [], Nat.lt_succ_self _⟩
     ·refine Z1 (Y4 c16 (zno .i64 h20) h22 c26) ?_
      obtain rfl := Zi H27
      obtain rfl := Zi H2
      exact ZE0
    ·refine Z1 c16 ?_
     obtain rfl := Zi H17
     exact ⟨⟨(), rfl⟩, ZR []⟩
 ·rintro ⟨_, he51⟩
  obtain rfl := he51.symm
  try dsimp only at H2
  refine ZT 1 ?_
  obtain ⟨t29, b28, H29⟩ := zbi H2
  refine Z0 ?_
  refine ZC0 (ref17_masked_ok b28) ?_
  obtain ⟨t34, b30, H31⟩ := zbi H29
  refine Z0 ?_
  refine ZC0 (ref17_masked_ok b30) ?_
  refine Z0 ?_
  rcases zit H31 with ⟨c32, H33⟩ | ⟨c32, H33⟩
  ·refine Z1 c32 ?_
   rcases zit H33 with ⟨c34, H35⟩ | ⟨c34, H35⟩
   ·refine Z1 (Y2 c32 c34) ?_
    rcases zit H35 with ⟨c36, H37⟩ | ⟨c36, H37⟩
    ·refine Z1 (Y3 c32 c34 c36) ?_
     obtain rfl := Zi H37
     exact ZE0
    ·obtain ⟨l2, b38, H39⟩ := zbi H37
     obtain ⟨h40, h41⟩ := app_inv b38
     have h41 : t29.1 = l2 := h41
     subst h41
     have h40 : t29.1.length ≤ 4294967296 := by have := h40; simpa using this
     obtain ⟨l3, b44, H45⟩ := zbi H39
     obtain ⟨h46, h47⟩ := app_inv b44
     have h46 : t29.1.length + t34.1.length ≤ 4294967296 := h46
     have h48 : List.map eGEntry t29.1 ++ List.map eGEntry t34.1 = List.map eGEntry l3 := app_map eGEntry h47
     have h49 : t29.1.length + t34.1.length = l3.length := app_len h47
     have h50 : l3.length ≤ 4294967296 := by omega
     refine Z1 (Y2 (Y6 c32 c34 c36 (chk_map (n := 4) (f := eGEntry) (fun _ => rfl) t29.1) h40 (chk_map (n := 4) (f := eGEntry) (fun _ => rfl) t34.1)) (Y4 h46 h48 h49 h50)) ?_
     obtain rfl := Zi H45
     exact ZE1 (Y2 (Y6 c32 c34 c36 (chk_map (n := 4) (f := eGEntry) (fun _ => rfl) t29.1) h40 (chk_map (n := 4) (f := eGEntry) (fun _ => rfl) t34.1)) (Y4 h46 h48 h49 h50))
   ·refine Z1 (Y2 c32 c34) ?_
    obtain rfl := Zi H35
    exact ZE0
  ·refine Z1 c32 ?_
   obtain rfl := Zi H33
   exact ZE0
def ref17_item (_ : Nat) (f : GFile) : Option Bool :=
 some (decide (3 ≤ f.kind))
theorem ref17_item_ok {n : Nat} {f : GFile} {r : Bool} (H : ref17_item n f = some r) : PureOK Tryz.prog 53 [D.ag (eGFile f)] (D.v (.bool r)) true := by
 unfold ref17_item at H
 refine ZP tab_ok fol (rs := #[.tmp 2]) Tryz.func53 ?_
 refine ZT 1 ?_
 refine Z0 ?_
 obtain rfl := Zi H
 exact ZE0
def ref17_SameAcl_L1 (n : Nat) (a : List GEntry) (b : List GEntry) : Nat → Int → Option ((Unit) ⊕ Bool)
 | 0, _ => none
 | c + 1, i =>
  (if (decide (i < (a.length : Int))) then
   (idx a i).bind fun x3 =>
   (idx b i).bind fun x4 =>
   (if ((x3.kind == x4.kind) && ((x3.default == x4.default) && ((x3.name == x4.name) && (x3.bits == x4.bits)))) then
    ref17_SameAcl_L1 n a b c (IntKind.i64.wrap (i + 1))
   else
    some (.inr false))
  else
   some (.inl ()))
def ref17_SameAcl (n : Nat) (a : List GEntry) (b : List GEntry) : Option Bool :=
 (if ((a.length : Int) != (b.length : Int)) then
  some false
 else
  (
   ref17_SameAcl_L1 n a b n 0 : Option ((Unit) ⊕ Bool)).bind fun
   | .inl _ =>
    some true
   | .inr r => some r)
theorem ref17_SameAcl_ok {n : Nat} {a : List GEntry} {b : List GEntry} {r : Bool} (H : ref17_SameAcl n a b = some r) : PureOK Tryz.prog 22 [D.sl (List.map eGEntry a), D.sl (List.map eGEntry b)] (D.v (.bool r)) true := by
 unfold ref17_SameAcl at H
 refine ZP tab_ok fol (rs := #[.tmp 4]) Tryz.func22 ?_
 refine zsq (ZT 1 ?_)
 refine Z0 ?_
 refine zsq (ZT 1 ?_)
 refine Z0 ?_
 rcases zit H with ⟨c1, H2⟩ | ⟨c1, H2⟩
 ·refine Z1 c1 ?_
  obtain rfl := Zi H2
  exact ZE0
 ·refine Z1 c1 ?_
  refine zsq (zsq ?_)
  refine ZT 1 ?_
  refine Z1 c1 ?_
  obtain ⟨e_, E3, H4⟩ := zbi H2
  refine zjn (α := { y : Unit // e_ = .inl y }) (fun | ⟨_, _⟩ => ⟨noFr, noHp, 0⟩) ?_ ?_
  ·refine zbk ?_
   refine zlp (α := { q : Nat × Int // ref17_SameAcl_L1 n a b q.1 q.2 = some e_ }) (fun | ⟨⟨c, i⟩, _⟩ => ⟨upd 0 (.d (.sl (List.map eGEntry a)) true) (upd 1 (.d (.sl (List.map eGEntry b)) true) (upd 5 (.v (.int .i64 i)) noFr)), noHp, 0⟩) (fun q => q.1.1) ⟨(n, 0), E3⟩ ?_ ?_
   ·exact ZR []
   ·rintro ⟨⟨c, i⟩, L5⟩
    rcases c with _ | c
    ·exact Zx L5
    ·unfold ref17_SameAcl_L1 at L5
     try dsimp only at L5
     refine ZT 1 ?_
     refine Z0 ?_
     rcases zit L5 with ⟨c22, H23⟩ | ⟨c22, H23⟩
     ·obtain ⟨x3, b24, H25⟩ := zbi H23
      obtain ⟨h26, h27⟩ := zix b24
      try simp only [Int.reduceToNat, Int.toNat_natCast] at h27
      have h28 := map_at eGEntry h27
      obtain ⟨x4, b30, H31⟩ := zbi H25
      obtain ⟨h32, h33⟩ := zix b30
      try simp only [Int.reduceToNat, Int.toNat_natCast] at h33
      have h34 := map_at eGEntry h33
      refine Z1 (Y5 c22 (zno .i64 h26) h28 (zno .i64 h32) h34) ?_
      refine Rd_endF (by rfl) ?_
      refine Z1 (Y5 c22 (zno .i64 h26) h28 (zno .i64 h32) h34) ?_
      rcases zit H31 with ⟨c36, H37⟩ | ⟨c36, H37⟩
      ·refine Z1 (Y6 c22 (zno .i64 h26) h28 (zno .i64 h32) h34 c36) ?_
       exact ⟨⟨(c, (IntKind.i64.wrap (i + 1))), H37⟩, ZR [], Nat.lt_succ_self _⟩
      ·refine Z1 (Y6 c22 (zno .i64 h26) h28 (zno .i64 h32) h34 c36) ?_
       obtain rfl := Zi H37
       obtain rfl := Zi H4
       exact ZE0
     ·refine Z1 c22 ?_
      obtain rfl := Zi H23
      exact ⟨⟨(), rfl⟩, ZR []⟩
  ·rintro ⟨_, he38⟩
   obtain rfl := he38.symm
   try dsimp only at H4
   refine ZT 1 ?_
   refine Z0 ?_
   obtain rfl := Zi H4
   exact ZE0
end Go.Proofs.YtgmhbmcdlkajdaaGreatDoor.Ab
