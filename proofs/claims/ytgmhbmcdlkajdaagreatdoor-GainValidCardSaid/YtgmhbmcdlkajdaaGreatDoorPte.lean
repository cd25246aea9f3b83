/-
 Functions, read off the code.
-/
import Derived.Test.YtgmhbmcdlkajdaaGreatDoorPtd
namespace Go.Proofs.YtgmhbmcdlkajdaaGreatDoor.Ab
open Go.RowKit
def strings_Split (n : Nat) (s : ByteArray) (sep : ByteArray) : Option (List ByteArray) :=
 (strings_genSplit n s sep 0 (-1)).bind fun t7 =>
 some t7
theorem strings_Split_ok {n : Nat} {s : ByteArray} {sep : ByteArray} {r : List ByteArray} (H : strings_Split n s sep = some r) : PureOK Tryz.prog 71 [D.v (.string s), D.v (.string sep)] (D.sl (List.map eS r)) true := by
 unfold strings_Split at H
 refine ZP tab_ok fol (rs := #[.tmp 4]) Tryz.func71 ?_
 refine ZT 1 ?_
 obtain ⟨t7, b1, H2⟩ := zbi H
 refine Z0 ?_
 refine ZC0 (strings_genSplit_ok b1) ?_
 refine Z0 ?_
 obtain rfl := Zi H2
 exact ZE0
def acls_Path_c1 (n : Nat) (p : ByteArray) : Option Bool :=
 (atom_Name n p).bind fun t4 =>
 some (!t4)
theorem acls_Path_c1_ok {n : Nat} {p : ByteArray} {r : Bool} (H : acls_Path_c1 n p = some r) : PureOK Tryz.prog 73 [D.v (.string p)] (D.v (.bool r)) true := by
 unfold acls_Path_c1 at H
 refine ZP tab_ok fol (rs := #[.tmp 2]) Tryz.func73 ?_
 refine ZT 1 ?_
 obtain ⟨t4, b1, H2⟩ := zbi H
 refine Z0 ?_
 refine ZC0 (atom_Name_ok b1) ?_
 refine Z0 ?_
 obtain rfl := Zi H2
 exact ZE0
def slices_IndexFunc_string__acls_Path_c1_L1 (n : Nat) (s : List ByteArray) : Nat → Int → Option ((Unit) ⊕ Int)
 | 0, _ => none
 | c + 1, t8 =>
  (if (decide (t8 < (s.length : Int))) then
   (idx s t8).bind fun x2 =>
   (acls_Path_c1 n x2).bind fun t162 =>
   (if t162 then
    some (.inr t8)
   else
    slices_IndexFunc_string__acls_Path_c1_L1 n s c (IntKind.i64.wrap (t8 + 1)))
  else
   some (.inl ()))
def slices_IndexFunc_string__acls_Path_c1 (n : Nat) (s : List ByteArray) : Option Int :=
 (
  slices_IndexFunc_string__acls_Path_c1_L1 n s n 0 : Option ((Unit) ⊕ Int)).bind fun
  | .inl _ =>
   some (-1)
  | .inr r => some r
theorem slices_IndexFunc_string__acls_Path_c1_ok {n : Nat} {s : List ByteArray} {r : Int} (H : slices_IndexFunc_string__acls_Path_c1 n s = some r) : PureA Tryz.prog 98 [.d (D.sl (List.map eS s)), .fn 73 []] (D.v (.int .i64 r)) true := by
 unfold slices_IndexFunc_string__acls_Path_c1 at H
 refine ZPA tab_ok fol (rs := #[.tmp 4]) Tryz.func98 ?_
 refine zsq (ZT 1 ?_)
 refine Z0 ?_
 refine zsq (zsq ?_)
 refine ZT 1 ?_
 refine Z0 ?_
 obtain ⟨e_, E1, H2⟩ := zbi H
 refine zjn (α := { y : Unit // e_ = .inl y }) (fun | ⟨_, _⟩ => ⟨noFr, noHp, 0⟩) ?_ ?_
 ·refine zbk ?_
  refine zlp (α := { q : Nat × Int // slices_IndexFunc_string__acls_Path_c1_L1 n s q.1 q.2 = some e_ }) (fun | ⟨⟨c, t8⟩, _⟩ => ⟨upd 0 (.d (.sl (List.map eS s)) true) (upd 1 (.fn 73 []) (upd 7 (.v (.int .i64 (s.length : Int))) (upd 8 (.v (.int .i64 t8)) noFr))), noHp, 0⟩) (fun q => q.1.1) ⟨(n, 0), E1⟩ ?_ ?_
  ·exact ZR []
  ·rintro ⟨⟨c, t8⟩, L3⟩
   rcases c with _ | c
   ·exact Zx L3
   ·unfold slices_IndexFunc_string__acls_Path_c1_L1 at L3
    try dsimp only at L3
    refine ZT 1 ?_
    refine Z0 ?_
    rcases zit L3 with ⟨c16, H17⟩ | ⟨c16, H17⟩
    ·obtain ⟨x2, b18, H19⟩ := zbi H17
     obtain ⟨h20, h21⟩ := zix b18
     try simp only [Int.reduceToNat, Int.toNat_natCast] at h21
     have h22 := map_at eS h21
     obtain ⟨t162, b24, H25⟩ := zbi H19
     refine Z1 (Y3 c16 (zno .i64 h20) h22) ?_
     refine ZC0 (acls_Path_c1_ok b24) ?_
     refine Z1 (Y3 c16 (zno .i64 h20) h22) ?_
     rcases zit H25 with ⟨c26, H27⟩ | ⟨c26, H27⟩
     ·refine Z1 (Y4 c16 (zno .i64 h20) h22 c26) ?_
      obtain rfl := Zi H27
      obtain rfl := Zi H2
      exact ZE0
     ·refine Z1 (Y4 c16 (zno .i64 h20) h22 c26) ?_
      exact ⟨⟨(c, (IntKind.i64.wrap (t8 + 1))), H27⟩, ZR [], Nat.lt_succ_self _⟩
    ·refine Z1 c16 ?_
     obtain rfl := Zi H17
     exact ⟨⟨(), rfl⟩, ZR []⟩
 ·rintro ⟨_, he28⟩
  obtain rfl := he28.symm
  try dsimp only at H2
  refine ZT 1 ?_
  refine Z0 ?_
  obtain rfl := Zi H2
  exact ZE0
def slices_ContainsFunc_string__acls_Path_c1 (n : Nat) (s : List ByteArray) : Option Bool :=
 (slices_IndexFunc_string__acls_Path_c1 n s).bind fun t7 =>
 some (decide (0 ≤ t7))
theorem slices_ContainsFunc_string__acls_Path_c1_ok {n : Nat} {s : List ByteArray} {r : Bool} (H : slices_ContainsFunc_string__acls_Path_c1 n s = some r) : PureA Tryz.prog 72 [.d (D.sl (List.map eS s)), .fn 73 []] (D.v (.bool r)) true := by
 unfold slices_ContainsFunc_string__acls_Path_c1 at H
 refine ZPA tab_ok fol (rs := #[.tmp 4]) Tryz.func72 ?_
 refine ZT 1 ?_
 obtain ⟨t7, b1, H2⟩ := zbi H
 refine Z0 ?_
 refine ZA0 (slices_IndexFunc_string__acls_Path_c1_ok b1) ?_
 refine Z0 ?_
 obtain rfl := Zi H2
 exact ZE0
def acls_Path (n : Nat) (s : ByteArray) : Option Bool :=
 (if (s.toList == ({ data := #[47] } : ByteArray).toList) then
  some true
 else
  (strings_Split n s ({ data := #[47] })).bind fun t7 =>
  (if (decide (200 < (s.size : Int))) then
   some false
  else
   (if (decide ((t7.length : Int) < 2)) then
    some false
   else
    (if (decide (21 < (t7.length : Int))) then
     some false
    else
     (idx t7 0).bind fun x =>
     (if (x.toList == ({ data := #[] } : ByteArray).toList) then
      (slc t7 1 ((List.length t7) : Int)).bind fun l =>
      (slices_ContainsFunc_string__acls_Path_c1 n l).bind fun t29 =>
      some (!t29)
     else
      some false)))))
theorem acls_Path_ok {n : Nat} {s : ByteArray} {r : Bool} (H : acls_Path n s = some r) : PureOK Tryz.prog 42 [D.v (.string s)] (D.v (.bool r)) true := by
 unfold acls_Path at H
 refine ZP tab_ok fol (rs := #[.tmp 2]) Tryz.func42 ?_
 refine ZT 1 ?_
 refine Z0 ?_
 rcases zit H with ⟨c1, H2⟩ | ⟨c1, H2⟩
 ·refine Z1 c1 ?_
  obtain rfl := Zi H2
  exact ZE0
 ·obtain ⟨t7, b3, H4⟩ := zbi H2
  refine Z1 c1 ?_
  refine ZC0 (strings_Split_ok b3) ?_
  refine Z1 c1 ?_
  rcases zit H4 with ⟨c5, H6⟩ | ⟨c5, H6⟩
  ·refine Z1 (Y2 c1 c5) ?_
   obtain rfl := Zi H6
   exact ZE0
  ·refine Z1 (Y2 c1 c5) ?_
   rcases zit H6 with ⟨c7, H8⟩ | ⟨c7, H8⟩
   ·refine Z1 (Y3 c1 c5 c7) ?_
    obtain rfl := Zi H8
    exact ZE0
   ·refine Z1 (Y3 c1 c5 c7) ?_
    rcases zit H8 with ⟨c9, H10⟩ | ⟨c9, H10⟩
    ·refine Z1 (Y4 c1 c5 c7 c9) ?_
     obtain rfl := Zi H10
     exact ZE0
    ·obtain ⟨x, b11, H12⟩ := zbi H10
     obtain ⟨h13, h14⟩ := zix b11
     try simp only [Int.reduceToNat] at h14
     have h15 := map_at eS h14
     refine Z1 (Y6 c1 c5 c7 c9 (zno .i64 h13) h15) ?_
     rcases zit H12 with ⟨c17, H18⟩ | ⟨c17, H18⟩
     ·obtain ⟨l, b19, H20⟩ := zbi H18
      obtain ⟨h21, h22, h23, h24⟩ := slc_inv b19
      have h25 : 1 ≤ (List.length t7) := by omega
      have h26 : (List.length t7) ≤ (List.length t7) := by omega
      have h27 : List.drop (1) (List.map eS t7) = List.map eS l := by rw [h24]; simp []
      try simp only [Int.toNat_natCast] at h25 h26 h27
      obtain ⟨t29, b28, H29⟩ := zbi H20
      refine Z1 (Y2 (Y6 c1 c5 c7 c9 (zno .i64 h13) h15) (Y6 c17 (zno .i64 h21) h25 h26 h27 (chk_map (n := 1) (f := eS) (fun _ => rfl) t7))) ?_
      refine ZA0 (slices_ContainsFunc_string__acls_Path_c1_ok b28) ?_
      refine Z1 (Y2 (Y6 c1 c5 c7 c9 (zno .i64 h13) h15) (Y6 c17 (zno .i64 h21) h25 h26 h27 (chk_map (n := 1) (f := eS) (fun _ => rfl) t7))) ?_
      obtain rfl := Zi H29
      exact ZE0
     ·refine Z1 (Y2 (Y6 c1 c5 c7 c9 (zno .i64 h13) h15) c17) ?_
      obtain rfl := Zi H18
      exact ZE0
def bytealg_LastIndexByteString_L1 (n : Nat) (s : ByteArray) (c2 : Int) : Nat → Int → Option ((Unit) ⊕ Int)
 | 0, _ => none
 | c + 1, i =>
  (if (decide (0 ≤ i)) then
   (bidx s i).bind fun ch2 =>
   (if (ch2 == c2) then
    some (.inr i)
   else
    bytealg_LastIndexByteString_L1 n s c2 c (IntKind.i64.wrap (i - 1)))
  else
   some (.inl ()))
def bytealg_LastIndexByteString (n : Nat) (s : ByteArray) (c2 : Int) : Option Int :=
 (
  bytealg_LastIndexByteString_L1 n s c2 n (IntKind.i64.wrap ((s.size : Int) - 1)) : Option ((Unit) ⊕ Int)).bind fun
  | .inl _ =>
   some (-1)
  | .inr r => some r
theorem bytealg_LastIndexByteString_ok {n : Nat} {s : ByteArray} {c2 : Int} {r : Int} (H : bytealg_LastIndexByteString n s c2 = some r) : PureOK Tryz.prog 94 [D.v (.string s), D.v (.int .u8 c2)] (D.v (.int .i64 r)) true := by
 unfold bytealg_LastIndexByteString at H
 refine ZP tab_ok fol (rs := #[.tmp 4]) Tryz.func94 ?_
 refine zsq (ZT 1 ?_)
 refine Z0 ?_
 refine zsq (zsq ?_)
 refine ZT 1 ?_
 refine Z0 ?_
 obtain ⟨e_, E1, H2⟩ := zbi H
 refine zjn (α := { y : Unit // e_ = .inl y }) (fun | ⟨_, _⟩ => ⟨noFr, noHp, 0⟩) ?_ ?_
 ·refine zbk ?_
  refine zlp (α := { q : Nat × Int // bytealg_LastIndexByteString_L1 n s c2 q.1 q.2 = some e_ }) (fun | ⟨⟨c, i⟩, _⟩ => ⟨upd 0 (.v (.string s)) (upd 1 (.v (.int .u8 c2)) (upd 5 (.v (.int .i64 i)) noFr)), noHp, 0⟩) (fun q => q.1.1) ⟨(n, (IntKind.i64.wrap ((s.size : Int) - 1))), E1⟩ ?_ ?_
  ·exact ZR []
  ·rintro ⟨⟨c, i⟩, L3⟩
   rcases c with _ | c
   ·exact Zx L3
   ·unfold bytealg_LastIndexByteString_L1 at L3
    try dsimp only at L3
    refine ZT 1 ?_
    refine Z0 ?_
    rcases zit L3 with ⟨c13, H14⟩ | ⟨c13, H14⟩
    ·obtain ⟨ch2, b15, H16⟩ := zbi H14
     obtain ⟨h17, by_2, h18, h19⟩ := zbx b15
     try simp only [Int.reduceToNat, Int.toNat_natCast] at h18
     refine Z1 (Y4 c13 (zno .i64 h17) h18 h19.symm) ?_
     rcases zit H16 with ⟨c20, H21⟩ | ⟨c20, H21⟩
     ·refine Z1 (Y5 c13 (zno .i64 h17) h18 h19.symm c20) ?_
      obtain rfl := Zi H21
      obtain rfl := Zi H2
      exact ZE0
     ·refine Z1 (Y5 c13 (zno .i64 h17) h18 h19.symm c20) ?_
      exact ⟨⟨(c, (IntKind.i64.wrap (i - 1))), H21⟩, ZR [], Nat.lt_succ_self _⟩
    ·refine Z1 c13 ?_
     obtain rfl := Zi H14
     exact ⟨⟨(), rfl⟩, ZR []⟩
 ·rintro ⟨_, he22⟩
  obtain rfl := he22.symm
  try dsimp only at H2
  refine ZT 1 ?_
  refine Z0 ?_
  obtain rfl := Zi H2
  exact ZE0
def bytealg_hashStrRev_string_L1 (n : Nat) (sep : ByteArray) : Nat → (Int × Int) → Option (Int)
 | 0, _ => none
 | c + 1, (hash, i) =>
  (if (decide (0 ≤ i)) then
   (bidx sep i).bind fun ch2 =>
   bytealg_hashStrRev_string_L1 n sep c ((IntKind.u32.wrap ((IntKind.u32.wrap (hash * 16777619)) + (IntKind.u32.wrap ch2))), (IntKind.i64.wrap (i - 1)))
  else
   some hash)
def bytealg_hashStrRev_string_L2 (n : Nat) : Nat → (Int × Int × Int) → Option (Int)
 | 0, _ => none
 | c + 1, (pow, sq, i3) =>
  (if (decide (0 < i3)) then
   (if ((IntKind.i64.wrap (an i3 1 : Int)) != 0) then
    bytealg_hashStrRev_string_L2 n c ((IntKind.u32.wrap (pow * sq)), (IntKind.u32.wrap (sq * sq)), (sh i3 1))
   else
    bytealg_hashStrRev_string_L2 n c (pow, (IntKind.u32.wrap (sq * sq)), (sh i3 1)))
  else
   some pow)
def bytealg_hashStrRev_string (n : Nat) (sep : ByteArray) : Option (Int × Int) :=
 (
  bytealg_hashStrRev_string_L1 n sep n (0, (IntKind.i64.wrap ((sep.size : Int) - 1))) : Option (Int)).bind fun hash3 =>
 (
  bytealg_hashStrRev_string_L2 n n (1, 16777619, (sep.size : Int)) : Option (Int)).bind fun pow3 =>
 some (hash3, pow3)
theorem bytealg_hashStrRev_string_ok {n : Nat} {sep : ByteArray} {r : Int × Int} (H : bytealg_hashStrRev_string n sep = some r) : PureOK Tryz.prog 115 [D.v (.string sep)] (D.tu [D.v (.int .u32 r.1), D.v (.int .u32 r.2)]) true := by
 unfold bytealg_hashStrRev_string at H
 refine ZP tab_ok fol (rs := #[.tmp 2, .tmp 3]) Tryz.func115 ?_
 refine zsq (ZT 1 ?_)
 refine Z0 ?_
 refine zsq (ZT 1 ?_)
 refine Z0 ?_
 refine zsq (zsq ?_)
 refine ZT 1 ?_
 refine Z0 ?_
 obtain ⟨e_, E1, H2⟩ := zbi H
 refine zjn (α := { y : Int // e_ = y }) (fun | ⟨hash3, _⟩ => ⟨upd 0 (.v (.string sep)) (upd 4 (.v (.int .u32 hash3)) noFr), noHp, 0⟩) ?_ ?_
 ·refine zbk ?_
  refine zlp (α := { q : Nat × (Int × Int) // bytealg_hashStrRev_string_L1 n sep q.1 q.2 = some e_ }) (fun | ⟨⟨c, ⟨hash, i⟩⟩, _⟩ => ⟨upd 0 (.v (.string sep)) (upd 4 (.v (.int .u32 hash)) (upd 5 (.v (.int .i64 i)) noFr)), noHp, 0⟩) (fun q => q.1.1) ⟨(n, (0, (IntKind.i64.wrap ((sep.size : Int) - 1)))), E1⟩ ?_ ?_
  ·exact ZR []
  ·rintro ⟨⟨c, ⟨hash, i⟩⟩, L3⟩
   rcases c with _ | c
   ·exact Zx L3
   ·unfold bytealg_hashStrRev_string_L1 at L3
    try dsimp only at L3
    refine ZT 1 ?_
    refine Z0 ?_
    rcases zit L3 with ⟨c11, H12⟩ | ⟨c11, H12⟩
    ·obtain ⟨ch2, b13, H14⟩ := zbi H12
     obtain ⟨h15, by_2, h16, h17⟩ := zbx b13
     try simp only [Int.reduceToNat, Int.toNat_natCast] at h16
     refine Z1 (Y4 c11 (zno .i64 h15) h16 h17.symm) ?_
     exact ⟨⟨(c, ((IntKind.u32.wrap ((IntKind.u32.wrap (hash * 16777619)) + (IntKind.u32.wrap ch2))), (IntKind.i64.wrap (i - 1)))), H14⟩, ZR [], Nat.lt_succ_self _⟩
    ·refine Z1 c11 ?_
     obtain rfl := Zi H12
     exact ⟨⟨hash, rfl⟩, ZR []⟩
 ·rintro ⟨hash3, he30⟩
  obtain rfl := he30.symm
  try dsimp only at H2
  refine zsq (ZT 1 ?_)
  refine Z0 ?_
  refine zsq (zsq ?_)
  refine ZT 1 ?_
  refine Z0 ?_
  obtain ⟨e_2, E18, H19⟩ := zbi H2
  refine zjn (α := { y : Int // e_2 = y }) (fun | ⟨pow3, _⟩ => ⟨upd 4 (.v (.int .u32 hash3)) (upd 6 (.v (.int .u32 pow3)) noFr), noHp, 0⟩) ?_ ?_
  ·refine zbk ?_
   refine zlp (α := { q : Nat × (Int × Int × Int) // bytealg_hashStrRev_string_L2 n q.1 q.2 = some e_2 }) (fun | ⟨⟨c, ⟨pow, sq, i3⟩⟩, _⟩ => ⟨upd 4 (.v (.int .u32 hash3)) (upd 6 (.v (.int .u32 pow)) (upd 7 (.v (.int .u32 sq)) (upd 8 (.v (.int .i64 i3)) noFr))), noHp, 0⟩) (fun q => q.1.1) ⟨(n, (1, 16777619, (sep.size : Int))), E18⟩ ?_ ?_
   ·exact ZR []
   ·rintro ⟨⟨c, ⟨pow, sq, i3⟩⟩, L20⟩
    rcases c with _ | c
    ·exact Zx L20
    ·unfold bytealg_hashStrRev_string_L2 at L20
     try dsimp only at L20
     refine ZT 1 ?_
     refine Z0 ?_
     rcases zit L20 with ⟨c25, H26⟩ | ⟨c25, H26⟩
     ·refine Z1 c25 ?_
      rcases zit H26 with ⟨c27, H28⟩ | ⟨c27, H28⟩
      ·refine Z1 (Y2 c25 c27) ?_
       exact ⟨⟨(c, ((IntKind.u32.wrap (pow * sq)), (IntKind.u32.wrap (sq * sq)), (sh i3 1))), H28⟩, ZR [], Nat.lt_succ_self _⟩
      ·refine Z1 (Y2 c25 c27) ?_
       exact ⟨⟨(c, (pow, (IntKind.u32.wrap (sq * sq)), (sh i3 1))), H28⟩, ZR [], Nat.lt_succ_self _⟩
     ·refine Z1 c25 ?_
      obtain rfl := Zi H26
      exact ⟨⟨pow, rfl⟩, ZR []⟩
  ·rintro ⟨pow3, he29⟩
   obtain rfl := he29.symm
   try dsimp only at H19
   refine ZT 1 ?_
   refine Z0 ?_
   obtain rfl := Zi H19
   exact ZE0
def bytealg_LastIndexRabinKarp_string_L1 (n : Nat) (t0 : ByteArray) (t1 : ByteArray) : Nat → (Int × Int) → Option (Int)
 | 0, _ => none
 | c + 1, (t9, t10) =>
  (if (decide ((IntKind.i64.wrap ((t0.size : Int) - (t1.size : Int))) ≤ t10)) then
   (bidx t0 t10).bind fun ch2 =>
   bytealg_LastIndexRabinKarp_string_L1 n t0 t1 c ((IntKind.u32.wrap ((IntKind.u32.wrap (t9 * 16777619)) + (IntKind.u32.wrap ch2))), (IntKind.i64.wrap (t10 - 1)))
  else
   some t9)
def bytealg_LastIndexRabinKarp_string_L2 (n : Nat) (t0 : ByteArray) (t1 : ByteArray) (t14 : Int × Int) : Nat → (Int × Int) → Option ((Unit) ⊕ Int)
 | 0, _ => none
 | c + 1, (t94, t11) =>
  (if (decide (0 ≤ t11)) then
   (bidx t0 t11).bind fun ch5 =>
   (bidx t0 (IntKind.i64.wrap (t11 + (t1.size : Int)))).bind fun ch6 =>
   (if ((IntKind.u32.wrap ((IntKind.u32.wrap ((IntKind.u32.wrap (t94 * 16777619)) + (IntKind.u32.wrap ch5))) - (IntKind.u32.wrap (t14.2 * (IntKind.u32.wrap ch6))))) == t14.1) then
    (bslc t0 t11 (IntKind.i64.wrap (t11 + (t1.size : Int)))).bind fun s3 =>
    (if (s3.toList == t1.toList) then
     some (.inr t11)
    else
     bytealg_LastIndexRabinKarp_string_L2 n t0 t1 t14 c ((IntKind.u32.wrap ((IntKind.u32.wrap ((IntKind.u32.wrap (t94 * 16777619)) + (IntKind.u32.wrap ch5))) - (IntKind.u32.wrap (t14.2 * (IntKind.u32.wrap ch6))))), (IntKind.i64.wrap (t11 - 1))))
   else
    bytealg_LastIndexRabinKarp_string_L2 n t0 t1 t14 c ((IntKind.u32.wrap ((IntKind.u32.wrap ((IntKind.u32.wrap (t94 * 16777619)) + (IntKind.u32.wrap ch5))) - (IntKind.u32.wrap (t14.2 * (IntKind.u32.wrap ch6))))), (IntKind.i64.wrap (t11 - 1))))
  else
   some (.inl ()))
def bytealg_LastIndexRabinKarp_string (n : Nat) (t0 : ByteArray) (t1 : ByteArray) : Option Int :=
 (bytealg_hashStrRev_string n t1).bind fun t14 =>
 (
  bytealg_LastIndexRabinKarp_string_L1 n t0 t1 n (0, (IntKind.i64.wrap ((t0.size : Int) - 1))) : Option (Int)).bind fun t93 =>
 (
  (if (t93 == t14.1) then
   (bslc t0 (IntKind.i64.wrap ((t0.size : Int) - (t1.size : Int))) (t0.size : Int)).bind fun s =>
   some (s.toList == t1.toList)
  else
   some false) : Option (Bool)).bind fun t47 =>
 (if t47 then
  some (IntKind.i64.wrap ((t0.size : Int) - (t1.size : Int)))
 else
  (
   bytealg_LastIndexRabinKarp_string_L2 n t0 t1 t14 n (t93, (IntKind.i64.wrap ((IntKind.i64.wrap ((t0.size : Int) - (t1.size : Int))) - 1))) : Option ((Unit) ⊕ Int)).bind fun
   | .inl _ =>
    some (-1)
   | .inr r => some r)
theorem bytealg_LastIndexRabinKarp_string_ok {n : Nat} {t0 : ByteArray} {t1 : ByteArray} {r : Int} (H : bytealg_LastIndexRabinKarp_string n t0 t1 = some r) : PureOK Tryz.prog 95 [D.v (.string t0), D.v (.string t1)] (D.v (.int .i64 r)) true := by
 unfold bytealg_LastIndexRabinKarp_string at H
 refine ZP tab_ok fol (rs := #[.tmp 4]) Tryz.func95 ?_
 refine zsq (ZT 1 ?_)
 refine Z0 ?_
 refine zsq (ZT 1 ?_)
 obtain ⟨t14, b1, H2⟩ := zbi H
 refine Z0 ?_
 refine ZC0 (bytealg_hashStrRev_string_ok b1) ?_
 refine Z0 ?_
 refine zsq (ZT 1 ?_)
 refine Z0 ?_
 refine zsq (ZT 1 ?_)
 refine Z0 ?_
 refine zsq (ZT 1 ?_)
 refine Z0 ?_
 refine zsq (zsq ?_)
 refine ZT 1 ?_
 refine Z0 ?_
 obtain ⟨e_, E3, H4⟩ := zbi H2
 refine zjn (α := { y : Int // e_ = y }) (fun | ⟨t93, _⟩ => ⟨upd 0 (.v (.string t0)) (upd 1 (.v (.string t1)) (upd 5 (.v (.int .u32 t14.1)) (upd 6 (.v (.int .u32 t14.2)) (upd 7 (.v (.int .i64 (t1.size : Int))) (upd 8 (.v (.int .i64 (IntKind.i64.wrap ((t0.size : Int) - (t1.size : Int))))) (upd 9 (.v (.int .u32 t93)) noFr)))))), noHp, 0⟩) ?_ ?_
 ·refine zbk ?_
  refine zlp (α := { q : Nat × (Int × Int) // bytealg_LastIndexRabinKarp_string_L1 n t0 t1 q.1 q.2 = some e_ }) (fun | ⟨⟨c, ⟨t9, t10⟩⟩, _⟩ => ⟨upd 0 (.v (.string t0)) (upd 1 (.v (.string t1)) (upd 5 (.v (.int .u32 t14.1)) (upd 6 (.v (.int .u32 t14.2)) (upd 7 (.v (.int .i64 (t1.size : Int))) (upd 8 (.v (.int .i64 (IntKind.i64.wrap ((t0.size : Int) - (t1.size : Int))))) (upd 9 (.v (.int .u32 t9)) (upd 10 (.v (.int .i64 t10)) noFr))))))), noHp, 0⟩) (fun q => q.1.1) ⟨(n, (0, (IntKind.i64.wrap ((t0.size : Int) - 1)))), E3⟩ ?_ ?_
  ·exact ZR []
  ·rintro ⟨⟨c, ⟨t9, t10⟩⟩, L5⟩
   rcases c with _ | c
   ·exact Zx L5
   ·unfold bytealg_LastIndexRabinKarp_string_L1 at L5
    try dsimp only at L5
    refine ZT 1 ?_
    refine Z0 ?_
    rcases zit L5 with ⟨c13, H14⟩ | ⟨c13, H14⟩
    ·obtain ⟨ch2, b15, H16⟩ := zbi H14
     obtain ⟨h17, by_2, h18, h19⟩ := zbx b15
     try simp only [Int.reduceToNat, Int.toNat_natCast] at h18
     refine Z1 (Y4 c13 (zno .i64 h17) h18 h19.symm) ?_
     exact ⟨⟨(c, ((IntKind.u32.wrap ((IntKind.u32.wrap (t9 * 16777619)) + (IntKind.u32.wrap ch2))), (IntKind.i64.wrap (t10 - 1)))), H16⟩, ZR [], Nat.lt_succ_self _⟩
    ·refine Z1 c13 ?_
     obtain rfl := Zi H14
     exact ⟨⟨t9, rfl⟩, ZR []⟩
 ·rintro ⟨t93, he90⟩
  obtain rfl := he90.symm
  try dsimp only at H4
  refine zsq (zsq ?_)
  obtain ⟨e_2, E20, H21⟩ := zbi H4
  refine zjn (α := { y : Bool // e_2 = y }) (fun | ⟨t47, _⟩ => ⟨upd 0 (.v (.string t0)) (upd 1 (.v (.string t1)) (upd 5 (.v (.int .u32 t14.1)) (upd 6 (.v (.int .u32 t14.2)) (upd 7 (.v (.int .i64 (t1.size : Int))) (upd 8 (.v (.int .i64 (IntKind.i64.wrap ((t0.size : Int) - (t1.size : Int))))) (upd 9 (.v (.int .u32 t93)) (upd 47 (.v (.bool t47)) noFr))))))), noHp, 0⟩) ?_ ?_
  ·refine ZT 1 ?_
   refine Z0 ?_
   rcases zit E20 with ⟨c22, H23⟩ | ⟨c22, H23⟩
   ·obtain ⟨s, b24, H25⟩ := zbi H23
    obtain ⟨h26, h27, h28, h29⟩ := zbs b24
    have h30 : Int.toNat (IntKind.i64.wrap ((t0.size : Int) - (t1.size : Int))) ≤ t0.size := by omega
    have h31 : t0.size ≤ t0.size := by omega
    have h32 : ByteArray.extract t0 (Int.toNat (IntKind.i64.wrap ((t0.size : Int) - (t1.size : Int)))) (t0.size) = s := h29.symm
    try simp only [Int.toNat_natCast] at h30 h31 h32
    refine Z1 (Y5 c22 (zno .i64 h26) h30 h31 h32) ?_
    obtain rfl := Zi H25
    exact ⟨⟨(s.toList == t1.toList), rfl⟩, ZR []⟩
   ·refine Z1 c22 ?_
    obtain rfl := Zi H23
    exact ⟨⟨false, rfl⟩, ZR []⟩
  ·rintro ⟨t47, he89⟩
   obtain rfl := he89.symm
   try dsimp only at H21
   refine ZT 1 ?_
   refine Z0 ?_
   rcases zit H21 with ⟨c33, H34⟩ | ⟨c33, H34⟩
   ·refine Z1 c33 ?_
    obtain rfl := Zi H34
    exact ZE0
   ·refine Z1 c33 ?_
    refine zsq (zsq ?_)
    refine ZT 1 ?_
    refine Z1 c33 ?_
    obtain ⟨e_3, E35, H36⟩ := zbi H34
    refine zjn (α := { y : Unit // e_3 = .inl y }) (fun | ⟨_, _⟩ => ⟨noFr, noHp, 0⟩) ?_ ?_
    ·refine zbk ?_
     refine zlp (α := { q : Nat × (Int × Int) // bytealg_LastIndexRabinKarp_string_L2 n t0 t1 t14 q.1 q.2 = some e_3 }) (fun | ⟨⟨c, ⟨t94, t11⟩⟩, _⟩ => ⟨upd 0 (.v (.string t0)) (upd 1 (.v (.string t1)) (upd 5 (.v (.int .u32 t14.1)) (upd 6 (.v (.int .u32 t14.2)) (upd 7 (.v (.int .i64 (t1.size : Int))) (upd 9 (.v (.int .u32 t94)) (upd 11 (.v (.int .i64 t11)) noFr)))))), noHp, 0⟩) (fun q => q.1.1) ⟨(n, (t93, (IntKind.i64.wrap ((IntKind.i64.wrap ((t0.size : Int) - (t1.size : Int))) - 1)))), E35⟩ ?_ ?_
     ·exact ZR []
     ·rintro ⟨⟨c, ⟨t94, t11⟩⟩, L37⟩
      rcases c with _ | c
      ·exact Zx L37
      ·unfold bytealg_LastIndexRabinKarp_string_L2 at L37
       try dsimp only at L37
       refine ZT 1 ?_
       refine Z0 ?_
       rcases zit L37 with ⟨c63, H64⟩ | ⟨c63, H64⟩
       ·obtain ⟨ch5, b65, H66⟩ := zbi H64
        obtain ⟨h67, by_5, h68, h69⟩ := zbx b65
        try simp only [Int.reduceToNat, Int.toNat_natCast] at h68
        obtain ⟨ch6, b70, H71⟩ := zbi H66
        obtain ⟨h72, by_6, h73, h74⟩ := zbx b70
        try simp only [Int.reduceToNat, Int.toNat_natCast] at h73
        refine Z1 (Y2 (Y6 c63 (zno .i64 h67) h68 h69.symm (zno .i64 h72) h73) h74.symm) ?_
        rcases zit H71 with ⟨c75, H76⟩ | ⟨c75, H76⟩
        ·obtain ⟨s3, b77, H78⟩ := zbi H76
         obtain ⟨h79, h80, h81, h82⟩ := zbs b77
         have h83 : Int.toNat t11 ≤ Int.toNat (IntKind.i64.wrap (t11 + (t1.size : Int))) := by omega
         have h84 : Int.toNat (IntKind.i64.wrap (t11 + (t1.size : Int))) ≤ t0.size := by omega
         have h85 : ByteArray.extract t0 (Int.toNat t11) (Int.toNat (IntKind.i64.wrap (t11 + (t1.size : Int)))) = s3 := h82.symm
         try simp only [Int.toNat_natCast] at h83 h84 h85
         refine Z1 (Y3 (Y6 c63 (zno .i64 h67) h68 h69.symm (zno .i64 h72) h73) (Y6 h74.symm c75 (zno .i64 h79) (zno .i64 (Int.le_trans h79 h80)) h83 h84) h85) ?_
         rcases zit H78 with ⟨c86, H87⟩ | ⟨c86, H87⟩
         ·refine Z1 (Y3 (Y6 c63 (zno .i64 h67) h68 h69.symm (zno .i64 h72) h73) (Y6 h74.symm c75 (zno .i64 h79) (zno .i64 (Int.le_trans h79 h80)) h83 h84) (Y2 h85 c86)) ?_
          obtain rfl := Zi H87
          obtain rfl := Zi H36
          exact ZE0
         ·refine Z1 (Y3 (Y6 c63 (zno .i64 h67) h68 h69.symm (zno .i64 h72) h73) (Y6 h74.symm c75 (zno .i64 h79) (zno .i64 (Int.le_trans h79 h80)) h83 h84) (Y2 h85 c86)) ?_
          exact ⟨⟨(c, ((IntKind.u32.wrap ((IntKind.u32.wrap ((IntKind.u32.wrap (t94 * 16777619)) + (IntKind.u32.wrap ch5))) - (IntKind.u32.wrap (t14.2 * (IntKind.u32.wrap ch6))))), (IntKind.i64.wrap (t11 - 1)))), H87⟩, ZR [], Nat.lt_succ_self _⟩
        ·refine Z1 (Y2 (Y6 c63 (zno .i64 h67) h68 h69.symm (zno .i64 h72) h73) (Y2 h74.symm c75)) ?_
         exact ⟨⟨(c, ((IntKind.u32.wrap ((IntKind.u32.wrap ((IntKind.u32.wrap (t94 * 16777619)) + (IntKind.u32.wrap ch5))) - (IntKind.u32.wrap (t14.2 * (IntKind.u32.wrap ch6))))), (IntKind.i64.wrap (t11 - 1)))), H76⟩, ZR [], Nat.lt_succ_self _⟩
       ·refine Z1 c63 ?_
        obtain rfl := Zi H64
        exact ⟨⟨(), rfl⟩, ZR []⟩
    ·rintro ⟨_, he88⟩
     obtain rfl := he88.symm
     try dsimp only at H36
     refine ZT 1 ?_
     refine Z0 ?_
     obtain rfl := Zi H36
     exact ZE0
def strings_LastIndex (n : Nat) (s : ByteArray) (substr : ByteArray) : Option Int :=
 (if ((substr.size : Int) == 0) then
  some (s.size : Int)
 else
  (if ((substr.size : Int) == 1) then
   (bidx substr 0).bind fun ch =>
   (bytealg_LastIndexByteString n s ch).bind fun t19 =>
   some t19
  else
   (if ((substr.size : Int) == (s.size : Int)) then
    (if (substr.toList == s.toList) then
     some 0
    else
     some (-1))
   else
    (if (decide ((s.size : Int) < (substr.size : Int))) then
     some (-1)
    else
     (bytealg_LastIndexRabinKarp_string n s substr).bind fun t35 =>
     some t35))))
theorem strings_LastIndex_ok {n : Nat} {s : ByteArray} {substr : ByteArray} {r : Int} (H : strings_LastIndex n s substr = some r) : PureOK Tryz.prog 68 [D.v (.string s), D.v (.string substr)] (D.v (.int .i64 r)) true := by
 unfold strings_LastIndex at H
 refine ZP tab_ok fol (rs := #[.tmp 4]) Tryz.func68 ?_
 refine ZT 1 ?_
 refine Z0 ?_
 rcases zit H with ⟨c1, H2⟩ | ⟨c1, H2⟩
 ·refine Z1 c1 ?_
  obtain rfl := Zi H2
  exact ZE0
 ·refine Z1 c1 ?_
  rcases zit H2 with ⟨c3, H4⟩ | ⟨c3, H4⟩
  ·obtain ⟨ch, b5, H6⟩ := zbi H4
   obtain ⟨h7, by_, h8, h9⟩ := zbx b5
   try simp only [Int.reduceToNat] at h8
   obtain ⟨t19, b10, H11⟩ := zbi H6
   refine Z1 (Y5 c1 c3 (zno .i64 h7) h8 h9.symm) ?_
   refine ZC0 (bytealg_LastIndexByteString_ok b10) ?_
   refine Z1 (Y5 c1 c3 (zno .i64 h7) h8 h9.symm) ?_
   obtain rfl := Zi H11
   exact ZE0
  ·refine Z1 (Y2 c1 c3) ?_
   rcases zit H4 with ⟨c12, H13⟩ | ⟨c12, H13⟩
   ·refine Z1 (Y3 c1 c3 c12) ?_
    rcases zit H13 with ⟨c14, H15⟩ | ⟨c14, H15⟩
    ·refine Z1 (Y4 c1 c3 c12 c14) ?_
     obtain rfl := Zi H15
     exact ZE0
    ·refine Z1 (Y4 c1 c3 c12 c14) ?_
     obtain rfl := Zi H15
     exact ZE0
   ·refine Z1 (Y3 c1 c3 c12) ?_
    rcases zit H13 with ⟨c16, H17⟩ | ⟨c16, H17⟩
    ·refine Z1 (Y4 c1 c3 c12 c16) ?_
     obtain rfl := Zi H17
     exact ZE0
    ·obtain ⟨t35, b18, H19⟩ := zbi H17
     refine Z1 (Y4 c1 c3 c12 c16) ?_
     refine ZC0 (bytealg_LastIndexRabinKarp_string_ok b18) ?_
     refine Z1 (Y4 c1 c3 c12 c16) ?_
     obtain rfl := Zi H19
     exact ZE0
def acls_Parent (n : Nat) (path : ByteArray) : Option ByteArray :=
 (if (path.toList == ({ data := #[47] } : ByteArray).toList) then
  some ({ data := #[] })
 else
  (acls_Path n path).bind fun t7 =>
  (if t7 then
   (strings_LastIndex n path ({ data := #[47] })).bind fun t12 =>
   (bslc path 0 (if t12 < 1 then 1 else t12)).bind fun s =>
   some s
  else
   some ({ data := #[] })))
theorem acls_Parent_ok {n : Nat} {path : ByteArray} {r : ByteArray} (H : acls_Parent n path = some r) : PureOK Tryz.prog 38 [D.v (.string path)] (D.v (.string r)) true := by
 unfold acls_Parent at H
 refine ZP tab_ok fol (rs := #[.tmp 2]) Tryz.func38 ?_
 refine ZT 1 ?_
 refine Z0 ?_
 rcases zit H with ⟨c1, H2⟩ | ⟨c1, H2⟩
 ·refine Z1 c1 ?_
  obtain rfl := Zi H2
  exact ZE0
 ·obtain ⟨t7, b3, H4⟩ := zbi H2
  refine Z1 c1 ?_
  refine ZC0 (acls_Path_ok b3) ?_
  refine Z1 c1 ?_
  rcases zit H4 with ⟨c5, H6⟩ | ⟨c5, H6⟩
  ·obtain ⟨t12, b7, H8⟩ := zbi H6
   refine Z1 (Y2 c1 c5) ?_
   refine ZC0 (strings_LastIndex_ok b7) ?_
   obtain ⟨s, b9, H10⟩ := zbi H8
   obtain ⟨h11, h12, h13, h14⟩ := zbs b9
   have h15 : 0 ≤ Int.toNat (if t12 < 1 then 1 else t12) := by omega
   have h16 : Int.toNat (if t12 < 1 then 1 else t12) ≤ path.size := by omega
   have h17 : ByteArray.extract path (0) (Int.toNat (if t12 < 1 then 1 else t12)) = s := h14.symm
   try simp only [Int.toNat_natCast] at h15 h16 h17
   refine Z1 (Y6 c1 c5 (zno .i64 (Int.le_trans h11 h12)) h15 h16 h17) ?_
   obtain rfl := Zi H10
   exact ZE0
  ·refine Z1 (Y2 c1 c5) ?_
   obtain rfl := Zi H6
   exact ZE0
end Go.Proofs.YtgmhbmcdlkajdaaGreatDoor.Ab
