/-
 Functions, read off the code.
-/
import Derived.Test.YtgmhbmcdlkajdaaGreatDoorPts
import Derived.Test.YtgmhbmcdlkajdaaGreatDoorPtf
namespace Go.Proofs.YtgmhbmcdlkajdaaGreatDoor.Ab
open Go.RowKit
def law20_PermWay_L1 (n : Nat) (t12 : List GFile) (t14 : ByteArray) : Nat → (Bool × ByteArray) → Option (Bool)
 | 0, _ => none
 | c + 1, (pass, q) =>
  (if (q.toList == ({ data := #[] } : ByteArray).toList) then
   some pass
  else
   (if pass then
    (perm_Can n t12 t14 q 1).bind fun t362 =>
    (ref17_Parent n q).bind fun t302 =>
    law20_PermWay_L1 n t12 t14 c (t362, t302)
   else
    (ref17_Parent n q).bind fun t303 =>
    law20_PermWay_L1 n t12 t14 c (false, t303)))

def law20_PermWay (n : Nat) (l : List Int) (n_ : Int) : Option Bool :=
 (law18_Valid n l).bind fun t12 =>
 (law20_Who n n_).bind fun t14 =>
 (law20_Where n (sh n_ 8)).bind fun t17 =>
 (idx [1, 2, 4] (Int.tmod (IntKind.i64.wrap (an (sh n_ 16) 255 : Int)) 3)).bind fun x =>
 (ref17_Parent n t17).bind fun t26 =>
 (
  law20_PermWay_L1 n t12 t14 n (true, t26) : Option (Bool)).bind fun pass3 =>
 (perm_May n t12 t14 t17 x).bind fun t42 =>
 (if pass3 then
  (perm_Can n t12 t14 t17 x).bind fun t49 =>
  (if (t42 == t49) then
   (law20_awake n).bind fun t53 =>
   some t53
  else
   some false)
 else
  (if (t42 == false) then
   (law20_awake n).bind fun t532 =>
   some t532
  else
   some false))
theorem law20_PermWay_ok {n : Nat} {l : List Int} {n_ : Int} {r : Bool} (H : law20_PermWay n l n_ = some r) : PureOK Tryz.prog 4 [D.sl (List.map eI l), D.v (.int .i64 n_)] (D.v (.bool r)) true := by
 unfold law20_PermWay at H
 refine ZP tab_ok fol (rs := #[.tmp 4]) Tryz.func4 ?_
 refine zsq ?_
 refine ZT 1 ?_
 refine Z0 ?_
 refine zsq ?_
 refine ZT 1 ?_
 obtain ⟨t12, b1, H2⟩ := zbi H
 refine Z0 ?_
 refine ZC0 (law18_Valid_ok b1) ?_
 refine Z0 ?_
 refine zsq ?_
 refine ZT 1 ?_
 obtain ⟨t14, b3, H4⟩ := zbi H2
 refine Z0 ?_
 refine ZD0 (law20_Who_ok b3) ?_
 obtain ⟨t17, b5, H6⟩ := zbi H4
 refine Z0 ?_
 refine ZD0 (law20_Where_ok b5) ?_
 obtain ⟨x, b7, H8⟩ := zbi H6
 obtain ⟨h9, h10⟩ := zix b7
 try simp only [Int.reduceToNat, Int.toNat_natCast] at h10
 have h11 := map_at eI h10
 simp only [List.map_cons, List.map_nil, eI] at h11
 have h12 := at_lt h10
 simp only [List.length_cons, List.length_nil, Nat.reduceAdd] at h12
 refine Z1 (Y3 (zno .i64 h9) h11 h12) ?_
 refine Rd_endF (by rfl) ?_
 refine Z1 (Y3 (zno .i64 h9) h11 h12) ?_
 refine zsq ?_
 refine ZT 1 ?_
 refine Z1 (Y3 (zno .i64 h9) h11 h12) ?_
 refine zsq ?_
 refine zsq ?_
 refine ZT 1 ?_
 obtain ⟨t26, b13, H14⟩ := zbi H8
 refine Z1 (Y3 (zno .i64 h9) h11 h12) ?_
 refine ZC0 (ref17_Parent_ok b13) ?_
 refine Z1 (Y3 (zno .i64 h9) h11 h12) ?_
 obtain ⟨e_, E15, H16⟩ := zbi H14
 refine zjn (α := { y : Bool // e_ = y }) (fun | ⟨pass3, _⟩ => ⟨upd 5 (.d (.sl (List.map eGFile t12)) false) (upd 6 (.v (.string t14)) (upd 7 (.v (.string t17)) (upd 8 (.v (.int .i64 x)) (upd 9 (.v (.bool pass3)) noFr)))), noHp, 0⟩) ?_ ?_
 ·refine zbk ?_
  refine zlp (α := { q : Nat × (Bool × ByteArray) // law20_PermWay_L1 n t12 t14 q.1 q.2 = some e_ }) (fun | ⟨⟨c, ⟨pass, q⟩⟩, _⟩ => ⟨upd 5 (.d (.sl (List.map eGFile t12)) false) (upd 6 (.v (.string t14)) (upd 7 (.v (.string t17)) (upd 8 (.v (.int .i64 x)) (upd 9 (.v (.bool pass)) (upd 10 (.v (.string q)) noFr))))), noHp, 0⟩) (fun q => q.1.1) ⟨(n, (true, t26)), E15⟩ ?_ ?_
  ·exact ZR []
  ·rintro ⟨⟨c, ⟨pass, q⟩⟩, L17⟩
   rcases c with _ | c
   ·exact nomatch (show none = some _ from L17)
   ·unfold law20_PermWay_L1 at L17
    try dsimp only at L17
    refine ZT 1 ?_
    refine Z0 ?_
    rcases zit L17 with ⟨c24, H25⟩ | ⟨c24, H25⟩
    ·refine Z1 c24 ?_
     obtain rfl := Zi H25
     exact ⟨⟨pass, rfl⟩, ZR []⟩
    ·refine Z1 c24 ?_
     rcases zit H25 with ⟨c26, H27⟩ | ⟨c26, H27⟩
     ·obtain ⟨t362, b28, H29⟩ := zbi H27
      refine Z1 (Y2 c24 c26) ?_
      refine ZC0 (perm_Can_ok b28) ?_
      obtain ⟨t302, b30, H31⟩ := zbi H29
      refine Z1 (Y2 c24 c26) ?_
      refine ZC0 (ref17_Parent_ok b30) ?_
      refine Z1 (Y2 c24 c26) ?_
      exact ⟨⟨(c, (t362, t302)), H31⟩, ZR [], Nat.lt_succ_self _⟩
     ·obtain ⟨t303, b32, H33⟩ := zbi H27
      refine Z1 (Y2 c24 c26) ?_
      refine ZC0 (ref17_Parent_ok b32) ?_
      refine Z1 (Y2 c24 c26) ?_
      exact ⟨⟨(c, (false, t303)), H33⟩, ZR [], Nat.lt_succ_self _⟩
 ·rintro ⟨pass3, he48⟩
  replace he48 := he48.symm
  subst he48
  try dsimp only at H16
  refine ZT 1 ?_
  obtain ⟨t42, b34, H35⟩ := zbi H16
  refine Z0 ?_
  refine ZC0 (perm_May_ok b34) ?_
  refine Z0 ?_
  rcases zit H35 with ⟨c36, H37⟩ | ⟨c36, H37⟩
  ·obtain ⟨t49, b38, H39⟩ := zbi H37
   refine Z1 c36 ?_
   refine ZC0 (perm_Can_ok b38) ?_
   refine Z1 c36 ?_
   rcases zit H39 with ⟨c40, H41⟩ | ⟨c40, H41⟩
   ·obtain ⟨t53, b42, H43⟩ := zbi H41
    refine Z1 (Y2 c36 c40) ?_
    refine ZC0 (law20_awake_ok b42) ?_
    refine Z1 (Y2 c36 c40) ?_
    obtain rfl := Zi H43
    exact ZE0
   ·refine Z1 (Y2 c36 c40) ?_
    obtain rfl := Zi H41
    exact ZE0
  ·refine Z1 c36 ?_
   rcases zit H37 with ⟨c44, H45⟩ | ⟨c44, H45⟩
   ·obtain ⟨t532, b46, H47⟩ := zbi H45
    refine Z1 (Y2 c36 c44) ?_
    refine ZC0 (law20_awake_ok b46) ?_
    refine Z1 (Y2 c36 c44) ?_
    obtain rfl := Zi H47
    exact ZE0
   ·refine Z1 (Y2 c36 c44) ?_
    obtain rfl := Zi H45
    exact ZE0
end Go.Proofs.YtgmhbmcdlkajdaaGreatDoor.Ab
