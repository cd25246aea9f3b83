/-
 Functions, read off the code.
-/
import Derived.Test.YtgmhbmcdlkajdaaGreatDoorPte
namespace Go.Proofs.YtgmhbmcdlkajdaaGreatDoor.Ab
open Go.RowKit
def law20_PermTells_L2 (n : Nat) (t22 : List GFile) (t522 : ByteArray) (t552 : ByteArray) : Nat → Int → Option ((Unit) ⊕ Bool)
 | 0, _ => none
 | c + 1, t133 =>
  (if (decide (t133 ≤ 4)) then
   (perm_Can n t22 t522 t552 t133).bind fun t644 =>
   (ref17_Can n t22 t522 t552 t133).bind fun t694 =>
   (if (t644 == t694) then
    (perm_May n t22 t522 t552 t133).bind fun t764 =>
    (ref17_May n t22 t522 t552 t133).bind fun t814 =>
    (if (t764 == t814) then
     law20_PermTells_L2 n t22 t522 t552 c (IntKind.i64.wrap (2 * t133))
    else
     some (.inr false))
   else
    some (.inr false))
  else
   some (.inl ()))

def law20_PermTells_L1 (n : Nat) (t22 : List GFile) : Nat → Int → Option ((Unit) ⊕ Bool)
 | 0, _ => none
 | c + 1, t10 =>
  (if (decide (t10 < 40)) then
   (law20_Who n t10).bind fun t522 =>
   (law20_Where n (IntKind.i64.wrap (Int.tdiv t10 4))).bind fun t552 =>
   (
    law20_PermTells_L2 n t22 t522 t552 n 1 : Option ((Unit) ⊕ Bool)).bind fun
    | .inl _ =>
     law20_PermTells_L1 n t22 c (IntKind.i64.wrap (t10 + 1))
    | .inr r => some (.inr r)
  else
   some (.inl ()))

def law20_PermTells (n : Nat) (t0 : List Int) (t1 : ByteArray) (t2 : ByteArray) (t3 : Int) : Option Bool :=
 (if (decide (400 < (IntKind.i64.wrap ((t1.size : Int) + (t2.size : Int))))) then
  (law20_awake n).bind fun t20 =>
  some t20
 else
  (law18_Valid n t0).bind fun t22 =>
  (
   (perm_Can n t22 t1 t2 t3).bind fun t27 =>
   (ref17_Can n t22 t1 t2 t3).bind fun t32 =>
   (if (t27 == t32) then
    (perm_May n t22 t1 t2 t3).bind fun t39 =>
    (ref17_May n t22 t1 t2 t3).bind fun t44 =>
    some (!(t39 == t44))
   else
    some true) : Option (Bool)).bind fun t46 =>
  (if t46 then
   some false
  else
   (
    law20_PermTells_L1 n t22 n 0 : Option ((Unit) ⊕ Bool)).bind fun
    | .inl _ =>
     (law20_awake n).bind fun t84 =>
     some t84
    | .inr r => some r))
set_option maxHeartbeats 8000000 in
theorem law20_PermTells_ok {n : Nat} {t0 : List Int} {t1 : ByteArray} {t2 : ByteArray} {t3 : Int} {r : Bool} (H : law20_PermTells n t0 t1 t2 t3 = some r) : PureOK Tryz.prog 3 [D.sl (List.map eI t0), D.v (.string t1), D.v (.string t2), D.v (.int .i64 t3)] (D.v (.bool r)) true := by
 unfold law20_PermTells at H
 refine ZP tab_ok fol (rs := #[.tmp 8]) Tryz.func3 ?_
 refine zsq (ZT 1 ?_)
 refine Z0 ?_
 refine zsq (ZT 1 ?_)
 refine Z0 ?_
 rcases zit H with ⟨c1, H2⟩ | ⟨c1, H2⟩
 ·obtain ⟨t20, b3, H4⟩ := zbi H2
  refine Z1 c1 ?_
  refine ZC0 (law20_awake_ok b3) ?_
  refine Z1 c1 ?_
  obtain rfl := Zi H4
  exact ZE0
 ·refine Z1 c1 ?_
  refine zsq (ZT 1 ?_)
  obtain ⟨t22, b5, H6⟩ := zbi H2
  refine Z1 c1 ?_
  refine ZC0 (law18_Valid_ok b5) ?_
  refine Z1 c1 ?_
  refine zsq (zsq ?_)
  obtain ⟨e_, E7, H8⟩ := zbi H6
  refine zjn (α := { y : Bool // e_ = y }) (fun | ⟨t46, _⟩ => ⟨upd 9 (.d (.sl (List.map eGFile t22)) false) (upd 46 (.v (.bool t46)) noFr), noHp, 0⟩) ?_ ?_
  ·refine ZT 1 ?_
   obtain ⟨t27, b9, H10⟩ := zbi E7
   refine Z0 ?_
   refine ZC0 (perm_Can_ok b9) ?_
   obtain ⟨t32, b11, H12⟩ := zbi H10
   refine Z0 ?_
   refine ZC0 (ref17_Can_ok b11) ?_
   refine Z0 ?_
   rcases zit H12 with ⟨c13, H14⟩ | ⟨c13, H14⟩
   ·obtain ⟨t39, b15, H16⟩ := zbi H14
    refine Z1 c13 ?_
    refine ZC0 (perm_May_ok b15) ?_
    obtain ⟨t44, b17, H18⟩ := zbi H16
    refine Z1 c13 ?_
    refine ZC0 (ref17_May_ok b17) ?_
    refine Z1 c13 ?_
    obtain rfl := Zi H18
    exact ⟨⟨(!(t39 == t44)), rfl⟩, ZR []⟩
   ·refine Z1 c13 ?_
    obtain rfl := Zi H14
    exact ⟨⟨true, rfl⟩, ZR []⟩
  ·rintro ⟨t46, he97⟩
   obtain rfl := he97.symm
   try dsimp only at H8
   refine ZT 1 ?_
   refine Z0 ?_
   rcases zit H8 with ⟨c19, H20⟩ | ⟨c19, H20⟩
   ·refine Z1 c19 ?_
    obtain rfl := Zi H20
    exact ZE0
   ·refine Z1 c19 ?_
    refine zsq (zsq ?_)
    refine ZT 1 ?_
    refine Z1 c19 ?_
    obtain ⟨e_2, E21, H22⟩ := zbi H20
    refine zjn (α := { y : Unit // e_2 = .inl y }) (fun | ⟨_, _⟩ => ⟨noFr, noHp, 0⟩) ?_ ?_
    ·refine zbk ?_
     refine zlp (α := { q : Nat × Int // law20_PermTells_L1 n t22 q.1 q.2 = some e_2 }) (fun | ⟨⟨c, t10⟩, _⟩ => ⟨upd 9 (.d (.sl (List.map eGFile t22)) false) (upd 10 (.v (.int .i64 t10)) noFr), noHp, 0⟩) (fun q => q.1.1) ⟨(n, 0), E21⟩ ?_ ?_
     ·exact ZR []
     ·rintro ⟨⟨c, t10⟩, L23⟩
      rcases c with _ | c
      ·exact Zx L23
      ·unfold law20_PermTells_L1 at L23
       try dsimp only at L23
       refine zsq (ZT 1 ?_)
       refine Z0 ?_
       rcases zit L23 with ⟨c58, H59⟩ | ⟨c58, H59⟩
       ·refine Z1 c58 ?_
        refine zsq (zbk ?_)
        refine zsq (ZT 1 ?_)
        obtain ⟨t522, b60, H61⟩ := zbi H59
        refine Z1 c58 ?_
        refine ZC0 (law20_Who_ok b60) ?_
        obtain ⟨t552, b62, H63⟩ := zbi H61
        refine Z1 c58 ?_
        refine ZC0 (law20_Where_ok b62) ?_
        refine Z1 c58 ?_
        refine zsq (ZT 1 ?_)
        refine Z1 c58 ?_
        obtain ⟨e_4, E64, H65⟩ := zbi H63
        refine zjn (α := { y : Unit // e_4 = .inl y }) (fun | ⟨_, _⟩ => ⟨upd 9 (.d (.sl (List.map eGFile t22)) false) (upd 10 (.v (.int .i64 t10)) noFr), noHp, 0⟩) ?_ ?_
        ·refine zbk ?_
         refine zlp (α := { q : Nat × Int // law20_PermTells_L2 n t22 t522 t552 q.1 q.2 = some e_4 }) (fun | ⟨⟨c, t133⟩, _⟩ => ⟨upd 9 (.d (.sl (List.map eGFile t22)) false) (upd 10 (.v (.int .i64 t10)) (upd 11 (.v (.string t522)) (upd 12 (.v (.string t552)) (upd 13 (.v (.int .i64 t133)) noFr)))), noHp, 0⟩) (fun q => q.1.1) ⟨(n, 1), E64⟩ ?_ ?_
         ·exact ZR []
         ·rintro ⟨⟨c, t133⟩, L66⟩
          rcases c with _ | c
          ·exact Zx L66
          ·unfold law20_PermTells_L2 at L66
           try dsimp only at L66
           refine ZT 1 ?_
           refine Z0 ?_
           rcases zit L66 with ⟨c79, H80⟩ | ⟨c79, H80⟩
           ·obtain ⟨t644, b81, H82⟩ := zbi H80
            refine Z1 c79 ?_
            refine ZC0 (perm_Can_ok b81) ?_
            obtain ⟨t694, b83, H84⟩ := zbi H82
            refine Z1 c79 ?_
            refine ZC0 (ref17_Can_ok b83) ?_
            refine Z1 c79 ?_
            rcases zit H84 with ⟨c85, H86⟩ | ⟨c85, H86⟩
            ·obtain ⟨t764, b87, H88⟩ := zbi H86
             refine Z1 (Y2 c79 c85) ?_
             refine ZC0 (perm_May_ok b87) ?_
             obtain ⟨t814, b89, H90⟩ := zbi H88
             refine Z1 (Y2 c79 c85) ?_
             refine ZC0 (ref17_May_ok b89) ?_
             refine Z1 (Y2 c79 c85) ?_
             rcases zit H90 with ⟨c91, H92⟩ | ⟨c91, H92⟩
             ·refine Z1 (Y3 c79 c85 c91) ?_
              exact ⟨⟨(c, (IntKind.i64.wrap (2 * t133))), H92⟩, ZR [], Nat.lt_succ_self _⟩
             ·refine Z1 (Y3 c79 c85 c91) ?_
              obtain rfl := Zi H92
              obtain rfl := Zi H65
              obtain rfl := Zi H22
              exact ZE0
            ·refine Z1 (Y2 c79 c85) ?_
             obtain rfl := Zi H86
             obtain rfl := Zi H65
             obtain rfl := Zi H22
             exact ZE0
           ·refine Z1 c79 ?_
            obtain rfl := Zi H80
            exact ⟨⟨(), rfl⟩, ZR []⟩
        ·rintro ⟨_, he93⟩
         obtain rfl := he93.symm
         try dsimp only at H65
         refine Z0 ?_
         refine ZT 1 ?_
         refine Z0 ?_
         exact ⟨⟨(c, (IntKind.i64.wrap (t10 + 1))), H65⟩, ZR [], Nat.lt_succ_self _⟩
       ·refine Z1 c58 ?_
        obtain rfl := Zi H59
        exact ⟨⟨(), rfl⟩, ZR []⟩
    ·rintro ⟨_, he96⟩
     obtain rfl := he96.symm
     try dsimp only at H22
     refine ZT 1 ?_
     obtain ⟨t84, b94, H95⟩ := zbi H22
     refine Z0 ?_
     refine ZC0 (law20_awake_ok b94) ?_
     refine Z0 ?_
     obtain rfl := Zi H95
     exact ZE0
end Go.Proofs.YtgmhbmcdlkajdaaGreatDoor.Ab
