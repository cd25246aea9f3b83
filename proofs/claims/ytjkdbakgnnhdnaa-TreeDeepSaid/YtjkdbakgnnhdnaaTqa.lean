/-
 Functions, read off the code.
-/
import Derived.Test.YtjkdbakgnnhdnaaTrx
import Derived.Test.YtjkdbakgnnhdnaaTrb
import Derived.Test.YtjkdbakgnnhdnaaTpk
import Derived.Test.YtjkdbakgnnhdnaaTaw
namespace Go.Proofs.Ytjkdbakgnnhdnaa.Ab
open Go.RowKit
def law10_TreeDeep_c1 (_ : Nat) (i : Int) : Option ByteArray :=
 (cat ({ data := #[103] }) ({ data := #[UInt8.ofNat (Int.toNat (IntKind.u8.wrap (97 + (IntKind.u8.wrap (IntKind.i64.wrap (Int.tdiv i 26)))))), UInt8.ofNat (Int.toNat (IntKind.u8.wrap (97 + (IntKind.u8.wrap (Int.tmod i 26)))))] } : ByteArray)).bind fun s =>
 some s
theorem law10_TreeDeep_c1_ok {n : Nat} {i : Int} {r : ByteArray} (H : law10_TreeDeep_c1 n i = some r) : PureOK Try.prog 5 [D.v (.int .i64 i)] (D.v (.string r)) true := by
 unfold law10_TreeDeep_c1 at H
 refine ZP tab_ok fol (rs := #[.tmp 2]) Try.func5 ?_
 refine ZT 1 ?_
 obtain ⟨s, b1, H2⟩ := zbi H
 obtain ⟨h3, h4⟩ := zct b1
 have h5 : 1 + ({ data := #[UInt8.ofNat (Int.toNat (IntKind.u8.wrap (97 + (IntKind.u8.wrap (IntKind.i64.wrap (Int.tdiv i 26)))))), UInt8.ofNat (Int.toNat (IntKind.u8.wrap (97 + (IntKind.u8.wrap (Int.tmod i 26)))))] } : ByteArray).size ≤ maxLen := h3
 try simp -implicitDefEqProofs only [go_sem, Nat.reduceLT, Int.reduceEq, Nat.reduceEqDiff, Nat.reduceAdd, Nat.reduceLeDiff, reduceCtorEq, ↓reduceIte, List.drop_zero, List.take_succ_cons, List.take_zero, Option.map_some, bytesD, h4]
 obtain rfl := Zi H2
 exact ZE0
def law10_TreeDeep_L1 (n : Nat) (t0 : Int) : Nat → (List GTuple × Int) → Option (List GTuple)
 | 0, _ => none
 | c + 1, (t7, t8) =>
  (if (decide ((IntKind.i64.wrap (t8 + 1)) < (IntKind.i64.wrap (190 + (IntKind.i64.wrap (an t0 31 : Int)))))) then
   (law10_TreeDeep_c1 n t8).bind fun t242 =>
   (law10_TreeDeep_c1 n (IntKind.i64.wrap (t8 + 1))).bind fun t292 =>
   (app t7 [(⟨(⟨{ data := #[103] }, t242⟩ : GObj), { data := #[109] }, (⟨{ data := #[103] }, t292, { data := #[109] }⟩ : GSub)⟩ : GTuple)]).bind fun l =>
   law10_TreeDeep_L1 n t0 c (l, (IntKind.i64.wrap (t8 + 1)))
  else
   some t7)
def law10_TreeDeep (n : Nat) (t0 : Int) (t1 : Bool) : Option Bool :=
 (law8_Types n ({ data := #[116, 121, 112, 101, 32, 117, 32, 116, 121, 112, 101, 32, 103, 32, 123, 32, 109, 58, 32, 117, 32, 124, 32, 103, 35, 109, 59, 32, 125] })).bind fun t14 =>
 (
  law10_TreeDeep_L1 n t0 n ([], 0) : Option (List GTuple)).bind fun t73 =>
 (law10_TreeDeep_c1 n (IntKind.i64.wrap ((IntKind.i64.wrap (190 + (IntKind.i64.wrap (an t0 31 : Int)))) - 1))).bind fun t38 =>
 (app t73 [(⟨(⟨{ data := #[103] }, t38⟩ : GObj), { data := #[109] }, (⟨{ data := #[117] }, { data := #[97] }, ByteArray.empty⟩ : GSub)⟩ : GTuple)]).bind fun l2 =>
 (
  (if t1 then
   (law10_TreeDeep_c1 n 1).bind fun t47 =>
   (law10_TreeDeep_c1 n 0).bind fun t50 =>
   (app l2 [(⟨(⟨{ data := #[103] }, t47⟩ : GObj), { data := #[109] }, (⟨{ data := #[103] }, t50, { data := #[109] }⟩ : GSub)⟩ : GTuple)]).bind fun l3 =>
   some (true, l3)
  else
   some (false, l2)) : Option (Bool × List GTuple)).bind fun (t12, t74) =>
 (law10_TreeDeep_c1 n 0).bind fun t59 =>
 (tree_Expand n t14 t74 (⟨{ data := #[103] }, t59⟩ : GObj) ({ data := #[109] })).bind fun t61 =>
 (if (decide (200 < (IntKind.i64.wrap (190 + (IntKind.i64.wrap (an t0 31 : Int)))))) then
  (
   (if (t61.2 == 10) then
    (if (t61.1.kind == 0) then
     (law10_awake n).bind fun t742 =>
     some t742
    else
     some false)
   else
    some false) : Option (Bool)).bind fun t4 =>
  some t4
 else
  (if (t61.2 == 0) then
   (tree_Has n (⟨t61.1.kind, (⟨(⟨t61.1.ref.obj.type_, t61.1.ref.obj.id_⟩ : GObj), t61.1.ref.rel⟩ : GRef), t61.1.subs, t61.1.kids⟩ : GNode) (⟨{ data := #[117] }, { data := #[97] }, ByteArray.empty⟩ : GSub)).bind fun t81 =>
   (if t81 then
    (law10_backs n (⟨t61.1.kind, (⟨(⟨t61.1.ref.obj.type_, t61.1.ref.obj.id_⟩ : GObj), t61.1.ref.rel⟩ : GRef), t61.1.subs, t61.1.kids⟩ : GNode)).bind fun t85 =>
    (if (t85 == t12) then
     (law10_awake n).bind fun t90 =>
     some t90
    else
     some false)
   else
    some false)
  else
   some false))
set_option maxHeartbeats 8000000 in
theorem law10_TreeDeep_ok {n : Nat} {t0 : Int} {t1 : Bool} {r : Bool} (H : law10_TreeDeep n t0 t1 = some r) : PureOK Try.prog 3 [D.v (.int .i64 t0), D.v (.bool t1)] (D.v (.bool r)) true := by
 unfold law10_TreeDeep at H
 refine ZP tab_ok fol (rs := #[.tmp 4]) Try.func3 ?_
 refine zsq (ZT 1 ?_)
 refine Z0 ?_
 refine zsq (ZT 1 ?_)
 refine Z0 ?_
 refine zsq (ZT 1 ?_)
 obtain ⟨t14, b1, H2⟩ := zbi H
 refine Z0 ?_
 refine ZC0 (law8_Types_ok b1) ?_
 refine Z0 ?_
 refine zsq (ZT 1 ?_)
 refine Z0 ?_
 refine zsq (ZT 1 ?_)
 refine Z0 ?_
 refine zsq (zsq ?_)
 refine ZT 1 ?_
 refine Z0 ?_
 obtain ⟨e_, E3, H4⟩ := zbi H2
 refine zjn (α := { y : List GTuple // e_ = y } × Nat) (fun | ⟨⟨t73, _⟩, g3⟩ => ⟨upd 0 (.v (.int .i64 (IntKind.i64.wrap (190 + (IntKind.i64.wrap (an t0 31 : Int)))))) (upd 1 (.v (.bool t1)) (upd 5 (.d (.sl (List.map eGType t14)) false) (upd 6 (.fn 5 []) (upd 7 (accV 0 g3 (List.map eGTuple t73)) noFr)))), upd 0 (accO 6 g3 false (List.map eGTuple t73)) noHp, 1⟩) ?_ ?_
 ·refine zbk ?_
  refine zlp (α := { q : (Nat × (List GTuple × Int)) × Nat // law10_TreeDeep_L1 n t0 q.1.1 q.1.2 = some e_ }) (fun | ⟨⟨⟨c, ⟨t7, t8⟩⟩, g⟩, _⟩ => ⟨upd 0 (.v (.int .i64 (IntKind.i64.wrap (190 + (IntKind.i64.wrap (an t0 31 : Int)))))) (upd 1 (.v (.bool t1)) (upd 5 (.d (.sl (List.map eGType t14)) false) (upd 6 (.fn 5 []) (upd 7 (accV 0 g (List.map eGTuple t7)) (upd 8 (.v (.int .i64 t8)) noFr))))), upd 0 (accO 6 g false (List.map eGTuple t7)) noHp, 1⟩) (fun q => q.1.1.1) ⟨((n, ([], 0)), 0), E3⟩ ?_ ?_
  ·exact ZR []
  ·rintro ⟨⟨⟨c, ⟨t7, t8⟩⟩, g⟩, L5⟩
   rcases c with _ | c
   ·exact Zx L5
   ·unfold law10_TreeDeep_L1 at L5
    try dsimp only at L5
    refine ZT 1 ?_
    refine Z0 ?_
    rcases zit L5 with ⟨c12, H13⟩ | ⟨c12, H13⟩
    ·obtain ⟨t242, b14, H15⟩ := zbi H13
     refine Z1 c12 ?_
     refine ZC0 (law10_TreeDeep_c1_ok b14) ?_
     obtain ⟨t292, b16, H17⟩ := zbi H15
     refine Z1 c12 ?_
     refine ZC0 (law10_TreeDeep_c1_ok b16) ?_
     obtain ⟨l, b18, H19⟩ := zbi H17
     obtain ⟨h20, h21⟩ := app_inv b18
     have h20 : t7.length + 1 ≤ 4294967296 := h20
     have h22 : List.map eGTuple t7 ++ [[.v (.string { data := #[103] }), .v (.string t242), .v (.string { data := #[109] }), .v (.string { data := #[103] }), .v (.string t292), .v (.string { data := #[109] })]] = List.map eGTuple l := app_map eGTuple h21
     have h23 : t7.length + 1 = l.length := app_len h21
     have h24 : l.length ≤ 4294967296 := by omega
     have q25 : 0 < l.length := by omega
     refine Z1 (Y5 c12 h20 h22 h23 h24) ?_
     rcases t7 with _ | ⟨q0, q1⟩
     ·try simp only [List.map_nil, accI, accN]
      exact ⟨⟨((c, (l, (IntKind.i64.wrap (t8 + 1)))), 0), H19⟩, ZR [(0, 17)], Nat.lt_succ_self _⟩
     ·try simp only [List.map_cons, accI, accN]
      exact ⟨⟨((c, (l, (IntKind.i64.wrap (t8 + 1)))), (g + 1)), H19⟩, ZR [(0, 0)], Nat.lt_succ_self _⟩
    ·refine Z1 c12 ?_
     obtain rfl := Zi H13
     exact ⟨⟨⟨t7, rfl⟩, g⟩, ZR [(0, 0)]⟩
 ·rintro ⟨⟨t73, he80⟩, g3⟩
  obtain rfl := he80.symm
  try dsimp only at H4
  refine zsq (ZT 1 ?_)
  obtain ⟨t38, b26, H27⟩ := zbi H4
  refine Z0 ?_
  refine ZC0 (law10_TreeDeep_c1_ok b26) ?_
  obtain ⟨l2, b28, H29⟩ := zbi H27
  obtain ⟨h30, h31⟩ := app_inv b28
  have h30 : t73.length + 1 ≤ 4294967296 := h30
  have h32 : List.map eGTuple t73 ++ [[.v (.string { data := #[103] }), .v (.string t38), .v (.string { data := #[109] }), .v (.string { data := #[117] }), .v (.string { data := #[97] }), .v (.string ByteArray.empty)]] = List.map eGTuple l2 := app_map eGTuple h31
  have h33 : t73.length + 1 = l2.length := app_len h31
  have h34 : l2.length ≤ 4294967296 := by omega
  have q35 : 0 < l2.length := by omega
  refine Z1 (Y4 h30 h32 h33 h34) ?_
  refine zsq (zsq ?_)
  refine ZT 1 ?_
  refine Z1 (Y4 h30 h32 h33 h34) ?_
  obtain ⟨e_2, E36, H37⟩ := zbi H29
  refine zjn (α := { y : Bool × List GTuple // e_2 = y } × Nat) (fun | ⟨⟨⟨t12, t74⟩, _⟩, g4⟩ => ⟨upd 0 (.v (.int .i64 (IntKind.i64.wrap (190 + (IntKind.i64.wrap (an t0 31 : Int)))))) (upd 1 (.v (.bool t12)) (upd 5 (.d (.sl (List.map eGType t14)) false) (upd 6 (.fn 5 []) (upd 7 (.so 0 g4 0 (t74.length)) noFr)))), upd 0 (some (.rw (List.map eGTuple t74) 6 g4 false false)) noHp, 1⟩) ?_ ?_
  ·refine ZT 1 ?_
   refine Z0 ?_
   rcases zit E36 with ⟨c38, H39⟩ | ⟨c38, H39⟩
   ·obtain ⟨t47, b40, H41⟩ := zbi H39
    refine Z1 c38 ?_
    refine ZC0 (law10_TreeDeep_c1_ok b40) ?_
    obtain ⟨t50, b42, H43⟩ := zbi H41
    refine Z1 c38 ?_
    refine ZC0 (law10_TreeDeep_c1_ok b42) ?_
    obtain ⟨l3, b44, H45⟩ := zbi H43
    obtain ⟨h46, h47⟩ := app_inv b44
    have h46 : l2.length + 1 ≤ 4294967296 := h46
    have h48 : List.map eGTuple l2 ++ [[.v (.string { data := #[103] }), .v (.string t47), .v (.string { data := #[109] }), .v (.string { data := #[103] }), .v (.string t50), .v (.string { data := #[109] })]] = List.map eGTuple l3 := app_map eGTuple h47
    have h49 : l2.length + 1 = l3.length := app_len h47
    have h50 : l3.length ≤ 4294967296 := by omega
    have q51 : 0 < l3.length := by omega
    refine Z1 (Y5 c38 h46 h48 h49 h50) ?_
    obtain rfl := Zi H45
    rcases t73 with _ | ⟨q0, q1⟩
    ·try simp only [List.map_nil, accI, accN]
     exact ⟨⟨⟨(true, l3), rfl⟩, (0 + 1)⟩, ZR [(0, 10)]⟩
    ·try simp only [List.map_cons, accI, accN]
     exact ⟨⟨⟨(true, l3), rfl⟩, (g3 + 1 + 1)⟩, ZR [(0, 0)]⟩
   ·refine Z1 c38 ?_
    obtain rfl := Zi H39
    rcases t73 with _ | ⟨q0, q1⟩
    ·try simp only [List.map_nil, accI, accN]
     exact ⟨⟨⟨(false, l2), rfl⟩, 0⟩, ZR [(0, 10)]⟩
    ·try simp only [List.map_cons, accI, accN]
     exact ⟨⟨⟨(false, l2), rfl⟩, (g3 + 1)⟩, ZR [(0, 0)]⟩
  ·rintro ⟨⟨⟨t12, t74⟩, he79⟩, g4⟩
   obtain rfl := he79.symm
   try dsimp only at H37
   refine zsq (ZT 1 ?_)
   obtain ⟨t59, b52, H53⟩ := zbi H37
   refine Z0 ?_
   refine ZC0 (law10_TreeDeep_c1_ok b52) ?_
   obtain ⟨t61, b54, H55⟩ := zbi H53
   refine Z0 ?_
   refine ZC0 (tree_Expand_ok b54) ?_
   refine Z0 ?_
   refine zsq (zsq ?_)
   refine ZT 1 ?_
   refine Z0 ?_
   rcases zit H55 with ⟨c56, H57⟩ | ⟨c56, H57⟩
   ·refine runR_condT (by rfl) c56 ?_
    refine Z1 c56 ?_
    refine zsq ?_
    obtain ⟨e_3, E58, H59⟩ := zbi H57
    refine zjn (α := { y : Bool // e_3 = y }) (fun | ⟨t4, _⟩ => ⟨upd 4 (.v (.bool t4)) noFr, noHp, 0⟩) ?_ ?_
    ·refine ZT 1 ?_
     refine Z0 ?_
     rcases zit E58 with ⟨c60, H61⟩ | ⟨c60, H61⟩
     ·refine Z1 c60 ?_
      rcases zit H61 with ⟨c62, H63⟩ | ⟨c62, H63⟩
      ·obtain ⟨t742, b64, H65⟩ := zbi H63
       refine Z1 (Y2 c60 c62) ?_
       refine ZC0 (law10_awake_ok b64) ?_
       refine Z1 (Y2 c60 c62) ?_
       obtain rfl := Zi H65
       exact ⟨⟨t742, rfl⟩, ZR []⟩
      ·refine Z1 (Y2 c60 c62) ?_
       obtain rfl := Zi H63
       exact ⟨⟨false, rfl⟩, ZR []⟩
     ·refine Z1 c60 ?_
      obtain rfl := Zi H61
      exact ⟨⟨false, rfl⟩, ZR []⟩
    ·rintro ⟨t4, he66⟩
     obtain rfl := he66.symm
     try dsimp only at H59
     refine ZT 1 ?_
     refine Z0 ?_
     obtain rfl := Zi H59
     exact ZE0
   ·refine runR_condF (by rfl) c56 ?_
    refine Z1 c56 ?_
    refine ZT 2 ?_
    refine Z1 c56 ?_
    rcases zit H57 with ⟨c67, H68⟩ | ⟨c67, H68⟩
    ·obtain ⟨t81, b69, H70⟩ := zbi H68
     refine Z1 (Y2 c56 c67) ?_
     refine ZC0 (tree_Has_ok b69) ?_
     refine Z1 (Y2 c56 c67) ?_
     rcases zit H70 with ⟨c71, H72⟩ | ⟨c71, H72⟩
     ·obtain ⟨t85, b73, H74⟩ := zbi H72
      refine Z1 (Y3 c56 c67 c71) ?_
      refine ZC0 (law10_backs_ok b73) ?_
      refine Z1 (Y3 c56 c67 c71) ?_
      rcases zit H74 with ⟨c75, H76⟩ | ⟨c75, H76⟩
      ·obtain ⟨t90, b77, H78⟩ := zbi H76
       refine Z1 (Y4 c56 c67 c71 c75) ?_
       refine ZC0 (law10_awake_ok b77) ?_
       refine Z1 (Y4 c56 c67 c71 c75) ?_
       obtain rfl := Zi H78
       exact ZE0
      ·refine Z1 (Y4 c56 c67 c71 c75) ?_
       obtain rfl := Zi H76
       exact ZE0
     ·refine Z1 (Y3 c56 c67 c71) ?_
      obtain rfl := Zi H72
      exact ZE0
    ·refine Z1 (Y2 c56 c67) ?_
     obtain rfl := Zi H68
     exact ZE0
end Go.Proofs.Ytjkdbakgnnhdnaa.Ab
