/-
 Functions, read off the code.
-/
import Derived.Test.YtjkdbakgnnhdnaaGreatSda
namespace Go.Proofs.YtjkdbakgnnhdnaaGreat.Ab
open Go.RowKit
def slices_Index_Sub_L1 (n : Nat) (s : List GSub) (v : GSub) : Nat → Int → Option ((Unit) ⊕ Int)
 | 0, _ => none
 | c + 1, t8 =>
  (if (decide (t8 < (s.length : Int))) then
   (idx s t8).bind fun x2 =>
   (if ((v.type_ == x2.type_) && ((v.id_ == x2.id_) && (v.rel == x2.rel))) then
    some (.inr t8)
   else
    slices_Index_Sub_L1 n s v c (IntKind.i64.wrap (t8 + 1)))
  else
   some (.inl ()))
def slices_Index_Sub (n : Nat) (s : List GSub) (v : GSub) : Option Int :=
 (
  slices_Index_Sub_L1 n s v n 0 : Option ((Unit) ⊕ Int)).bind fun
  | .inl _ =>
   some (-1)
  | .inr r => some r
theorem slices_Index_Sub_ok {n : Nat} {s : List GSub} {v : GSub} {r : Int} (H : slices_Index_Sub n s v = some r) : PureOK Tryz.prog 69 [D.sl (List.map eGSub s), D.ag (eGSub v)] (D.v (.int .i64 r)) true := by
 unfold slices_Index_Sub at H
 refine ZP tab_ok fol (rs := #[.tmp 4]) Tryz.func69 ?_
 refine zsq (ZT 1 ?_)
 refine Z0 ?_
 refine zsq (zsq ?_)
 refine ZT 1 ?_
 refine Z0 ?_
 obtain ⟨e_, E1, H2⟩ := zbi H
 refine zjn (α := { y : Unit // e_ = .inl y }) (fun | ⟨_, _⟩ => ⟨noFr, noHp, 0⟩) ?_ ?_
 ·refine zbk ?_
  refine zlp (α := { q : Nat × Int // slices_Index_Sub_L1 n s v q.1 q.2 = some e_ }) (fun | ⟨⟨c, t8⟩, _⟩ => ⟨upd 0 (.d (.sl (List.map eGSub s)) true) (upd 3 (.pt 0 0) (upd 7 (.v (.int .i64 (s.length : Int))) (upd 8 (.v (.int .i64 t8)) noFr))), upd 0 (some (.bx [.v (.string v.type_), .v (.string v.id_), .v (.string v.rel)])) noHp, 1⟩) (fun q => q.1.1) ⟨(n, 0), E1⟩ ?_ ?_
  ·exact ZR [(0, 0)]
  ·rintro ⟨⟨c, t8⟩, L3⟩
   rcases c with _ | c
   ·exact Zx L3
   ·unfold slices_Index_Sub_L1 at L3
    try dsimp only at L3
    refine ZT 1 ?_
    refine Z0 ?_
    rcases zit L3 with ⟨c14, H15⟩ | ⟨c14, H15⟩
    ·obtain ⟨x2, b16, H17⟩ := zbi H15
     obtain ⟨h18, h19⟩ := zix b16
     try simp only [Int.reduceToNat, Int.toNat_natCast] at h19
     have h20 := map_at eGSub h19
     refine Z1 (Y3 c14 (zno .i64 h18) h20) ?_
     refine Rd_endF (by rfl) ?_
     refine Z1 (Y3 c14 (zno .i64 h18) h20) ?_
     rcases zit H17 with ⟨c22, H23⟩ | ⟨c22, H23⟩
     ·refine Z1 (Y4 c14 (zno .i64 h18) h20 c22) ?_
      obtain rfl := Zi H23
      obtain rfl := Zi H2
      exact ZE0
     ·refine Z1 (Y4 c14 (zno .i64 h18) h20 c22) ?_
      exact ⟨⟨(c, (IntKind.i64.wrap (t8 + 1))), H23⟩, ZR [(0, 0)], Nat.lt_succ_self _⟩
    ·refine Z1 c14 ?_
     obtain rfl := Zi H15
     exact ⟨⟨(), rfl⟩, ZR []⟩
 ·rintro ⟨_, he24⟩
  obtain rfl := he24.symm
  try dsimp only at H2
  refine ZT 1 ?_
  refine Z0 ?_
  obtain rfl := Zi H2
  exact ZE0
def slices_Contains_Sub (n : Nat) (s : List GSub) (v : GSub) : Option Bool :=
 (slices_Index_Sub n s v).bind fun t7 =>
 some (decide (0 ≤ t7))
theorem slices_Contains_Sub_ok {n : Nat} {s : List GSub} {v : GSub} {r : Bool} (H : slices_Contains_Sub n s v = some r) : PureOK Tryz.prog 54 [D.sl (List.map eGSub s), D.ag (eGSub v)] (D.v (.bool r)) true := by
 unfold slices_Contains_Sub at H
 refine ZP tab_ok fol (rs := #[.tmp 4]) Tryz.func54 ?_
 refine ZT 1 ?_
 obtain ⟨t7, b1, H2⟩ := zbi H
 refine Z0 ?_
 refine ZC0 (slices_Index_Sub_ok b1) ?_
 refine Z0 ?_
 obtain rfl := Zi H2
 exact ZE0
end Go.Proofs.YtjkdbakgnnhdnaaGreat.Ab
