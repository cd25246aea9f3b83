/-
  Functions, read off the code.
-/
import Derived.Test.YtjdliklpjmdicaaTps
import Derived.Test.YtjdliklpjmdicaaTpk
import Derived.Test.YtjdliklpjmdicaaTaw
namespace Go.Proofs.Ytjdliklpjmdicaa.Ab
open Go.RowKit
def law10_TreeParts_c1_L1 (n : Nat) (l : List Int) : Nat → (List GSub × Int) → Option (List GSub)
  | 0, _ => none
  | c + 1, (n4, i) =>
    (
      (if (decide (i < (l.length : Int))) then
        some (decide (i < 8))
      else
        some false) : Option (Bool)).bind fun t132 =>
    (if t132 then
      (idx l i).bind fun x2 =>
      (bslc ({ data := #[97, 98, 99, 100, 101, 102, 103, 104] }) (IntKind.i64.wrap (an x2 7 : Int)) (IntKind.i64.wrap ((IntKind.i64.wrap (an x2 7 : Int)) + 1))).bind fun s2 =>
      (app n4 [(⟨{ data := #[117] }, s2, ByteArray.empty⟩ : GSub)]).bind fun l2 =>
      law10_TreeParts_c1_L1 n l c (l2, (IntKind.i64.wrap (i + 1)))
    else
      some n4)

def law10_TreeParts_c1 (n : Nat) (l : List Int) : Option GNode :=
  (
    law10_TreeParts_c1_L1 n l n ([], 0) : Option (List GSub)).bind fun n43 =>
  some (⟨1, (⟨(⟨ByteArray.empty, ByteArray.empty⟩ : GObj), ByteArray.empty⟩ : GRef), n43, []⟩ : GNode)
theorem law10_TreeParts_c1_ok {n : Nat} {l : List Int} {r : GNode} (H : law10_TreeParts_c1 n l = some r) : PureOK Try.prog 4 [D.sl (List.map eI l)] (D.ag (eGNode r)) true := by
  unfold law10_TreeParts_c1 at H
  refine ZP tab_ok fol (rs := #[.cell 2 30]) Try.func4 ?_
  refine runR_seq ?_
  refine ZT 1 ?_
  refine Z0 ?_
  refine runR_seq ?_
  refine ZT 1 ?_
  refine Z0 ?_
  refine runR_seq ?_
  refine runR_seq ?_
  refine ZT 1 ?_
  refine Z0 ?_
  obtain ⟨e_, E1, H2⟩ := bind_inv H
  refine runR_join (α := { y : List GSub // e_ = y } × Nat) (fun | ⟨⟨n43, _⟩, g4⟩ => ⟨upd 2 (.pt 0 0) (upd 3 (.pt 1 0) noFr), upd 0 (some (.bx [.v (.int .i64 0), .v (.string ByteArray.empty), .v (.string ByteArray.empty), .v (.string ByteArray.empty), .v (.slice none 0 0), .v (.slice none 0 0)])) (upd 1 (some (.bx [.v (.int .i64 1), .v (.string ByteArray.empty), .v (.string ByteArray.empty), .v (.string ByteArray.empty), accV 2 g4 (List.map eGSub n43), .v (.slice none 0 0)])) (upd 2 (accO 3 g4 false (List.map eGSub n43)) noHp)), 3⟩) ?_ ?_
  · refine runR_block ?_
    refine runR_loop (α := { q : (Nat × (List GSub × Int)) × Nat // law10_TreeParts_c1_L1 n l q.1.1 q.1.2 = some e_ }) (fun | ⟨⟨⟨c, ⟨n4, i⟩⟩, g⟩, _⟩ => ⟨upd 0 (.d (.sl (List.map eI l)) true) (upd 2 (.pt 0 0) (upd 3 (.pt 1 0) (upd 4 (.v (.int .i64 i)) noFr))), upd 0 (some (.bx [.v (.int .i64 0), .v (.string ByteArray.empty), .v (.string ByteArray.empty), .v (.string ByteArray.empty), .v (.slice none 0 0), .v (.slice none 0 0)])) (upd 1 (some (.bx [.v (.int .i64 1), .v (.string ByteArray.empty), .v (.string ByteArray.empty), .v (.string ByteArray.empty), accV 2 g (List.map eGSub n4), .v (.slice none 0 0)])) (upd 2 (accO 3 g false (List.map eGSub n4)) noHp)), 3⟩) (fun q => q.1.1.1) ⟨((n, ([], 0)), 0), E1⟩ ?_ ?_
    · exact ZR [(0, 0), (1, 2)]
    · rintro ⟨⟨⟨c, ⟨n4, i⟩⟩, g⟩, L3⟩
      rcases c with _ | c
      · exact nomatch (show none = some _ from L3)
      · unfold law10_TreeParts_c1_L1 at L3
        try dsimp only at L3
        refine runR_seq ?_
        refine runR_seq ?_
        obtain ⟨e_3, E27, H28⟩ := bind_inv L3
        refine runR_join (α := { y : Bool // e_3 = y } × Nat) (fun | ⟨⟨t132, _⟩, g2⟩ => ⟨upd 0 (.d (.sl (List.map eI l)) true) (upd 2 (.pt 0 0) (upd 3 (.pt 1 0) (upd 4 (.v (.int .i64 i)) (upd 13 (.v (.bool t132)) noFr)))), upd 0 (some (.bx [.v (.int .i64 0), .v (.string ByteArray.empty), .v (.string ByteArray.empty), .v (.string ByteArray.empty), .v (.slice none 0 0), .v (.slice none 0 0)])) (upd 1 (some (.bx [.v (.int .i64 1), .v (.string ByteArray.empty), .v (.string ByteArray.empty), .v (.string ByteArray.empty), accV 2 g2 (List.map eGSub n4), .v (.slice none 0 0)])) (upd 2 (accO 3 g2 false (List.map eGSub n4)) noHp)), 3⟩) ?_ ?_
        · refine ZT 1 ?_
          refine Z0 ?_
          rcases ite_inv E27 with ⟨c29, H30⟩ | ⟨c29, H30⟩
          · refine Z1 c29 ?_
            obtain rfl := Zi H30
            exact ⟨⟨⟨(decide (i < 8)), rfl⟩, g⟩, ZR [(0, 0), (1, 1), (2, 2)]⟩
          · refine Z1 c29 ?_
            obtain rfl := Zi H30
            exact ⟨⟨⟨false, rfl⟩, g⟩, ZR [(0, 0), (1, 1), (2, 2)]⟩
        · rintro ⟨⟨t132, he57⟩, g2⟩
          replace he57 := he57.symm
          subst he57
          try dsimp only at H28
          refine ZT 2 ?_
          refine Z0 ?_
          rcases ite_inv H28 with ⟨c31, H32⟩ | ⟨c31, H32⟩
          · obtain ⟨x2, b33, H34⟩ := bind_inv H32
            obtain ⟨h35, h36⟩ := idx_inv b33
            try simp only [Int.reduceToNat, Int.toNat_natCast] at h36
            have h37 := map_at eI h36
            obtain ⟨s2, b39, H40⟩ := bind_inv H34
            obtain ⟨h41, h42, h43, h44⟩ := bslc_inv b39
            have h45 : Int.toNat (IntKind.i64.wrap (an x2 7 : Int)) ≤ Int.toNat (IntKind.i64.wrap ((IntKind.i64.wrap (an x2 7 : Int)) + 1)) := by omega
            have h46 : Int.toNat (IntKind.i64.wrap ((IntKind.i64.wrap (an x2 7 : Int)) + 1)) ≤ (ByteArray.size ({ data := #[97, 98, 99, 100, 101, 102, 103, 104] })) := by omega
            have h47 : ByteArray.extract ({ data := #[97, 98, 99, 100, 101, 102, 103, 104] }) (Int.toNat (IntKind.i64.wrap (an x2 7 : Int))) (Int.toNat (IntKind.i64.wrap ((IntKind.i64.wrap (an x2 7 : Int)) + 1))) = s2 := h44.symm
            have h48 : Int.toNat (IntKind.i64.wrap ((IntKind.i64.wrap (an x2 7 : Int)) + 1)) ≤ 8 := h46
            try simp only [Int.toNat_natCast] at h45 h48 h47
            obtain ⟨l2, b49, H50⟩ := bind_inv H40
            obtain ⟨h51, h52⟩ := app_inv b49
            have h51 : n4.length + 1 ≤ 4294967296 := h51
            have h53 : List.map eGSub n4 ++ [[.v (.string { data := #[117] }), .v (.string s2), .v (.string ByteArray.empty)]] = List.map eGSub l2 := app_map eGSub h52
            have h54 : n4.length + 1 = l2.length := app_len h52
            have h55 : l2.length ≤ 4294967296 := by omega
            have q56 : 0 < l2.length := by omega
            refine Z1 (Y2 (Y6 c31 (nat_of .i64 h35) h37 (nat_of .i64 h41) (nat_of .i64 (Int.le_trans h41 h42)) h45) (Y6 h48 h47 h51 h53 h54 h55)) ?_
            refine Rd_endF (by (cases n4 <;> rfl)) ?_
            refine Z1 (Y2 (Y6 c31 (nat_of .i64 h35) h37 (nat_of .i64 h41) (nat_of .i64 (Int.le_trans h41 h42)) h45) (Y6 h48 h47 h51 h53 h54 h55)) ?_
            rcases n4 with _ | ⟨q0, q1⟩
            · try simp only [List.map_nil, accI, accN]
              exact ⟨⟨((c, (l2, (IntKind.i64.wrap (i + 1)))), 0), H50⟩, ZR [(0, 0), (1, 1), (2, 19)], Nat.lt_succ_self _⟩
            · try simp only [List.map_cons, accI, accN]
              exact ⟨⟨((c, (l2, (IntKind.i64.wrap (i + 1)))), (g2 + 1)), H50⟩, ZR [(0, 0), (1, 1), (2, 2)], Nat.lt_succ_self _⟩
          · refine Z1 c31 ?_
            obtain rfl := Zi H32
            exact ⟨⟨⟨n4, rfl⟩, g2⟩, ZR [(0, 0), (1, 1), (2, 2)]⟩
  · rintro ⟨⟨n43, he58⟩, g4⟩
    replace he58 := he58.symm
    subst he58
    try dsimp only at H2
    refine ZT 1 ?_
    refine Z0 ?_
    obtain rfl := Zi H2
    exact ZE0
def law10_TreeParts_c2 (n : Nat) (kind : Int) (c2 : GNode) (c3 : GNode) (c4 : GSub) : Option Bool :=
  (tree_Has n (⟨kind, (⟨(⟨ByteArray.empty, ByteArray.empty⟩ : GObj), ByteArray.empty⟩ : GRef), [], [c2, c3]⟩ : GNode) c4).bind fun t12 =>
  some t12
theorem law10_TreeParts_c2_ok {n : Nat} {kind : Int} {c2 : GNode} {c3 : GNode} {c4 : GSub} {r : Bool} (H : law10_TreeParts_c2 n kind c2 c3 c4 = some r) : PureOK Try.prog 6 [D.v (.int .i64 kind), D.pt (eGNode c2) 0, D.pt (eGNode c3) 0, D.pt (eGSub c4) 0] (D.v (.bool r)) true := by
  unfold law10_TreeParts_c2 at H
  refine ZP tab_ok fol (rs := #[.tmp 5]) Try.func6 ?_
  refine ZT 1 ?_
  obtain ⟨t12, b1, H2⟩ := bind_inv H
  refine Z0 ?_
  refine ZC0 (tree_Has_ok b1) ?_
  refine Z0 ?_
  obtain rfl := Zi H2
  exact ZE0
def law10_TreeParts_L1 (n : Nat) (t21 : GNode) (s : ByteArray) : Nat → (Bool × Int) → Option (Bool)
  | 0, _ => none
  | c + 1, (t15, t16) =>
    (if (decide (t16 < (t21.subs.length : Int))) then
      (if t15 then
        law10_TreeParts_L1 n t21 s c (true, (IntKind.i64.wrap (t16 + 1)))
      else
        (idx t21.subs t16).bind fun x2 =>
        law10_TreeParts_L1 n t21 s c (((x2.type_ == { data := #[117] }) && ((x2.id_ == s) && (x2.rel == ByteArray.empty))), (IntKind.i64.wrap (t16 + 1))))
    else
      some t15)

def law10_TreeParts (n : Nat) (t0 : List Int) (t1 : List Int) (t2 : Int) (t3 : Int) : Option Bool :=
  (law10_TreeParts_c1 n t0).bind fun t21 =>
  (law10_TreeParts_c1 n t1).bind fun t24 =>
  (bslc ({ data := #[97, 98, 99, 100, 101, 102, 103, 104] }) (IntKind.i64.wrap (an t2 7 : Int)) (IntKind.i64.wrap ((IntKind.i64.wrap (an t2 7 : Int)) + 1))).bind fun s =>
  (tree_Has n t21 (⟨{ data := #[117] }, s, ByteArray.empty⟩ : GSub)).bind fun t34 =>
  (tree_Has n t24 (⟨{ data := #[117] }, s, ByteArray.empty⟩ : GSub)).bind fun t37 =>
  (
    law10_TreeParts_L1 n t21 s n (false, 0) : Option (Bool)).bind fun t153 =>
  (
    (if (decide (t3 < 1)) then
      some true
    else
      some (decide (6 < t3))) : Option (Bool)).bind fun t18 =>
  (if (t34 == t153) then
    (law10_TreeParts_c2 n 3 t21 t24 (⟨{ data := #[117] }, s, ByteArray.empty⟩ : GSub)).bind fun t67 =>
    (if t34 then
      (if (t67 == true) then
        (law10_TreeParts_c2 n 2 t21 t24 (⟨{ data := #[117] }, s, ByteArray.empty⟩ : GSub)).bind fun t76 =>
        (if (t76 == true) then
          (law10_TreeParts_c2 n 4 t21 t24 (⟨{ data := #[117] }, s, ByteArray.empty⟩ : GSub)).bind fun t85 =>
          (if (t85 == t37) then
            (law10_TreeParts_c2 n 5 t21 t24 (⟨{ data := #[117] }, s, ByteArray.empty⟩ : GSub)).bind fun t94 =>
            (if (t94 == (!t37)) then
              (law10_TreeParts_c2 n 6 t21 t24 (⟨{ data := #[117] }, s, ByteArray.empty⟩ : GSub)).bind fun t104 =>
              (if t104 then
                some false
              else
                (tree_Has n (⟨1, (⟨(⟨ByteArray.empty, ByteArray.empty⟩ : GObj), ByteArray.empty⟩ : GRef), [], [t24]⟩ : GNode) (⟨{ data := #[117] }, s, ByteArray.empty⟩ : GSub)).bind fun t112 =>
                (if (t112 == t37) then
                  (tree_Has n (⟨4, (⟨(⟨ByteArray.empty, ByteArray.empty⟩ : GObj), ByteArray.empty⟩ : GRef), [], []⟩ : GNode) (⟨{ data := #[117] }, s, ByteArray.empty⟩ : GSub)).bind fun t119 =>
                  (if t119 then
                    some false
                  else
                    (tree_Has n (⟨5, (⟨(⟨ByteArray.empty, ByteArray.empty⟩ : GObj), ByteArray.empty⟩ : GRef), [], [t21]⟩ : GNode) (⟨{ data := #[117] }, s, ByteArray.empty⟩ : GSub)).bind fun t127 =>
                    (if t127 then
                      some false
                    else
                      (if t18 then
                        (law10_TreeParts_c2 n t3 t21 t24 (⟨{ data := #[117] }, s, ByteArray.empty⟩ : GSub)).bind fun t136 =>
                        (if t136 then
                          some false
                        else
                          (law10_awake n).bind fun t141 =>
                          some t141)
                      else
                        (law10_awake n).bind fun t1412 =>
                        some t1412)))
                else
                  some false))
            else
              some false)
          else
            some false)
        else
          some false)
      else
        some false)
    else
      (if (t67 == t37) then
        (law10_TreeParts_c2 n 2 t21 t24 (⟨{ data := #[117] }, s, ByteArray.empty⟩ : GSub)).bind fun t762 =>
        (if (t762 == t37) then
          (law10_TreeParts_c2 n 4 t21 t24 (⟨{ data := #[117] }, s, ByteArray.empty⟩ : GSub)).bind fun t852 =>
          (if (t852 == false) then
            (law10_TreeParts_c2 n 5 t21 t24 (⟨{ data := #[117] }, s, ByteArray.empty⟩ : GSub)).bind fun t942 =>
            (if (t942 == false) then
              (law10_TreeParts_c2 n 6 t21 t24 (⟨{ data := #[117] }, s, ByteArray.empty⟩ : GSub)).bind fun t1042 =>
              (if t1042 then
                some false
              else
                (tree_Has n (⟨1, (⟨(⟨ByteArray.empty, ByteArray.empty⟩ : GObj), ByteArray.empty⟩ : GRef), [], [t24]⟩ : GNode) (⟨{ data := #[117] }, s, ByteArray.empty⟩ : GSub)).bind fun t1122 =>
                (if (t1122 == t37) then
                  (tree_Has n (⟨4, (⟨(⟨ByteArray.empty, ByteArray.empty⟩ : GObj), ByteArray.empty⟩ : GRef), [], []⟩ : GNode) (⟨{ data := #[117] }, s, ByteArray.empty⟩ : GSub)).bind fun t1192 =>
                  (if t1192 then
                    some false
                  else
                    (tree_Has n (⟨5, (⟨(⟨ByteArray.empty, ByteArray.empty⟩ : GObj), ByteArray.empty⟩ : GRef), [], [t21]⟩ : GNode) (⟨{ data := #[117] }, s, ByteArray.empty⟩ : GSub)).bind fun t1272 =>
                    (if t1272 then
                      some false
                    else
                      (if t18 then
                        (law10_TreeParts_c2 n t3 t21 t24 (⟨{ data := #[117] }, s, ByteArray.empty⟩ : GSub)).bind fun t1362 =>
                        (if t1362 then
                          some false
                        else
                          (law10_awake n).bind fun t1413 =>
                          some t1413)
                      else
                        (law10_awake n).bind fun t1414 =>
                        some t1414)))
                else
                  some false))
            else
              some false)
          else
            some false)
        else
          some false)
      else
        some false))
  else
    some false)
set_option maxHeartbeats 8000000 in
theorem law10_TreeParts_ok {n : Nat} {t0 : List Int} {t1 : List Int} {t2 : Int} {t3 : Int} {r : Bool} (H : law10_TreeParts n t0 t1 t2 t3 = some r) : PureOK Try.prog 3 [D.sl (List.map eI t0), D.sl (List.map eI t1), D.v (.int .i64 t2), D.v (.int .i64 t3)] (D.v (.bool r)) true := by
  unfold law10_TreeParts at H
  refine ZP tab_ok fol (rs := #[.tmp 8]) Try.func3 ?_
  refine runR_seq ?_
  refine ZT 1 ?_
  refine Z0 ?_
  refine runR_seq ?_
  refine ZT 1 ?_
  refine Z0 ?_
  refine runR_seq ?_
  refine ZT 1 ?_
  obtain ⟨t21, b1, H2⟩ := bind_inv H
  refine Z0 ?_
  refine ZC0 (law10_TreeParts_c1_ok b1) ?_
  obtain ⟨t24, b3, H4⟩ := bind_inv H2
  refine Z0 ?_
  refine ZC0 (law10_TreeParts_c1_ok b3) ?_
  refine Z0 ?_
  refine runR_seq ?_
  refine ZT 1 ?_
  obtain ⟨s, b5, H6⟩ := bind_inv H4
  obtain ⟨h7, h8, h9, h10⟩ := bslc_inv b5
  have h11 : Int.toNat (IntKind.i64.wrap (an t2 7 : Int)) ≤ Int.toNat (IntKind.i64.wrap ((IntKind.i64.wrap (an t2 7 : Int)) + 1)) := by omega
  have h12 : Int.toNat (IntKind.i64.wrap ((IntKind.i64.wrap (an t2 7 : Int)) + 1)) ≤ (ByteArray.size ({ data := #[97, 98, 99, 100, 101, 102, 103, 104] })) := by omega
  have h13 : ByteArray.extract ({ data := #[97, 98, 99, 100, 101, 102, 103, 104] }) (Int.toNat (IntKind.i64.wrap (an t2 7 : Int))) (Int.toNat (IntKind.i64.wrap ((IntKind.i64.wrap (an t2 7 : Int)) + 1))) = s := h10.symm
  have h14 : Int.toNat (IntKind.i64.wrap ((IntKind.i64.wrap (an t2 7 : Int)) + 1)) ≤ 8 := h12
  try simp only [Int.toNat_natCast] at h11 h14 h13
  refine Z1 (Y5 (nat_of .i64 h7) (nat_of .i64 (Int.le_trans h7 h8)) h11 h14 h13) ?_
  refine runR_seq ?_
  refine ZT 1 ?_
  obtain ⟨t34, b15, H16⟩ := bind_inv H6
  refine Z1 (Y5 (nat_of .i64 h7) (nat_of .i64 (Int.le_trans h7 h8)) h11 h14 h13) ?_
  refine ZD0 (tree_Has_ok b15) ?_
  obtain ⟨t37, b17, H18⟩ := bind_inv H16
  refine Z1 (Y5 (nat_of .i64 h7) (nat_of .i64 (Int.le_trans h7 h8)) h11 h14 h13) ?_
  refine ZD0 (tree_Has_ok b17) ?_
  refine Z1 (Y5 (nat_of .i64 h7) (nat_of .i64 (Int.le_trans h7 h8)) h11 h14 h13) ?_
  refine Rd_endF (by rfl) ?_
  refine Z1 (Y5 (nat_of .i64 h7) (nat_of .i64 (Int.le_trans h7 h8)) h11 h14 h13) ?_
  refine runR_seq ?_
  refine ZT 1 ?_
  refine Z1 (Y5 (nat_of .i64 h7) (nat_of .i64 (Int.le_trans h7 h8)) h11 h14 h13) ?_
  refine runR_seq ?_
  refine runR_seq ?_
  refine ZT 1 ?_
  refine Z1 (Y5 (nat_of .i64 h7) (nat_of .i64 (Int.le_trans h7 h8)) h11 h14 h13) ?_
  obtain ⟨e_, E19, H20⟩ := bind_inv H18
  refine runR_join (α := { y : Bool // e_ = y }) (fun | ⟨t153, _⟩ => ⟨upd 3 (.v (.int .i64 t3)) (upd 10 (.pt 0 0) (upd 11 (.pt 1 0) (upd 12 (.pt 2 0) (upd 13 (.v (.bool t34)) (upd 14 (.v (.bool t37)) (upd 15 (.v (.bool t153)) noFr)))))), upd 0 (some (.bx [.v (.int .i64 t21.kind), .v (.string t21.ref.obj.type_), .v (.string t21.ref.obj.id_), .v (.string t21.ref.rel), .d (.sl (List.map eGSub t21.subs)) false, .d (.sl (List.map eGNode t21.kids)) false])) (upd 1 (some (.bx [.v (.int .i64 t24.kind), .v (.string t24.ref.obj.type_), .v (.string t24.ref.obj.id_), .v (.string t24.ref.rel), .d (.sl (List.map eGSub t24.subs)) false, .d (.sl (List.map eGNode t24.kids)) false])) (upd 2 (some (.bx [.v (.string { data := #[117] }), .v (.string s), .v (.string ByteArray.empty)])) noHp)), 3⟩) ?_ ?_
  · refine runR_block ?_
    refine runR_loop (α := { q : Nat × (Bool × Int) // law10_TreeParts_L1 n t21 s q.1 q.2 = some e_ }) (fun | ⟨⟨c, ⟨t15, t16⟩⟩, _⟩ => ⟨upd 3 (.v (.int .i64 t3)) (upd 10 (.pt 0 0) (upd 11 (.pt 1 0) (upd 12 (.pt 2 0) (upd 13 (.v (.bool t34)) (upd 14 (.v (.bool t37)) (upd 15 (.v (.bool t15)) (upd 16 (.v (.int .i64 t16)) noFr))))))), upd 0 (some (.bx [.v (.int .i64 t21.kind), .v (.string t21.ref.obj.type_), .v (.string t21.ref.obj.id_), .v (.string t21.ref.rel), .d (.sl (List.map eGSub t21.subs)) false, .d (.sl (List.map eGNode t21.kids)) false])) (upd 1 (some (.bx [.v (.int .i64 t24.kind), .v (.string t24.ref.obj.type_), .v (.string t24.ref.obj.id_), .v (.string t24.ref.rel), .d (.sl (List.map eGSub t24.subs)) false, .d (.sl (List.map eGNode t24.kids)) false])) (upd 2 (some (.bx [.v (.string { data := #[117] }), .v (.string s), .v (.string ByteArray.empty)])) noHp)), 3⟩) (fun q => q.1.1) ⟨(n, (false, 0)), E19⟩ ?_ ?_
    · exact ZR [(0, 8), (1, 9), (2, 19)]
    · rintro ⟨⟨c, ⟨t15, t16⟩⟩, L21⟩
      rcases c with _ | c
      · exact nomatch (show none = some _ from L21)
      · unfold law10_TreeParts_L1 at L21
        try dsimp only at L21
        refine ZT 1 ?_
        refine Z0 ?_
        rcases ite_inv L21 with ⟨c30, H31⟩ | ⟨c30, H31⟩
        · refine Z1 c30 ?_
          rcases ite_inv H31 with ⟨c32, H33⟩ | ⟨c32, H33⟩
          · refine Z1 (Y2 c30 c32) ?_
            refine Rd_endF (by rfl) ?_
            refine Z1 (Y2 c30 c32) ?_
            exact ⟨⟨(c, (true, (IntKind.i64.wrap (t16 + 1)))), H33⟩, ZR [(0, 0), (1, 1), (2, 2)], Nat.lt_succ_self _⟩
          · obtain ⟨x2, b34, H35⟩ := bind_inv H33
            obtain ⟨h36, h37⟩ := idx_inv b34
            try simp only [Int.reduceToNat, Int.toNat_natCast] at h37
            have h38 := map_at eGSub h37
            refine Z1 (Y4 c30 c32 (nat_of .i64 h36) h38) ?_
            refine Rd_endF (by rfl) ?_
            refine Z1 (Y4 c30 c32 (nat_of .i64 h36) h38) ?_
            exact ⟨⟨(c, (((x2.type_ == { data := #[117] }) && ((x2.id_ == s) && (x2.rel == ByteArray.empty))), (IntKind.i64.wrap (t16 + 1)))), H35⟩, ZR [(0, 0), (1, 1), (2, 2)], Nat.lt_succ_self _⟩
        · refine Z1 c30 ?_
          obtain rfl := Zi H31
          exact ⟨⟨t15, rfl⟩, ZR [(0, 0), (1, 1), (2, 2)]⟩
  · rintro ⟨t153, he131⟩
    replace he131 := he131.symm
    subst he131
    try dsimp only at H20
    refine runR_seq ?_
    refine ZT 1 ?_
    refine Z0 ?_
    refine runR_seq ?_
    obtain ⟨e_2, E40, H41⟩ := bind_inv H20
    refine runR_join (α := { y : Bool // e_2 = y }) (fun | ⟨t18, _⟩ => ⟨upd 3 (.v (.int .i64 t3)) (upd 10 (.pt 0 0) (upd 11 (.pt 1 0) (upd 12 (.pt 2 0) (upd 13 (.v (.bool t34)) (upd 14 (.v (.bool t37)) (upd 15 (.v (.bool t153)) (upd 17 (.fn 6 [.pt 0 0, .pt 1 0, .pt 2 0]) (upd 18 (.v (.bool t18)) noFr)))))))), upd 0 (some (.bx [.v (.int .i64 t21.kind), .v (.string t21.ref.obj.type_), .v (.string t21.ref.obj.id_), .v (.string t21.ref.rel), .d (.sl (List.map eGSub t21.subs)) false, .d (.sl (List.map eGNode t21.kids)) false])) (upd 1 (some (.bx [.v (.int .i64 t24.kind), .v (.string t24.ref.obj.type_), .v (.string t24.ref.obj.id_), .v (.string t24.ref.rel), .d (.sl (List.map eGSub t24.subs)) false, .d (.sl (List.map eGNode t24.kids)) false])) (upd 2 (some (.bx [.v (.string { data := #[117] }), .v (.string s), .v (.string ByteArray.empty)])) noHp)), 3⟩) ?_ ?_
    · refine ZT 1 ?_
      refine Z0 ?_
      rcases ite_inv E40 with ⟨c42, H43⟩ | ⟨c42, H43⟩
      · refine Z1 c42 ?_
        obtain rfl := Zi H43
        exact ⟨⟨true, rfl⟩, ZR [(0, 0), (1, 1), (2, 2)]⟩
      · refine Z1 c42 ?_
        obtain rfl := Zi H43
        exact ⟨⟨(decide (6 < t3)), rfl⟩, ZR [(0, 0), (1, 1), (2, 2)]⟩
    · rintro ⟨t18, he130⟩
      replace he130 := he130.symm
      subst he130
      try dsimp only at H41
      refine ZT 1 ?_
      refine Z0 ?_
      rcases ite_inv H41 with ⟨c44, H45⟩ | ⟨c44, H45⟩
      · obtain ⟨t67, b46, H47⟩ := bind_inv H45
        refine Z1 c44 ?_
        refine ZA1 c44 (PureA.of_pure (law10_TreeParts_c2_ok b46)) ?_
        refine Z1 c44 ?_
        rcases ite_inv H47 with ⟨c48, H49⟩ | ⟨c48, H49⟩
        · refine Z1 (Y2 c44 c48) ?_
          rcases ite_inv H49 with ⟨c50, H51⟩ | ⟨c50, H51⟩
          · obtain ⟨t76, b52, H53⟩ := bind_inv H51
            refine Z1 (Y3 c44 c48 c50) ?_
            refine ZA1 (Y3 c44 c48 c50) (PureA.of_pure (law10_TreeParts_c2_ok b52)) ?_
            refine Z1 (Y3 c44 c48 c50) ?_
            rcases ite_inv H53 with ⟨c54, H55⟩ | ⟨c54, H55⟩
            · obtain ⟨t85, b56, H57⟩ := bind_inv H55
              refine Z1 (Y4 c44 c48 c50 c54) ?_
              refine ZA1 (Y4 c44 c48 c50 c54) (PureA.of_pure (law10_TreeParts_c2_ok b56)) ?_
              refine Z1 (Y4 c44 c48 c50 c54) ?_
              rcases ite_inv H57 with ⟨c58, H59⟩ | ⟨c58, H59⟩
              · obtain ⟨t94, b60, H61⟩ := bind_inv H59
                refine Z1 (Y5 c44 c48 c50 c54 c58) ?_
                refine ZA1 (Y5 c44 c48 c50 c54 c58) (PureA.of_pure (law10_TreeParts_c2_ok b60)) ?_
                refine Z1 (Y5 c44 c48 c50 c54 c58) ?_
                rcases ite_inv H61 with ⟨c62, H63⟩ | ⟨c62, H63⟩
                · obtain ⟨t104, b64, H65⟩ := bind_inv H63
                  refine Z1 (Y6 c44 c48 c50 c54 c58 c62) ?_
                  refine ZA1 (Y6 c44 c48 c50 c54 c58 c62) (PureA.of_pure (law10_TreeParts_c2_ok b64)) ?_
                  refine Z1 (Y6 c44 c48 c50 c54 c58 c62) ?_
                  rcases ite_inv H65 with ⟨c66, H67⟩ | ⟨c66, H67⟩
                  · refine Z1 (Y2 (Y6 c44 c48 c50 c54 c58 c62) c66) ?_
                    obtain rfl := Zi H67
                    exact ZE0
                  · obtain ⟨t112, b68, H69⟩ := bind_inv H67
                    refine Z1 (Y2 (Y6 c44 c48 c50 c54 c58 c62) c66) ?_
                    refine ZC1 (Y2 (Y6 c44 c48 c50 c54 c58 c62) c66) (tree_Has_ok b68) ?_
                    refine Z1 (Y2 (Y6 c44 c48 c50 c54 c58 c62) c66) ?_
                    rcases ite_inv H69 with ⟨c70, H71⟩ | ⟨c70, H71⟩
                    · obtain ⟨t119, b72, H73⟩ := bind_inv H71
                      refine Z1 (Y2 (Y6 c44 c48 c50 c54 c58 c62) (Y2 c66 c70)) ?_
                      refine ZC0 (tree_Has_ok b72) ?_
                      refine Z1 (Y2 (Y6 c44 c48 c50 c54 c58 c62) (Y2 c66 c70)) ?_
                      rcases ite_inv H73 with ⟨c74, H75⟩ | ⟨c74, H75⟩
                      · refine Z1 (Y2 (Y6 c44 c48 c50 c54 c58 c62) (Y3 c66 c70 c74)) ?_
                        obtain rfl := Zi H75
                        exact ZE0
                      · obtain ⟨t127, b76, H77⟩ := bind_inv H75
                        refine Z1 (Y2 (Y6 c44 c48 c50 c54 c58 c62) (Y3 c66 c70 c74)) ?_
                        refine ZC1 (Y2 (Y6 c44 c48 c50 c54 c58 c62) (Y3 c66 c70 c74)) (tree_Has_ok b76) ?_
                        refine Z1 (Y2 (Y6 c44 c48 c50 c54 c58 c62) (Y3 c66 c70 c74)) ?_
                        rcases ite_inv H77 with ⟨c78, H79⟩ | ⟨c78, H79⟩
                        · refine Z1 (Y2 (Y6 c44 c48 c50 c54 c58 c62) (Y4 c66 c70 c74 c78)) ?_
                          obtain rfl := Zi H79
                          exact ZE0
                        · refine Z1 (Y2 (Y6 c44 c48 c50 c54 c58 c62) (Y4 c66 c70 c74 c78)) ?_
                          rcases ite_inv H79 with ⟨c80, H81⟩ | ⟨c80, H81⟩
                          · obtain ⟨t136, b82, H83⟩ := bind_inv H81
                            refine Z1 (Y2 (Y6 c44 c48 c50 c54 c58 c62) (Y5 c66 c70 c74 c78 c80)) ?_
                            refine ZA1 (Y2 (Y6 c44 c48 c50 c54 c58 c62) (Y5 c66 c70 c74 c78 c80)) (PureA.of_pure (law10_TreeParts_c2_ok b82)) ?_
                            refine Z1 (Y2 (Y6 c44 c48 c50 c54 c58 c62) (Y5 c66 c70 c74 c78 c80)) ?_
                            rcases ite_inv H83 with ⟨c84, H85⟩ | ⟨c84, H85⟩
                            · refine Z1 (Y2 (Y6 c44 c48 c50 c54 c58 c62) (Y6 c66 c70 c74 c78 c80 c84)) ?_
                              obtain rfl := Zi H85
                              exact ZE0
                            · obtain ⟨t141, b86, H87⟩ := bind_inv H85
                              refine Z1 (Y2 (Y6 c44 c48 c50 c54 c58 c62) (Y6 c66 c70 c74 c78 c80 c84)) ?_
                              refine ZC0 (law10_awake_ok b86) ?_
                              refine Z1 (Y2 (Y6 c44 c48 c50 c54 c58 c62) (Y6 c66 c70 c74 c78 c80 c84)) ?_
                              obtain rfl := Zi H87
                              exact ZE0
                          · obtain ⟨t1412, b88, H89⟩ := bind_inv H81
                            refine Z1 (Y2 (Y6 c44 c48 c50 c54 c58 c62) (Y5 c66 c70 c74 c78 c80)) ?_
                            refine ZC0 (law10_awake_ok b88) ?_
                            refine Z1 (Y2 (Y6 c44 c48 c50 c54 c58 c62) (Y5 c66 c70 c74 c78 c80)) ?_
                            obtain rfl := Zi H89
                            exact ZE0
                    · refine Z1 (Y2 (Y6 c44 c48 c50 c54 c58 c62) (Y2 c66 c70)) ?_
                      obtain rfl := Zi H71
                      exact ZE0
                · refine Z1 (Y6 c44 c48 c50 c54 c58 c62) ?_
                  obtain rfl := Zi H63
                  exact ZE0
              · refine Z1 (Y5 c44 c48 c50 c54 c58) ?_
                obtain rfl := Zi H59
                exact ZE0
            · refine Z1 (Y4 c44 c48 c50 c54) ?_
              obtain rfl := Zi H55
              exact ZE0
          · refine Z1 (Y3 c44 c48 c50) ?_
            obtain rfl := Zi H51
            exact ZE0
        · refine Z1 (Y2 c44 c48) ?_
          rcases ite_inv H49 with ⟨c90, H91⟩ | ⟨c90, H91⟩
          · obtain ⟨t762, b92, H93⟩ := bind_inv H91
            refine Z1 (Y3 c44 c48 c90) ?_
            refine ZA1 (Y3 c44 c48 c90) (PureA.of_pure (law10_TreeParts_c2_ok b92)) ?_
            refine Z1 (Y3 c44 c48 c90) ?_
            rcases ite_inv H93 with ⟨c94, H95⟩ | ⟨c94, H95⟩
            · obtain ⟨t852, b96, H97⟩ := bind_inv H95
              refine Z1 (Y4 c44 c48 c90 c94) ?_
              refine ZA1 (Y4 c44 c48 c90 c94) (PureA.of_pure (law10_TreeParts_c2_ok b96)) ?_
              refine Z1 (Y4 c44 c48 c90 c94) ?_
              rcases ite_inv H97 with ⟨c98, H99⟩ | ⟨c98, H99⟩
              · obtain ⟨t942, b100, H101⟩ := bind_inv H99
                refine Z1 (Y5 c44 c48 c90 c94 c98) ?_
                refine ZA1 (Y5 c44 c48 c90 c94 c98) (PureA.of_pure (law10_TreeParts_c2_ok b100)) ?_
                refine Z1 (Y5 c44 c48 c90 c94 c98) ?_
                rcases ite_inv H101 with ⟨c102, H103⟩ | ⟨c102, H103⟩
                · obtain ⟨t1042, b104, H105⟩ := bind_inv H103
                  refine Z1 (Y6 c44 c48 c90 c94 c98 c102) ?_
                  refine ZA1 (Y6 c44 c48 c90 c94 c98 c102) (PureA.of_pure (law10_TreeParts_c2_ok b104)) ?_
                  refine Z1 (Y6 c44 c48 c90 c94 c98 c102) ?_
                  rcases ite_inv H105 with ⟨c106, H107⟩ | ⟨c106, H107⟩
                  · refine Z1 (Y2 (Y6 c44 c48 c90 c94 c98 c102) c106) ?_
                    obtain rfl := Zi H107
                    exact ZE0
                  · obtain ⟨t1122, b108, H109⟩ := bind_inv H107
                    refine Z1 (Y2 (Y6 c44 c48 c90 c94 c98 c102) c106) ?_
                    refine ZC1 (Y2 (Y6 c44 c48 c90 c94 c98 c102) c106) (tree_Has_ok b108) ?_
                    refine Z1 (Y2 (Y6 c44 c48 c90 c94 c98 c102) c106) ?_
                    rcases ite_inv H109 with ⟨c110, H111⟩ | ⟨c110, H111⟩
                    · obtain ⟨t1192, b112, H113⟩ := bind_inv H111
                      refine Z1 (Y2 (Y6 c44 c48 c90 c94 c98 c102) (Y2 c106 c110)) ?_
                      refine ZC0 (tree_Has_ok b112) ?_
                      refine Z1 (Y2 (Y6 c44 c48 c90 c94 c98 c102) (Y2 c106 c110)) ?_
                      rcases ite_inv H113 with ⟨c114, H115⟩ | ⟨c114, H115⟩
                      · refine Z1 (Y2 (Y6 c44 c48 c90 c94 c98 c102) (Y3 c106 c110 c114)) ?_
                        obtain rfl := Zi H115
                        exact ZE0
                      · obtain ⟨t1272, b116, H117⟩ := bind_inv H115
                        refine Z1 (Y2 (Y6 c44 c48 c90 c94 c98 c102) (Y3 c106 c110 c114)) ?_
                        refine ZC1 (Y2 (Y6 c44 c48 c90 c94 c98 c102) (Y3 c106 c110 c114)) (tree_Has_ok b116) ?_
                        refine Z1 (Y2 (Y6 c44 c48 c90 c94 c98 c102) (Y3 c106 c110 c114)) ?_
                        rcases ite_inv H117 with ⟨c118, H119⟩ | ⟨c118, H119⟩
                        · refine Z1 (Y2 (Y6 c44 c48 c90 c94 c98 c102) (Y4 c106 c110 c114 c118)) ?_
                          obtain rfl := Zi H119
                          exact ZE0
                        · refine Z1 (Y2 (Y6 c44 c48 c90 c94 c98 c102) (Y4 c106 c110 c114 c118)) ?_
                          rcases ite_inv H119 with ⟨c120, H121⟩ | ⟨c120, H121⟩
                          · obtain ⟨t1362, b122, H123⟩ := bind_inv H121
                            refine Z1 (Y2 (Y6 c44 c48 c90 c94 c98 c102) (Y5 c106 c110 c114 c118 c120)) ?_
                            refine ZA1 (Y2 (Y6 c44 c48 c90 c94 c98 c102) (Y5 c106 c110 c114 c118 c120)) (PureA.of_pure (law10_TreeParts_c2_ok b122)) ?_
                            refine Z1 (Y2 (Y6 c44 c48 c90 c94 c98 c102) (Y5 c106 c110 c114 c118 c120)) ?_
                            rcases ite_inv H123 with ⟨c124, H125⟩ | ⟨c124, H125⟩
                            · refine Z1 (Y2 (Y6 c44 c48 c90 c94 c98 c102) (Y6 c106 c110 c114 c118 c120 c124)) ?_
                              obtain rfl := Zi H125
                              exact ZE0
                            · obtain ⟨t1413, b126, H127⟩ := bind_inv H125
                              refine Z1 (Y2 (Y6 c44 c48 c90 c94 c98 c102) (Y6 c106 c110 c114 c118 c120 c124)) ?_
                              refine ZC0 (law10_awake_ok b126) ?_
                              refine Z1 (Y2 (Y6 c44 c48 c90 c94 c98 c102) (Y6 c106 c110 c114 c118 c120 c124)) ?_
                              obtain rfl := Zi H127
                              exact ZE0
                          · obtain ⟨t1414, b128, H129⟩ := bind_inv H121
                            refine Z1 (Y2 (Y6 c44 c48 c90 c94 c98 c102) (Y5 c106 c110 c114 c118 c120)) ?_
                            refine ZC0 (law10_awake_ok b128) ?_
                            refine Z1 (Y2 (Y6 c44 c48 c90 c94 c98 c102) (Y5 c106 c110 c114 c118 c120)) ?_
                            obtain rfl := Zi H129
                            exact ZE0
                    · refine Z1 (Y2 (Y6 c44 c48 c90 c94 c98 c102) (Y2 c106 c110)) ?_
                      obtain rfl := Zi H111
                      exact ZE0
                · refine Z1 (Y6 c44 c48 c90 c94 c98 c102) ?_
                  obtain rfl := Zi H103
                  exact ZE0
              · refine Z1 (Y5 c44 c48 c90 c94 c98) ?_
                obtain rfl := Zi H99
                exact ZE0
            · refine Z1 (Y4 c44 c48 c90 c94) ?_
              obtain rfl := Zi H95
              exact ZE0
          · refine Z1 (Y3 c44 c48 c90) ?_
            obtain rfl := Zi H91
            exact ZE0
      · refine Z1 c44 ?_
        obtain rfl := Zi H45
        exact ZE0
end Go.Proofs.Ytjdliklpjmdicaa.Ab
