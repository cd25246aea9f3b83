/-
  Functions, read off the code.
-/
import Derived.Test.YtjfpmgdbkhooeaaDoorLns
import Derived.Test.YtjfpmgdbkhooeaaDoorLsc
import Derived.Test.YtjfpmgdbkhooeaaDoorLsj
namespace Go.Proofs.YtjfpmgdbkhooeaaDoor.Ab
open Go.RowKit
def stringslite_HasSuffix (n : Nat) (s : ByteArray) (suffix : ByteArray) : Option Bool :=
  (if (decide ((suffix.size : Int) ≤ (s.size : Int))) then
    (bslc s (IntKind.i64.wrap ((s.size : Int) - (suffix.size : Int))) (s.size : Int)).bind fun s2 =>
    some (s2.toList == suffix.toList)
  else
    some false)
theorem stringslite_HasSuffix_ok {n : Nat} {s : ByteArray} {suffix : ByteArray} {r : Bool} (H : stringslite_HasSuffix n s suffix = some r) : PureOK Tryd.prog 52 [D.v (.string s), D.v (.string suffix)] (D.v (.bool r)) true := by
  unfold stringslite_HasSuffix at H
  refine ZP tab_ok fol (rs := #[.tmp 4]) Tryd.func52 ?_
  refine ZT 1 ?_
  refine Z0 ?_
  rcases ite_inv H with ⟨c1, H2⟩ | ⟨c1, H2⟩
  · obtain ⟨s2, b3, H4⟩ := bind_inv H2
    obtain ⟨h5, h6, h7, h8⟩ := bslc_inv b3
    have h9 : Int.toNat (IntKind.i64.wrap ((s.size : Int) - (suffix.size : Int))) ≤ s.size := by omega
    have h10 : s.size ≤ s.size := by omega
    have h11 : ByteArray.extract s (Int.toNat (IntKind.i64.wrap ((s.size : Int) - (suffix.size : Int)))) (s.size) = s2 := h8.symm
    try simp only [Int.toNat_natCast] at h9 h10 h11
    refine Z1 (Y5 c1 (nat_of .i64 h5) h9 h10 h11) ?_
    obtain rfl := Zi H4
    exact ZE0
  · refine Z1 c1 ?_
    obtain rfl := Zi H2
    exact ZE0
def stringslite_TrimSuffix (n : Nat) (s : ByteArray) (suffix : ByteArray) : Option ByteArray :=
  (stringslite_HasSuffix n s suffix).bind fun t7 =>
  (if t7 then
    (bslc s 0 (IntKind.i64.wrap ((s.size : Int) - (suffix.size : Int)))).bind fun s2 =>
    some s2
  else
    some s)
theorem stringslite_TrimSuffix_ok {n : Nat} {s : ByteArray} {suffix : ByteArray} {r : ByteArray} (H : stringslite_TrimSuffix n s suffix = some r) : PureOK Tryd.prog 40 [D.v (.string s), D.v (.string suffix)] (D.v (.string r)) true := by
  unfold stringslite_TrimSuffix at H
  refine ZP tab_ok fol (rs := #[.tmp 4]) Tryd.func40 ?_
  refine ZT 1 ?_
  obtain ⟨t7, b1, H2⟩ := bind_inv H
  refine Z0 ?_
  refine ZC0 (stringslite_HasSuffix_ok b1) ?_
  refine Z0 ?_
  rcases ite_inv H2 with ⟨c3, H4⟩ | ⟨c3, H4⟩
  · obtain ⟨s2, b5, H6⟩ := bind_inv H4
    obtain ⟨h7, h8, h9, h10⟩ := bslc_inv b5
    have h11 : 0 ≤ Int.toNat (IntKind.i64.wrap ((s.size : Int) - (suffix.size : Int))) := by omega
    have h12 : Int.toNat (IntKind.i64.wrap ((s.size : Int) - (suffix.size : Int))) ≤ s.size := by omega
    have h13 : ByteArray.extract s (0) (Int.toNat (IntKind.i64.wrap ((s.size : Int) - (suffix.size : Int)))) = s2 := h10.symm
    try simp only [Int.toNat_natCast] at h11 h12 h13
    refine Z1 (Y5 c3 (nat_of .i64 (Int.le_trans h7 h8)) h11 h12 h13) ?_
    obtain rfl := Zi H6
    exact ZE0
  · refine Z1 c3 ?_
    obtain rfl := Zi H4
    exact ZE0
def strings_TrimSuffix (n : Nat) (s : ByteArray) (suffix : ByteArray) : Option ByteArray :=
  (stringslite_TrimSuffix n s suffix).bind fun t7 =>
  some t7
theorem strings_TrimSuffix_ok {n : Nat} {s : ByteArray} {suffix : ByteArray} {r : ByteArray} (H : strings_TrimSuffix n s suffix = some r) : PureOK Tryd.prog 30 [D.v (.string s), D.v (.string suffix)] (D.v (.string r)) true := by
  unfold strings_TrimSuffix at H
  refine ZP tab_ok fol (rs := #[.tmp 4]) Tryd.func30 ?_
  refine ZT 1 ?_
  obtain ⟨t7, b1, H2⟩ := bind_inv H
  refine Z0 ?_
  refine ZC0 (stringslite_TrimSuffix_ok b1) ?_
  refine Z0 ?_
  obtain rfl := Zi H2
  exact ZE0
def line_bare (n : Nat) (s : ByteArray) : Option ByteArray :=
  (strings_TrimSuffix n s ({ data := #[13] })).bind fun t4 =>
  some t4
theorem line_bare_ok {n : Nat} {s : ByteArray} {r : ByteArray} (H : line_bare n s = some r) : PureOK Tryd.prog 20 [D.v (.string s)] (D.v (.string r)) true := by
  unfold line_bare at H
  refine ZP tab_ok fol (rs := #[.tmp 2]) Tryd.func20 ?_
  refine ZT 1 ?_
  obtain ⟨t4, b1, H2⟩ := bind_inv H
  refine Z0 ?_
  refine ZC0 (strings_TrimSuffix_ok b1) ?_
  refine Z0 ?_
  obtain rfl := Zi H2
  exact ZE0
def line_wrong_L1 (n : Nat) (s : ByteArray) : Nat → Int → Option ((Unit) ⊕ Int)
  | 0, _ => none
  | c + 1, t7 =>
    (if (decide (t7 < (s.size : Int))) then
      (bidx s t7).bind fun ch2 =>
      (if (ch2 != 9) then
        (if (decide (ch2 < 32)) then
          some (.inr t7)
        else
          (if (decide (126 < ch2)) then
            some (.inr t7)
          else
            line_wrong_L1 n s c (IntKind.i64.wrap (t7 + 1))))
      else
        line_wrong_L1 n s c (IntKind.i64.wrap (t7 + 1)))
    else
      some (.inl ()))

def line_wrong (n : Nat) (s : ByteArray) : Option Int :=
  (
    line_wrong_L1 n s n 0 : Option ((Unit) ⊕ Int)).bind fun
    | .inl _ =>
      some (-1)
    | .inr r => some r
theorem line_wrong_ok {n : Nat} {s : ByteArray} {r : Int} (H : line_wrong n s = some r) : PureOK Tryd.prog 21 [D.v (.string s)] (D.v (.int .i64 r)) true := by
  unfold line_wrong at H
  refine ZP tab_ok fol (rs := #[.tmp 2]) Tryd.func21 ?_
  refine runR_seq ?_
  refine ZT 1 ?_
  refine Z0 ?_
  refine runR_seq ?_
  refine runR_seq ?_
  refine ZT 1 ?_
  refine Z0 ?_
  obtain ⟨e_, E1, H2⟩ := bind_inv H
  refine runR_join (α := { y : Unit // e_ = .inl y }) (fun | ⟨_, _⟩ => ⟨noFr, noHp, 0⟩) ?_ ?_
  · refine runR_block ?_
    refine runR_loop (α := { q : Nat × Int // line_wrong_L1 n s q.1 q.2 = some e_ }) (fun | ⟨⟨c, t7⟩, _⟩ => ⟨upd 0 (.v (.string s)) (upd 6 (.v (.int .i64 (s.size : Int))) (upd 7 (.v (.int .i64 t7)) noFr)), noHp, 0⟩) (fun q => q.1.1) ⟨(n, 0), E1⟩ ?_ ?_
    · exact ZR []
    · rintro ⟨⟨c, t7⟩, L3⟩
      rcases c with _ | c
      · exact nomatch (show none = some _ from L3)
      · unfold line_wrong_L1 at L3
        try dsimp only at L3
        refine ZT 1 ?_
        refine Z0 ?_
        rcases ite_inv L3 with ⟨c17, H18⟩ | ⟨c17, H18⟩
        · obtain ⟨ch2, b19, H20⟩ := bind_inv H18
          obtain ⟨h21, by_2, h22, h23⟩ := bidx_inv b19
          try simp only [Int.reduceToNat, Int.toNat_natCast] at h22
          refine Z1 (Y4 c17 (nat_of .i64 h21) h22 h23.symm) ?_
          rcases ite_inv H20 with ⟨c24, H25⟩ | ⟨c24, H25⟩
          · refine Z1 (Y5 c17 (nat_of .i64 h21) h22 h23.symm c24) ?_
            rcases ite_inv H25 with ⟨c26, H27⟩ | ⟨c26, H27⟩
            · refine Z1 (Y6 c17 (nat_of .i64 h21) h22 h23.symm c24 c26) ?_
              obtain rfl := Zi H27
              obtain rfl := Zi H2
              exact ZE0
            · refine Z1 (Y6 c17 (nat_of .i64 h21) h22 h23.symm c24 c26) ?_
              rcases ite_inv H27 with ⟨c28, H29⟩ | ⟨c28, H29⟩
              · refine Z1 (Y2 (Y6 c17 (nat_of .i64 h21) h22 h23.symm c24 c26) c28) ?_
                obtain rfl := Zi H29
                obtain rfl := Zi H2
                exact ZE0
              · refine Z1 (Y2 (Y6 c17 (nat_of .i64 h21) h22 h23.symm c24 c26) c28) ?_
                exact ⟨⟨(c, (IntKind.i64.wrap (t7 + 1))), H29⟩, ZR [], Nat.lt_succ_self _⟩
          · refine Z1 (Y5 c17 (nat_of .i64 h21) h22 h23.symm c24) ?_
            exact ⟨⟨(c, (IntKind.i64.wrap (t7 + 1))), H25⟩, ZR [], Nat.lt_succ_self _⟩
        · refine Z1 c17 ?_
          obtain rfl := Zi H18
          exact ⟨⟨(), rfl⟩, ZR []⟩
  · rintro ⟨_, he30⟩
    replace he30 := he30.symm
    subst he30
    try dsimp only at H2
    refine ZT 1 ?_
    refine Z0 ?_
    obtain rfl := Zi H2
    exact ZE0
def strings_IndexByte (n : Nat) (s : ByteArray) (c2 : Int) : Option Int :=
  (stringslite_IndexByte n s c2).bind fun t7 =>
  some t7
theorem strings_IndexByte_ok {n : Nat} {s : ByteArray} {c2 : Int} {r : Int} (H : strings_IndexByte n s c2 = some r) : PureOK Tryd.prog 32 [D.v (.string s), D.v (.int .u8 c2)] (D.v (.int .i64 r)) true := by
  unfold strings_IndexByte at H
  refine ZP tab_ok fol (rs := #[.tmp 4]) Tryd.func32 ?_
  refine ZT 1 ?_
  obtain ⟨t7, b1, H2⟩ := bind_inv H
  refine Z0 ?_
  refine ZC0 (stringslite_IndexByte_ok b1) ?_
  refine Z0 ?_
  obtain rfl := Zi H2
  exact ZE0
def line_words_L1 (n : Nat) (s : ByteArray) (at_ : Int) : Nat → (List GWord × Int) → Option (List GWord)
  | 0, _ => none
  | c + 1, (out, i) =>
    (if (decide (i < (s.size : Int))) then
      (bslc s i (s.size : Int)).bind fun s5 =>
      (bslc s5 0 1).bind fun s6 =>
      (strings_Contains n ({ data := #[32, 9] }) s6).bind fun t192 =>
      (if t192 then
        line_words_L1 n s at_ c (out, (IntKind.i64.wrap (i + 1)))
      else
        (bidx s5 0).bind fun ch2 =>
        (if (ch2 == 35) then
          some out
        else
          (strings_IndexByte n s5 32).bind fun t262 =>
          (strings_IndexByte n s5 9).bind fun t282 =>
          (
            (if (decide (t262 < 0)) then
              some true
            else
              (if (decide (0 ≤ t282)) then
                some (decide (t282 < t262))
              else
                some false)) : Option (Bool)).bind fun t392 =>
          (
            (if t392 then
              some t282
            else
              some t262) : Option (Int)).bind fun n_3 =>
          (
            (if (decide (n_3 < 0)) then
              some (s5.size : Int)
            else
              some n_3) : Option (Int)).bind fun n_4 =>
          (bslc s5 0 n_4).bind fun s7 =>
          (app out [(⟨s7, (IntKind.i64.wrap (at_ + i))⟩ : GWord)]).bind fun l =>
          line_words_L1 n s at_ c (l, (IntKind.i64.wrap (i + n_4)))))
    else
      some out)

def line_words (n : Nat) (s : ByteArray) (at_ : Int) : Option (List GWord) :=
  (
    line_words_L1 n s at_ n ([], 0) : Option (List GWord)).bind fun out3 =>
  some out3
set_option maxHeartbeats 8000000 in
theorem line_words_ok {n : Nat} {s : ByteArray} {at_ : Int} {r : List GWord} (H : line_words n s at_ = some r) : PureOK Tryd.prog 22 [D.v (.string s), D.v (.int .i64 at_)] (D.sl (List.map eGWord r)) true := by
  unfold line_words at H
  refine ZP tab_ok fol (rs := #[.tmp 4]) Tryd.func22 ?_
  refine runR_seq ?_
  refine ZT 1 ?_
  refine Z0 ?_
  refine runR_seq ?_
  refine ZT 1 ?_
  refine Z0 ?_
  refine runR_seq ?_
  refine runR_seq ?_
  refine ZT 1 ?_
  refine Z0 ?_
  obtain ⟨e_, E1, H2⟩ := bind_inv H
  refine runR_join (α := { y : List GWord // e_ = y } × Nat) (fun | ⟨⟨out3, _⟩, g6⟩ => ⟨upd 5 (accV 0 g6 (List.map eGWord out3)) noFr, upd 0 (accO 2 g6 false (List.map eGWord out3)) noHp, 1⟩) ?_ ?_
  · refine runR_block ?_
    refine runR_loop (α := { q : (Nat × (List GWord × Int)) × Nat // line_words_L1 n s at_ q.1.1 q.1.2 = some e_ }) (fun | ⟨⟨⟨c, ⟨out, i⟩⟩, g⟩, _⟩ => ⟨upd 0 (.v (.string s)) (upd 1 (.v (.int .i64 at_)) (upd 5 (accV 0 g (List.map eGWord out)) (upd 6 (.v (.int .i64 i)) noFr))), upd 0 (accO 2 g false (List.map eGWord out)) noHp, 1⟩) (fun q => q.1.1.1) ⟨((n, ([], 0)), 0), E1⟩ ?_ ?_
    · exact ZR []
    · rintro ⟨⟨⟨c, ⟨out, i⟩⟩, g⟩, L3⟩
      rcases c with _ | c
      · exact nomatch (show none = some _ from L3)
      · unfold line_words_L1 at L3
        try dsimp only at L3
        refine runR_seq ?_
        refine ZT 1 ?_
        refine Z0 ?_
        rcases ite_inv L3 with ⟨c65, H66⟩ | ⟨c65, H66⟩
        · refine Z1 c65 ?_
          refine runR_block ?_
          refine runR_seq ?_
          refine ZT 1 ?_
          obtain ⟨s5, b67, H68⟩ := bind_inv H66
          obtain ⟨h69, h70, h71, h72⟩ := bslc_inv b67
          have h73 : Int.toNat i ≤ s.size := by omega
          have h74 : s.size ≤ s.size := by omega
          have h75 : ByteArray.extract s (Int.toNat i) (s.size) = s5 := h72.symm
          try simp only [Int.toNat_natCast] at h73 h74 h75
          refine Z1 (Y5 c65 (nat_of .i64 h69) h73 h74 h75) ?_
          refine runR_seq ?_
          refine ZT 1 ?_
          obtain ⟨s6, b76, H77⟩ := bind_inv H68
          obtain ⟨h78, h79, h80, h81⟩ := bslc_inv b76
          have h82 : 0 ≤ 1 := by omega
          have h83 : 1 ≤ s5.size := by omega
          have h84 : ByteArray.extract s5 (0) (1) = s6 := h81.symm
          try simp only [Int.toNat_natCast] at h82 h83 h84
          obtain ⟨t192, b85, H86⟩ := bind_inv H77
          refine Z1 (Y2 (Y6 c65 (nat_of .i64 h69) h73 h74 h75 (nat_of .i64 (Int.le_trans h78 h79))) (Y3 h82 h83 h84)) ?_
          refine ZC0 (strings_Contains_ok b85) ?_
          refine Z1 (Y2 (Y6 c65 (nat_of .i64 h69) h73 h74 h75 (nat_of .i64 (Int.le_trans h78 h79))) (Y3 h82 h83 h84)) ?_
          rcases ite_inv H86 with ⟨c87, H88⟩ | ⟨c87, H88⟩
          · refine Z1 (Y2 (Y6 c65 (nat_of .i64 h69) h73 h74 h75 (nat_of .i64 (Int.le_trans h78 h79))) (Y4 h82 h83 h84 c87)) ?_
            exact ⟨⟨((c, (out, (IntKind.i64.wrap (i + 1)))), g), H88⟩, ZR [(0, 0)], Nat.lt_succ_self _⟩
          · refine Z1 (Y2 (Y6 c65 (nat_of .i64 h69) h73 h74 h75 (nat_of .i64 (Int.le_trans h78 h79))) (Y4 h82 h83 h84 c87)) ?_
            refine runR_seq ?_
            refine ZT 1 ?_
            obtain ⟨ch2, b89, H90⟩ := bind_inv H88
            obtain ⟨h91, by_2, h92, h93⟩ := bidx_inv b89
            try simp only [Int.reduceToNat, Int.toNat_natCast] at h92
            refine Z1 (Y3 (Y6 c65 (nat_of .i64 h69) h73 h74 h75 (nat_of .i64 (Int.le_trans h78 h79))) (Y6 h82 h83 h84 c87 (nat_of .i64 h91) h92) h93.symm) ?_
            rcases ite_inv H90 with ⟨c94, H95⟩ | ⟨c94, H95⟩
            · refine Z1 (Y3 (Y6 c65 (nat_of .i64 h69) h73 h74 h75 (nat_of .i64 (Int.le_trans h78 h79))) (Y6 h82 h83 h84 c87 (nat_of .i64 h91) h92) (Y2 h93.symm c94)) ?_
              obtain rfl := Zi H95
              exact ⟨⟨⟨out, rfl⟩, g⟩, ZR [(0, 0)]⟩
            · refine Z1 (Y3 (Y6 c65 (nat_of .i64 h69) h73 h74 h75 (nat_of .i64 (Int.le_trans h78 h79))) (Y6 h82 h83 h84 c87 (nat_of .i64 h91) h92) (Y2 h93.symm c94)) ?_
              refine runR_seq ?_
              refine ZT 1 ?_
              obtain ⟨t262, b96, H97⟩ := bind_inv H95
              refine Z1 (Y3 (Y6 c65 (nat_of .i64 h69) h73 h74 h75 (nat_of .i64 (Int.le_trans h78 h79))) (Y6 h82 h83 h84 c87 (nat_of .i64 h91) h92) (Y2 h93.symm c94)) ?_
              refine ZC0 (strings_IndexByte_ok b96) ?_
              refine Z1 (Y3 (Y6 c65 (nat_of .i64 h69) h73 h74 h75 (nat_of .i64 (Int.le_trans h78 h79))) (Y6 h82 h83 h84 c87 (nat_of .i64 h91) h92) (Y2 h93.symm c94)) ?_
              refine runR_seq ?_
              refine runR_seq ?_
              refine ZT 1 ?_
              obtain ⟨t282, b98, H99⟩ := bind_inv H97
              refine Z1 (Y3 (Y6 c65 (nat_of .i64 h69) h73 h74 h75 (nat_of .i64 (Int.le_trans h78 h79))) (Y6 h82 h83 h84 c87 (nat_of .i64 h91) h92) (Y2 h93.symm c94)) ?_
              refine ZC0 (strings_IndexByte_ok b98) ?_
              refine Z1 (Y3 (Y6 c65 (nat_of .i64 h69) h73 h74 h75 (nat_of .i64 (Int.le_trans h78 h79))) (Y6 h82 h83 h84 c87 (nat_of .i64 h91) h92) (Y2 h93.symm c94)) ?_
              refine runR_seq ?_
              obtain ⟨e_5, E100, H101⟩ := bind_inv H99
              refine runR_join (α := { y : Bool // e_5 = y } × Nat) (fun | ⟨⟨t392, _⟩, g2⟩ => ⟨upd 0 (.v (.string s)) (upd 1 (.v (.int .i64 at_)) (upd 5 (accV 0 g2 (List.map eGWord out)) (upd 6 (.v (.int .i64 i)) (upd 7 (.v (.string s5)) (upd 8 (.v (.int .i64 t262)) (upd 9 (.v (.int .i64 t282)) (upd 39 (.v (.bool t392)) noFr))))))), upd 0 (accO 2 g2 false (List.map eGWord out)) noHp, 1⟩) ?_ ?_
              · refine ZT 1 ?_
                refine Z0 ?_
                rcases ite_inv E100 with ⟨c102, H103⟩ | ⟨c102, H103⟩
                · refine Z1 c102 ?_
                  obtain rfl := Zi H103
                  exact ⟨⟨⟨true, rfl⟩, g⟩, ZR [(0, 0)]⟩
                · refine Z1 c102 ?_
                  rcases ite_inv H103 with ⟨c104, H105⟩ | ⟨c104, H105⟩
                  · refine Z1 (Y2 c102 c104) ?_
                    obtain rfl := Zi H105
                    exact ⟨⟨⟨(decide (t282 < t262)), rfl⟩, g⟩, ZR [(0, 0)]⟩
                  · refine Z1 (Y2 c102 c104) ?_
                    obtain rfl := Zi H105
                    exact ⟨⟨⟨false, rfl⟩, g⟩, ZR [(0, 0)]⟩
              · rintro ⟨⟨t392, he133⟩, g2⟩
                replace he133 := he133.symm
                subst he133
                try dsimp only at H101
                obtain ⟨e_6, E106, H107⟩ := bind_inv H101
                refine runR_join (α := { y : Int // e_6 = y } × Nat) (fun | ⟨⟨n_3, _⟩, g3⟩ => ⟨upd 0 (.v (.string s)) (upd 1 (.v (.int .i64 at_)) (upd 5 (accV 0 g3 (List.map eGWord out)) (upd 6 (.v (.int .i64 i)) (upd 7 (.v (.string s5)) (upd 8 (.v (.int .i64 n_3)) noFr))))), upd 0 (accO 2 g3 false (List.map eGWord out)) noHp, 1⟩) ?_ ?_
                · refine ZT 1 ?_
                  refine Z0 ?_
                  rcases ite_inv E106 with ⟨c108, H109⟩ | ⟨c108, H109⟩
                  · refine Z1 c108 ?_
                    obtain rfl := Zi H109
                    exact ⟨⟨⟨t282, rfl⟩, g2⟩, ZR [(0, 0)]⟩
                  · refine Z1 c108 ?_
                    obtain rfl := Zi H109
                    exact ⟨⟨⟨t262, rfl⟩, g2⟩, ZR [(0, 0)]⟩
                · rintro ⟨⟨n_3, he132⟩, g3⟩
                  replace he132 := he132.symm
                  subst he132
                  try dsimp only at H107
                  refine runR_seq ?_
                  refine runR_seq ?_
                  refine ZT 1 ?_
                  refine Z0 ?_
                  obtain ⟨e_7, E110, H111⟩ := bind_inv H107
                  refine runR_join (α := { y : Int // e_7 = y } × Nat) (fun | ⟨⟨n_4, _⟩, g4⟩ => ⟨upd 0 (.v (.string s)) (upd 1 (.v (.int .i64 at_)) (upd 5 (accV 0 g4 (List.map eGWord out)) (upd 6 (.v (.int .i64 i)) (upd 7 (.v (.string s5)) (upd 8 (.v (.int .i64 n_4)) noFr))))), upd 0 (accO 2 g4 false (List.map eGWord out)) noHp, 1⟩) ?_ ?_
                  · refine ZT 1 ?_
                    refine Z0 ?_
                    rcases ite_inv E110 with ⟨c112, H113⟩ | ⟨c112, H113⟩
                    · refine Z1 c112 ?_
                      obtain rfl := Zi H113
                      exact ⟨⟨⟨(s5.size : Int), rfl⟩, g3⟩, ZR [(0, 0)]⟩
                    · refine Z1 c112 ?_
                      obtain rfl := Zi H113
                      exact ⟨⟨⟨n_3, rfl⟩, g3⟩, ZR [(0, 0)]⟩
                  · rintro ⟨⟨n_4, he131⟩, g4⟩
                    replace he131 := he131.symm
                    subst he131
                    try dsimp only at H111
                    refine ZT 2 ?_
                    obtain ⟨s7, b114, H115⟩ := bind_inv H111
                    obtain ⟨h116, h117, h118, h119⟩ := bslc_inv b114
                    have h120 : 0 ≤ Int.toNat n_4 := by omega
                    have h121 : Int.toNat n_4 ≤ s5.size := by omega
                    have h122 : ByteArray.extract s5 (0) (Int.toNat n_4) = s7 := h119.symm
                    try simp only [Int.toNat_natCast] at h120 h121 h122
                    obtain ⟨l, b123, H124⟩ := bind_inv H115
                    obtain ⟨h125, h126⟩ := app_inv b123
                    have h125 : out.length + 1 ≤ 4294967296 := h125
                    have h127 : List.map eGWord out ++ [[.v (.string s7), .v (.int .i64 (IntKind.i64.wrap (at_ + i)))]] = List.map eGWord l := app_map eGWord h126
                    have h128 : out.length + 1 = l.length := app_len h126
                    have h129 : l.length ≤ 4294967296 := by omega
                    have q130 : 0 < l.length := by omega
                    refine Z1 (Y2 (Y6 (nat_of .i64 (Int.le_trans h116 h117)) h120 h121 h122 h125 h127) (Y2 h128 h129)) ?_
                    rcases out with _ | ⟨q0, q1⟩
                    · try simp only [List.map_nil, accI, accN]
                      exact ⟨⟨((c, (l, (IntKind.i64.wrap (i + n_4)))), 0), H124⟩, ZR [(0, 10)], Nat.lt_succ_self _⟩
                    · try simp only [List.map_cons, accI, accN]
                      exact ⟨⟨((c, (l, (IntKind.i64.wrap (i + n_4)))), (g4 + 1)), H124⟩, ZR [(0, 0)], Nat.lt_succ_self _⟩
        · refine Z1 c65 ?_
          obtain rfl := Zi H66
          exact ⟨⟨⟨out, rfl⟩, g⟩, ZR [(0, 0)]⟩
  · rintro ⟨⟨out3, he134⟩, g6⟩
    replace he134 := he134.symm
    subst he134
    try dsimp only at H2
    refine ZT 1 ?_
    refine Z0 ?_
    obtain rfl := Zi H2
    exact ZE0
def line_Lines_C2_strings_splitSeq (n : Nat) : Option Unit :=
  some ()

def line_Lines_C1_strings_SplitSeq (n : Nat) : Option Unit :=
  (line_Lines_C2_strings_splitSeq n : Option Unit).bind fun _ =>
  some ()

def line_Lines_R1 (n : Nat) : List ByteArray → (List GLine × Int) → Option ((List GLine) ⊕ (List GLine × Int × Int))
  | [], (out, at_) =>
    some (.inl out)
  | ln :: lns, (out, at_) =>
    (line_bare n ln).bind fun t232 =>
    (line_wrong n t232).bind fun t252 =>
    (if (decide (0 ≤ t252)) then
      some (.inr ([], (IntKind.i64.wrap (at_ + t252)), 7))
    else
      (line_words n t232 at_).bind fun t332 =>
      (if (decide (0 < (t332.length : Int))) then
        (idx t332 0).bind fun x2 =>
        (app out [(⟨x2.at_, t332⟩ : GLine)]).bind fun l =>
        line_Lines_R1 n lns (l, (IntKind.i64.wrap (at_ + (IntKind.i64.wrap ((ln.size : Int) + 1)))))
      else
        line_Lines_R1 n lns (out, (IntKind.i64.wrap (at_ + (IntKind.i64.wrap ((ln.size : Int) + 1)))))))

def line_Lines (n : Nat) (s : ByteArray) : Option (List GLine × Int × Int) :=
  (if (decide (200000 < (s.size : Int))) then
    some ([], 0, 8)
  else
    (strings_Count n s ({ data := #[10] })).bind fun t16 =>
    (if (decide (5000 < t16)) then
      some ([], 0, 8)
    else
      (line_Lines_C1_strings_SplitSeq n : Option Unit).bind fun _ =>
      (
        (grd (decide (ByteArray.size s < 4611686018427387904)) (some ())).bind fun _ =>
        line_Lines_R1 n (splitT 10 s) ([], 0) : Option ((List GLine) ⊕ (List GLine × Int × Int))).bind fun
        | .inl out3 =>
          some (out3, 0, 0)
        | .inr r => some r))
theorem line_Lines_ok {n : Nat} {s : ByteArray} {r : List GLine × Int × Int} (H : line_Lines n s = some r) : PureOK Tryd.prog 10 [D.v (.string s)] (D.tu [D.sl (List.map eGLine r.1), D.v (.int .i64 r.2.1), D.v (.int .i64 r.2.2)]) true := by
  unfold line_Lines at H
  refine ZP tab_ok fol (rs := #[.cell 2 32, .cell 3 3, .cell 4 26]) Tryd.func10 ?_
  refine runR_seq ?_
  refine ZT 1 ?_
  refine Z0 ?_
  refine runR_seq ?_
  refine ZT 1 ?_
  refine Z0 ?_
  rcases ite_inv H with ⟨c1, H2⟩ | ⟨c1, H2⟩
  · refine Z1 c1 ?_
    obtain rfl := Zi H2
    exact ZE0
  · obtain ⟨t16, b3, H4⟩ := bind_inv H2
    refine Z1 c1 ?_
    refine ZC0 (strings_Count_ok b3) ?_
    refine Z1 c1 ?_
    rcases ite_inv H4 with ⟨c5, H6⟩ | ⟨c5, H6⟩
    · refine Z1 (Y2 c1 c5) ?_
      obtain rfl := Zi H6
      exact ZE0
    · refine Z1 (Y2 c1 c5) ?_
      refine runR_seq ?_
      refine ZT 1 ?_
      refine Z1 (Y2 c1 c5) ?_
      refine runR_seq ?_
      refine ZT 1 ?_
      refine Z1 (Y2 c1 c5) ?_
      refine runR_seq ?_
      refine runR_seq ?_
      refine ZT 1 ?_
      refine Z1 (Y2 c1 c5) ?_
      obtain ⟨e_, E7, H8⟩ := bind_inv H6
      refine onCall_inl (InlOK.mono (inl_runRJ (α := { y : Unit // e_ = y }) tab_ok Tryd.func19 rfl (by kernel_rfl) (by kernel_rfl) (by simp [Tryd.f19]) (fun | ⟨_, _⟩ => ⟨upd 4 (.fn 38 [.pt 16 0, .pt 17 0, .pt 18 0]) noFr, upd 0 (some (.bx [.v (.slice none 0 0)])) (upd 1 (some (.bx [.v (.int .i64 0)])) (upd 2 (some (.bx [.v (.int .i64 0)])) (upd 11 (some (.bx [.v (.slice none 0 0)])) (upd 12 (some (.bx [.v (.int .i64 0)])) (upd 16 (some (.bx [.v (.string { data := #[10] })])) (upd 17 (some (.bx [.v (.string s)])) (upd 18 (some (.bx [.v (.int .i64 0)])) noHp))))))), 19⟩) (fun | ⟨_, _⟩ => .fn 38 [.pt 16 0, .pt 17 0, .pt 18 0]) (by rintro ⟨_, he15⟩; first | ((simp -implicitDefEqProofs only [go_sem, Bool.false_and, Int.reduceToNat, Int.reduceLT, Int.reduceLE, Int.reduceBEq, Int.reduceBNe, Nat.reduceLT, Nat.reduceBEq, Int.reduceEq, Nat.reduceEqDiff, Nat.reduceAdd, Nat.reduceSub, Nat.reduceMul, Nat.reduceLeDiff, reduceCtorEq, ↓reduceIte, eGWord, eGLine, Tryd.f19]) <;> rfl) | rfl) ?_) ?_)
      · unfold line_Lines_C1_strings_SplitSeq at E7
        try dsimp only at E7
        refine ZT 1 ?_
        refine Z0 ?_
        obtain ⟨e_2, E9, H10⟩ := bind_inv E7
        refine onCall_inl (InlOK.mono (inl_runRJ (α := { y : Unit // e_2 = y }) tab_ok Tryd.func29 rfl (by kernel_rfl) (by kernel_rfl) (by simp [Tryd.f29]) (fun | ⟨_, _⟩ => ⟨upd 6 (.fn 38 [.pt 21 0, .pt 22 0, .pt 23 0]) noFr, upd 0 (some (.bx [.v (.slice none 0 0)])) (upd 1 (some (.bx [.v (.int .i64 0)])) (upd 2 (some (.bx [.v (.int .i64 0)])) (upd 11 (some (.bx [.v (.slice none 0 0)])) (upd 12 (some (.bx [.v (.int .i64 0)])) (upd 21 (some (.bx [.v (.string { data := #[10] })])) (upd 22 (some (.bx [.v (.string s)])) (upd 23 (some (.bx [.v (.int .i64 0)])) noHp))))))), 24⟩) (fun | ⟨_, _⟩ => .fn 38 [.pt 21 0, .pt 22 0, .pt 23 0]) (by rintro ⟨_, he11⟩; first | ((simp -implicitDefEqProofs only [go_sem, Bool.false_and, Int.reduceToNat, Int.reduceLT, Int.reduceLE, Int.reduceBEq, Int.reduceBNe, Nat.reduceLT, Nat.reduceBEq, Int.reduceEq, Nat.reduceEqDiff, Nat.reduceAdd, Nat.reduceSub, Nat.reduceMul, Nat.reduceLeDiff, reduceCtorEq, ↓reduceIte, eGWord, eGLine, Tryd.f29]) <;> rfl) | rfl) ?_) ?_)
        · unfold line_Lines_C2_strings_splitSeq at E9
          try dsimp only at E9
          refine ZT 1 ?_
          refine Z0 ?_
          obtain rfl := Option.some.inj E9
          exact endJ_ret ⟨(), rfl⟩ (ZR [(21, 22), (22, 21), (23, 23)])
        rintro v12 hp13 nx14 ⟨⟨_, he11⟩, rfl, rfl, rfl⟩
        replace he11 := he11.symm
        subst he11
        try dsimp only at H10
        dsimp only
        refine Z0 ?_
        obtain rfl := Option.some.inj H10
        exact endJ_ret ⟨(), rfl⟩ (ZR [(16, 21), (17, 22), (18, 23)])
      rintro v16 hp17 nx18 ⟨⟨_, he15⟩, rfl, rfl, rfl⟩
      replace he15 := he15.symm
      subst he15
      try dsimp only at H8
      dsimp only
      refine Z0 ?_
      obtain ⟨e_3, E19, H20⟩ := bind_inv H8
      refine runR_join (α := { y : List GLine // e_3 = .inl y } × Nat) (fun | ⟨⟨out3, _⟩, g3⟩ => ⟨upd 2 (.pt 0 0) (upd 3 (.pt 1 0) (upd 4 (.pt 2 0) (upd 5 (.pt 3 0) noFr))), upd 0 (some (.bx [.v (.slice none 0 0)])) (upd 1 (some (.bx [.v (.int .i64 0)])) (upd 2 (some (.bx [.v (.int .i64 0)])) (upd 3 (some (.bx [accV 4 g3 (List.map eGLine out3)])) (upd 4 (accO 2 g3 false (List.map eGLine out3)) noHp)))), 5⟩) ?_ ?_
      · refine runR_block ?_
        obtain ⟨_, b21, H22⟩ := bind_inv E19
        have h23 := of_decide_eq_true (grd_inv b21).1
        refine runR_range (τ := List GLine × Int) (γ := Nat) tab_ok fol (upd 2 (.pt 0 0) (upd 3 (.pt 1 0) (upd 4 (.pt 2 0) (upd 5 (.pt 3 0) (upd 6 (.pt 5 0) noFr))))) (fun | ⟨⟨out, at_⟩, g⟩ => (upd 0 (some (.bx [.v (.slice none 0 0)])) (upd 1 (some (.bx [.v (.int .i64 0)])) (upd 2 (some (.bx [.v (.int .i64 0)])) (upd 3 (some (.bx [accV 4 g (List.map eGLine out)])) (upd 4 (accO 2 g false (List.map eGLine out)) (upd 5 (some (.bx [.v (.int .i64 at_)])) noHp))))), 6)) (line_Lines_R1 n) e_3 (by rfl) split_en (split_hit (i1 := 16) (i0 := 17) (i2 := 18) 10 h23 (by rfl) (by rfl) (by rfl)) (ids3 (i1 := 16) (i0 := 17) (i2 := 18) (by rfl) (by rfl) (by rfl)) ?_ ?_ ?_ rfl (by kernel_rfl) (by kernel_rfl)
        · exact ⟨(([], 0), 0), H22, ZR [(0, 0), (1, 1), (2, 2), (3, 11), (5, 12)]⟩
        · rintro ln lns ⟨⟨out, at_⟩, g⟩ L24
          unfold line_Lines_R1 at L24
          try dsimp only at L24
          try dsimp only
          obtain ⟨t232, b42, H43⟩ := bind_inv L24
          refine Z0 ?_
          refine ZC0 (line_bare_ok b42) ?_
          obtain ⟨t252, b44, H45⟩ := bind_inv H43
          refine Z0 ?_
          refine ZC0 (line_wrong_ok b44) ?_
          refine Z0 ?_
          rcases ite_inv H45 with ⟨c46, H47⟩ | ⟨c46, H47⟩
          · refine Z1 c46 ?_
            refine Rd_endF (by rfl) ?_
            refine Z1 c46 ?_
            refine rq_ret ?_
            refine Z1 c46 ?_
            obtain rfl := Zi H47
            obtain rfl := Zi H20
            exact ZE0
          · obtain ⟨t332, b48, H49⟩ := bind_inv H47
            refine Z1 c46 ?_
            refine ZC0 (line_words_ok b48) ?_
            refine Z1 c46 ?_
            rcases ite_inv H49 with ⟨c50, H51⟩ | ⟨c50, H51⟩
            · obtain ⟨x2, b52, H53⟩ := bind_inv H51
              obtain ⟨h54, h55⟩ := idx_inv b52
              try simp only [Int.reduceToNat, Int.toNat_natCast] at h55
              have h56 := map_at eGWord h55
              obtain ⟨l, b58, H59⟩ := bind_inv H53
              obtain ⟨h60, h61⟩ := app_inv b58
              have h60 : out.length + 1 ≤ 4294967296 := h60
              have h62 : List.map eGLine out ++ [[.v (.int .i64 x2.at_), .sl (List.map eGWord t332)]] = List.map eGLine l := app_map eGLine h61
              have h63 : out.length + 1 = l.length := app_len h61
              have h64 : l.length ≤ 4294967296 := by omega
              have q65 : 0 < l.length := by omega
              refine Z1 (Y2 (Y6 c46 c50 (nat_of .i64 h54) h56 h60 h62) (Y2 h63 h64)) ?_
              refine Rd_endF (by (cases out <;> rfl)) ?_
              refine Z1 (Y2 (Y6 c46 c50 (nat_of .i64 h54) h56 h60 h62) (Y2 h63 h64)) ?_
              rcases out with _ | ⟨q0, q1⟩
              · try simp only [List.map_nil, accI, accN]
                exact rq_next ((l, (IntKind.i64.wrap (at_ + (IntKind.i64.wrap ((ln.size : Int) + 1))))), 0) H59 (ZR [(0, 0), (1, 1), (2, 2), (3, 3), (4, 30), (5, 5)])
              · try simp only [List.map_cons, accI, accN]
                exact rq_next ((l, (IntKind.i64.wrap (at_ + (IntKind.i64.wrap ((ln.size : Int) + 1))))), (g + 1)) H59 (ZR [(0, 0), (1, 1), (2, 2), (3, 3), (4, 4), (5, 5)])
            · refine Z1 (Y2 c46 c50) ?_
              exact rq_next ((out, (IntKind.i64.wrap (at_ + (IntKind.i64.wrap ((ln.size : Int) + 1))))), g) H51 (ZR [(0, 0), (1, 1), (2, 2), (3, 3), (4, 4), (5, 5)])
        · rintro ⟨⟨out, at_⟩, g⟩ L25
          unfold line_Lines_R1 at L25
          try dsimp only at L25
          try dsimp only
          show runR _ _ _ _ _
          refine Z0 ?_
          obtain rfl := Zi L25
          exact ⟨⟨⟨out, rfl⟩, g⟩, ZR [(0, 0), (1, 1), (2, 2), (3, 3), (4, 4)]⟩
      · rintro ⟨⟨out3, he66⟩, g3⟩
        replace he66 := he66.symm
        subst he66
        try dsimp only at H20
        refine ZT 1 ?_
        refine Z0 ?_
        obtain rfl := Zi H20
        exact ZE0
def line_Join (n : Nat) (words : List ByteArray) : Option ByteArray :=
  (strings_Join n words ({ data := #[32] })).bind fun t4 =>
  some t4
theorem line_Join_ok {n : Nat} {words : List ByteArray} {r : ByteArray} (H : line_Join n words = some r) : PureOK Tryd.prog 15 [D.sl (List.map eS words)] (D.v (.string r)) true := by
  unfold line_Join at H
  refine ZP tab_ok fol (rs := #[.tmp 2]) Tryd.func15 ?_
  refine ZT 1 ?_
  obtain ⟨t4, b1, H2⟩ := bind_inv H
  refine Z0 ?_
  refine ZC0 (strings_Join_ok b1) ?_
  refine Z0 ?_
  obtain rfl := Zi H2
  exact ZE0
def law12_awake (n : Nat) : Option Bool :=
  (line_Lines n ({ data := #[117, 115, 101, 114, 32, 97, 32, 35, 32, 120, 13, 10, 10, 9, 32, 103, 114, 97, 110, 116, 32, 114, 32, 32, 100, 111, 32, 120] })).bind fun t8 =>
  (line_Lines n ({ data := #[97, 13, 98] })).bind fun t13 =>
  (if (t8.2.2 == 0) then
    (if ((t8.1.length : Int) == 2) then
      (idx t8.1 0).bind fun x =>
      (if ((x.words.length : Int) == 2) then
        (idx t8.1 1).bind fun x2 =>
        (if (x2.at_ == 15) then
          (if ((x2.words.length : Int) == 4) then
            (idx x2.words 3).bind fun x3 =>
            (if ((x3.text == { data := #[120] }) && (x3.at_ == 27)) then
              (if (t13.2.1 == 1) then
                (if (t13.2.2 == 7) then
                  (line_Join n ([{ data := #[97] }, { data := #[98] }] : List ByteArray)).bind fun t67 =>
                  (if (t67.toList == ({ data := #[97, 32, 98] } : ByteArray).toList) then
                    (line_Join n []).bind fun t71 =>
                    some (t71.toList == ({ data := #[] } : ByteArray).toList)
                  else
                    some false)
                else
                  some false)
              else
                some false)
            else
              some false)
          else
            some false)
        else
          some false)
      else
        some false)
    else
      some false)
  else
    some false)
set_option maxHeartbeats 4000000 in
theorem law12_awake_ok {n : Nat} {r : Bool} (H : law12_awake n  = some r) : PureOK Tryd.prog 11 [] (D.v (.bool r)) true := by
  unfold law12_awake at H
  refine ZP tab_ok fol (rs := #[.tmp 0]) Tryd.func11 ?_
  refine ZT 1 ?_
  obtain ⟨t8, b1, H2⟩ := bind_inv H
  refine Z0 ?_
  refine ZC0 (line_Lines_ok b1) ?_
  obtain ⟨t13, b3, H4⟩ := bind_inv H2
  refine Z0 ?_
  refine ZC0 (line_Lines_ok b3) ?_
  refine Z0 ?_
  rcases ite_inv H4 with ⟨c5, H6⟩ | ⟨c5, H6⟩
  · refine Z1 c5 ?_
    rcases ite_inv H6 with ⟨c7, H8⟩ | ⟨c7, H8⟩
    · obtain ⟨x, b9, H10⟩ := bind_inv H8
      obtain ⟨h11, h12⟩ := idx_inv b9
      try simp only [Int.reduceToNat, Int.toNat_natCast] at h12
      have h13 := map_at eGLine h12
      refine Z1 (Y4 c5 c7 (nat_of .i64 h11) h13) ?_
      rcases ite_inv H10 with ⟨c15, H16⟩ | ⟨c15, H16⟩
      · obtain ⟨x2, b17, H18⟩ := bind_inv H16
        obtain ⟨h19, h20⟩ := idx_inv b17
        try simp only [Int.reduceToNat, Int.toNat_natCast] at h20
        have h21 := map_at eGLine h20
        refine Z1 (Y2 (Y6 c5 c7 (nat_of .i64 h11) h13 c15 (nat_of .i64 h19)) h21) ?_
        rcases ite_inv H18 with ⟨c23, H24⟩ | ⟨c23, H24⟩
        · refine Z1 (Y2 (Y6 c5 c7 (nat_of .i64 h11) h13 c15 (nat_of .i64 h19)) (Y2 h21 c23)) ?_
          rcases ite_inv H24 with ⟨c25, H26⟩ | ⟨c25, H26⟩
          · obtain ⟨x3, b27, H28⟩ := bind_inv H26
            obtain ⟨h29, h30⟩ := idx_inv b27
            try simp only [Int.reduceToNat, Int.toNat_natCast] at h30
            have h31 := map_at eGWord h30
            refine Z1 (Y2 (Y6 c5 c7 (nat_of .i64 h11) h13 c15 (nat_of .i64 h19)) (Y5 h21 c23 c25 (nat_of .i64 h29) h31)) ?_
            rcases ite_inv H28 with ⟨c33, H34⟩ | ⟨c33, H34⟩
            · refine Z1 (Y2 (Y6 c5 c7 (nat_of .i64 h11) h13 c15 (nat_of .i64 h19)) (Y6 h21 c23 c25 (nat_of .i64 h29) h31 c33)) ?_
              rcases ite_inv H34 with ⟨c35, H36⟩ | ⟨c35, H36⟩
              · refine Z1 (Y3 (Y6 c5 c7 (nat_of .i64 h11) h13 c15 (nat_of .i64 h19)) (Y6 h21 c23 c25 (nat_of .i64 h29) h31 c33) c35) ?_
                rcases ite_inv H36 with ⟨c37, H38⟩ | ⟨c37, H38⟩
                · obtain ⟨t67, b39, H40⟩ := bind_inv H38
                  refine Z1 (Y3 (Y6 c5 c7 (nat_of .i64 h11) h13 c15 (nat_of .i64 h19)) (Y6 h21 c23 c25 (nat_of .i64 h29) h31 c33) (Y2 c35 c37)) ?_
                  refine ZC1 (Y3 (Y6 c5 c7 (nat_of .i64 h11) h13 c15 (nat_of .i64 h19)) (Y6 h21 c23 c25 (nat_of .i64 h29) h31 c33) (Y2 c35 c37)) (line_Join_ok b39) ?_
                  refine Z1 (Y3 (Y6 c5 c7 (nat_of .i64 h11) h13 c15 (nat_of .i64 h19)) (Y6 h21 c23 c25 (nat_of .i64 h29) h31 c33) (Y2 c35 c37)) ?_
                  rcases ite_inv H40 with ⟨c41, H42⟩ | ⟨c41, H42⟩
                  · obtain ⟨t71, b43, H44⟩ := bind_inv H42
                    refine Z1 (Y3 (Y6 c5 c7 (nat_of .i64 h11) h13 c15 (nat_of .i64 h19)) (Y6 h21 c23 c25 (nat_of .i64 h29) h31 c33) (Y3 c35 c37 c41)) ?_
                    refine ZC0 (line_Join_ok b43) ?_
                    refine Z1 (Y3 (Y6 c5 c7 (nat_of .i64 h11) h13 c15 (nat_of .i64 h19)) (Y6 h21 c23 c25 (nat_of .i64 h29) h31 c33) (Y3 c35 c37 c41)) ?_
                    obtain rfl := Zi H44
                    exact ZE0
                  · refine Z1 (Y3 (Y6 c5 c7 (nat_of .i64 h11) h13 c15 (nat_of .i64 h19)) (Y6 h21 c23 c25 (nat_of .i64 h29) h31 c33) (Y3 c35 c37 c41)) ?_
                    obtain rfl := Zi H42
                    exact ZE0
                · refine Z1 (Y3 (Y6 c5 c7 (nat_of .i64 h11) h13 c15 (nat_of .i64 h19)) (Y6 h21 c23 c25 (nat_of .i64 h29) h31 c33) (Y2 c35 c37)) ?_
                  obtain rfl := Zi H38
                  exact ZE0
              · refine Z1 (Y3 (Y6 c5 c7 (nat_of .i64 h11) h13 c15 (nat_of .i64 h19)) (Y6 h21 c23 c25 (nat_of .i64 h29) h31 c33) c35) ?_
                obtain rfl := Zi H36
                exact ZE0
            · refine Z1 (Y2 (Y6 c5 c7 (nat_of .i64 h11) h13 c15 (nat_of .i64 h19)) (Y6 h21 c23 c25 (nat_of .i64 h29) h31 c33)) ?_
              obtain rfl := Zi H34
              exact ZE0
          · refine Z1 (Y2 (Y6 c5 c7 (nat_of .i64 h11) h13 c15 (nat_of .i64 h19)) (Y3 h21 c23 c25)) ?_
            obtain rfl := Zi H26
            exact ZE0
        · refine Z1 (Y2 (Y6 c5 c7 (nat_of .i64 h11) h13 c15 (nat_of .i64 h19)) (Y2 h21 c23)) ?_
          obtain rfl := Zi H24
          exact ZE0
      · refine Z1 (Y5 c5 c7 (nat_of .i64 h11) h13 c15) ?_
        obtain rfl := Zi H16
        exact ZE0
    · refine Z1 (Y2 c5 c7) ?_
      obtain rfl := Zi H8
      exact ZE0
  · refine Z1 c5 ?_
    obtain rfl := Zi H6
    exact ZE0
def ref1_words_L2 (n : Nat) (s : ByteArray) : Nat → Int → Option (Int)
  | 0, _ => none
  | c + 1, k5 =>
    (if (decide (k5 < (s.size : Int))) then
      (bidx s k5).bind fun ch8 =>
      (if (ch8 != 32) then
        (if (ch8 != 9) then
          ref1_words_L2 n s c (IntKind.i64.wrap (k5 + 1))
        else
          some k5)
      else
        some k5)
    else
      some k5)

def ref1_words_L1 (n : Nat) (s : ByteArray) (at_ : Int) : Nat → (List GWord × Int) → Option ((List GWord) ⊕ (List GWord))
  | 0, _ => none
  | c + 1, (out, i) =>
    (if (decide (i < (s.size : Int))) then
      (
        (bidx s i).bind fun ch5 =>
        (if (ch5 == 32) then
          some true
        else
          some (ch5 == 9)) : Option (Bool)).bind fun t212 =>
      (if t212 then
        ref1_words_L1 n s at_ c (out, (IntKind.i64.wrap (i + 1)))
      else
        (bidx s i).bind fun ch6 =>
        (if (ch6 == 35) then
          some (.inr out)
        else
          (
            ref1_words_L2 n s n i : Option (Int)).bind fun k7 =>
          (bslc s i k7).bind fun s3 =>
          (app out [(⟨s3, (IntKind.i64.wrap (at_ + i))⟩ : GWord)]).bind fun l =>
          ref1_words_L1 n s at_ c (l, k7)))
    else
      some (.inl out))

def ref1_words (n : Nat) (s : ByteArray) (at_ : Int) : Option (List GWord) :=
  (
    ref1_words_L1 n s at_ n ([], 0) : Option ((List GWord) ⊕ (List GWord))).bind fun
    | .inl out3 =>
      some out3
    | .inr r => some r
theorem ref1_words_ok {n : Nat} {s : ByteArray} {at_ : Int} {r : List GWord} (H : ref1_words n s at_ = some r) : PureOK Tryd.prog 23 [D.v (.string s), D.v (.int .i64 at_)] (D.sl (List.map eGWord r)) true := by
  unfold ref1_words at H
  refine ZP tab_ok fol (rs := #[.tmp 4]) Tryd.func23 ?_
  refine runR_seq ?_
  refine ZT 1 ?_
  refine Z0 ?_
  refine runR_seq ?_
  refine ZT 1 ?_
  refine Z0 ?_
  refine runR_seq ?_
  refine ZT 1 ?_
  refine Z0 ?_
  refine runR_seq ?_
  obtain ⟨e_, E1, H2⟩ := bind_inv H
  refine runR_join (α := { y : List GWord // e_ = .inl y } × Nat) (fun | ⟨⟨out3, _⟩, g8⟩ => ⟨upd 5 (accV 0 g8 (List.map eGWord out3)) noFr, upd 0 (accO 2 g8 false (List.map eGWord out3)) noHp, 1⟩) ?_ ?_
  · refine runR_block ?_
    refine runR_loop (α := { q : (Nat × (List GWord × Int)) × Nat // ref1_words_L1 n s at_ q.1.1 q.1.2 = some e_ }) (fun | ⟨⟨⟨c, ⟨out, i⟩⟩, g⟩, _⟩ => ⟨upd 0 (.v (.string s)) (upd 1 (.v (.int .i64 at_)) (upd 5 (accV 0 g (List.map eGWord out)) (upd 6 (.v (.int .i64 i)) noFr))), upd 0 (accO 2 g false (List.map eGWord out)) noHp, 1⟩) (fun q => q.1.1.1) ⟨((n, ([], 0)), 0), E1⟩ ?_ ?_
    · exact ZR []
    · rintro ⟨⟨⟨c, ⟨out, i⟩⟩, g⟩, L3⟩
      rcases c with _ | c
      · exact nomatch (show none = some _ from L3)
      · unfold ref1_words_L1 at L3
        try dsimp only at L3
        refine runR_seq ?_
        refine ZT 1 ?_
        refine Z0 ?_
        rcases ite_inv L3 with ⟨c60, H61⟩ | ⟨c60, H61⟩
        · refine Z1 c60 ?_
          refine runR_block ?_
          refine runR_seq ?_
          refine runR_seq ?_
          obtain ⟨e_4, E62, H63⟩ := bind_inv H61
          refine runR_join (α := { y : Bool // e_4 = y } × Nat) (fun | ⟨⟨t212, _⟩, g2⟩ => ⟨upd 0 (.v (.string s)) (upd 1 (.v (.int .i64 at_)) (upd 5 (accV 0 g2 (List.map eGWord out)) (upd 6 (.v (.int .i64 i)) (upd 21 (.v (.bool t212)) noFr)))), upd 0 (accO 2 g2 false (List.map eGWord out)) noHp, 1⟩) ?_ ?_
          · refine ZT 1 ?_
            obtain ⟨ch5, b64, H65⟩ := bind_inv E62
            obtain ⟨h66, by_5, h67, h68⟩ := bidx_inv b64
            try simp only [Int.reduceToNat, Int.toNat_natCast] at h67
            refine Z1 (Y3 (nat_of .i64 h66) h67 h68.symm) ?_
            rcases ite_inv H65 with ⟨c69, H70⟩ | ⟨c69, H70⟩
            · refine Z1 (Y4 (nat_of .i64 h66) h67 h68.symm c69) ?_
              obtain rfl := Zi H70
              exact ⟨⟨⟨true, rfl⟩, g⟩, ZR [(0, 0)]⟩
            · refine Z1 (Y4 (nat_of .i64 h66) h67 h68.symm c69) ?_
              obtain rfl := Zi H70
              exact ⟨⟨⟨(ch5 == 9), rfl⟩, g⟩, ZR [(0, 0)]⟩
          · rintro ⟨⟨t212, he123⟩, g2⟩
            replace he123 := he123.symm
            subst he123
            try dsimp only at H63
            refine ZT 1 ?_
            refine Z0 ?_
            rcases ite_inv H63 with ⟨c71, H72⟩ | ⟨c71, H72⟩
            · refine Z1 c71 ?_
              exact ⟨⟨((c, (out, (IntKind.i64.wrap (i + 1)))), g2), H72⟩, ZR [(0, 0)], Nat.lt_succ_self _⟩
            · refine Z1 c71 ?_
              refine runR_seq ?_
              refine ZT 1 ?_
              obtain ⟨ch6, b73, H74⟩ := bind_inv H72
              obtain ⟨h75, by_6, h76, h77⟩ := bidx_inv b73
              try simp only [Int.reduceToNat, Int.toNat_natCast] at h76
              refine Z1 (Y4 c71 (nat_of .i64 h75) h76 h77.symm) ?_
              rcases ite_inv H74 with ⟨c78, H79⟩ | ⟨c78, H79⟩
              · refine Z1 (Y5 c71 (nat_of .i64 h75) h76 h77.symm c78) ?_
                obtain rfl := Zi H79
                obtain rfl := Zi H2
                exact ZE1 (Y5 c71 (nat_of .i64 h75) h76 h77.symm c78)
              · refine Z1 (Y5 c71 (nat_of .i64 h75) h76 h77.symm c78) ?_
                refine runR_seq ?_
                refine ZT 1 ?_
                refine Z1 (Y5 c71 (nat_of .i64 h75) h76 h77.symm c78) ?_
                refine runR_seq ?_
                obtain ⟨e_5, E80, H81⟩ := bind_inv H79
                refine runR_join (α := { y : Int // e_5 = y } × Nat) (fun | ⟨⟨k7, _⟩, g6⟩ => ⟨upd 0 (.v (.string s)) (upd 1 (.v (.int .i64 at_)) (upd 5 (accV 0 g6 (List.map eGWord out)) (upd 6 (.v (.int .i64 i)) (upd 7 (.v (.int .i64 k7)) noFr)))), upd 0 (accO 2 g6 false (List.map eGWord out)) noHp, 1⟩) ?_ ?_
                · refine runR_block ?_
                  refine runR_loop (α := { q : (Nat × Int) × Nat // ref1_words_L2 n s q.1.1 q.1.2 = some e_5 }) (fun | ⟨⟨⟨c, k5⟩, g4⟩, _⟩ => ⟨upd 0 (.v (.string s)) (upd 1 (.v (.int .i64 at_)) (upd 5 (accV 0 g4 (List.map eGWord out)) (upd 6 (.v (.int .i64 i)) (upd 7 (.v (.int .i64 k5)) noFr)))), upd 0 (accO 2 g4 false (List.map eGWord out)) noHp, 1⟩) (fun q => q.1.1.1) ⟨((n, i), g2), E80⟩ ?_ ?_
                  · exact ZR [(0, 0)]
                  · rintro ⟨⟨⟨c, k5⟩, g4⟩, L82⟩
                    rcases c with _ | c
                    · exact nomatch (show none = some _ from L82)
                    · unfold ref1_words_L2 at L82
                      try dsimp only at L82
                      refine ZT 1 ?_
                      refine Z0 ?_
                      rcases ite_inv L82 with ⟨c94, H95⟩ | ⟨c94, H95⟩
                      · obtain ⟨ch8, b96, H97⟩ := bind_inv H95
                        obtain ⟨h98, by_8, h99, h100⟩ := bidx_inv b96
                        try simp only [Int.reduceToNat, Int.toNat_natCast] at h99
                        refine Z1 (Y4 c94 (nat_of .i64 h98) h99 h100.symm) ?_
                        rcases ite_inv H97 with ⟨c101, H102⟩ | ⟨c101, H102⟩
                        · refine Z1 (Y5 c94 (nat_of .i64 h98) h99 h100.symm c101) ?_
                          rcases ite_inv H102 with ⟨c103, H104⟩ | ⟨c103, H104⟩
                          · refine Z1 (Y6 c94 (nat_of .i64 h98) h99 h100.symm c101 c103) ?_
                            exact ⟨⟨((c, (IntKind.i64.wrap (k5 + 1))), g4), H104⟩, ZR [(0, 0)], Nat.lt_succ_self _⟩
                          · refine Z1 (Y6 c94 (nat_of .i64 h98) h99 h100.symm c101 c103) ?_
                            obtain rfl := Zi H104
                            exact ⟨⟨⟨k5, rfl⟩, g4⟩, ZR [(0, 0)]⟩
                        · refine Z1 (Y5 c94 (nat_of .i64 h98) h99 h100.symm c101) ?_
                          obtain rfl := Zi H102
                          exact ⟨⟨⟨k5, rfl⟩, g4⟩, ZR [(0, 0)]⟩
                      · refine Z1 c94 ?_
                        obtain rfl := Zi H95
                        exact ⟨⟨⟨k5, rfl⟩, g4⟩, ZR [(0, 0)]⟩
                · rintro ⟨⟨k7, he122⟩, g6⟩
                  replace he122 := he122.symm
                  subst he122
                  try dsimp only at H81
                  refine ZT 2 ?_
                  obtain ⟨s3, b105, H106⟩ := bind_inv H81
                  obtain ⟨h107, h108, h109, h110⟩ := bslc_inv b105
                  have h111 : Int.toNat i ≤ Int.toNat k7 := by omega
                  have h112 : Int.toNat k7 ≤ s.size := by omega
                  have h113 : ByteArray.extract s (Int.toNat i) (Int.toNat k7) = s3 := h110.symm
                  try simp only [Int.toNat_natCast] at h111 h112 h113
                  obtain ⟨l, b114, H115⟩ := bind_inv H106
                  obtain ⟨h116, h117⟩ := app_inv b114
                  have h116 : out.length + 1 ≤ 4294967296 := h116
                  have h118 : List.map eGWord out ++ [[.v (.string s3), .v (.int .i64 (IntKind.i64.wrap (at_ + i)))]] = List.map eGWord l := app_map eGWord h117
                  have h119 : out.length + 1 = l.length := app_len h117
                  have h120 : l.length ≤ 4294967296 := by omega
                  have q121 : 0 < l.length := by omega
                  refine Z1 (Y2 (Y6 (nat_of .i64 h107) (nat_of .i64 (Int.le_trans h107 h108)) h111 h112 h113 h116) (Y3 h118 h119 h120)) ?_
                  rcases out with _ | ⟨q0, q1⟩
                  · try simp only [List.map_nil, accI, accN]
                    exact ⟨⟨((c, (l, k7)), 0), H115⟩, ZR [(0, 11)], Nat.lt_succ_self _⟩
                  · try simp only [List.map_cons, accI, accN]
                    exact ⟨⟨((c, (l, k7)), (g6 + 1)), H115⟩, ZR [(0, 0)], Nat.lt_succ_self _⟩
        · refine Z1 c60 ?_
          obtain rfl := Zi H61
          exact ⟨⟨⟨out, rfl⟩, g⟩, ZR [(0, 0)]⟩
  · rintro ⟨⟨out3, he124⟩, g8⟩
    replace he124 := he124.symm
    subst he124
    try dsimp only at H2
    refine ZT 1 ?_
    refine Z0 ?_
    obtain rfl := Zi H2
    exact ZE0
def ref1_Lines_L1 (n : Nat) (t0 : ByteArray) : Nat → (Int × Int) → Option (Int)
  | 0, _ => none
  | c + 1, (t5, t6) =>
    (if (decide (t6 < (t0.size : Int))) then
      (bidx t0 t6).bind fun ch2 =>
      (if (ch2 == 10) then
        ref1_Lines_L1 n t0 c ((IntKind.i64.wrap (t5 + 1)), (IntKind.i64.wrap (t6 + 1)))
      else
        ref1_Lines_L1 n t0 c (t5, (IntKind.i64.wrap (t6 + 1))))
    else
      some t5)

def ref1_Lines_L2 (n : Nat) (t0 : ByteArray) : Nat → Int → Option ((Unit) ⊕ (List GLine × Int × Int))
  | 0, _ => none
  | c + 1, t7 =>
    (if (decide (t7 < (t0.size : Int))) then
      (bidx t0 t7).bind fun ch5 =>
      (if (ch5 == 13) then
        (if ((IntKind.i64.wrap (t7 + 1)) == (t0.size : Int)) then
          ref1_Lines_L2 n t0 c (IntKind.i64.wrap (t7 + 1))
        else
          (bidx t0 (IntKind.i64.wrap (t7 + 1))).bind fun ch6 =>
          (if (ch6 == 10) then
            ref1_Lines_L2 n t0 c (IntKind.i64.wrap (t7 + 1))
          else
            (if (ch5 == 9) then
              ref1_Lines_L2 n t0 c (IntKind.i64.wrap (t7 + 1))
            else
              (if (ch5 == 10) then
                ref1_Lines_L2 n t0 c (IntKind.i64.wrap (t7 + 1))
              else
                (if (decide (32 ≤ ch5)) then
                  (if (decide (ch5 ≤ 126)) then
                    ref1_Lines_L2 n t0 c (IntKind.i64.wrap (t7 + 1))
                  else
                    some (.inr ([], t7, 7)))
                else
                  some (.inr ([], t7, 7)))))))
      else
        (if (ch5 == 9) then
          ref1_Lines_L2 n t0 c (IntKind.i64.wrap (t7 + 1))
        else
          (if (ch5 == 10) then
            ref1_Lines_L2 n t0 c (IntKind.i64.wrap (t7 + 1))
          else
            (if (decide (32 ≤ ch5)) then
              (if (decide (ch5 ≤ 126)) then
                ref1_Lines_L2 n t0 c (IntKind.i64.wrap (t7 + 1))
              else
                some (.inr ([], t7, 7)))
            else
              some (.inr ([], t7, 7))))))
    else
      some (.inl ()))

def ref1_Lines_L3 (n : Nat) (t0 : ByteArray) : Nat → (List GLine × Int × Int) → Option (List GLine)
  | 0, _ => none
  | c + 1, (t9, t10, t11) =>
    (if (decide (t11 ≤ (t0.size : Int))) then
      (
        (if (decide (t11 < (t0.size : Int))) then
          (bidx t0 t11).bind fun ch8 =>
          some (ch8 != 10)
        else
          some false) : Option (Bool)).bind fun t902 =>
      (if t902 then
        ref1_Lines_L3 n t0 c (t9, t10, (IntKind.i64.wrap (t11 + 1)))
      else
        (
          (if (decide (t10 < t11)) then
            (bidx t0 (IntKind.i64.wrap (t11 - 1))).bind fun ch9 =>
            some (ch9 == 13)
          else
            some false) : Option (Bool)).bind fun t101 =>
        (
          (if t101 then
            some (IntKind.i64.wrap (t11 - 1))
          else
            some t11) : Option (Int)).bind fun t12 =>
        (bslc t0 t10 t12).bind fun s2 =>
        (ref1_words n s2 t10).bind fun t1092 =>
        (if (decide (0 < (t1092.length : Int))) then
          (idx t1092 0).bind fun x2 =>
          (app t9 [(⟨x2.at_, t1092⟩ : GLine)]).bind fun l =>
          ref1_Lines_L3 n t0 c (l, (IntKind.i64.wrap (t11 + 1)), (IntKind.i64.wrap (t11 + 1)))
        else
          ref1_Lines_L3 n t0 c (t9, (IntKind.i64.wrap (t11 + 1)), (IntKind.i64.wrap (t11 + 1)))))
    else
      some t9)

def ref1_Lines (n : Nat) (t0 : ByteArray) : Option (List GLine × Int × Int) :=
  (
    ref1_Lines_L1 n t0 n (0, 0) : Option (Int)).bind fun t53 =>
  (
    (if (decide (200000 < (t0.size : Int))) then
      some true
    else
      some (decide (5000 < t53))) : Option (Bool)).bind fun t32 =>
  (if t32 then
    some ([], 0, 8)
  else
    (
      ref1_Lines_L2 n t0 n 0 : Option ((Unit) ⊕ (List GLine × Int × Int))).bind fun
      | .inl _ =>
        (
          ref1_Lines_L3 n t0 n ([], 0, 0) : Option (List GLine)).bind fun t93 =>
        some (t93, 0, 0)
      | .inr r => some r)
set_option maxHeartbeats 8000000 in
theorem ref1_Lines_ok {n : Nat} {t0 : ByteArray} {r : List GLine × Int × Int} (H : ref1_Lines n t0 = some r) : PureOK Tryd.prog 12 [D.v (.string t0)] (D.tu [D.sl (List.map eGLine r.1), D.v (.int .i64 r.2.1), D.v (.int .i64 r.2.2)]) true := by
  unfold ref1_Lines at H
  refine ZP tab_ok fol (rs := #[.tmp 2, .tmp 3, .tmp 4]) Tryd.func12 ?_
  refine runR_seq ?_
  refine ZT 1 ?_
  refine Z0 ?_
  refine runR_seq ?_
  refine ZT 1 ?_
  refine Z0 ?_
  refine runR_seq ?_
  refine runR_seq ?_
  refine ZT 1 ?_
  refine Z0 ?_
  obtain ⟨e_, E1, H2⟩ := bind_inv H
  refine runR_join (α := { y : Int // e_ = y }) (fun | ⟨t53, _⟩ => ⟨upd 0 (.v (.string t0)) (upd 5 (.v (.int .i64 t53)) noFr), noHp, 0⟩) ?_ ?_
  · refine runR_block ?_
    refine runR_loop (α := { q : Nat × (Int × Int) // ref1_Lines_L1 n t0 q.1 q.2 = some e_ }) (fun | ⟨⟨c, ⟨t5, t6⟩⟩, _⟩ => ⟨upd 0 (.v (.string t0)) (upd 5 (.v (.int .i64 t5)) (upd 6 (.v (.int .i64 t6)) noFr)), noHp, 0⟩) (fun q => q.1.1) ⟨(n, (0, 0)), E1⟩ ?_ ?_
    · exact ZR []
    · rintro ⟨⟨c, ⟨t5, t6⟩⟩, L3⟩
      rcases c with _ | c
      · exact nomatch (show none = some _ from L3)
      · unfold ref1_Lines_L1 at L3
        try dsimp only at L3
        refine ZT 1 ?_
        refine Z0 ?_
        rcases ite_inv L3 with ⟨c13, H14⟩ | ⟨c13, H14⟩
        · obtain ⟨ch2, b15, H16⟩ := bind_inv H14
          obtain ⟨h17, by_2, h18, h19⟩ := bidx_inv b15
          try simp only [Int.reduceToNat, Int.toNat_natCast] at h18
          refine Z1 (Y4 c13 (nat_of .i64 h17) h18 h19.symm) ?_
          rcases ite_inv H16 with ⟨c20, H21⟩ | ⟨c20, H21⟩
          · refine Z1 (Y5 c13 (nat_of .i64 h17) h18 h19.symm c20) ?_
            exact ⟨⟨(c, ((IntKind.i64.wrap (t5 + 1)), (IntKind.i64.wrap (t6 + 1)))), H21⟩, ZR [], Nat.lt_succ_self _⟩
          · refine Z1 (Y5 c13 (nat_of .i64 h17) h18 h19.symm c20) ?_
            exact ⟨⟨(c, (t5, (IntKind.i64.wrap (t6 + 1)))), H21⟩, ZR [], Nat.lt_succ_self _⟩
        · refine Z1 c13 ?_
          obtain rfl := Zi H14
          exact ⟨⟨t5, rfl⟩, ZR []⟩
  · rintro ⟨t53, he200⟩
    replace he200 := he200.symm
    subst he200
    try dsimp only at H2
    refine runR_seq ?_
    refine runR_seq ?_
    obtain ⟨e_2, E22, H23⟩ := bind_inv H2
    refine runR_join (α := { y : Bool // e_2 = y }) (fun | ⟨t32, _⟩ => ⟨upd 0 (.v (.string t0)) (upd 32 (.v (.bool t32)) noFr), noHp, 0⟩) ?_ ?_
    · refine ZT 1 ?_
      refine Z0 ?_
      rcases ite_inv E22 with ⟨c24, H25⟩ | ⟨c24, H25⟩
      · refine Z1 c24 ?_
        obtain rfl := Zi H25
        exact ⟨⟨true, rfl⟩, ZR []⟩
      · refine Z1 c24 ?_
        obtain rfl := Zi H25
        exact ⟨⟨(decide (5000 < t53)), rfl⟩, ZR []⟩
    · rintro ⟨t32, he199⟩
      replace he199 := he199.symm
      subst he199
      try dsimp only at H23
      refine ZT 1 ?_
      refine Z0 ?_
      rcases ite_inv H23 with ⟨c26, H27⟩ | ⟨c26, H27⟩
      · refine Z1 c26 ?_
        obtain rfl := Zi H27
        exact ZE0
      · refine Z1 c26 ?_
        refine runR_seq ?_
        refine runR_seq ?_
        refine ZT 1 ?_
        refine Z1 c26 ?_
        obtain ⟨e_3, E28, H29⟩ := bind_inv H27
        refine runR_join (α := { y : Unit // e_3 = .inl y }) (fun | ⟨_, _⟩ => ⟨upd 0 (.v (.string t0)) noFr, noHp, 0⟩) ?_ ?_
        · refine runR_block ?_
          refine runR_loop (α := { q : Nat × Int // ref1_Lines_L2 n t0 q.1 q.2 = some e_3 }) (fun | ⟨⟨c, t7⟩, _⟩ => ⟨upd 0 (.v (.string t0)) (upd 7 (.v (.int .i64 t7)) noFr), noHp, 0⟩) (fun q => q.1.1) ⟨(n, 0), E28⟩ ?_ ?_
          · exact ZR []
          · rintro ⟨⟨c, t7⟩, L30⟩
            rcases c with _ | c
            · exact nomatch (show none = some _ from L30)
            · unfold ref1_Lines_L2 at L30
              try dsimp only at L30
              refine ZT 1 ?_
              refine Z0 ?_
              rcases ite_inv L30 with ⟨c65, H66⟩ | ⟨c65, H66⟩
              · obtain ⟨ch5, b67, H68⟩ := bind_inv H66
                obtain ⟨h69, by_5, h70, h71⟩ := bidx_inv b67
                try simp only [Int.reduceToNat, Int.toNat_natCast] at h70
                refine Z1 (Y4 c65 (nat_of .i64 h69) h70 h71.symm) ?_
                rcases ite_inv H68 with ⟨c72, H73⟩ | ⟨c72, H73⟩
                · refine Z1 (Y5 c65 (nat_of .i64 h69) h70 h71.symm c72) ?_
                  rcases ite_inv H73 with ⟨c74, H75⟩ | ⟨c74, H75⟩
                  · refine Z1 (Y6 c65 (nat_of .i64 h69) h70 h71.symm c72 c74) ?_
                    exact ⟨⟨(c, (IntKind.i64.wrap (t7 + 1))), H75⟩, ZR [], Nat.lt_succ_self _⟩
                  · obtain ⟨ch6, b76, H77⟩ := bind_inv H75
                    obtain ⟨h78, by_6, h79, h80⟩ := bidx_inv b76
                    try simp only [Int.reduceToNat, Int.toNat_natCast] at h79
                    refine Z1 (Y2 (Y6 c65 (nat_of .i64 h69) h70 h71.symm c72 c74) (Y3 (nat_of .i64 h78) h79 h80.symm)) ?_
                    rcases ite_inv H77 with ⟨c81, H82⟩ | ⟨c81, H82⟩
                    · refine Z1 (Y2 (Y6 c65 (nat_of .i64 h69) h70 h71.symm c72 c74) (Y4 (nat_of .i64 h78) h79 h80.symm c81)) ?_
                      exact ⟨⟨(c, (IntKind.i64.wrap (t7 + 1))), H82⟩, ZR [], Nat.lt_succ_self _⟩
                    · refine Z1 (Y2 (Y6 c65 (nat_of .i64 h69) h70 h71.symm c72 c74) (Y4 (nat_of .i64 h78) h79 h80.symm c81)) ?_
                      rcases ite_inv H82 with ⟨c83, H84⟩ | ⟨c83, H84⟩
                      · refine Z1 (Y2 (Y6 c65 (nat_of .i64 h69) h70 h71.symm c72 c74) (Y5 (nat_of .i64 h78) h79 h80.symm c81 c83)) ?_
                        exact ⟨⟨(c, (IntKind.i64.wrap (t7 + 1))), H84⟩, ZR [], Nat.lt_succ_self _⟩
                      · refine Z1 (Y2 (Y6 c65 (nat_of .i64 h69) h70 h71.symm c72 c74) (Y5 (nat_of .i64 h78) h79 h80.symm c81 c83)) ?_
                        rcases ite_inv H84 with ⟨c85, H86⟩ | ⟨c85, H86⟩
                        · refine Z1 (Y2 (Y6 c65 (nat_of .i64 h69) h70 h71.symm c72 c74) (Y6 (nat_of .i64 h78) h79 h80.symm c81 c83 c85)) ?_
                          exact ⟨⟨(c, (IntKind.i64.wrap (t7 + 1))), H86⟩, ZR [], Nat.lt_succ_self _⟩
                        · refine Z1 (Y2 (Y6 c65 (nat_of .i64 h69) h70 h71.symm c72 c74) (Y6 (nat_of .i64 h78) h79 h80.symm c81 c83 c85)) ?_
                          rcases ite_inv H86 with ⟨c87, H88⟩ | ⟨c87, H88⟩
                          · refine Z1 (Y3 (Y6 c65 (nat_of .i64 h69) h70 h71.symm c72 c74) (Y6 (nat_of .i64 h78) h79 h80.symm c81 c83 c85) c87) ?_
                            rcases ite_inv H88 with ⟨c89, H90⟩ | ⟨c89, H90⟩
                            · refine Z1 (Y3 (Y6 c65 (nat_of .i64 h69) h70 h71.symm c72 c74) (Y6 (nat_of .i64 h78) h79 h80.symm c81 c83 c85) (Y2 c87 c89)) ?_
                              exact ⟨⟨(c, (IntKind.i64.wrap (t7 + 1))), H90⟩, ZR [], Nat.lt_succ_self _⟩
                            · refine Z1 (Y3 (Y6 c65 (nat_of .i64 h69) h70 h71.symm c72 c74) (Y6 (nat_of .i64 h78) h79 h80.symm c81 c83 c85) (Y2 c87 c89)) ?_
                              obtain rfl := Zi H90
                              obtain rfl := Zi H29
                              exact ZE0
                          · refine Z1 (Y3 (Y6 c65 (nat_of .i64 h69) h70 h71.symm c72 c74) (Y6 (nat_of .i64 h78) h79 h80.symm c81 c83 c85) c87) ?_
                            obtain rfl := Zi H88
                            obtain rfl := Zi H29
                            exact ZE0
                · refine Z1 (Y5 c65 (nat_of .i64 h69) h70 h71.symm c72) ?_
                  rcases ite_inv H73 with ⟨c91, H92⟩ | ⟨c91, H92⟩
                  · refine Z1 (Y6 c65 (nat_of .i64 h69) h70 h71.symm c72 c91) ?_
                    exact ⟨⟨(c, (IntKind.i64.wrap (t7 + 1))), H92⟩, ZR [], Nat.lt_succ_self _⟩
                  · refine Z1 (Y6 c65 (nat_of .i64 h69) h70 h71.symm c72 c91) ?_
                    rcases ite_inv H92 with ⟨c93, H94⟩ | ⟨c93, H94⟩
                    · refine Z1 (Y2 (Y6 c65 (nat_of .i64 h69) h70 h71.symm c72 c91) c93) ?_
                      exact ⟨⟨(c, (IntKind.i64.wrap (t7 + 1))), H94⟩, ZR [], Nat.lt_succ_self _⟩
                    · refine Z1 (Y2 (Y6 c65 (nat_of .i64 h69) h70 h71.symm c72 c91) c93) ?_
                      rcases ite_inv H94 with ⟨c95, H96⟩ | ⟨c95, H96⟩
                      · refine Z1 (Y2 (Y6 c65 (nat_of .i64 h69) h70 h71.symm c72 c91) (Y2 c93 c95)) ?_
                        rcases ite_inv H96 with ⟨c97, H98⟩ | ⟨c97, H98⟩
                        · refine Z1 (Y2 (Y6 c65 (nat_of .i64 h69) h70 h71.symm c72 c91) (Y3 c93 c95 c97)) ?_
                          exact ⟨⟨(c, (IntKind.i64.wrap (t7 + 1))), H98⟩, ZR [], Nat.lt_succ_self _⟩
                        · refine Z1 (Y2 (Y6 c65 (nat_of .i64 h69) h70 h71.symm c72 c91) (Y3 c93 c95 c97)) ?_
                          obtain rfl := Zi H98
                          obtain rfl := Zi H29
                          exact ZE0
                      · refine Z1 (Y2 (Y6 c65 (nat_of .i64 h69) h70 h71.symm c72 c91) (Y2 c93 c95)) ?_
                        obtain rfl := Zi H96
                        obtain rfl := Zi H29
                        exact ZE0
              · refine Z1 c65 ?_
                obtain rfl := Zi H66
                exact ⟨⟨(), rfl⟩, ZR []⟩
        · rintro ⟨_, he198⟩
          replace he198 := he198.symm
          subst he198
          try dsimp only at H29
          refine runR_seq ?_
          refine ZT 1 ?_
          refine Z0 ?_
          refine runR_seq ?_
          refine ZT 1 ?_
          refine Z0 ?_
          refine runR_seq ?_
          refine runR_seq ?_
          refine ZT 1 ?_
          refine Z0 ?_
          obtain ⟨e_4, E99, H100⟩ := bind_inv H29
          refine runR_join (α := { y : List GLine // e_4 = y } × Nat) (fun | ⟨⟨t93, _⟩, g6⟩ => ⟨upd 9 (accV 0 g6 (List.map eGLine t93)) noFr, upd 0 (accO 2 g6 false (List.map eGLine t93)) noHp, 1⟩) ?_ ?_
          · refine runR_block ?_
            refine runR_loop (α := { q : (Nat × (List GLine × Int × Int)) × Nat // ref1_Lines_L3 n t0 q.1.1 q.1.2 = some e_4 }) (fun | ⟨⟨⟨c, ⟨t9, t10, t11⟩⟩, g⟩, _⟩ => ⟨upd 0 (.v (.string t0)) (upd 9 (accV 0 g (List.map eGLine t9)) (upd 10 (.v (.int .i64 t10)) (upd 11 (.v (.int .i64 t11)) noFr))), upd 0 (accO 2 g false (List.map eGLine t9)) noHp, 1⟩) (fun q => q.1.1.1) ⟨((n, ([], 0, 0)), 0), E99⟩ ?_ ?_
            · exact ZR []
            · rintro ⟨⟨⟨c, ⟨t9, t10, t11⟩⟩, g⟩, L101⟩
              rcases c with _ | c
              · exact nomatch (show none = some _ from L101)
              · unfold ref1_Lines_L3 at L101
                try dsimp only at L101
                refine runR_seq ?_
                refine ZT 1 ?_
                refine Z0 ?_
                rcases ite_inv L101 with ⟨c141, H142⟩ | ⟨c141, H142⟩
                · refine Z1 c141 ?_
                  refine runR_seq ?_
                  refine runR_block ?_
                  refine runR_seq ?_
                  refine runR_seq ?_
                  obtain ⟨e_8, E143, H144⟩ := bind_inv H142
                  refine runR_join (α := { y : Bool // e_8 = y } × Nat) (fun | ⟨⟨t902, _⟩, g2⟩ => ⟨upd 0 (.v (.string t0)) (upd 9 (accV 0 g2 (List.map eGLine t9)) (upd 10 (.v (.int .i64 t10)) (upd 11 (.v (.int .i64 t11)) (upd 90 (.v (.bool t902)) noFr)))), upd 0 (accO 2 g2 false (List.map eGLine t9)) noHp, 1⟩) ?_ ?_
                  · refine ZT 1 ?_
                    refine Z0 ?_
                    rcases ite_inv E143 with ⟨c145, H146⟩ | ⟨c145, H146⟩
                    · obtain ⟨ch8, b147, H148⟩ := bind_inv H146
                      obtain ⟨h149, by_8, h150, h151⟩ := bidx_inv b147
                      try simp only [Int.reduceToNat, Int.toNat_natCast] at h150
                      refine Z1 (Y4 c145 (nat_of .i64 h149) h150 h151.symm) ?_
                      obtain rfl := Zi H148
                      exact ⟨⟨⟨(ch8 != 10), rfl⟩, g⟩, ZR [(0, 0)]⟩
                    · refine Z1 c145 ?_
                      obtain rfl := Zi H146
                      exact ⟨⟨⟨false, rfl⟩, g⟩, ZR [(0, 0)]⟩
                  · rintro ⟨⟨t902, he196⟩, g2⟩
                    replace he196 := he196.symm
                    subst he196
                    try dsimp only at H144
                    refine ZT 1 ?_
                    refine Z0 ?_
                    rcases ite_inv H144 with ⟨c152, H153⟩ | ⟨c152, H153⟩
                    · refine Z1 c152 ?_
                      refine ZT 1 ?_
                      refine Z1 c152 ?_
                      exact ⟨⟨((c, (t9, t10, (IntKind.i64.wrap (t11 + 1)))), g2), H153⟩, ZR [(0, 0)], Nat.lt_succ_self _⟩
                    · refine Z1 c152 ?_
                      refine runR_seq ?_
                      refine ZT 1 ?_
                      refine Z1 c152 ?_
                      refine runR_seq ?_
                      refine runR_seq ?_
                      obtain ⟨e_9, E154, H155⟩ := bind_inv H153
                      refine runR_join (α := { y : Bool // e_9 = y } × Nat) (fun | ⟨⟨t101, _⟩, g3⟩ => ⟨upd 0 (.v (.string t0)) (upd 9 (accV 0 g3 (List.map eGLine t9)) (upd 10 (.v (.int .i64 t10)) (upd 11 (.v (.int .i64 t11)) (upd 12 (.v (.int .i64 t11)) (upd 101 (.v (.bool t101)) noFr))))), upd 0 (accO 2 g3 false (List.map eGLine t9)) noHp, 1⟩) ?_ ?_
                      · refine ZT 1 ?_
                        refine Z0 ?_
                        rcases ite_inv E154 with ⟨c156, H157⟩ | ⟨c156, H157⟩
                        · obtain ⟨ch9, b158, H159⟩ := bind_inv H157
                          obtain ⟨h160, by_9, h161, h162⟩ := bidx_inv b158
                          try simp only [Int.reduceToNat, Int.toNat_natCast] at h161
                          refine Z1 (Y4 c156 (nat_of .i64 h160) h161 h162.symm) ?_
                          obtain rfl := Zi H159
                          exact ⟨⟨⟨(ch9 == 13), rfl⟩, g2⟩, ZR [(0, 0)]⟩
                        · refine Z1 c156 ?_
                          obtain rfl := Zi H157
                          exact ⟨⟨⟨false, rfl⟩, g2⟩, ZR [(0, 0)]⟩
                      · rintro ⟨⟨t101, he195⟩, g3⟩
                        replace he195 := he195.symm
                        subst he195
                        try dsimp only at H155
                        obtain ⟨e_10, E163, H164⟩ := bind_inv H155
                        refine runR_join (α := { y : Int // e_10 = y } × Nat) (fun | ⟨⟨t12, _⟩, g4⟩ => ⟨upd 0 (.v (.string t0)) (upd 9 (accV 0 g4 (List.map eGLine t9)) (upd 10 (.v (.int .i64 t10)) (upd 11 (.v (.int .i64 t11)) (upd 12 (.v (.int .i64 t12)) noFr)))), upd 0 (accO 2 g4 false (List.map eGLine t9)) noHp, 1⟩) ?_ ?_
                        · refine ZT 1 ?_
                          refine Z0 ?_
                          rcases ite_inv E163 with ⟨c165, H166⟩ | ⟨c165, H166⟩
                          · refine Z1 c165 ?_
                            obtain rfl := Zi H166
                            exact ⟨⟨⟨(IntKind.i64.wrap (t11 - 1)), rfl⟩, g3⟩, ZR [(0, 0)]⟩
                          · refine Z1 c165 ?_
                            obtain rfl := Zi H166
                            exact ⟨⟨⟨t11, rfl⟩, g3⟩, ZR [(0, 0)]⟩
                        · rintro ⟨⟨t12, he194⟩, g4⟩
                          replace he194 := he194.symm
                          subst he194
                          try dsimp only at H164
                          refine ZT 3 ?_
                          obtain ⟨s2, b167, H168⟩ := bind_inv H164
                          obtain ⟨h169, h170, h171, h172⟩ := bslc_inv b167
                          have h173 : Int.toNat t10 ≤ Int.toNat t12 := by omega
                          have h174 : Int.toNat t12 ≤ t0.size := by omega
                          have h175 : ByteArray.extract t0 (Int.toNat t10) (Int.toNat t12) = s2 := h172.symm
                          try simp only [Int.toNat_natCast] at h173 h174 h175
                          obtain ⟨t1092, b176, H177⟩ := bind_inv H168
                          refine Z1 (Y5 (nat_of .i64 h169) (nat_of .i64 (Int.le_trans h169 h170)) h173 h174 h175) ?_
                          refine ZC0 (ref1_words_ok b176) ?_
                          refine Z1 (Y5 (nat_of .i64 h169) (nat_of .i64 (Int.le_trans h169 h170)) h173 h174 h175) ?_
                          rcases ite_inv H177 with ⟨c178, H179⟩ | ⟨c178, H179⟩
                          · obtain ⟨x2, b180, H181⟩ := bind_inv H179
                            obtain ⟨h182, h183⟩ := idx_inv b180
                            try simp only [Int.reduceToNat, Int.toNat_natCast] at h183
                            have h184 := map_at eGWord h183
                            obtain ⟨l, b186, H187⟩ := bind_inv H181
                            obtain ⟨h188, h189⟩ := app_inv b186
                            have h188 : t9.length + 1 ≤ 4294967296 := h188
                            have h190 : List.map eGLine t9 ++ [[.v (.int .i64 x2.at_), .sl (List.map eGWord t1092)]] = List.map eGLine l := app_map eGLine h189
                            have h191 : t9.length + 1 = l.length := app_len h189
                            have h192 : l.length ≤ 4294967296 := by omega
                            have q193 : 0 < l.length := by omega
                            refine Z1 (Y2 (Y6 (nat_of .i64 h169) (nat_of .i64 (Int.le_trans h169 h170)) h173 h174 h175 c178) (Y6 (nat_of .i64 h182) h184 h188 h190 h191 h192)) ?_
                            rcases t9 with _ | ⟨q0, q1⟩
                            · try simp only [List.map_nil, accI, accN]
                              exact ⟨⟨((c, (l, (IntKind.i64.wrap (t11 + 1)), (IntKind.i64.wrap (t11 + 1)))), 0), H187⟩, ZR [(0, 19)], Nat.lt_succ_self _⟩
                            · try simp only [List.map_cons, accI, accN]
                              exact ⟨⟨((c, (l, (IntKind.i64.wrap (t11 + 1)), (IntKind.i64.wrap (t11 + 1)))), (g4 + 1)), H187⟩, ZR [(0, 0)], Nat.lt_succ_self _⟩
                          · refine Z1 (Y6 (nat_of .i64 h169) (nat_of .i64 (Int.le_trans h169 h170)) h173 h174 h175 c178) ?_
                            exact ⟨⟨((c, (t9, (IntKind.i64.wrap (t11 + 1)), (IntKind.i64.wrap (t11 + 1)))), g4), H179⟩, ZR [(0, 0)], Nat.lt_succ_self _⟩
                · refine Z1 c141 ?_
                  obtain rfl := Zi H142
                  exact ⟨⟨⟨t9, rfl⟩, g⟩, ZR [(0, 0)]⟩
          · rintro ⟨⟨t93, he197⟩, g6⟩
            replace he197 := he197.symm
            subst he197
            try dsimp only at H100
            refine ZT 1 ?_
            refine Z0 ?_
            obtain rfl := Zi H100
            exact ZE0
def law12_Same_L2 (n : Nat) (t0 : List GLine) (t1 : List GLine) (t5 : Int) : Nat → Int → Option ((Unit) ⊕ Bool)
  | 0, _ => none
  | c + 1, t63 =>
    (idx t0 t5).bind fun x17 =>
    (if (decide (t63 < (x17.words.length : Int))) then
      (idx x17.words t63).bind fun x18 =>
      (idx t1 t5).bind fun x19 =>
      (idx x19.words t63).bind fun x20 =>
      (if ((x18.text == x20.text) && (x18.at_ == x20.at_)) then
        law12_Same_L2 n t0 t1 t5 c (IntKind.i64.wrap (t63 + 1))
      else
        some (.inr false))
    else
      some (.inl ()))

def law12_Same_L1 (n : Nat) (t0 : List GLine) (t1 : List GLine) : Nat → Int → Option ((Unit) ⊕ Bool)
  | 0, _ => none
  | c + 1, t5 =>
    (if (decide (t5 < (t0.length : Int))) then
      (
        (idx t0 t5).bind fun x11 =>
        (idx t1 t5).bind fun x12 =>
        (if (x11.at_ != x12.at_) then
          some true
        else
          some ((x11.words.length : Int) != (x12.words.length : Int))) : Option (Bool)).bind fun t432 =>
      (if t432 then
        some (.inr false)
      else
        (
          law12_Same_L2 n t0 t1 t5 n 0 : Option ((Unit) ⊕ Bool)).bind fun
          | .inl _ =>
            law12_Same_L1 n t0 t1 c (IntKind.i64.wrap (t5 + 1))
          | .inr r => some (.inr r))
    else
      some (.inl ()))

def law12_Same (n : Nat) (t0 : List GLine) (t1 : List GLine) : Option Bool :=
  (if ((t0.length : Int) != (t1.length : Int)) then
    some false
  else
    (
      law12_Same_L1 n t0 t1 n 0 : Option ((Unit) ⊕ Bool)).bind fun
      | .inl _ =>
        some true
      | .inr r => some r)
theorem law12_Same_ok {n : Nat} {t0 : List GLine} {t1 : List GLine} {r : Bool} (H : law12_Same n t0 t1 = some r) : PureOK Tryd.prog 13 [D.sl (List.map eGLine t0), D.sl (List.map eGLine t1)] (D.v (.bool r)) true := by
  unfold law12_Same at H
  refine ZP tab_ok fol (rs := #[.tmp 4]) Tryd.func13 ?_
  refine runR_seq ?_
  refine ZT 1 ?_
  refine Z0 ?_
  refine runR_seq ?_
  refine ZT 1 ?_
  refine Z0 ?_
  rcases ite_inv H with ⟨c1, H2⟩ | ⟨c1, H2⟩
  · refine Z1 c1 ?_
    obtain rfl := Zi H2
    exact ZE0
  · refine Z1 c1 ?_
    refine runR_seq ?_
    refine runR_seq ?_
    refine ZT 1 ?_
    refine Z1 c1 ?_
    obtain ⟨e_, E3, H4⟩ := bind_inv H2
    refine runR_join (α := { y : Unit // e_ = .inl y }) (fun | ⟨_, _⟩ => ⟨noFr, noHp, 0⟩) ?_ ?_
    · refine runR_block ?_
      refine runR_loop (α := { q : Nat × Int // law12_Same_L1 n t0 t1 q.1 q.2 = some e_ }) (fun | ⟨⟨c, t5⟩, _⟩ => ⟨upd 0 (.d (.sl (List.map eGLine t0)) true) (upd 1 (.d (.sl (List.map eGLine t1)) true) (upd 5 (.v (.int .i64 t5)) noFr)), noHp, 0⟩) (fun q => q.1.1) ⟨(n, 0), E3⟩ ?_ ?_
      · exact ZR []
      · rintro ⟨⟨c, t5⟩, L5⟩
        rcases c with _ | c
        · exact nomatch (show none = some _ from L5)
        · unfold law12_Same_L1 at L5
          try dsimp only at L5
          refine runR_seq ?_
          refine ZT 1 ?_
          refine Z0 ?_
          rcases ite_inv L5 with ⟨c87, H88⟩ | ⟨c87, H88⟩
          · refine Z1 c87 ?_
            refine runR_seq ?_
            refine runR_block ?_
            refine runR_seq ?_
            refine runR_seq ?_
            obtain ⟨e_4, E89, H90⟩ := bind_inv H88
            refine runR_join (α := { y : Bool // e_4 = y }) (fun | ⟨t432, _⟩ => ⟨upd 0 (.d (.sl (List.map eGLine t0)) true) (upd 1 (.d (.sl (List.map eGLine t1)) true) (upd 5 (.v (.int .i64 t5)) (upd 43 (.v (.bool t432)) noFr))), noHp, 0⟩) ?_ ?_
            · refine ZT 1 ?_
              obtain ⟨x11, b91, H92⟩ := bind_inv E89
              obtain ⟨h93, h94⟩ := idx_inv b91
              try simp only [Int.reduceToNat, Int.toNat_natCast] at h94
              have h95 := map_at eGLine h94
              obtain ⟨x12, b97, H98⟩ := bind_inv H92
              obtain ⟨h99, h100⟩ := idx_inv b97
              try simp only [Int.reduceToNat, Int.toNat_natCast] at h100
              have h101 := map_at eGLine h100
              refine Z1 (Y4 (nat_of .i64 h93) h95 (nat_of .i64 h99) h101) ?_
              rcases ite_inv H98 with ⟨c103, H104⟩ | ⟨c103, H104⟩
              · refine Z1 (Y5 (nat_of .i64 h93) h95 (nat_of .i64 h99) h101 c103) ?_
                refine Rd_endF (by rfl) ?_
                refine Z1 (Y5 (nat_of .i64 h93) h95 (nat_of .i64 h99) h101 c103) ?_
                obtain rfl := Zi H104
                exact ⟨⟨true, rfl⟩, ZR []⟩
              · refine Z1 (Y5 (nat_of .i64 h93) h95 (nat_of .i64 h99) h101 c103) ?_
                refine Rd_endF (by rfl) ?_
                refine Z1 (Y5 (nat_of .i64 h93) h95 (nat_of .i64 h99) h101 c103) ?_
                obtain rfl := Zi H104
                exact ⟨⟨((x11.words.length : Int) != (x12.words.length : Int)), rfl⟩, ZR []⟩
            · rintro ⟨t432, he167⟩
              replace he167 := he167.symm
              subst he167
              try dsimp only at H90
              refine ZT 1 ?_
              refine Z0 ?_
              rcases ite_inv H90 with ⟨c105, H106⟩ | ⟨c105, H106⟩
              · refine Z1 c105 ?_
                obtain rfl := Zi H106
                obtain rfl := Zi H4
                exact ZE0
              · refine Z1 c105 ?_
                refine runR_seq ?_
                refine ZT 1 ?_
                refine Z1 c105 ?_
                obtain ⟨e_5, E107, H108⟩ := bind_inv H106
                refine runR_join (α := { y : Unit // e_5 = .inl y }) (fun | ⟨_, _⟩ => ⟨upd 0 (.d (.sl (List.map eGLine t0)) true) (upd 1 (.d (.sl (List.map eGLine t1)) true) (upd 5 (.v (.int .i64 t5)) noFr)), noHp, 0⟩) ?_ ?_
                · refine runR_block ?_
                  refine runR_loop (α := { q : Nat × Int // law12_Same_L2 n t0 t1 t5 q.1 q.2 = some e_5 }) (fun | ⟨⟨c, t63⟩, _⟩ => ⟨upd 0 (.d (.sl (List.map eGLine t0)) true) (upd 1 (.d (.sl (List.map eGLine t1)) true) (upd 5 (.v (.int .i64 t5)) (upd 6 (.v (.int .i64 t63)) noFr))), noHp, 0⟩) (fun q => q.1.1) ⟨(n, 0), E107⟩ ?_ ?_
                  · exact ZR []
                  · rintro ⟨⟨c, t63⟩, L109⟩
                    rcases c with _ | c
                    · exact nomatch (show none = some _ from L109)
                    · unfold law12_Same_L2 at L109
                      try dsimp only at L109
                      refine ZT 1 ?_
                      obtain ⟨x17, b138, H139⟩ := bind_inv L109
                      obtain ⟨h140, h141⟩ := idx_inv b138
                      try simp only [Int.reduceToNat, Int.toNat_natCast] at h141
                      have h142 := map_at eGLine h141
                      refine Z1 (Y2 (nat_of .i64 h140) h142) ?_
                      rcases ite_inv H139 with ⟨c144, H145⟩ | ⟨c144, H145⟩
                      · obtain ⟨x18, b146, H147⟩ := bind_inv H145
                        obtain ⟨h148, h149⟩ := idx_inv b146
                        try simp only [Int.reduceToNat, Int.toNat_natCast] at h149
                        have h150 := map_at eGWord h149
                        obtain ⟨x19, b152, H153⟩ := bind_inv H147
                        obtain ⟨h154, h155⟩ := idx_inv b152
                        try simp only [Int.reduceToNat, Int.toNat_natCast] at h155
                        have h156 := map_at eGLine h155
                        obtain ⟨x20, b158, H159⟩ := bind_inv H153
                        obtain ⟨h160, h161⟩ := idx_inv b158
                        try simp only [Int.reduceToNat, Int.toNat_natCast] at h161
                        have h162 := map_at eGWord h161
                        refine Z1 (Y2 (Y6 (nat_of .i64 h140) h142 c144 (nat_of .i64 h148) h150 (nat_of .i64 h154)) (Y3 h156 (nat_of .i64 h160) h162)) ?_
                        refine Rd_endF (by rfl) ?_
                        refine Z1 (Y2 (Y6 (nat_of .i64 h140) h142 c144 (nat_of .i64 h148) h150 (nat_of .i64 h154)) (Y3 h156 (nat_of .i64 h160) h162)) ?_
                        rcases ite_inv H159 with ⟨c164, H165⟩ | ⟨c164, H165⟩
                        · refine Z1 (Y2 (Y6 (nat_of .i64 h140) h142 c144 (nat_of .i64 h148) h150 (nat_of .i64 h154)) (Y4 h156 (nat_of .i64 h160) h162 c164)) ?_
                          exact ⟨⟨(c, (IntKind.i64.wrap (t63 + 1))), H165⟩, ZR [], Nat.lt_succ_self _⟩
                        · refine Z1 (Y2 (Y6 (nat_of .i64 h140) h142 c144 (nat_of .i64 h148) h150 (nat_of .i64 h154)) (Y4 h156 (nat_of .i64 h160) h162 c164)) ?_
                          obtain rfl := Zi H165
                          obtain rfl := Zi H108
                          obtain rfl := Zi H4
                          exact ZE0
                      · refine Z1 (Y3 (nat_of .i64 h140) h142 c144) ?_
                        obtain rfl := Zi H145
                        exact ⟨⟨(), rfl⟩, ZR []⟩
                · rintro ⟨_, he166⟩
                  replace he166 := he166.symm
                  subst he166
                  try dsimp only at H108
                  refine Z0 ?_
                  refine ZT 1 ?_
                  refine Z0 ?_
                  exact ⟨⟨(c, (IntKind.i64.wrap (t5 + 1))), H108⟩, ZR [], Nat.lt_succ_self _⟩
          · refine Z1 c87 ?_
            obtain rfl := Zi H88
            exact ⟨⟨(), rfl⟩, ZR []⟩
    · rintro ⟨_, he168⟩
      replace he168 := he168.symm
      subst he168
      try dsimp only at H4
      refine ZT 1 ?_
      refine Z0 ?_
      obtain rfl := Zi H4
      exact ZE0
def law12_Tame_L1 (n : Nat) (s : ByteArray) : Nat → (ByteArray × Int) → Option (ByteArray)
  | 0, _ => none
  | c + 1, (t, i) =>
    (if (decide (i < (s.size : Int))) then
      (if (decide (i < 100)) then
        (bidx s i).bind fun ch2 =>
        (idx ([{ data := #[97] }, { data := #[98] }, { data := #[32] }, { data := #[9] }, { data := #[10] }, { data := #[13, 10] }, { data := #[35] }, { data := #[32, 35] }, { data := #[117, 115, 101, 114, 32] }, { data := #[120] }, { data := #[32, 32] }, { data := #[13] }, { data := #[49] }, { data := #[97, 35] }, { data := #[10, 10] }, { data := #[126] }] : List ByteArray) (IntKind.u8.wrap (anB ch2 15 : Int))).bind fun x2 =>
        (cat t x2).bind fun s3 =>
        law12_Tame_L1 n s c (s3, (IntKind.i64.wrap (i + 1)))
      else
        some t)
    else
      some t)

def law12_Tame (n : Nat) (s : ByteArray) : Option ByteArray :=
  (
    law12_Tame_L1 n s n ({ data := #[] }, 0) : Option (ByteArray)).bind fun t3 =>
  some t3
theorem law12_Tame_ok {n : Nat} {s : ByteArray} {r : ByteArray} (H : law12_Tame n s = some r) : PureOK Tryd.prog 14 [D.v (.string s)] (D.v (.string r)) true := by
  unfold law12_Tame at H
  refine ZP tab_ok fol (rs := #[.tmp 2]) Tryd.func14 ?_
  refine runR_seq ?_
  refine ZT 1 ?_
  refine Z0 ?_
  refine runR_seq ?_
  refine ZT 1 ?_
  refine Z0 ?_
  refine runR_seq ?_
  refine runR_seq ?_
  refine ZT 1 ?_
  refine Z0 ?_
  obtain ⟨e_, E1, H2⟩ := bind_inv H
  refine runR_join (α := { y : ByteArray // e_ = y }) (fun | ⟨t3, _⟩ => ⟨upd 3 (.v (.string t3)) noFr, noHp, 0⟩) ?_ ?_
  · refine runR_block ?_
    refine runR_loop (α := { q : Nat × (ByteArray × Int) // law12_Tame_L1 n s q.1 q.2 = some e_ }) (fun | ⟨⟨c, ⟨t, i⟩⟩, _⟩ => ⟨upd 0 (.v (.string s)) (upd 3 (.v (.string t)) (upd 4 (.v (.int .i64 i)) noFr)), noHp, 0⟩) (fun q => q.1.1) ⟨(n, ({ data := #[] }, 0)), E1⟩ ?_ ?_
    · exact ZR []
    · rintro ⟨⟨c, ⟨t, i⟩⟩, L3⟩
      rcases c with _ | c
      · exact nomatch (show none = some _ from L3)
      · unfold law12_Tame_L1 at L3
        try dsimp only at L3
        refine ZT 1 ?_
        refine Z0 ?_
        rcases ite_inv L3 with ⟨c23, H24⟩ | ⟨c23, H24⟩
        · refine Z1 c23 ?_
          rcases ite_inv H24 with ⟨c25, H26⟩ | ⟨c25, H26⟩
          · obtain ⟨ch2, b27, H28⟩ := bind_inv H26
            obtain ⟨h29, by_2, h30, h31⟩ := bidx_inv b27
            try simp only [Int.reduceToNat, Int.toNat_natCast] at h30
            obtain ⟨x2, b32, H33⟩ := bind_inv H28
            obtain ⟨h34, h35⟩ := idx_inv b32
            try simp only [Int.reduceToNat, Int.toNat_natCast] at h35
            have h36 := map_at eS h35
            simp only [List.map_cons, List.map_nil, eS] at h36
            have h37 := at_lt h35
            simp only [List.length_cons, List.length_nil, Nat.reduceAdd] at h37
            obtain ⟨s3, b38, H39⟩ := bind_inv H33
            obtain ⟨h40, h41⟩ := cat_inv b38
            refine Z1 (Y2 (Y6 c23 c25 (nat_of .i64 h29) h30 h31.symm (nat_of .u8 h34)) (Y4 h36 h37 h40 h41)) ?_
            exact ⟨⟨(c, (s3, (IntKind.i64.wrap (i + 1)))), H39⟩, ZR [], Nat.lt_succ_self _⟩
          · refine Z1 (Y2 c23 c25) ?_
            obtain rfl := Zi H26
            exact ⟨⟨t, rfl⟩, ZR []⟩
        · refine Z1 c23 ?_
          obtain rfl := Zi H24
          exact ⟨⟨t, rfl⟩, ZR []⟩
  · rintro ⟨t3, he42⟩
    replace he42 := he42.symm
    subst he42
    try dsimp only at H2
    refine ZT 1 ?_
    refine Z0 ?_
    obtain rfl := Zi H2
    exact ZE0
def ref1_Glue_L1 (n : Nat) (l : List ByteArray) (by_ : ByteArray) : Nat → (ByteArray × Int) → Option (ByteArray)
  | 0, _ => none
  | c + 1, (s2, i) =>
    (if (decide (i < (l.length : Int))) then
      (if (decide (0 < i)) then
        (cat s2 by_).bind fun s3 =>
        (idx l i).bind fun x2 =>
        (cat s3 x2).bind fun s4 =>
        ref1_Glue_L1 n l by_ c (s4, (IntKind.i64.wrap (i + 1)))
      else
        (idx l i).bind fun x3 =>
        (cat s2 x3).bind fun s5 =>
        ref1_Glue_L1 n l by_ c (s5, (IntKind.i64.wrap (i + 1))))
    else
      some s2)

def ref1_Glue (n : Nat) (l : List ByteArray) (by_ : ByteArray) : Option ByteArray :=
  (
    ref1_Glue_L1 n l by_ n ({ data := #[] }, 0) : Option (ByteArray)).bind fun s7 =>
  some s7
theorem ref1_Glue_ok {n : Nat} {l : List ByteArray} {by_ : ByteArray} {r : ByteArray} (H : ref1_Glue n l by_ = some r) : PureOK Tryd.prog 16 [D.sl (List.map eS l), D.v (.string by_)] (D.v (.string r)) true := by
  unfold ref1_Glue at H
  refine ZP tab_ok fol (rs := #[.tmp 4]) Tryd.func16 ?_
  refine runR_seq ?_
  refine ZT 1 ?_
  refine Z0 ?_
  refine runR_seq ?_
  refine ZT 1 ?_
  refine Z0 ?_
  refine runR_seq ?_
  refine runR_seq ?_
  refine ZT 1 ?_
  refine Z0 ?_
  obtain ⟨e_, E1, H2⟩ := bind_inv H
  refine runR_join (α := { y : ByteArray // e_ = y }) (fun | ⟨s7, _⟩ => ⟨upd 5 (.v (.string s7)) noFr, noHp, 0⟩) ?_ ?_
  · refine runR_block ?_
    refine runR_loop (α := { q : Nat × (ByteArray × Int) // ref1_Glue_L1 n l by_ q.1 q.2 = some e_ }) (fun | ⟨⟨c, ⟨s2, i⟩⟩, _⟩ => ⟨upd 0 (.d (.sl (List.map eS l)) true) (upd 1 (.v (.string by_)) (upd 5 (.v (.string s2)) (upd 6 (.v (.int .i64 i)) noFr))), noHp, 0⟩) (fun q => q.1.1) ⟨(n, ({ data := #[] }, 0)), E1⟩ ?_ ?_
    · exact ZR []
    · rintro ⟨⟨c, ⟨s2, i⟩⟩, L3⟩
      rcases c with _ | c
      · exact nomatch (show none = some _ from L3)
      · unfold ref1_Glue_L1 at L3
        try dsimp only at L3
        refine ZT 1 ?_
        refine Z0 ?_
        rcases ite_inv L3 with ⟨c18, H19⟩ | ⟨c18, H19⟩
        · refine Z1 c18 ?_
          rcases ite_inv H19 with ⟨c20, H21⟩ | ⟨c20, H21⟩
          · obtain ⟨s3, b22, H23⟩ := bind_inv H21
            obtain ⟨h24, h25⟩ := cat_inv b22
            obtain ⟨x2, b26, H27⟩ := bind_inv H23
            obtain ⟨h28, h29⟩ := idx_inv b26
            try simp only [Int.reduceToNat, Int.toNat_natCast] at h29
            have h30 := map_at eS h29
            obtain ⟨s4, b32, H33⟩ := bind_inv H27
            obtain ⟨h34, h35⟩ := cat_inv b32
            refine Z1 (Y2 (Y6 c18 c20 h24 h25 (nat_of .i64 h28) h30) (Y2 h34 h35)) ?_
            exact ⟨⟨(c, (s4, (IntKind.i64.wrap (i + 1)))), H33⟩, ZR [], Nat.lt_succ_self _⟩
          · obtain ⟨x3, b36, H37⟩ := bind_inv H21
            obtain ⟨h38, h39⟩ := idx_inv b36
            try simp only [Int.reduceToNat, Int.toNat_natCast] at h39
            have h40 := map_at eS h39
            obtain ⟨s5, b42, H43⟩ := bind_inv H37
            obtain ⟨h44, h45⟩ := cat_inv b42
            refine Z1 (Y6 c18 c20 (nat_of .i64 h38) h40 h44 h45) ?_
            exact ⟨⟨(c, (s5, (IntKind.i64.wrap (i + 1)))), H43⟩, ZR [], Nat.lt_succ_self _⟩
        · refine Z1 c18 ?_
          obtain rfl := Zi H19
          exact ⟨⟨s2, rfl⟩, ZR []⟩
  · rintro ⟨s7, he46⟩
    replace he46 := he46.symm
    subst he46
    try dsimp only at H2
    refine ZT 1 ?_
    refine Z0 ?_
    obtain rfl := Zi H2
    exact ZE0
def law12_LineTells_L1 (n : Nat) (t1 : List ByteArray) : Nat → Int → Option ((Unit) ⊕ Bool)
  | 0, _ => none
  | c + 1, t5 =>
    (if (decide (t5 < (t1.length : Int))) then
      (idx t1 t5).bind fun x2 =>
      (if (decide (100 < (x2.size : Int))) then
        (law12_awake n).bind fun t342 =>
        some (.inr t342)
      else
        law12_LineTells_L1 n t1 c (IntKind.i64.wrap (t5 + 1)))
    else
      some (.inl ()))
def law12_LineTells_L1_f (n : Nat) (t1 : List ByteArray) (st : Unit) (x2 : ByteArray) (k : Unit → Option ((Unit) ⊕ Bool)) : Option ((Unit) ⊕ Bool) :=
  match st with
  | _ =>
    (if (decide (100 < (x2.size : Int))) then
      (law12_awake n).bind fun t342 =>
      some (.inr t342)
    else
      k ())
def law12_LineTells_L1_e (n : Nat) (t1 : List ByteArray) (st : Unit) : Option ((Unit) ⊕ Bool) :=
  match st with
  | _ => some (.inl ())
theorem law12_LineTells_L1_list (n : Nat) (t1 : List ByteArray) (hx : t1.length < 4611686018427387904) (c : Nat) (st : Unit) (ix : Nat) (hi : ix ≤ t1.length) (hc : t1.length - ix < c) : law12_LineTells_L1 n t1 c (match st, (ix : Int) with | _, ix => ix) = foldK (law12_LineTells_L1_f n t1) (law12_LineTells_L1_e n t1) (t1.drop ix) st :=
  loop_list (fun c st ix => law12_LineTells_L1 n t1 c (match st, ix with | _, ix => ix)) t1 (law12_LineTells_L1_f n t1) (law12_LineTells_L1_e n t1) (fun _ _ _ => rfl) hx c st ix hi hc

def law12_LineTells_L2 (n : Nat) : Nat → (ByteArray × Int) → Option ((Unit) ⊕ Bool)
  | 0, _ => none
  | c + 1, (t02, t6) =>
    (if (decide (t6 < 2)) then
      (line_Lines n t02).bind fun t412 =>
      (ref1_Lines n t02).bind fun t472 =>
      (law12_Same n t412.1 t472.1).bind fun t532 =>
      (if t532 then
        (if (t412.2.1 != t472.2.1) then
          some (.inr false)
        else
          (if (t412.2.2 != t472.2.2) then
            some (.inr false)
          else
            (law12_Tame n t02).bind fun t662 =>
            law12_LineTells_L2 n c (t662, (IntKind.i64.wrap (t6 + 1)))))
      else
        some (.inr false))
    else
      some (.inl ()))

def law12_LineTells (n : Nat) (t0 : ByteArray) (t1 : List ByteArray) : Option Bool :=
  (
    (if (decide (2000 < (t0.size : Int))) then
      some true
    else
      some (decide (20 < (t1.length : Int)))) : Option (Bool)).bind fun t20 =>
  (if t20 then
    (law12_awake n).bind fun t21 =>
    some t21
  else
    (
      law12_LineTells_L1 n t1 n 0 : Option ((Unit) ⊕ Bool)).bind fun
      | .inl _ =>
        (
          law12_LineTells_L2 n n (t0, 0) : Option ((Unit) ⊕ Bool)).bind fun
          | .inl _ =>
            (line_Join n t1).bind fun t68 =>
            (ref1_Glue n t1 ({ data := #[32] })).bind fun t70 =>
            (if (t68.toList == t70.toList) then
              (law12_awake n).bind fun t73 =>
              some t73
            else
              some false)
          | .inr r => some r
      | .inr r => some r)
theorem law12_LineTells_ok {n : Nat} {t0 : ByteArray} {t1 : List ByteArray} {r : Bool} (H : law12_LineTells n t0 t1 = some r) : PureOK Tryd.prog 5 [D.v (.string t0), D.sl (List.map eS t1)] (D.v (.bool r)) true := by
  unfold law12_LineTells at H
  refine ZP tab_ok fol (rs := #[.tmp 4]) Tryd.func5 ?_
  refine runR_seq ?_
  refine ZT 1 ?_
  refine Z0 ?_
  refine runR_seq ?_
  refine runR_seq ?_
  obtain ⟨e_, E1, H2⟩ := bind_inv H
  refine runR_join (α := { y : Bool // e_ = y }) (fun | ⟨t20, _⟩ => ⟨upd 0 (.v (.string t0)) (upd 1 (.d (.sl (List.map eS t1)) true) (upd 20 (.v (.bool t20)) noFr)), noHp, 0⟩) ?_ ?_
  · refine ZT 1 ?_
    refine Z0 ?_
    rcases ite_inv E1 with ⟨c3, H4⟩ | ⟨c3, H4⟩
    · refine Z1 c3 ?_
      obtain rfl := Zi H4
      exact ⟨⟨true, rfl⟩, ZR []⟩
    · refine Z1 c3 ?_
      obtain rfl := Zi H4
      exact ⟨⟨(decide (20 < (t1.length : Int))), rfl⟩, ZR []⟩
  · rintro ⟨t20, he79⟩
    replace he79 := he79.symm
    subst he79
    try dsimp only at H2
    refine ZT 1 ?_
    refine Z0 ?_
    rcases ite_inv H2 with ⟨c5, H6⟩ | ⟨c5, H6⟩
    · obtain ⟨t21, b7, H8⟩ := bind_inv H6
      refine Z1 c5 ?_
      refine ZC0 (law12_awake_ok b7) ?_
      refine Z1 c5 ?_
      obtain rfl := Zi H8
      exact ZE0
    · refine Z1 c5 ?_
      refine runR_seq ?_
      refine runR_seq ?_
      refine ZT 1 ?_
      refine Z1 c5 ?_
      obtain ⟨e_2, E9, H10⟩ := bind_inv H6
      refine runR_join (α := { y : Unit // e_2 = .inl y }) (fun | ⟨_, _⟩ => ⟨upd 0 (.v (.string t0)) (upd 1 (.d (.sl (List.map eS t1)) true) noFr), noHp, 0⟩) ?_ ?_
      · refine runR_block ?_
        refine runR_loop (α := { q : Nat × Int // law12_LineTells_L1 n t1 q.1 q.2 = some e_2 }) (fun | ⟨⟨c, t5⟩, _⟩ => ⟨upd 0 (.v (.string t0)) (upd 1 (.d (.sl (List.map eS t1)) true) (upd 5 (.v (.int .i64 t5)) noFr)), noHp, 0⟩) (fun q => q.1.1) ⟨(n, 0), E9⟩ ?_ ?_
        · exact ZR []
        · rintro ⟨⟨c, t5⟩, L11⟩
          rcases c with _ | c
          · exact nomatch (show none = some _ from L11)
          · unfold law12_LineTells_L1 at L11
            try dsimp only at L11
            refine ZT 1 ?_
            refine Z0 ?_
            rcases ite_inv L11 with ⟨c24, H25⟩ | ⟨c24, H25⟩
            · obtain ⟨x2, b26, H27⟩ := bind_inv H25
              obtain ⟨h28, h29⟩ := idx_inv b26
              try simp only [Int.reduceToNat, Int.toNat_natCast] at h29
              have h30 := map_at eS h29
              refine Z1 (Y3 c24 (nat_of .i64 h28) h30) ?_
              rcases ite_inv H27 with ⟨c32, H33⟩ | ⟨c32, H33⟩
              · obtain ⟨t342, b34, H35⟩ := bind_inv H33
                refine Z1 (Y4 c24 (nat_of .i64 h28) h30 c32) ?_
                refine ZC0 (law12_awake_ok b34) ?_
                refine Z1 (Y4 c24 (nat_of .i64 h28) h30 c32) ?_
                obtain rfl := Zi H35
                obtain rfl := Zi H10
                exact ZE0
              · refine Z1 (Y4 c24 (nat_of .i64 h28) h30 c32) ?_
                exact ⟨⟨(c, (IntKind.i64.wrap (t5 + 1))), H33⟩, ZR [], Nat.lt_succ_self _⟩
            · refine Z1 c24 ?_
              obtain rfl := Zi H25
              exact ⟨⟨(), rfl⟩, ZR []⟩
      · rintro ⟨_, he78⟩
        replace he78 := he78.symm
        subst he78
        try dsimp only at H10
        refine runR_seq ?_
        refine runR_seq ?_
        refine ZT 1 ?_
        refine Z0 ?_
        obtain ⟨e_3, E36, H37⟩ := bind_inv H10
        refine runR_join (α := { y : Unit // e_3 = .inl y }) (fun | ⟨_, _⟩ => ⟨upd 1 (.d (.sl (List.map eS t1)) true) noFr, noHp, 0⟩) ?_ ?_
        · refine runR_block ?_
          refine runR_loop (α := { q : Nat × (ByteArray × Int) // law12_LineTells_L2 n q.1 q.2 = some e_3 }) (fun | ⟨⟨c, ⟨t02, t6⟩⟩, _⟩ => ⟨upd 0 (.v (.string t02)) (upd 1 (.d (.sl (List.map eS t1)) true) (upd 6 (.v (.int .i64 t6)) noFr)), noHp, 0⟩) (fun q => q.1.1) ⟨(n, (t0, 0)), E36⟩ ?_ ?_
          · exact ZR []
          · rintro ⟨⟨c, ⟨t02, t6⟩⟩, L38⟩
            rcases c with _ | c
            · exact nomatch (show none = some _ from L38)
            · unfold law12_LineTells_L2 at L38
              try dsimp only at L38
              refine ZT 1 ?_
              refine Z0 ?_
              rcases ite_inv L38 with ⟨c53, H54⟩ | ⟨c53, H54⟩
              · obtain ⟨t412, b55, H56⟩ := bind_inv H54
                refine Z1 c53 ?_
                refine ZC0 (line_Lines_ok b55) ?_
                obtain ⟨t472, b57, H58⟩ := bind_inv H56
                refine Z1 c53 ?_
                refine ZC0 (ref1_Lines_ok b57) ?_
                obtain ⟨t532, b59, H60⟩ := bind_inv H58
                refine Z1 c53 ?_
                refine ZC0 (law12_Same_ok b59) ?_
                refine Z1 c53 ?_
                rcases ite_inv H60 with ⟨c61, H62⟩ | ⟨c61, H62⟩
                · refine Z1 (Y2 c53 c61) ?_
                  rcases ite_inv H62 with ⟨c63, H64⟩ | ⟨c63, H64⟩
                  · refine Z1 (Y3 c53 c61 c63) ?_
                    obtain rfl := Zi H64
                    obtain rfl := Zi H37
                    exact ZE0
                  · refine Z1 (Y3 c53 c61 c63) ?_
                    rcases ite_inv H64 with ⟨c65, H66⟩ | ⟨c65, H66⟩
                    · refine Z1 (Y4 c53 c61 c63 c65) ?_
                      obtain rfl := Zi H66
                      obtain rfl := Zi H37
                      exact ZE0
                    · obtain ⟨t662, b67, H68⟩ := bind_inv H66
                      refine Z1 (Y4 c53 c61 c63 c65) ?_
                      refine ZC0 (law12_Tame_ok b67) ?_
                      refine Z1 (Y4 c53 c61 c63 c65) ?_
                      exact ⟨⟨(c, (t662, (IntKind.i64.wrap (t6 + 1)))), H68⟩, ZR [], Nat.lt_succ_self _⟩
                · refine Z1 (Y2 c53 c61) ?_
                  obtain rfl := Zi H62
                  obtain rfl := Zi H37
                  exact ZE0
              · refine Z1 c53 ?_
                obtain rfl := Zi H54
                exact ⟨⟨(), rfl⟩, ZR []⟩
        · rintro ⟨_, he77⟩
          replace he77 := he77.symm
          subst he77
          try dsimp only at H37
          refine ZT 1 ?_
          obtain ⟨t68, b69, H70⟩ := bind_inv H37
          refine Z0 ?_
          refine ZC0 (line_Join_ok b69) ?_
          obtain ⟨t70, b71, H72⟩ := bind_inv H70
          refine Z0 ?_
          refine ZC0 (ref1_Glue_ok b71) ?_
          refine Z0 ?_
          rcases ite_inv H72 with ⟨c73, H74⟩ | ⟨c73, H74⟩
          · obtain ⟨t73, b75, H76⟩ := bind_inv H74
            refine Z1 c73 ?_
            refine ZC0 (law12_awake_ok b75) ?_
            refine Z1 c73 ?_
            obtain rfl := Zi H76
            exact ZE0
          · refine Z1 c73 ?_
            obtain rfl := Zi H74
            exact ZE0
end Go.Proofs.YtjfpmgdbkhooeaaDoor.Ab
