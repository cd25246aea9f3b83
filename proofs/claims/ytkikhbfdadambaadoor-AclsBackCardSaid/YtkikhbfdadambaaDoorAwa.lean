/-
  Functions, read off the code.
-/
import Derived.Test.YtkikhbfdadambaaDoorAcs
import Derived.Test.YtkikhbfdadambaaDoorAcb
import Derived.Test.YtkikhbfdadambaaDoorTex
namespace Go.Proofs.YtkikhbfdadambaaDoor.Ab
open Go.RowKit
def bytealg_LastIndexByteString_L1 (n : Nat) (s : ByteArray) (c2 : Int) : Nat → Int → Option ((Unit) ⊕ Int)
  | 0, _ => none
  | c + 1, i =>
    (if (decide (0 ≤ i)) then
      (bidx s i).bind fun ch2 =>
      (if (ch2 == c2) then
        some (.inr i)
      else
        bytealg_LastIndexByteString_L1 n s c2 c (IntKind.i64.wrap (i - 1)))
    else
      some (.inl ()))

def bytealg_LastIndexByteString (n : Nat) (s : ByteArray) (c2 : Int) : Option Int :=
  (
    bytealg_LastIndexByteString_L1 n s c2 n (IntKind.i64.wrap ((s.size : Int) - 1)) : Option ((Unit) ⊕ Int)).bind fun
    | .inl _ =>
      some (-1)
    | .inr r => some r
theorem bytealg_LastIndexByteString_ok {n : Nat} {s : ByteArray} {c2 : Int} {r : Int} (H : bytealg_LastIndexByteString n s c2 = some r) : PureOK Tryd.prog 59 [D.v (.string s), D.v (.int .u8 c2)] (D.v (.int .i64 r)) true := by
  unfold bytealg_LastIndexByteString at H
  refine ZP tab_ok fol (rs := #[.tmp 4]) Tryd.func59 ?_
  refine runR_seq ?_
  refine ZT 1 ?_
  refine Z0 ?_
  refine runR_seq ?_
  refine runR_seq ?_
  refine ZT 1 ?_
  refine Z0 ?_
  obtain ⟨e_, E1, H2⟩ := bind_inv H
  refine runR_join (α := { y : Unit // e_ = .inl y }) (fun | ⟨_, _⟩ => ⟨noFr, noHp, 0⟩) ?_ ?_
  · refine runR_block ?_
    refine runR_loop (α := { q : Nat × Int // bytealg_LastIndexByteString_L1 n s c2 q.1 q.2 = some e_ }) (fun | ⟨⟨c, i⟩, _⟩ => ⟨upd 0 (.v (.string s)) (upd 1 (.v (.int .u8 c2)) (upd 5 (.v (.int .i64 i)) noFr)), noHp, 0⟩) (fun q => q.1.1) ⟨(n, (IntKind.i64.wrap ((s.size : Int) - 1))), E1⟩ ?_ ?_
    · exact ZR []
    · rintro ⟨⟨c, i⟩, L3⟩
      rcases c with _ | c
      · exact nomatch (show none = some _ from L3)
      · unfold bytealg_LastIndexByteString_L1 at L3
        try dsimp only at L3
        refine ZT 1 ?_
        refine Z0 ?_
        rcases ite_inv L3 with ⟨c13, H14⟩ | ⟨c13, H14⟩
        · obtain ⟨ch2, b15, H16⟩ := bind_inv H14
          obtain ⟨h17, by_2, h18, h19⟩ := bidx_inv b15
          try simp only [Int.reduceToNat, Int.toNat_natCast] at h18
          refine Z1 (Y4 c13 (nat_of .i64 h17) h18 h19.symm) ?_
          rcases ite_inv H16 with ⟨c20, H21⟩ | ⟨c20, H21⟩
          · refine Z1 (Y5 c13 (nat_of .i64 h17) h18 h19.symm c20) ?_
            obtain rfl := Zi H21
            obtain rfl := Zi H2
            exact ZE0
          · refine Z1 (Y5 c13 (nat_of .i64 h17) h18 h19.symm c20) ?_
            exact ⟨⟨(c, (IntKind.i64.wrap (i - 1))), H21⟩, ZR [], Nat.lt_succ_self _⟩
        · refine Z1 c13 ?_
          obtain rfl := Zi H14
          exact ⟨⟨(), rfl⟩, ZR []⟩
  · rintro ⟨_, he22⟩
    replace he22 := he22.symm
    subst he22
    try dsimp only at H2
    refine ZT 1 ?_
    refine Z0 ?_
    obtain rfl := Zi H2
    exact ZE0
def bytealg_hashStrRev_string_L1 (n : Nat) (sep : ByteArray) : Nat → (Int × Int) → Option (Int)
  | 0, _ => none
  | c + 1, (hash, i) =>
    (if (decide (0 ≤ i)) then
      (bidx sep i).bind fun ch2 =>
      bytealg_hashStrRev_string_L1 n sep c ((IntKind.u32.wrap ((IntKind.u32.wrap (hash * 16777619)) + (IntKind.u32.wrap ch2))), (IntKind.i64.wrap (i - 1)))
    else
      some hash)

def bytealg_hashStrRev_string_L2 (n : Nat) : Nat → (Int × Int × Int) → Option (Int)
  | 0, _ => none
  | c + 1, (pow, sq, i3) =>
    (if (decide (0 < i3)) then
      (if ((IntKind.i64.wrap (an i3 1 : Int)) != 0) then
        bytealg_hashStrRev_string_L2 n c ((IntKind.u32.wrap (pow * sq)), (IntKind.u32.wrap (sq * sq)), (sh i3 1))
      else
        bytealg_hashStrRev_string_L2 n c (pow, (IntKind.u32.wrap (sq * sq)), (sh i3 1)))
    else
      some pow)

def bytealg_hashStrRev_string (n : Nat) (sep : ByteArray) : Option (Int × Int) :=
  (
    bytealg_hashStrRev_string_L1 n sep n (0, (IntKind.i64.wrap ((sep.size : Int) - 1))) : Option (Int)).bind fun hash3 =>
  (
    bytealg_hashStrRev_string_L2 n n (1, 16777619, (sep.size : Int)) : Option (Int)).bind fun pow3 =>
  some (hash3, pow3)
theorem bytealg_hashStrRev_string_ok {n : Nat} {sep : ByteArray} {r : Int × Int} (H : bytealg_hashStrRev_string n sep = some r) : PureOK Tryd.prog 73 [D.v (.string sep)] (D.tu [D.v (.int .u32 r.1), D.v (.int .u32 r.2)]) true := by
  unfold bytealg_hashStrRev_string at H
  refine ZP tab_ok fol (rs := #[.tmp 2, .tmp 3]) Tryd.func73 ?_
  refine runR_seq ?_
  refine ZT 1 ?_
  refine Z0 ?_
  refine runR_seq ?_
  refine ZT 1 ?_
  refine Z0 ?_
  refine runR_seq ?_
  refine runR_seq ?_
  refine ZT 1 ?_
  refine Z0 ?_
  obtain ⟨e_, E1, H2⟩ := bind_inv H
  refine runR_join (α := { y : Int // e_ = y }) (fun | ⟨hash3, _⟩ => ⟨upd 0 (.v (.string sep)) (upd 4 (.v (.int .u32 hash3)) noFr), noHp, 0⟩) ?_ ?_
  · refine runR_block ?_
    refine runR_loop (α := { q : Nat × (Int × Int) // bytealg_hashStrRev_string_L1 n sep q.1 q.2 = some e_ }) (fun | ⟨⟨c, ⟨hash, i⟩⟩, _⟩ => ⟨upd 0 (.v (.string sep)) (upd 4 (.v (.int .u32 hash)) (upd 5 (.v (.int .i64 i)) noFr)), noHp, 0⟩) (fun q => q.1.1) ⟨(n, (0, (IntKind.i64.wrap ((sep.size : Int) - 1)))), E1⟩ ?_ ?_
    · exact ZR []
    · rintro ⟨⟨c, ⟨hash, i⟩⟩, L3⟩
      rcases c with _ | c
      · exact nomatch (show none = some _ from L3)
      · unfold bytealg_hashStrRev_string_L1 at L3
        try dsimp only at L3
        refine ZT 1 ?_
        refine Z0 ?_
        rcases ite_inv L3 with ⟨c11, H12⟩ | ⟨c11, H12⟩
        · obtain ⟨ch2, b13, H14⟩ := bind_inv H12
          obtain ⟨h15, by_2, h16, h17⟩ := bidx_inv b13
          try simp only [Int.reduceToNat, Int.toNat_natCast] at h16
          refine Z1 (Y4 c11 (nat_of .i64 h15) h16 h17.symm) ?_
          exact ⟨⟨(c, ((IntKind.u32.wrap ((IntKind.u32.wrap (hash * 16777619)) + (IntKind.u32.wrap ch2))), (IntKind.i64.wrap (i - 1)))), H14⟩, ZR [], Nat.lt_succ_self _⟩
        · refine Z1 c11 ?_
          obtain rfl := Zi H12
          exact ⟨⟨hash, rfl⟩, ZR []⟩
  · rintro ⟨hash3, he30⟩
    replace he30 := he30.symm
    subst he30
    try dsimp only at H2
    refine runR_seq ?_
    refine ZT 1 ?_
    refine Z0 ?_
    refine runR_seq ?_
    refine runR_seq ?_
    refine ZT 1 ?_
    refine Z0 ?_
    obtain ⟨e_2, E18, H19⟩ := bind_inv H2
    refine runR_join (α := { y : Int // e_2 = y }) (fun | ⟨pow3, _⟩ => ⟨upd 4 (.v (.int .u32 hash3)) (upd 6 (.v (.int .u32 pow3)) noFr), noHp, 0⟩) ?_ ?_
    · refine runR_block ?_
      refine runR_loop (α := { q : Nat × (Int × Int × Int) // bytealg_hashStrRev_string_L2 n q.1 q.2 = some e_2 }) (fun | ⟨⟨c, ⟨pow, sq, i3⟩⟩, _⟩ => ⟨upd 4 (.v (.int .u32 hash3)) (upd 6 (.v (.int .u32 pow)) (upd 7 (.v (.int .u32 sq)) (upd 8 (.v (.int .i64 i3)) noFr))), noHp, 0⟩) (fun q => q.1.1) ⟨(n, (1, 16777619, (sep.size : Int))), E18⟩ ?_ ?_
      · exact ZR []
      · rintro ⟨⟨c, ⟨pow, sq, i3⟩⟩, L20⟩
        rcases c with _ | c
        · exact nomatch (show none = some _ from L20)
        · unfold bytealg_hashStrRev_string_L2 at L20
          try dsimp only at L20
          refine ZT 1 ?_
          refine Z0 ?_
          rcases ite_inv L20 with ⟨c25, H26⟩ | ⟨c25, H26⟩
          · refine Z1 c25 ?_
            rcases ite_inv H26 with ⟨c27, H28⟩ | ⟨c27, H28⟩
            · refine Z1 (Y2 c25 c27) ?_
              exact ⟨⟨(c, ((IntKind.u32.wrap (pow * sq)), (IntKind.u32.wrap (sq * sq)), (sh i3 1))), H28⟩, ZR [], Nat.lt_succ_self _⟩
            · refine Z1 (Y2 c25 c27) ?_
              exact ⟨⟨(c, (pow, (IntKind.u32.wrap (sq * sq)), (sh i3 1))), H28⟩, ZR [], Nat.lt_succ_self _⟩
          · refine Z1 c25 ?_
            obtain rfl := Zi H26
            exact ⟨⟨pow, rfl⟩, ZR []⟩
    · rintro ⟨pow3, he29⟩
      replace he29 := he29.symm
      subst he29
      try dsimp only at H19
      refine ZT 1 ?_
      refine Z0 ?_
      obtain rfl := Zi H19
      exact ZE0
def bytealg_LastIndexRabinKarp_string_L1 (n : Nat) (t0 : ByteArray) (t1 : ByteArray) : Nat → (Int × Int) → Option (Int)
  | 0, _ => none
  | c + 1, (t9, t10) =>
    (if (decide ((IntKind.i64.wrap ((t0.size : Int) - (t1.size : Int))) ≤ t10)) then
      (bidx t0 t10).bind fun ch2 =>
      bytealg_LastIndexRabinKarp_string_L1 n t0 t1 c ((IntKind.u32.wrap ((IntKind.u32.wrap (t9 * 16777619)) + (IntKind.u32.wrap ch2))), (IntKind.i64.wrap (t10 - 1)))
    else
      some t9)

def bytealg_LastIndexRabinKarp_string_L2 (n : Nat) (t0 : ByteArray) (t1 : ByteArray) (t14 : Int × Int) : Nat → (Int × Int) → Option ((Unit) ⊕ Int)
  | 0, _ => none
  | c + 1, (t94, t11) =>
    (if (decide (0 ≤ t11)) then
      (bidx t0 t11).bind fun ch5 =>
      (bidx t0 (IntKind.i64.wrap (t11 + (t1.size : Int)))).bind fun ch6 =>
      (if ((IntKind.u32.wrap ((IntKind.u32.wrap ((IntKind.u32.wrap (t94 * 16777619)) + (IntKind.u32.wrap ch5))) - (IntKind.u32.wrap (t14.2 * (IntKind.u32.wrap ch6))))) == t14.1) then
        (bslc t0 t11 (IntKind.i64.wrap (t11 + (t1.size : Int)))).bind fun s3 =>
        (if (s3.toList == t1.toList) then
          some (.inr t11)
        else
          bytealg_LastIndexRabinKarp_string_L2 n t0 t1 t14 c ((IntKind.u32.wrap ((IntKind.u32.wrap ((IntKind.u32.wrap (t94 * 16777619)) + (IntKind.u32.wrap ch5))) - (IntKind.u32.wrap (t14.2 * (IntKind.u32.wrap ch6))))), (IntKind.i64.wrap (t11 - 1))))
      else
        bytealg_LastIndexRabinKarp_string_L2 n t0 t1 t14 c ((IntKind.u32.wrap ((IntKind.u32.wrap ((IntKind.u32.wrap (t94 * 16777619)) + (IntKind.u32.wrap ch5))) - (IntKind.u32.wrap (t14.2 * (IntKind.u32.wrap ch6))))), (IntKind.i64.wrap (t11 - 1))))
    else
      some (.inl ()))

def bytealg_LastIndexRabinKarp_string (n : Nat) (t0 : ByteArray) (t1 : ByteArray) : Option Int :=
  (bytealg_hashStrRev_string n t1).bind fun t14 =>
  (
    bytealg_LastIndexRabinKarp_string_L1 n t0 t1 n (0, (IntKind.i64.wrap ((t0.size : Int) - 1))) : Option (Int)).bind fun t93 =>
  (
    (if (t93 == t14.1) then
      (bslc t0 (IntKind.i64.wrap ((t0.size : Int) - (t1.size : Int))) (t0.size : Int)).bind fun s =>
      some (s.toList == t1.toList)
    else
      some false) : Option (Bool)).bind fun t47 =>
  (if t47 then
    some (IntKind.i64.wrap ((t0.size : Int) - (t1.size : Int)))
  else
    (
      bytealg_LastIndexRabinKarp_string_L2 n t0 t1 t14 n (t93, (IntKind.i64.wrap ((IntKind.i64.wrap ((t0.size : Int) - (t1.size : Int))) - 1))) : Option ((Unit) ⊕ Int)).bind fun
      | .inl _ =>
        some (-1)
      | .inr r => some r)
theorem bytealg_LastIndexRabinKarp_string_ok {n : Nat} {t0 : ByteArray} {t1 : ByteArray} {r : Int} (H : bytealg_LastIndexRabinKarp_string n t0 t1 = some r) : PureOK Tryd.prog 60 [D.v (.string t0), D.v (.string t1)] (D.v (.int .i64 r)) true := by
  unfold bytealg_LastIndexRabinKarp_string at H
  refine ZP tab_ok fol (rs := #[.tmp 4]) Tryd.func60 ?_
  refine runR_seq ?_
  refine ZT 1 ?_
  refine Z0 ?_
  refine runR_seq ?_
  refine ZT 1 ?_
  obtain ⟨t14, b1, H2⟩ := bind_inv H
  refine Z0 ?_
  refine ZC0 (bytealg_hashStrRev_string_ok b1) ?_
  refine Z0 ?_
  refine runR_seq ?_
  refine ZT 1 ?_
  refine Z0 ?_
  refine runR_seq ?_
  refine ZT 1 ?_
  refine Z0 ?_
  refine runR_seq ?_
  refine ZT 1 ?_
  refine Z0 ?_
  refine runR_seq ?_
  refine runR_seq ?_
  refine ZT 1 ?_
  refine Z0 ?_
  obtain ⟨e_, E3, H4⟩ := bind_inv H2
  refine runR_join (α := { y : Int // e_ = y }) (fun | ⟨t93, _⟩ => ⟨upd 0 (.v (.string t0)) (upd 1 (.v (.string t1)) (upd 5 (.v (.int .u32 t14.1)) (upd 6 (.v (.int .u32 t14.2)) (upd 7 (.v (.int .i64 (t1.size : Int))) (upd 8 (.v (.int .i64 (IntKind.i64.wrap ((t0.size : Int) - (t1.size : Int))))) (upd 9 (.v (.int .u32 t93)) noFr)))))), noHp, 0⟩) ?_ ?_
  · refine runR_block ?_
    refine runR_loop (α := { q : Nat × (Int × Int) // bytealg_LastIndexRabinKarp_string_L1 n t0 t1 q.1 q.2 = some e_ }) (fun | ⟨⟨c, ⟨t9, t10⟩⟩, _⟩ => ⟨upd 0 (.v (.string t0)) (upd 1 (.v (.string t1)) (upd 5 (.v (.int .u32 t14.1)) (upd 6 (.v (.int .u32 t14.2)) (upd 7 (.v (.int .i64 (t1.size : Int))) (upd 8 (.v (.int .i64 (IntKind.i64.wrap ((t0.size : Int) - (t1.size : Int))))) (upd 9 (.v (.int .u32 t9)) (upd 10 (.v (.int .i64 t10)) noFr))))))), noHp, 0⟩) (fun q => q.1.1) ⟨(n, (0, (IntKind.i64.wrap ((t0.size : Int) - 1)))), E3⟩ ?_ ?_
    · exact ZR []
    · rintro ⟨⟨c, ⟨t9, t10⟩⟩, L5⟩
      rcases c with _ | c
      · exact nomatch (show none = some _ from L5)
      · unfold bytealg_LastIndexRabinKarp_string_L1 at L5
        try dsimp only at L5
        refine ZT 1 ?_
        refine Z0 ?_
        rcases ite_inv L5 with ⟨c13, H14⟩ | ⟨c13, H14⟩
        · obtain ⟨ch2, b15, H16⟩ := bind_inv H14
          obtain ⟨h17, by_2, h18, h19⟩ := bidx_inv b15
          try simp only [Int.reduceToNat, Int.toNat_natCast] at h18
          refine Z1 (Y4 c13 (nat_of .i64 h17) h18 h19.symm) ?_
          exact ⟨⟨(c, ((IntKind.u32.wrap ((IntKind.u32.wrap (t9 * 16777619)) + (IntKind.u32.wrap ch2))), (IntKind.i64.wrap (t10 - 1)))), H16⟩, ZR [], Nat.lt_succ_self _⟩
        · refine Z1 c13 ?_
          obtain rfl := Zi H14
          exact ⟨⟨t9, rfl⟩, ZR []⟩
  · rintro ⟨t93, he90⟩
    replace he90 := he90.symm
    subst he90
    try dsimp only at H4
    refine runR_seq ?_
    refine runR_seq ?_
    obtain ⟨e_2, E20, H21⟩ := bind_inv H4
    refine runR_join (α := { y : Bool // e_2 = y }) (fun | ⟨t47, _⟩ => ⟨upd 0 (.v (.string t0)) (upd 1 (.v (.string t1)) (upd 5 (.v (.int .u32 t14.1)) (upd 6 (.v (.int .u32 t14.2)) (upd 7 (.v (.int .i64 (t1.size : Int))) (upd 8 (.v (.int .i64 (IntKind.i64.wrap ((t0.size : Int) - (t1.size : Int))))) (upd 9 (.v (.int .u32 t93)) (upd 47 (.v (.bool t47)) noFr))))))), noHp, 0⟩) ?_ ?_
    · refine ZT 1 ?_
      refine Z0 ?_
      rcases ite_inv E20 with ⟨c22, H23⟩ | ⟨c22, H23⟩
      · obtain ⟨s, b24, H25⟩ := bind_inv H23
        obtain ⟨h26, h27, h28, h29⟩ := bslc_inv b24
        have h30 : Int.toNat (IntKind.i64.wrap ((t0.size : Int) - (t1.size : Int))) ≤ t0.size := by omega
        have h31 : t0.size ≤ t0.size := by omega
        have h32 : ByteArray.extract t0 (Int.toNat (IntKind.i64.wrap ((t0.size : Int) - (t1.size : Int)))) (t0.size) = s := h29.symm
        try simp only [Int.toNat_natCast] at h30 h31 h32
        refine Z1 (Y5 c22 (nat_of .i64 h26) h30 h31 h32) ?_
        obtain rfl := Zi H25
        exact ⟨⟨(s.toList == t1.toList), rfl⟩, ZR []⟩
      · refine Z1 c22 ?_
        obtain rfl := Zi H23
        exact ⟨⟨false, rfl⟩, ZR []⟩
    · rintro ⟨t47, he89⟩
      replace he89 := he89.symm
      subst he89
      try dsimp only at H21
      refine ZT 1 ?_
      refine Z0 ?_
      rcases ite_inv H21 with ⟨c33, H34⟩ | ⟨c33, H34⟩
      · refine Z1 c33 ?_
        obtain rfl := Zi H34
        exact ZE0
      · refine Z1 c33 ?_
        refine runR_seq ?_
        refine runR_seq ?_
        refine ZT 1 ?_
        refine Z1 c33 ?_
        obtain ⟨e_3, E35, H36⟩ := bind_inv H34
        refine runR_join (α := { y : Unit // e_3 = .inl y }) (fun | ⟨_, _⟩ => ⟨noFr, noHp, 0⟩) ?_ ?_
        · refine runR_block ?_
          refine runR_loop (α := { q : Nat × (Int × Int) // bytealg_LastIndexRabinKarp_string_L2 n t0 t1 t14 q.1 q.2 = some e_3 }) (fun | ⟨⟨c, ⟨t94, t11⟩⟩, _⟩ => ⟨upd 0 (.v (.string t0)) (upd 1 (.v (.string t1)) (upd 5 (.v (.int .u32 t14.1)) (upd 6 (.v (.int .u32 t14.2)) (upd 7 (.v (.int .i64 (t1.size : Int))) (upd 9 (.v (.int .u32 t94)) (upd 11 (.v (.int .i64 t11)) noFr)))))), noHp, 0⟩) (fun q => q.1.1) ⟨(n, (t93, (IntKind.i64.wrap ((IntKind.i64.wrap ((t0.size : Int) - (t1.size : Int))) - 1)))), E35⟩ ?_ ?_
          · exact ZR []
          · rintro ⟨⟨c, ⟨t94, t11⟩⟩, L37⟩
            rcases c with _ | c
            · exact nomatch (show none = some _ from L37)
            · unfold bytealg_LastIndexRabinKarp_string_L2 at L37
              try dsimp only at L37
              refine ZT 1 ?_
              refine Z0 ?_
              rcases ite_inv L37 with ⟨c63, H64⟩ | ⟨c63, H64⟩
              · obtain ⟨ch5, b65, H66⟩ := bind_inv H64
                obtain ⟨h67, by_5, h68, h69⟩ := bidx_inv b65
                try simp only [Int.reduceToNat, Int.toNat_natCast] at h68
                obtain ⟨ch6, b70, H71⟩ := bind_inv H66
                obtain ⟨h72, by_6, h73, h74⟩ := bidx_inv b70
                try simp only [Int.reduceToNat, Int.toNat_natCast] at h73
                refine Z1 (Y2 (Y6 c63 (nat_of .i64 h67) h68 h69.symm (nat_of .i64 h72) h73) h74.symm) ?_
                rcases ite_inv H71 with ⟨c75, H76⟩ | ⟨c75, H76⟩
                · obtain ⟨s3, b77, H78⟩ := bind_inv H76
                  obtain ⟨h79, h80, h81, h82⟩ := bslc_inv b77
                  have h83 : Int.toNat t11 ≤ Int.toNat (IntKind.i64.wrap (t11 + (t1.size : Int))) := by omega
                  have h84 : Int.toNat (IntKind.i64.wrap (t11 + (t1.size : Int))) ≤ t0.size := by omega
                  have h85 : ByteArray.extract t0 (Int.toNat t11) (Int.toNat (IntKind.i64.wrap (t11 + (t1.size : Int)))) = s3 := h82.symm
                  try simp only [Int.toNat_natCast] at h83 h84 h85
                  refine Z1 (Y3 (Y6 c63 (nat_of .i64 h67) h68 h69.symm (nat_of .i64 h72) h73) (Y6 h74.symm c75 (nat_of .i64 h79) (nat_of .i64 (Int.le_trans h79 h80)) h83 h84) h85) ?_
                  rcases ite_inv H78 with ⟨c86, H87⟩ | ⟨c86, H87⟩
                  · refine Z1 (Y3 (Y6 c63 (nat_of .i64 h67) h68 h69.symm (nat_of .i64 h72) h73) (Y6 h74.symm c75 (nat_of .i64 h79) (nat_of .i64 (Int.le_trans h79 h80)) h83 h84) (Y2 h85 c86)) ?_
                    obtain rfl := Zi H87
                    obtain rfl := Zi H36
                    exact ZE0
                  · refine Z1 (Y3 (Y6 c63 (nat_of .i64 h67) h68 h69.symm (nat_of .i64 h72) h73) (Y6 h74.symm c75 (nat_of .i64 h79) (nat_of .i64 (Int.le_trans h79 h80)) h83 h84) (Y2 h85 c86)) ?_
                    exact ⟨⟨(c, ((IntKind.u32.wrap ((IntKind.u32.wrap ((IntKind.u32.wrap (t94 * 16777619)) + (IntKind.u32.wrap ch5))) - (IntKind.u32.wrap (t14.2 * (IntKind.u32.wrap ch6))))), (IntKind.i64.wrap (t11 - 1)))), H87⟩, ZR [], Nat.lt_succ_self _⟩
                · refine Z1 (Y2 (Y6 c63 (nat_of .i64 h67) h68 h69.symm (nat_of .i64 h72) h73) (Y2 h74.symm c75)) ?_
                  exact ⟨⟨(c, ((IntKind.u32.wrap ((IntKind.u32.wrap ((IntKind.u32.wrap (t94 * 16777619)) + (IntKind.u32.wrap ch5))) - (IntKind.u32.wrap (t14.2 * (IntKind.u32.wrap ch6))))), (IntKind.i64.wrap (t11 - 1)))), H76⟩, ZR [], Nat.lt_succ_self _⟩
              · refine Z1 c63 ?_
                obtain rfl := Zi H64
                exact ⟨⟨(), rfl⟩, ZR []⟩
        · rintro ⟨_, he88⟩
          replace he88 := he88.symm
          subst he88
          try dsimp only at H36
          refine ZT 1 ?_
          refine Z0 ?_
          obtain rfl := Zi H36
          exact ZE0
def strings_LastIndex (n : Nat) (s : ByteArray) (substr : ByteArray) : Option Int :=
  (if ((substr.size : Int) == 0) then
    some (s.size : Int)
  else
    (if ((substr.size : Int) == 1) then
      (bidx substr 0).bind fun ch =>
      (bytealg_LastIndexByteString n s ch).bind fun t19 =>
      some t19
    else
      (if ((substr.size : Int) == (s.size : Int)) then
        (if (substr.toList == s.toList) then
          some 0
        else
          some (-1))
      else
        (if (decide ((s.size : Int) < (substr.size : Int))) then
          some (-1)
        else
          (bytealg_LastIndexRabinKarp_string n s substr).bind fun t35 =>
          some t35))))
theorem strings_LastIndex_ok {n : Nat} {s : ByteArray} {substr : ByteArray} {r : Int} (H : strings_LastIndex n s substr = some r) : PureOK Tryd.prog 37 [D.v (.string s), D.v (.string substr)] (D.v (.int .i64 r)) true := by
  unfold strings_LastIndex at H
  refine ZP tab_ok fol (rs := #[.tmp 4]) Tryd.func37 ?_
  refine ZT 1 ?_
  refine Z0 ?_
  rcases ite_inv H with ⟨c1, H2⟩ | ⟨c1, H2⟩
  · refine Z1 c1 ?_
    obtain rfl := Zi H2
    exact ZE0
  · refine Z1 c1 ?_
    rcases ite_inv H2 with ⟨c3, H4⟩ | ⟨c3, H4⟩
    · obtain ⟨ch, b5, H6⟩ := bind_inv H4
      obtain ⟨h7, by_, h8, h9⟩ := bidx_inv b5
      try simp only [Int.reduceToNat, Int.toNat_natCast] at h8
      obtain ⟨t19, b10, H11⟩ := bind_inv H6
      refine Z1 (Y5 c1 c3 (nat_of .i64 h7) h8 h9.symm) ?_
      refine ZC0 (bytealg_LastIndexByteString_ok b10) ?_
      refine Z1 (Y5 c1 c3 (nat_of .i64 h7) h8 h9.symm) ?_
      obtain rfl := Zi H11
      exact ZE0
    · refine Z1 (Y2 c1 c3) ?_
      rcases ite_inv H4 with ⟨c12, H13⟩ | ⟨c12, H13⟩
      · refine Z1 (Y3 c1 c3 c12) ?_
        rcases ite_inv H13 with ⟨c14, H15⟩ | ⟨c14, H15⟩
        · refine Z1 (Y4 c1 c3 c12 c14) ?_
          obtain rfl := Zi H15
          exact ZE0
        · refine Z1 (Y4 c1 c3 c12 c14) ?_
          obtain rfl := Zi H15
          exact ZE0
      · refine Z1 (Y3 c1 c3 c12) ?_
        rcases ite_inv H13 with ⟨c16, H17⟩ | ⟨c16, H17⟩
        · refine Z1 (Y4 c1 c3 c12 c16) ?_
          obtain rfl := Zi H17
          exact ZE0
        · obtain ⟨t35, b18, H19⟩ := bind_inv H17
          refine Z1 (Y4 c1 c3 c12 c16) ?_
          refine ZC0 (bytealg_LastIndexRabinKarp_string_ok b18) ?_
          refine Z1 (Y4 c1 c3 c12 c16) ?_
          obtain rfl := Zi H19
          exact ZE0
def acls_Parent (n : Nat) (path : ByteArray) : Option ByteArray :=
  (if (path.toList == ({ data := #[47] } : ByteArray).toList) then
    some ({ data := #[] })
  else
    (acls_Path n path).bind fun t7 =>
    (if t7 then
      (strings_LastIndex n path ({ data := #[47] })).bind fun t12 =>
      (bslc path 0 (if t12 < 1 then 1 else t12)).bind fun s =>
      some s
    else
      some ({ data := #[] })))
theorem acls_Parent_ok {n : Nat} {path : ByteArray} {r : ByteArray} (H : acls_Parent n path = some r) : PureOK Tryd.prog 15 [D.v (.string path)] (D.v (.string r)) true := by
  unfold acls_Parent at H
  refine ZP tab_ok fol (rs := #[.tmp 2]) Tryd.func15 ?_
  refine ZT 1 ?_
  refine Z0 ?_
  rcases ite_inv H with ⟨c1, H2⟩ | ⟨c1, H2⟩
  · refine Z1 c1 ?_
    obtain rfl := Zi H2
    exact ZE0
  · obtain ⟨t7, b3, H4⟩ := bind_inv H2
    refine Z1 c1 ?_
    refine ZC0 (acls_Path_ok b3) ?_
    refine Z1 c1 ?_
    rcases ite_inv H4 with ⟨c5, H6⟩ | ⟨c5, H6⟩
    · obtain ⟨t12, b7, H8⟩ := bind_inv H6
      refine Z1 (Y2 c1 c5) ?_
      refine ZC0 (strings_LastIndex_ok b7) ?_
      obtain ⟨s, b9, H10⟩ := bind_inv H8
      obtain ⟨h11, h12, h13, h14⟩ := bslc_inv b9
      have h15 : 0 ≤ Int.toNat (if t12 < 1 then 1 else t12) := by omega
      have h16 : Int.toNat (if t12 < 1 then 1 else t12) ≤ path.size := by omega
      have h17 : ByteArray.extract path (0) (Int.toNat (if t12 < 1 then 1 else t12)) = s := h14.symm
      try simp only [Int.toNat_natCast] at h15 h16 h17
      refine Z1 (Y6 c1 c5 (nat_of .i64 (Int.le_trans h11 h12)) h15 h16 h17) ?_
      obtain rfl := Zi H10
      exact ZE0
    · refine Z1 (Y2 c1 c5) ?_
      obtain rfl := Zi H6
      exact ZE0
def law17_awake (n : Nat) : Option Bool :=
  (acls_Parse n ({ data := #[117, 115, 101, 114, 32, 97, 10, 103, 114, 111, 117, 112, 32, 103, 32, 97, 32, 97, 10, 100, 105, 114, 32, 47, 32, 97, 32, 103, 32, 117, 58, 58, 114, 119, 120, 44, 103, 58, 58, 114, 45, 120, 44, 111, 58, 58, 45, 45, 45, 44, 100, 58, 117, 58, 58, 114, 119, 45, 44, 100, 58, 103, 58, 58, 45, 45, 45, 44, 100, 58, 111, 58, 58, 45, 45, 45, 10] })).bind fun t12 =>
  (acls_Text n t12.1).bind fun t18 =>
  (acls_Parse n ({ data := #[100, 105, 114, 32, 97, 32, 97, 32, 103, 32, 117, 58, 58, 45, 45, 45] })).bind fun t22 =>
  (acls_Entries n ({ data := #[100, 58, 117, 58, 98, 111, 98, 58, 114, 119, 45] })).bind fun t27 =>
  (if (t12.2.2 == 0) then
    (if ((t12.1.length : Int) == 3) then
      (idx t12.1 1).bind fun x =>
      (if (x.kind == 2) then
        (if ((x.users.length : Int) == 2) then
          (idx t12.1 2).bind fun x2 =>
          (if ((x2.acl.length : Int) == 6) then
            (if t18.2 then
              (if (t18.1.toList == ({ data := #[117, 115, 101, 114, 32, 97, 10, 103, 114, 111, 117, 112, 32, 103, 32, 97, 32, 97, 10, 100, 105, 114, 32, 47, 32, 97, 32, 103, 32, 117, 58, 58, 114, 119, 120, 44, 103, 58, 58, 114, 45, 120, 44, 111, 58, 58, 45, 45, 45, 44, 100, 58, 117, 58, 58, 114, 119, 45, 44, 100, 58, 103, 58, 58, 45, 45, 45, 44, 100, 58, 111, 58, 58, 45, 45, 45, 10] } : ByteArray).toList) then
                (if (t22.2.1 == 4) then
                  (if (t22.2.2 == 15) then
                    (if t27.2 then
                      (if ((t27.1.length : Int) == 1) then
                        (idx t27.1 0).bind fun x3 =>
                        (if ((x3.kind == 2) && ((x3.default == true) && ((x3.name == { data := #[98, 111, 98] }) && (x3.bits == 6)))) then
                          (acls_Path n ({ data := #[47, 97, 47, 98] })).bind fun t91 =>
                          (if t91 then
                            (acls_Path n ({ data := #[47, 97, 47] })).bind fun t94 =>
                            (if t94 then
                              some false
                            else
                              (acls_Parent n ({ data := #[47, 97, 47, 98] })).bind fun t98 =>
                              (if (t98.toList == ({ data := #[47, 97] } : ByteArray).toList) then
                                (acls_Parent n ({ data := #[47, 97] })).bind fun t102 =>
                                (if (t102.toList == ({ data := #[47] } : ByteArray).toList) then
                                  (acls_Parent n ({ data := #[47] })).bind fun t106 =>
                                  some (t106.toList == ({ data := #[] } : ByteArray).toList)
                                else
                                  some false)
                              else
                                some false))
                          else
                            some false)
                        else
                          some false)
                      else
                        some false)
                    else
                      some false)
                  else
                    some false)
                else
                  some false)
              else
                some false)
            else
              some false)
          else
            some false)
        else
          some false)
      else
        some false)
    else
      some false)
  else
    some false)
set_option maxHeartbeats 8000000 in
theorem law17_awake_ok {n : Nat} {r : Bool} (H : law17_awake n  = some r) : PureOK Tryd.prog 7 [] (D.v (.bool r)) true := by
  unfold law17_awake at H
  refine ZP tab_ok fol (rs := #[.tmp 0]) Tryd.func7 ?_
  refine ZT 1 ?_
  obtain ⟨t12, b1, H2⟩ := bind_inv H
  refine Z0 ?_
  refine ZC0 (acls_Parse_ok b1) ?_
  obtain ⟨t18, b3, H4⟩ := bind_inv H2
  refine Z0 ?_
  refine ZC0 (acls_Text_ok b3) ?_
  obtain ⟨t22, b5, H6⟩ := bind_inv H4
  refine Z0 ?_
  refine ZC0 (acls_Parse_ok b5) ?_
  obtain ⟨t27, b7, H8⟩ := bind_inv H6
  refine Z0 ?_
  refine ZC0 (acls_Entries_ok b7) ?_
  refine Z0 ?_
  rcases ite_inv H8 with ⟨c9, H10⟩ | ⟨c9, H10⟩
  · refine Z1 c9 ?_
    rcases ite_inv H10 with ⟨c11, H12⟩ | ⟨c11, H12⟩
    · obtain ⟨x, b13, H14⟩ := bind_inv H12
      obtain ⟨h15, h16⟩ := idx_inv b13
      try simp only [Int.reduceToNat, Int.toNat_natCast] at h16
      have h17 := map_at eGFile h16
      refine Z1 (Y4 c9 c11 (nat_of .i64 h15) h17) ?_
      rcases ite_inv H14 with ⟨c19, H20⟩ | ⟨c19, H20⟩
      · refine Z1 (Y5 c9 c11 (nat_of .i64 h15) h17 c19) ?_
        rcases ite_inv H20 with ⟨c21, H22⟩ | ⟨c21, H22⟩
        · obtain ⟨x2, b23, H24⟩ := bind_inv H22
          obtain ⟨h25, h26⟩ := idx_inv b23
          try simp only [Int.reduceToNat, Int.toNat_natCast] at h26
          have h27 := map_at eGFile h26
          refine Z1 (Y2 (Y6 c9 c11 (nat_of .i64 h15) h17 c19 c21) (Y2 (nat_of .i64 h25) h27)) ?_
          rcases ite_inv H24 with ⟨c29, H30⟩ | ⟨c29, H30⟩
          · refine Z1 (Y2 (Y6 c9 c11 (nat_of .i64 h15) h17 c19 c21) (Y3 (nat_of .i64 h25) h27 c29)) ?_
            rcases ite_inv H30 with ⟨c31, H32⟩ | ⟨c31, H32⟩
            · refine Z1 (Y2 (Y6 c9 c11 (nat_of .i64 h15) h17 c19 c21) (Y4 (nat_of .i64 h25) h27 c29 c31)) ?_
              rcases ite_inv H32 with ⟨c33, H34⟩ | ⟨c33, H34⟩
              · refine Z1 (Y2 (Y6 c9 c11 (nat_of .i64 h15) h17 c19 c21) (Y5 (nat_of .i64 h25) h27 c29 c31 c33)) ?_
                rcases ite_inv H34 with ⟨c35, H36⟩ | ⟨c35, H36⟩
                · refine Z1 (Y2 (Y6 c9 c11 (nat_of .i64 h15) h17 c19 c21) (Y6 (nat_of .i64 h25) h27 c29 c31 c33 c35)) ?_
                  rcases ite_inv H36 with ⟨c37, H38⟩ | ⟨c37, H38⟩
                  · refine Z1 (Y3 (Y6 c9 c11 (nat_of .i64 h15) h17 c19 c21) (Y6 (nat_of .i64 h25) h27 c29 c31 c33 c35) c37) ?_
                    rcases ite_inv H38 with ⟨c39, H40⟩ | ⟨c39, H40⟩
                    · refine Z1 (Y3 (Y6 c9 c11 (nat_of .i64 h15) h17 c19 c21) (Y6 (nat_of .i64 h25) h27 c29 c31 c33 c35) (Y2 c37 c39)) ?_
                      rcases ite_inv H40 with ⟨c41, H42⟩ | ⟨c41, H42⟩
                      · obtain ⟨x3, b43, H44⟩ := bind_inv H42
                        obtain ⟨h45, h46⟩ := idx_inv b43
                        try simp only [Int.reduceToNat, Int.toNat_natCast] at h46
                        have h47 := map_at eGEntry h46
                        refine Z1 (Y3 (Y6 c9 c11 (nat_of .i64 h15) h17 c19 c21) (Y6 (nat_of .i64 h25) h27 c29 c31 c33 c35) (Y5 c37 c39 c41 (nat_of .i64 h45) h47)) ?_
                        rcases ite_inv H44 with ⟨c49, H50⟩ | ⟨c49, H50⟩
                        · obtain ⟨t91, b51, H52⟩ := bind_inv H50
                          refine Z1 (Y3 (Y6 c9 c11 (nat_of .i64 h15) h17 c19 c21) (Y6 (nat_of .i64 h25) h27 c29 c31 c33 c35) (Y6 c37 c39 c41 (nat_of .i64 h45) h47 c49)) ?_
                          refine ZC0 (acls_Path_ok b51) ?_
                          refine Z1 (Y3 (Y6 c9 c11 (nat_of .i64 h15) h17 c19 c21) (Y6 (nat_of .i64 h25) h27 c29 c31 c33 c35) (Y6 c37 c39 c41 (nat_of .i64 h45) h47 c49)) ?_
                          rcases ite_inv H52 with ⟨c53, H54⟩ | ⟨c53, H54⟩
                          · obtain ⟨t94, b55, H56⟩ := bind_inv H54
                            refine Z1 (Y4 (Y6 c9 c11 (nat_of .i64 h15) h17 c19 c21) (Y6 (nat_of .i64 h25) h27 c29 c31 c33 c35) (Y6 c37 c39 c41 (nat_of .i64 h45) h47 c49) c53) ?_
                            refine ZC0 (acls_Path_ok b55) ?_
                            refine Z1 (Y4 (Y6 c9 c11 (nat_of .i64 h15) h17 c19 c21) (Y6 (nat_of .i64 h25) h27 c29 c31 c33 c35) (Y6 c37 c39 c41 (nat_of .i64 h45) h47 c49) c53) ?_
                            rcases ite_inv H56 with ⟨c57, H58⟩ | ⟨c57, H58⟩
                            · refine Z1 (Y4 (Y6 c9 c11 (nat_of .i64 h15) h17 c19 c21) (Y6 (nat_of .i64 h25) h27 c29 c31 c33 c35) (Y6 c37 c39 c41 (nat_of .i64 h45) h47 c49) (Y2 c53 c57)) ?_
                              obtain rfl := Zi H58
                              exact ZE0
                            · obtain ⟨t98, b59, H60⟩ := bind_inv H58
                              refine Z1 (Y4 (Y6 c9 c11 (nat_of .i64 h15) h17 c19 c21) (Y6 (nat_of .i64 h25) h27 c29 c31 c33 c35) (Y6 c37 c39 c41 (nat_of .i64 h45) h47 c49) (Y2 c53 c57)) ?_
                              refine ZC0 (acls_Parent_ok b59) ?_
                              refine Z1 (Y4 (Y6 c9 c11 (nat_of .i64 h15) h17 c19 c21) (Y6 (nat_of .i64 h25) h27 c29 c31 c33 c35) (Y6 c37 c39 c41 (nat_of .i64 h45) h47 c49) (Y2 c53 c57)) ?_
                              rcases ite_inv H60 with ⟨c61, H62⟩ | ⟨c61, H62⟩
                              · obtain ⟨t102, b63, H64⟩ := bind_inv H62
                                refine Z1 (Y4 (Y6 c9 c11 (nat_of .i64 h15) h17 c19 c21) (Y6 (nat_of .i64 h25) h27 c29 c31 c33 c35) (Y6 c37 c39 c41 (nat_of .i64 h45) h47 c49) (Y3 c53 c57 c61)) ?_
                                refine ZC0 (acls_Parent_ok b63) ?_
                                refine Z1 (Y4 (Y6 c9 c11 (nat_of .i64 h15) h17 c19 c21) (Y6 (nat_of .i64 h25) h27 c29 c31 c33 c35) (Y6 c37 c39 c41 (nat_of .i64 h45) h47 c49) (Y3 c53 c57 c61)) ?_
                                rcases ite_inv H64 with ⟨c65, H66⟩ | ⟨c65, H66⟩
                                · obtain ⟨t106, b67, H68⟩ := bind_inv H66
                                  refine Z1 (Y4 (Y6 c9 c11 (nat_of .i64 h15) h17 c19 c21) (Y6 (nat_of .i64 h25) h27 c29 c31 c33 c35) (Y6 c37 c39 c41 (nat_of .i64 h45) h47 c49) (Y4 c53 c57 c61 c65)) ?_
                                  refine ZC0 (acls_Parent_ok b67) ?_
                                  refine Z1 (Y4 (Y6 c9 c11 (nat_of .i64 h15) h17 c19 c21) (Y6 (nat_of .i64 h25) h27 c29 c31 c33 c35) (Y6 c37 c39 c41 (nat_of .i64 h45) h47 c49) (Y4 c53 c57 c61 c65)) ?_
                                  obtain rfl := Zi H68
                                  exact ZE0
                                · refine Z1 (Y4 (Y6 c9 c11 (nat_of .i64 h15) h17 c19 c21) (Y6 (nat_of .i64 h25) h27 c29 c31 c33 c35) (Y6 c37 c39 c41 (nat_of .i64 h45) h47 c49) (Y4 c53 c57 c61 c65)) ?_
                                  obtain rfl := Zi H66
                                  exact ZE0
                              · refine Z1 (Y4 (Y6 c9 c11 (nat_of .i64 h15) h17 c19 c21) (Y6 (nat_of .i64 h25) h27 c29 c31 c33 c35) (Y6 c37 c39 c41 (nat_of .i64 h45) h47 c49) (Y3 c53 c57 c61)) ?_
                                obtain rfl := Zi H62
                                exact ZE0
                          · refine Z1 (Y4 (Y6 c9 c11 (nat_of .i64 h15) h17 c19 c21) (Y6 (nat_of .i64 h25) h27 c29 c31 c33 c35) (Y6 c37 c39 c41 (nat_of .i64 h45) h47 c49) c53) ?_
                            obtain rfl := Zi H54
                            exact ZE0
                        · refine Z1 (Y3 (Y6 c9 c11 (nat_of .i64 h15) h17 c19 c21) (Y6 (nat_of .i64 h25) h27 c29 c31 c33 c35) (Y6 c37 c39 c41 (nat_of .i64 h45) h47 c49)) ?_
                          obtain rfl := Zi H50
                          exact ZE0
                      · refine Z1 (Y3 (Y6 c9 c11 (nat_of .i64 h15) h17 c19 c21) (Y6 (nat_of .i64 h25) h27 c29 c31 c33 c35) (Y3 c37 c39 c41)) ?_
                        obtain rfl := Zi H42
                        exact ZE0
                    · refine Z1 (Y3 (Y6 c9 c11 (nat_of .i64 h15) h17 c19 c21) (Y6 (nat_of .i64 h25) h27 c29 c31 c33 c35) (Y2 c37 c39)) ?_
                      obtain rfl := Zi H40
                      exact ZE0
                  · refine Z1 (Y3 (Y6 c9 c11 (nat_of .i64 h15) h17 c19 c21) (Y6 (nat_of .i64 h25) h27 c29 c31 c33 c35) c37) ?_
                    obtain rfl := Zi H38
                    exact ZE0
                · refine Z1 (Y2 (Y6 c9 c11 (nat_of .i64 h15) h17 c19 c21) (Y6 (nat_of .i64 h25) h27 c29 c31 c33 c35)) ?_
                  obtain rfl := Zi H36
                  exact ZE0
              · refine Z1 (Y2 (Y6 c9 c11 (nat_of .i64 h15) h17 c19 c21) (Y5 (nat_of .i64 h25) h27 c29 c31 c33)) ?_
                obtain rfl := Zi H34
                exact ZE0
            · refine Z1 (Y2 (Y6 c9 c11 (nat_of .i64 h15) h17 c19 c21) (Y4 (nat_of .i64 h25) h27 c29 c31)) ?_
              obtain rfl := Zi H32
              exact ZE0
          · refine Z1 (Y2 (Y6 c9 c11 (nat_of .i64 h15) h17 c19 c21) (Y3 (nat_of .i64 h25) h27 c29)) ?_
            obtain rfl := Zi H30
            exact ZE0
        · refine Z1 (Y6 c9 c11 (nat_of .i64 h15) h17 c19 c21) ?_
          obtain rfl := Zi H22
          exact ZE0
      · refine Z1 (Y5 c9 c11 (nat_of .i64 h15) h17 c19) ?_
        obtain rfl := Zi H20
        exact ZE0
    · refine Z1 (Y2 c9 c11) ?_
      obtain rfl := Zi H12
      exact ZE0
  · refine Z1 c9 ?_
    obtain rfl := Zi H10
    exact ZE0
end Go.Proofs.YtkikhbfdadambaaDoor.Ab
