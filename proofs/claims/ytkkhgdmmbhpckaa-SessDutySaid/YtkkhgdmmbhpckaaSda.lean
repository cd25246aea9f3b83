/-
  Functions, read off the code.
-/
import Derived.Test.YtkkhgdmmbhpckaaNms
import Derived.Test.YtkkhgdmmbhpckaaSvd
namespace Go.Proofs.Ytkkhgdmmbhpckaa.Ab
open Go.RowKit
def law15_SessDuty_c1_L2 (n : Nat) (a : List ByteArray) (b : List ByteArray) (i : Int) : Nat → (Int × Int) → Option (Int)
  | 0, _ => none
  | c + 1, (n_5, k4) =>
    (if (decide (k4 < (b.length : Int))) then
      (idx a i).bind fun x7 =>
      (idx b k4).bind fun x8 =>
      (if (x7.toList == x8.toList) then
        law15_SessDuty_c1_L2 n a b i c ((IntKind.i64.wrap (n_5 + 1)), (IntKind.i64.wrap (k4 + 1)))
      else
        law15_SessDuty_c1_L2 n a b i c (n_5, (IntKind.i64.wrap (k4 + 1))))
    else
      some n_5)

def law15_SessDuty_c1_L1 (n : Nat) (a : List ByteArray) (b : List ByteArray) : Nat → (Int × Int) → Option (Int)
  | 0, _ => none
  | c + 1, (n_4, i) =>
    (if (decide (i < (a.length : Int))) then
      (
        law15_SessDuty_c1_L2 n a b i n (n_4, 0) : Option (Int)).bind fun n_7 =>
      law15_SessDuty_c1_L1 n a b c (n_7, (IntKind.i64.wrap (i + 1)))
    else
      some n_4)

def law15_SessDuty_c1 (n : Nat) (a : List ByteArray) (b : List ByteArray) : Option Int :=
  (
    law15_SessDuty_c1_L1 n a b n (0, 0) : Option (Int)).bind fun n_9 =>
  some n_9
theorem law15_SessDuty_c1_ok {n : Nat} {a : List ByteArray} {b : List ByteArray} {r : Int} (H : law15_SessDuty_c1 n a b = some r) : PureOK Try.prog 37 [D.sl (List.map eS a), D.sl (List.map eS b)] (D.v (.int .i64 r)) true := by
  unfold law15_SessDuty_c1 at H
  refine pure_runR (tab := tab) tab_ok Try.func37 rfl (by kernel_rfl) (by kernel_rfl) (by simp [Try.f37]) ?_
  refine runR_seq ?_
  refine runR_take tab_ok fol 1 ?_
  try simp -implicitDefEqProofs only [go_sem]
  refine runR_seq ?_
  refine runR_take tab_ok fol 1 ?_
  try simp -implicitDefEqProofs only [go_sem, Nat.reduceAdd]
  refine runR_seq ?_
  refine runR_seq ?_
  refine runR_take tab_ok fol 1 ?_
  try simp -implicitDefEqProofs only [go_sem, Nat.reduceAdd]
  obtain ⟨e_, E1, H2⟩ := bind_inv H
  refine runR_join (α := { y : Int // e_ = y }) (fun | ⟨n_9, _⟩ => ⟨upd 5 (.v (.int .i64 n_9)) noFr, noHp, 0⟩) ?_ ?_
  · refine runR_block ?_
    refine runR_loop (α := { q : Nat × (Int × Int) // law15_SessDuty_c1_L1 n a b q.1 q.2 = some e_ }) (fun | ⟨⟨c, ⟨n_4, i⟩⟩, _⟩ => ⟨upd 0 (.d (.sl (List.map eS a)) true) (upd 1 (.d (.sl (List.map eS b)) true) (upd 5 (.v (.int .i64 n_4)) (upd 6 (.v (.int .i64 i)) noFr))), noHp, 0⟩) (fun q => q.1.1) ⟨(n, (0, 0)), E1⟩ ?_ ?_
    · exact ren_mk [] (by rfl) (rf_upd (by rfl) (rf_upd (by rfl) (rf_upd (by rfl) (rf_upd (by rfl) (rf_no _))))) (rh_no _)
    · rintro ⟨⟨c, ⟨n_4, i⟩⟩, L3⟩
      rcases c with _ | c
      · exact nomatch (show none = some _ from L3)
      · unfold law15_SessDuty_c1_L1 at L3
        try dsimp only at L3
        refine runR_seq ?_
        refine runR_take tab_ok fol 1 ?_
        try simp -implicitDefEqProofs only [go_sem, Nat.reduceEqDiff, Nat.reduceAdd, reduceCtorEq, ↓reduceIte]
        rcases ite_inv L3 with ⟨c42, H43⟩ | ⟨c42, H43⟩
        · try simp -implicitDefEqProofs only [go_sem, c42]
          refine runR_seq ?_
          refine runR_block ?_
          refine runR_seq ?_
          refine runR_take tab_ok fol 1 ?_
          try simp -implicitDefEqProofs only [go_sem, Nat.reduceAdd]
          obtain ⟨e_3, E44, H45⟩ := bind_inv H43
          refine runR_join (α := { y : Int // e_3 = y }) (fun | ⟨n_7, _⟩ => ⟨upd 0 (.d (.sl (List.map eS a)) true) (upd 1 (.d (.sl (List.map eS b)) true) (upd 5 (.v (.int .i64 n_7)) (upd 6 (.v (.int .i64 i)) noFr))), noHp, 0⟩) ?_ ?_
          · refine runR_block ?_
            refine runR_loop (α := { q : Nat × (Int × Int) // law15_SessDuty_c1_L2 n a b i q.1 q.2 = some e_3 }) (fun | ⟨⟨c, ⟨n_5, k4⟩⟩, _⟩ => ⟨upd 0 (.d (.sl (List.map eS a)) true) (upd 1 (.d (.sl (List.map eS b)) true) (upd 5 (.v (.int .i64 n_5)) (upd 6 (.v (.int .i64 i)) (upd 7 (.v (.int .i64 k4)) noFr)))), noHp, 0⟩) (fun q => q.1.1) ⟨(n, (n_4, 0)), E44⟩ ?_ ?_
            · exact ren_mk [] (by rfl) (rf_upd (by rfl) (rf_upd (by rfl) (rf_upd (by rfl) (rf_upd (by rfl) (rf_upd (by rfl) (rf_no _)))))) (rh_no _)
            · rintro ⟨⟨c, ⟨n_5, k4⟩⟩, L46⟩
              rcases c with _ | c
              · exact nomatch (show none = some _ from L46)
              · unfold law15_SessDuty_c1_L2 at L46
                try dsimp only at L46
                refine runR_take tab_ok fol 1 ?_
                try simp -implicitDefEqProofs only [go_sem, Nat.reduceEqDiff, Nat.reduceAdd, reduceCtorEq, ↓reduceIte]
                rcases ite_inv L46 with ⟨c63, H64⟩ | ⟨c63, H64⟩
                · obtain ⟨x7, b65, H66⟩ := bind_inv H64
                  obtain ⟨h67, h68⟩ := idx_inv b65
                  try simp only [Int.reduceToNat, Int.toNat_natCast] at h68
                  have h69 := map_at eS h68
                  obtain ⟨x8, b71, H72⟩ := bind_inv H66
                  obtain ⟨h73, h74⟩ := idx_inv b71
                  try simp only [Int.reduceToNat, Int.toNat_natCast] at h74
                  have h75 := map_at eS h74
                  try simp -implicitDefEqProofs only [go_sem, Nat.reduceEqDiff, Nat.reduceAdd, reduceCtorEq, ↓reduceIte, c63, nat_of .i64 h67, h69, nat_of .i64 h73, h75]
                  refine Rd_endF (by rfl) ?_
                  try simp -implicitDefEqProofs only [go_sem, ↓reduceIte]
                  rcases ite_inv H72 with ⟨c77, H78⟩ | ⟨c77, H78⟩
                  · try simp -implicitDefEqProofs only [go_sem, Nat.reduceEqDiff, Nat.reduceAdd, reduceCtorEq, ↓reduceIte, c77]
                    exact ⟨⟨(c, ((IntKind.i64.wrap (n_5 + 1)), (IntKind.i64.wrap (k4 + 1)))), H78⟩, ren_mk [] (by rfl) (rf_upd (by rfl) (rf_upd (by rfl) (rf_upd (by rfl) (rf_upd (by rfl) (rf_upd (by rfl) (rf_no _)))))) (rh_no _), Nat.lt_succ_self _⟩
                  · try simp -implicitDefEqProofs only [go_sem, Nat.reduceEqDiff, Nat.reduceAdd, reduceCtorEq, ↓reduceIte, c77]
                    exact ⟨⟨(c, (n_5, (IntKind.i64.wrap (k4 + 1)))), H78⟩, ren_mk [] (by rfl) (rf_upd (by rfl) (rf_upd (by rfl) (rf_upd (by rfl) (rf_upd (by rfl) (rf_upd (by rfl) (rf_no _)))))) (rh_no _), Nat.lt_succ_self _⟩
                · try simp -implicitDefEqProofs only [go_sem, ↓reduceIte, c63]
                  obtain rfl := Option.some.inj H64
                  exact ⟨⟨n_5, rfl⟩, ren_mk [] (by rfl) (rf_upd (by rfl) (rf_upd (by rfl) (rf_upd (by rfl) (rf_upd (by rfl) (rf_no _))))) (rh_no _)⟩
          · rintro ⟨n_7, he79⟩
            replace he79 := he79.symm
            subst he79
            try dsimp only at H45
            try simp -implicitDefEqProofs only [go_sem]
            refine runR_take tab_ok fol 1 ?_
            try simp -implicitDefEqProofs only [go_sem, Nat.reduceEqDiff, Nat.reduceAdd, reduceCtorEq, ↓reduceIte]
            exact ⟨⟨(c, (n_7, (IntKind.i64.wrap (i + 1)))), H45⟩, ren_mk [] (by rfl) (rf_upd (by rfl) (rf_upd (by rfl) (rf_upd (by rfl) (rf_upd (by rfl) (rf_no _))))) (rh_no _), Nat.lt_succ_self _⟩
        · try simp -implicitDefEqProofs only [go_sem, ↓reduceIte, c42]
          obtain rfl := Option.some.inj H43
          exact ⟨⟨n_4, rfl⟩, ren_mk [] (by rfl) (rf_upd (by rfl) (rf_no _)) (rh_no _)⟩
  · rintro ⟨n_9, he80⟩
    replace he80 := he80.symm
    subst he80
    try dsimp only at H2
    refine runR_take tab_ok fol 1 ?_
    try simp -implicitDefEqProofs only [go_sem, Nat.reduceAdd, ↓reduceIte]
    obtain rfl := Option.some.inj H2
    exact end_pure (by simp -implicitDefEqProofs only [go_sem, ↓reduceIte, Try.f37] <;> rfl) (by rfl) rfl (by intro h; rfl)
def law15_SessDuty_L2 (n : Nat) (t36 : GRoles) (t502 : List ByteArray) : Nat → Int → Option ((Unit) ⊕ Bool)
  | 0, _ => none
  | c + 1, t123 =>
    (if (decide (t123 < (t36.ssd.length : Int))) then
      (idx t36.ssd t123).bind fun x6 =>
      (ref1_Texts n x6.roles).bind fun t654 =>
      (law15_SessDuty_c1 n t654 t502).bind fun t674 =>
      (if (decide (x6.n_ ≤ t674)) then
        some (.inr false)
      else
        law15_SessDuty_L2 n t36 t502 c (IntKind.i64.wrap (t123 + 1)))
    else
      some (.inl ()))
def law15_SessDuty_L2_f (n : Nat) (_ : GRoles) (t502 : List ByteArray) (st : Unit) (x6 : GSod) (k : Unit → Option ((Unit) ⊕ Bool)) : Option ((Unit) ⊕ Bool) :=
  match st with
  | _ =>
    (ref1_Texts n x6.roles).bind fun t654 =>
    (law15_SessDuty_c1 n t654 t502).bind fun t674 =>
    (if (decide (x6.n_ ≤ t674)) then
      some (.inr false)
    else
      k ())
def law15_SessDuty_L2_e (_ : Nat) (_ : GRoles) (_ : List ByteArray) (st : Unit) : Option ((Unit) ⊕ Bool) :=
  match st with
  | _ => some (.inl ())
theorem law15_SessDuty_L2_list (n : Nat) (t36 : GRoles) (t502 : List ByteArray) (hx : t36.ssd.length < 4611686018427387904) (c : Nat) (st : Unit) (ix : Nat) (hi : ix ≤ t36.ssd.length) (hc : t36.ssd.length - ix < c) : law15_SessDuty_L2 n t36 t502 c (match st, (ix : Int) with | _, ix => ix) = foldK (law15_SessDuty_L2_f n t36 t502) (law15_SessDuty_L2_e n t36 t502) (t36.ssd.drop ix) st :=
  loop_list (fun c st ix => law15_SessDuty_L2 n t36 t502 c (match st, ix with | _, ix => ix)) t36.ssd (law15_SessDuty_L2_f n t36 t502) (law15_SessDuty_L2_e n t36 t502) (fun _ _ _ => rfl) hx c st ix hi hc

def law15_SessDuty_L1 (n : Nat) (t36 : GRoles) : Nat → Int → Option ((Unit) ⊕ Bool)
  | 0, _ => none
  | c + 1, t10 =>
    (if (decide (t10 < (t36.users.length : Int))) then
      (idx t36.users t10).bind fun x4 =>
      (sess_Roles n t36 x4).bind fun t502 =>
      (
        law15_SessDuty_L2 n t36 t502 n 0 : Option ((Unit) ⊕ Bool)).bind fun
        | .inl _ =>
          law15_SessDuty_L1 n t36 c (IntKind.i64.wrap (t10 + 1))
        | .inr r => some (.inr r)
    else
      some (.inl ()))
def law15_SessDuty_L1_f (n : Nat) (t36 : GRoles) (st : Unit) (x4 : ByteArray) (k : Unit → Option ((Unit) ⊕ Bool)) : Option ((Unit) ⊕ Bool) :=
  match st with
  | _ =>
    (sess_Roles n t36 x4).bind fun t502 =>
    (
      law15_SessDuty_L2 n t36 t502 n 0 : Option ((Unit) ⊕ Bool)).bind fun
      | .inl _ =>
        k ()
      | .inr r => some (.inr r)
def law15_SessDuty_L1_e (_ : Nat) (_ : GRoles) (st : Unit) : Option ((Unit) ⊕ Bool) :=
  match st with
  | _ => some (.inl ())
theorem law15_SessDuty_L1_list (n : Nat) (t36 : GRoles) (hx : t36.users.length < 4611686018427387904) (c : Nat) (st : Unit) (ix : Nat) (hi : ix ≤ t36.users.length) (hc : t36.users.length - ix < c) : law15_SessDuty_L1 n t36 c (match st, (ix : Int) with | _, ix => ix) = foldK (law15_SessDuty_L1_f n t36) (law15_SessDuty_L1_e n t36) (t36.users.drop ix) st :=
  loop_list (fun c st ix => law15_SessDuty_L1 n t36 c (match st, ix with | _, ix => ix)) t36.users (law15_SessDuty_L1_f n t36) (law15_SessDuty_L1_e n t36) (fun _ _ _ => rfl) hx c st ix hi hc

def law15_SessDuty_L4 (n : Nat) (t36 : GRoles) (t892 : List ByteArray) : Nat → Int → Option ((Unit) ⊕ Bool)
  | 0, _ => none
  | c + 1, t163 =>
    (if (decide (t163 < (t36.dsd.length : Int))) then
      (idx t36.dsd t163).bind fun x12 =>
      (ref1_Texts n x12.roles).bind fun t1194 =>
      (law15_SessDuty_c1 n t1194 t892).bind fun t1214 =>
      (if (decide (x12.n_ ≤ t1214)) then
        some (.inr false)
      else
        law15_SessDuty_L4 n t36 t892 c (IntKind.i64.wrap (t163 + 1)))
    else
      some (.inl ()))
def law15_SessDuty_L4_f (n : Nat) (_ : GRoles) (t892 : List ByteArray) (st : Unit) (x12 : GSod) (k : Unit → Option ((Unit) ⊕ Bool)) : Option ((Unit) ⊕ Bool) :=
  match st with
  | _ =>
    (ref1_Texts n x12.roles).bind fun t1194 =>
    (law15_SessDuty_c1 n t1194 t892).bind fun t1214 =>
    (if (decide (x12.n_ ≤ t1214)) then
      some (.inr false)
    else
      k ())
def law15_SessDuty_L4_e (_ : Nat) (_ : GRoles) (_ : List ByteArray) (st : Unit) : Option ((Unit) ⊕ Bool) :=
  match st with
  | _ => some (.inl ())
theorem law15_SessDuty_L4_list (n : Nat) (t36 : GRoles) (t892 : List ByteArray) (hx : t36.dsd.length < 4611686018427387904) (c : Nat) (st : Unit) (ix : Nat) (hi : ix ≤ t36.dsd.length) (hc : t36.dsd.length - ix < c) : law15_SessDuty_L4 n t36 t892 c (match st, (ix : Int) with | _, ix => ix) = foldK (law15_SessDuty_L4_f n t36 t892) (law15_SessDuty_L4_e n t36 t892) (t36.dsd.drop ix) st :=
  loop_list (fun c st ix => law15_SessDuty_L4 n t36 t892 c (match st, ix with | _, ix => ix)) t36.dsd (law15_SessDuty_L4_f n t36 t892) (law15_SessDuty_L4_e n t36 t892) (fun _ _ _ => rfl) hx c st ix hi hc

def law15_SessDuty_L3 (n : Nat) (t36 : GRoles) : Nat → Int → Option ((Unit) ⊕ Bool)
  | 0, _ => none
  | c + 1, t13 =>
    (if (decide (t13 < (t36.sessions.length : Int))) then
      (idx t36.sessions t13).bind fun x10 =>
      (sess_Active n t36 x10.name).bind fun t892 =>
      (sess_Roles n t36 x10.user).bind fun t972 =>
      (law15_SessDuty_c1 n t892 t972).bind fun t1012 =>
      (if (t1012 != (t892.length : Int)) then
        some (.inr false)
      else
        (
          law15_SessDuty_L4 n t36 t892 n 0 : Option ((Unit) ⊕ Bool)).bind fun
          | .inl _ =>
            law15_SessDuty_L3 n t36 c (IntKind.i64.wrap (t13 + 1))
          | .inr r => some (.inr r))
    else
      some (.inl ()))
def law15_SessDuty_L3_f (n : Nat) (t36 : GRoles) (st : Unit) (x10 : GSession) (k : Unit → Option ((Unit) ⊕ Bool)) : Option ((Unit) ⊕ Bool) :=
  match st with
  | _ =>
    (sess_Active n t36 x10.name).bind fun t892 =>
    (sess_Roles n t36 x10.user).bind fun t972 =>
    (law15_SessDuty_c1 n t892 t972).bind fun t1012 =>
    (if (t1012 != (t892.length : Int)) then
      some (.inr false)
    else
      (
        law15_SessDuty_L4 n t36 t892 n 0 : Option ((Unit) ⊕ Bool)).bind fun
        | .inl _ =>
          k ()
        | .inr r => some (.inr r))
def law15_SessDuty_L3_e (_ : Nat) (_ : GRoles) (st : Unit) : Option ((Unit) ⊕ Bool) :=
  match st with
  | _ => some (.inl ())
theorem law15_SessDuty_L3_list (n : Nat) (t36 : GRoles) (hx : t36.sessions.length < 4611686018427387904) (c : Nat) (st : Unit) (ix : Nat) (hi : ix ≤ t36.sessions.length) (hc : t36.sessions.length - ix < c) : law15_SessDuty_L3 n t36 c (match st, (ix : Int) with | _, ix => ix) = foldK (law15_SessDuty_L3_f n t36) (law15_SessDuty_L3_e n t36) (t36.sessions.drop ix) st :=
  loop_list (fun c st ix => law15_SessDuty_L3 n t36 c (match st, ix with | _, ix => ix)) t36.sessions (law15_SessDuty_L3_f n t36) (law15_SessDuty_L3_e n t36) (fun _ _ _ => rfl) hx c st ix hi hc

def law15_SessDuty (n : Nat) (t0 : List Int) : Option Bool :=
  (law13_File n t0 true).bind fun t19 =>
  (ref13_Parse n t19).bind fun t20 =>
  (if (t20.2.2 != 0) then
    (law15_awake n).bind fun t26 =>
    some t26
  else
    (sess_Valid n t20.1).bind fun t29 =>
    (if (t29.2 != 0) then
      (law15_awake n).bind fun t34 =>
      some t34
    else
      (ref13_Of n t20.1).bind fun t36 =>
      (
        law15_SessDuty_L1 n t36 n 0 : Option ((Unit) ⊕ Bool)).bind fun
        | .inl _ =>
          (
            law15_SessDuty_L3 n t36 n 0 : Option ((Unit) ⊕ Bool)).bind fun
            | .inl _ =>
              (law15_awake n).bind fun t129 =>
              some t129
            | .inr r => some r
        | .inr r => some r))
set_option maxHeartbeats 8000000 in
theorem law15_SessDuty_ok {n : Nat} {t0 : List Int} {r : Bool} (H : law15_SessDuty n t0 = some r) : PureOK Try.prog 9 [D.sl (List.map eI t0)] (D.v (.bool r)) true := by
  unfold law15_SessDuty at H
  refine pure_runR (tab := tab) tab_ok Try.func9 rfl (by kernel_rfl) (by kernel_rfl) (by simp [Try.f9]) ?_
  refine runR_seq ?_
  refine runR_take tab_ok fol 1 ?_
  try simp -implicitDefEqProofs only [go_sem]
  refine runR_seq ?_
  refine runR_take tab_ok fol 1 ?_
  obtain ⟨t19, b1, H2⟩ := bind_inv H
  try simp -implicitDefEqProofs only [go_sem, Nat.reduceAdd, reduceCtorEq, ↓reduceIte]
  refine onCall_pure (by rfl) (law13_File_ok b1) (by exact .inr rfl) ?_
  obtain ⟨t20, b3, H4⟩ := bind_inv H2
  try simp -implicitDefEqProofs only [go_sem, Bool.false_and, Nat.reduceAdd, ↓reduceIte]
  refine onCall_pure (by rfl) (ref13_Parse_ok b3) (by exact .inr rfl) ?_
  try simp -implicitDefEqProofs only [go_sem, Bool.false_and, Nat.reduceEqDiff, Nat.reduceAdd, ↓reduceIte]
  refine runR_seq ?_
  refine runR_take tab_ok fol 1 ?_
  try simp -implicitDefEqProofs only [go_sem, Nat.reduceAdd, ↓reduceIte]
  rcases ite_inv H4 with ⟨c5, H6⟩ | ⟨c5, H6⟩
  · obtain ⟨t26, b7, H8⟩ := bind_inv H6
    try simp -implicitDefEqProofs only [go_sem, Nat.reduceAdd, c5]
    refine onCall_pure (by rfl) (law15_awake_ok b7) (by exact .inr rfl) ?_
    try simp -implicitDefEqProofs only [go_sem, Bool.false_and, Nat.reduceAdd, ↓reduceIte]
    obtain rfl := Option.some.inj H8
    exact end_pure (by simp -implicitDefEqProofs only [go_sem, ↓reduceIte, Try.f9] <;> rfl) (by rfl) rfl (by intro h; rfl)
  · try simp -implicitDefEqProofs only [go_sem, c5]
    refine runR_seq ?_
    refine runR_take tab_ok fol 1 ?_
    obtain ⟨t29, b9, H10⟩ := bind_inv H6
    try simp -implicitDefEqProofs only [go_sem, Nat.reduceEqDiff, Nat.reduceAdd, ↓reduceIte]
    refine onCall_pure (by rfl) (sess_Valid_ok b9) (by exact .inr rfl) ?_
    try simp -implicitDefEqProofs only [go_sem, Bool.false_and, Nat.reduceEqDiff, Nat.reduceAdd, ↓reduceIte]
    rcases ite_inv H10 with ⟨c11, H12⟩ | ⟨c11, H12⟩
    · obtain ⟨t34, b13, H14⟩ := bind_inv H12
      try simp -implicitDefEqProofs only [go_sem, Nat.reduceAdd, c11]
      refine onCall_pure (by rfl) (law15_awake_ok b13) (by exact .inr rfl) ?_
      try simp -implicitDefEqProofs only [go_sem, Bool.false_and, Nat.reduceAdd, ↓reduceIte]
      obtain rfl := Option.some.inj H14
      exact end_pure (by simp -implicitDefEqProofs only [go_sem, ↓reduceIte, Try.f9] <;> rfl) (by rfl) rfl (by intro h; rfl)
    · try simp -implicitDefEqProofs only [go_sem, c11]
      refine runR_seq ?_
      refine runR_take tab_ok fol 1 ?_
      obtain ⟨t36, b15, H16⟩ := bind_inv H12
      try simp -implicitDefEqProofs only [go_sem, Nat.reduceEqDiff, Nat.reduceAdd, ↓reduceIte]
      refine onCall_pure (by rfl) (ref13_Of_ok b15) (by exact .inr rfl) ?_
      try simp -implicitDefEqProofs only [go_sem, Bool.false_and, Nat.reduceEqDiff, Nat.reduceAdd, ↓reduceIte, eGRoles]
      refine runR_seq ?_
      refine runR_take tab_ok fol 1 ?_
      try simp -implicitDefEqProofs only [go_sem, Nat.reduceAdd]
      refine runR_seq ?_
      refine runR_seq ?_
      refine runR_take tab_ok fol 1 ?_
      try simp -implicitDefEqProofs only [go_sem, Nat.reduceAdd]
      obtain ⟨e_, E17, H18⟩ := bind_inv H16
      refine runR_join (α := { y : Unit // e_ = .inl y }) (fun | ⟨_, _⟩ => ⟨upd 8 (.pt 0 0) (upd 9 (.fn 37 []) noFr), upd 0 (some (.bx [.d (.sl (List.map eS t36.users)) false, .d (.sl (List.map eS t36.roles)) false, .d (.sl (List.map eGPair t36.inherit)) false, .d (.sl (List.map eGPair t36.assign)) false, .d (.sl (List.map eGGrant t36.grants)) false, .d (.sl (List.map eGSod t36.ssd)) false, .d (.sl (List.map eGSod t36.dsd)) false, .d (.sl (List.map eGSession t36.sessions)) false])) noHp, 1⟩) ?_ ?_
      · refine runR_block ?_
        refine runR_loop (α := { q : Nat × Int // law15_SessDuty_L1 n t36 q.1 q.2 = some e_ }) (fun | ⟨⟨c, t10⟩, _⟩ => ⟨upd 8 (.pt 0 0) (upd 9 (.fn 37 []) (upd 10 (.v (.int .i64 t10)) noFr)), upd 0 (some (.bx [.d (.sl (List.map eS t36.users)) false, .d (.sl (List.map eS t36.roles)) false, .d (.sl (List.map eGPair t36.inherit)) false, .d (.sl (List.map eGPair t36.assign)) false, .d (.sl (List.map eGGrant t36.grants)) false, .d (.sl (List.map eGSod t36.ssd)) false, .d (.sl (List.map eGSod t36.dsd)) false, .d (.sl (List.map eGSession t36.sessions)) false])) noHp, 1⟩) (fun q => q.1.1) ⟨(n, 0), E17⟩ ?_ ?_
        · exact ren_mk [(0, 24)] (by rfl) (rf_upd (by rfl) (rf_upd (by rfl) (rf_upd (by rfl) (rf_no _)))) (rh_upd (rh_one (by rfl) (by rfl) (by rfl)) (rh_no _))
        · rintro ⟨⟨c, t10⟩, L19⟩
          rcases c with _ | c
          · exact nomatch (show none = some _ from L19)
          · unfold law15_SessDuty_L1 at L19
            try dsimp only at L19
            refine runR_seq ?_
            refine runR_take tab_ok fol 1 ?_
            try simp -implicitDefEqProofs only [go_sem, Nat.reduceEqDiff, Nat.reduceAdd, reduceCtorEq, ↓reduceIte]
            rcases ite_inv L19 with ⟨c62, H63⟩ | ⟨c62, H63⟩
            · try simp -implicitDefEqProofs only [go_sem, c62]
              refine runR_seq ?_
              refine runR_block ?_
              refine runR_seq ?_
              refine runR_take tab_ok fol 1 ?_
              obtain ⟨x4, b64, H65⟩ := bind_inv H63
              obtain ⟨h66, h67⟩ := idx_inv b64
              try simp only [Int.reduceToNat, Int.toNat_natCast] at h67
              have h68 := map_at eS h67
              obtain ⟨t502, b70, H71⟩ := bind_inv H65
              try simp -implicitDefEqProofs only [go_sem, Nat.reduceEqDiff, Nat.reduceAdd, reduceCtorEq, ↓reduceIte, nat_of .i64 h66, h68]
              refine onCallD_pure (by rfl) (sess_Roles_ok b70) (by exact .inr rfl) ?_
              try simp -implicitDefEqProofs only [go_sem, Bool.false_and, Nat.reduceAdd, ↓reduceIte]
              refine Rd_endF (by rfl) ?_
              try simp -implicitDefEqProofs only [go_sem]
              refine runR_seq ?_
              refine runR_take tab_ok fol 1 ?_
              try simp -implicitDefEqProofs only [go_sem, Nat.reduceAdd]
              obtain ⟨e_3, E72, H73⟩ := bind_inv H71
              refine runR_join (α := { y : Unit // e_3 = .inl y }) (fun | ⟨_, _⟩ => ⟨upd 8 (.pt 0 0) (upd 9 (.fn 37 []) (upd 10 (.v (.int .i64 t10)) noFr)), upd 0 (some (.bx [.d (.sl (List.map eS t36.users)) false, .d (.sl (List.map eS t36.roles)) false, .d (.sl (List.map eGPair t36.inherit)) false, .d (.sl (List.map eGPair t36.assign)) false, .d (.sl (List.map eGGrant t36.grants)) false, .d (.sl (List.map eGSod t36.ssd)) false, .d (.sl (List.map eGSod t36.dsd)) false, .d (.sl (List.map eGSession t36.sessions)) false])) noHp, 1⟩) ?_ ?_
              · refine runR_block ?_
                refine runR_loop (α := { q : Nat × Int // law15_SessDuty_L2 n t36 t502 q.1 q.2 = some e_3 }) (fun | ⟨⟨c, t123⟩, _⟩ => ⟨upd 8 (.pt 0 0) (upd 9 (.fn 37 []) (upd 10 (.v (.int .i64 t10)) (upd 11 (.d (.sl (List.map eS t502)) false) (upd 12 (.v (.int .i64 t123)) noFr)))), upd 0 (some (.bx [.d (.sl (List.map eS t36.users)) false, .d (.sl (List.map eS t36.roles)) false, .d (.sl (List.map eGPair t36.inherit)) false, .d (.sl (List.map eGPair t36.assign)) false, .d (.sl (List.map eGGrant t36.grants)) false, .d (.sl (List.map eGSod t36.ssd)) false, .d (.sl (List.map eGSod t36.dsd)) false, .d (.sl (List.map eGSession t36.sessions)) false])) noHp, 1⟩) (fun q => q.1.1) ⟨(n, 0), E72⟩ ?_ ?_
                · exact ren_mk [(0, 0)] (by rfl) (rf_upd (by rfl) (rf_upd (by rfl) (rf_upd (by rfl) (rf_upd (by rfl) (rf_upd (by rfl) (rf_no _)))))) (rh_upd (rh_one (by rfl) (by rfl) (by rfl)) (rh_no _))
                · rintro ⟨⟨c, t123⟩, L74⟩
                  rcases c with _ | c
                  · exact nomatch (show none = some _ from L74)
                  · unfold law15_SessDuty_L2 at L74
                    try dsimp only at L74
                    refine runR_take tab_ok fol 1 ?_
                    try simp -implicitDefEqProofs only [go_sem, Nat.reduceEqDiff, Nat.reduceAdd, reduceCtorEq, ↓reduceIte]
                    rcases ite_inv L74 with ⟨c89, H90⟩ | ⟨c89, H90⟩
                    · obtain ⟨x6, b91, H92⟩ := bind_inv H90
                      obtain ⟨h93, h94⟩ := idx_inv b91
                      try simp only [Int.reduceToNat, Int.toNat_natCast] at h94
                      have h95 := map_at eGSod h94
                      obtain ⟨t654, b97, H98⟩ := bind_inv H92
                      try simp -implicitDefEqProofs only [go_sem, Nat.reduceEqDiff, Nat.reduceAdd, reduceCtorEq, ↓reduceIte, eGSod, c89, nat_of .i64 h93, h95]
                      refine onCallD_pure (by rfl) (ref1_Texts_ok b97) (by exact .inr rfl) ?_
                      obtain ⟨t674, b99, H100⟩ := bind_inv H98
                      try simp -implicitDefEqProofs only [go_sem, Bool.false_and, Nat.reduceEqDiff, Nat.reduceAdd, ↓reduceIte]
                      refine onCallD_pure (by rfl) (law15_SessDuty_c1_ok b99) (by exact .inr rfl) ?_
                      try simp -implicitDefEqProofs only [go_sem, Bool.false_and, Nat.reduceEqDiff, Nat.reduceAdd, reduceCtorEq, ↓reduceIte, eGSod, nat_of .i64 h93, h95]
                      refine Rd_endF (by rfl) ?_
                      try simp -implicitDefEqProofs only [go_sem, ↓reduceIte]
                      rcases ite_inv H100 with ⟨c101, H102⟩ | ⟨c101, H102⟩
                      · try simp -implicitDefEqProofs only [go_sem, Nat.reduceAdd, c101]
                        obtain rfl := Option.some.inj H102
                        obtain rfl := Option.some.inj H73
                        obtain rfl := Option.some.inj H18
                        exact end_pure (by simp -implicitDefEqProofs only [go_sem, ↓reduceIte, Try.f9] <;> rfl) (by rfl) rfl (by intro h; rfl)
                      · try simp -implicitDefEqProofs only [go_sem, Nat.reduceEqDiff, Nat.reduceAdd, ↓reduceIte, c101]
                        exact ⟨⟨(c, (IntKind.i64.wrap (t123 + 1))), H102⟩, ren_mk [(0, 0)] (by rfl) (rf_upd (by rfl) (rf_upd (by rfl) (rf_upd (by rfl) (rf_upd (by rfl) (rf_upd (by rfl) (rf_no _)))))) (rh_upd (rh_one (by rfl) (by rfl) (by rfl)) (rh_no _)), Nat.lt_succ_self _⟩
                    · try simp -implicitDefEqProofs only [go_sem, ↓reduceIte, c89]
                      obtain rfl := Option.some.inj H90
                      exact ⟨⟨(), rfl⟩, ren_mk [(0, 0)] (by rfl) (rf_upd (by rfl) (rf_upd (by rfl) (rf_upd (by rfl) (rf_no _)))) (rh_upd (rh_one (by rfl) (by rfl) (by rfl)) (rh_no _))⟩
              · rintro ⟨_, he103⟩
                replace he103 := he103.symm
                subst he103
                try dsimp only at H73
                try simp -implicitDefEqProofs only [go_sem]
                refine runR_take tab_ok fol 1 ?_
                try simp -implicitDefEqProofs only [go_sem, Nat.reduceEqDiff, Nat.reduceAdd, ↓reduceIte]
                exact ⟨⟨(c, (IntKind.i64.wrap (t10 + 1))), H73⟩, ren_mk [(0, 0)] (by rfl) (rf_upd (by rfl) (rf_upd (by rfl) (rf_upd (by rfl) (rf_no _)))) (rh_upd (rh_one (by rfl) (by rfl) (by rfl)) (rh_no _)), Nat.lt_succ_self _⟩
            · try simp -implicitDefEqProofs only [go_sem, ↓reduceIte, c62]
              obtain rfl := Option.some.inj H63
              exact ⟨⟨(), rfl⟩, ren_mk [(0, 0)] (by rfl) (rf_upd (by rfl) (rf_upd (by rfl) (rf_no _))) (rh_upd (rh_one (by rfl) (by rfl) (by rfl)) (rh_no _))⟩
      · rintro ⟨_, he206⟩
        replace he206 := he206.symm
        subst he206
        try dsimp only at H18
        refine runR_seq ?_
        refine runR_seq ?_
        refine runR_take tab_ok fol 1 ?_
        try simp -implicitDefEqProofs only [go_sem, Nat.reduceAdd]
        obtain ⟨e_4, E104, H105⟩ := bind_inv H18
        refine runR_join (α := { y : Unit // e_4 = .inl y }) (fun | ⟨_, _⟩ => ⟨noFr, noHp, 0⟩) ?_ ?_
        · refine runR_block ?_
          refine runR_loop (α := { q : Nat × Int // law15_SessDuty_L3 n t36 q.1 q.2 = some e_4 }) (fun | ⟨⟨c, t13⟩, _⟩ => ⟨upd 8 (.pt 0 0) (upd 9 (.fn 37 []) (upd 13 (.v (.int .i64 t13)) noFr)), upd 0 (some (.bx [.d (.sl (List.map eS t36.users)) false, .d (.sl (List.map eS t36.roles)) false, .d (.sl (List.map eGPair t36.inherit)) false, .d (.sl (List.map eGPair t36.assign)) false, .d (.sl (List.map eGGrant t36.grants)) false, .d (.sl (List.map eGSod t36.ssd)) false, .d (.sl (List.map eGSod t36.dsd)) false, .d (.sl (List.map eGSession t36.sessions)) false])) noHp, 1⟩) (fun q => q.1.1) ⟨(n, 0), E104⟩ ?_ ?_
          · exact ren_mk [(0, 0)] (by rfl) (rf_upd (by rfl) (rf_upd (by rfl) (rf_upd (by rfl) (rf_no _)))) (rh_upd (rh_one (by rfl) (by rfl) (by rfl)) (rh_no _))
          · rintro ⟨⟨c, t13⟩, L106⟩
            rcases c with _ | c
            · exact nomatch (show none = some _ from L106)
            · unfold law15_SessDuty_L3 at L106
              try dsimp only at L106
              refine runR_seq ?_
              refine runR_take tab_ok fol 1 ?_
              try simp -implicitDefEqProofs only [go_sem, Nat.reduceEqDiff, Nat.reduceAdd, reduceCtorEq, ↓reduceIte]
              rcases ite_inv L106 with ⟨c155, H156⟩ | ⟨c155, H156⟩
              · try simp -implicitDefEqProofs only [go_sem, c155]
                refine runR_seq ?_
                refine runR_block ?_
                refine runR_seq ?_
                refine runR_take tab_ok fol 1 ?_
                obtain ⟨x10, b157, H158⟩ := bind_inv H156
                obtain ⟨h159, h160⟩ := idx_inv b157
                try simp only [Int.reduceToNat, Int.toNat_natCast] at h160
                have h161 := map_at eGSession h160
                obtain ⟨t892, b163, H164⟩ := bind_inv H158
                try simp -implicitDefEqProofs only [go_sem, Nat.reduceEqDiff, Nat.reduceAdd, reduceCtorEq, ↓reduceIte, eGSession, nat_of .i64 h159, h161]
                refine onCallD_pure (by rfl) (sess_Active_ok b163) (by exact .inr rfl) ?_
                obtain ⟨t972, b165, H166⟩ := bind_inv H164
                try simp -implicitDefEqProofs only [go_sem, Bool.false_and, Nat.reduceEqDiff, Nat.reduceAdd, reduceCtorEq, ↓reduceIte, eGSession, nat_of .i64 h159, h161]
                refine onCallD_pure (by rfl) (sess_Roles_ok b165) (by exact .inr rfl) ?_
                try simp -implicitDefEqProofs only [go_sem, Bool.false_and, Nat.reduceEqDiff, Nat.reduceAdd, ↓reduceIte]
                refine Rd_endF (by rfl) ?_
                try simp -implicitDefEqProofs only [go_sem]
                refine runR_seq ?_
                refine runR_take tab_ok fol 1 ?_
                obtain ⟨t1012, b167, H168⟩ := bind_inv H166
                try simp -implicitDefEqProofs only [go_sem, Nat.reduceEqDiff, Nat.reduceAdd, ↓reduceIte]
                refine onCall_pure (by rfl) (law15_SessDuty_c1_ok b167) (by exact .inr rfl) ?_
                try simp -implicitDefEqProofs only [go_sem, Bool.false_and, Nat.reduceEqDiff, Nat.reduceAdd, ↓reduceIte]
                rcases ite_inv H168 with ⟨c169, H170⟩ | ⟨c169, H170⟩
                · try simp -implicitDefEqProofs only [go_sem, Nat.reduceAdd, c169]
                  obtain rfl := Option.some.inj H170
                  obtain rfl := Option.some.inj H105
                  exact end_pure (by simp -implicitDefEqProofs only [go_sem, ↓reduceIte, Try.f9] <;> rfl) (by rfl) rfl (by intro h; rfl)
                · try simp -implicitDefEqProofs only [go_sem, c169]
                  refine runR_seq ?_
                  refine runR_take tab_ok fol 1 ?_
                  try simp -implicitDefEqProofs only [go_sem, Nat.reduceAdd]
                  obtain ⟨e_6, E171, H172⟩ := bind_inv H170
                  refine runR_join (α := { y : Unit // e_6 = .inl y }) (fun | ⟨_, _⟩ => ⟨upd 8 (.pt 0 0) (upd 9 (.fn 37 []) (upd 13 (.v (.int .i64 t13)) noFr)), upd 0 (some (.bx [.d (.sl (List.map eS t36.users)) false, .d (.sl (List.map eS t36.roles)) false, .d (.sl (List.map eGPair t36.inherit)) false, .d (.sl (List.map eGPair t36.assign)) false, .d (.sl (List.map eGGrant t36.grants)) false, .d (.sl (List.map eGSod t36.ssd)) false, .d (.sl (List.map eGSod t36.dsd)) false, .d (.sl (List.map eGSession t36.sessions)) false])) noHp, 1⟩) ?_ ?_
                  · refine runR_block ?_
                    refine runR_loop (α := { q : Nat × Int // law15_SessDuty_L4 n t36 t892 q.1 q.2 = some e_6 }) (fun | ⟨⟨c, t163⟩, _⟩ => ⟨upd 8 (.pt 0 0) (upd 9 (.fn 37 []) (upd 13 (.v (.int .i64 t13)) (upd 14 (.d (.sl (List.map eS t892)) false) (upd 16 (.v (.int .i64 t163)) noFr)))), upd 0 (some (.bx [.d (.sl (List.map eS t36.users)) false, .d (.sl (List.map eS t36.roles)) false, .d (.sl (List.map eGPair t36.inherit)) false, .d (.sl (List.map eGPair t36.assign)) false, .d (.sl (List.map eGGrant t36.grants)) false, .d (.sl (List.map eGSod t36.ssd)) false, .d (.sl (List.map eGSod t36.dsd)) false, .d (.sl (List.map eGSession t36.sessions)) false])) noHp, 1⟩) (fun q => q.1.1) ⟨(n, 0), E171⟩ ?_ ?_
                    · exact ren_mk [(0, 0)] (by rfl) (rf_upd (by rfl) (rf_upd (by rfl) (rf_upd (by rfl) (rf_upd (by rfl) (rf_upd (by rfl) (rf_no _)))))) (rh_upd (rh_one (by rfl) (by rfl) (by rfl)) (rh_no _))
                    · rintro ⟨⟨c, t163⟩, L173⟩
                      rcases c with _ | c
                      · exact nomatch (show none = some _ from L173)
                      · unfold law15_SessDuty_L4 at L173
                        try dsimp only at L173
                        refine runR_take tab_ok fol 1 ?_
                        try simp -implicitDefEqProofs only [go_sem, Nat.reduceEqDiff, Nat.reduceAdd, reduceCtorEq, ↓reduceIte]
                        rcases ite_inv L173 with ⟨c188, H189⟩ | ⟨c188, H189⟩
                        · obtain ⟨x12, b190, H191⟩ := bind_inv H189
                          obtain ⟨h192, h193⟩ := idx_inv b190
                          try simp only [Int.reduceToNat, Int.toNat_natCast] at h193
                          have h194 := map_at eGSod h193
                          obtain ⟨t1194, b196, H197⟩ := bind_inv H191
                          try simp -implicitDefEqProofs only [go_sem, Nat.reduceEqDiff, Nat.reduceAdd, reduceCtorEq, ↓reduceIte, eGSod, c188, nat_of .i64 h192, h194]
                          refine onCallD_pure (by rfl) (ref1_Texts_ok b196) (by exact .inr rfl) ?_
                          obtain ⟨t1214, b198, H199⟩ := bind_inv H197
                          try simp -implicitDefEqProofs only [go_sem, Bool.false_and, Nat.reduceEqDiff, Nat.reduceAdd, ↓reduceIte]
                          refine onCallD_pure (by rfl) (law15_SessDuty_c1_ok b198) (by exact .inr rfl) ?_
                          try simp -implicitDefEqProofs only [go_sem, Bool.false_and, Nat.reduceEqDiff, Nat.reduceAdd, reduceCtorEq, ↓reduceIte, eGSod, nat_of .i64 h192, h194]
                          refine Rd_endF (by rfl) ?_
                          try simp -implicitDefEqProofs only [go_sem, ↓reduceIte]
                          rcases ite_inv H199 with ⟨c200, H201⟩ | ⟨c200, H201⟩
                          · try simp -implicitDefEqProofs only [go_sem, Nat.reduceAdd, c200]
                            obtain rfl := Option.some.inj H201
                            obtain rfl := Option.some.inj H172
                            obtain rfl := Option.some.inj H105
                            exact end_pure (by simp -implicitDefEqProofs only [go_sem, ↓reduceIte, Try.f9] <;> rfl) (by rfl) rfl (by intro h; rfl)
                          · try simp -implicitDefEqProofs only [go_sem, Nat.reduceEqDiff, Nat.reduceAdd, ↓reduceIte, c200]
                            exact ⟨⟨(c, (IntKind.i64.wrap (t163 + 1))), H201⟩, ren_mk [(0, 0)] (by rfl) (rf_upd (by rfl) (rf_upd (by rfl) (rf_upd (by rfl) (rf_upd (by rfl) (rf_upd (by rfl) (rf_no _)))))) (rh_upd (rh_one (by rfl) (by rfl) (by rfl)) (rh_no _)), Nat.lt_succ_self _⟩
                        · try simp -implicitDefEqProofs only [go_sem, ↓reduceIte, c188]
                          obtain rfl := Option.some.inj H189
                          exact ⟨⟨(), rfl⟩, ren_mk [(0, 0)] (by rfl) (rf_upd (by rfl) (rf_upd (by rfl) (rf_upd (by rfl) (rf_no _)))) (rh_upd (rh_one (by rfl) (by rfl) (by rfl)) (rh_no _))⟩
                  · rintro ⟨_, he202⟩
                    replace he202 := he202.symm
                    subst he202
                    try dsimp only at H172
                    try simp -implicitDefEqProofs only [go_sem]
                    refine runR_take tab_ok fol 1 ?_
                    try simp -implicitDefEqProofs only [go_sem, Nat.reduceEqDiff, Nat.reduceAdd, ↓reduceIte]
                    exact ⟨⟨(c, (IntKind.i64.wrap (t13 + 1))), H172⟩, ren_mk [(0, 0)] (by rfl) (rf_upd (by rfl) (rf_upd (by rfl) (rf_upd (by rfl) (rf_no _)))) (rh_upd (rh_one (by rfl) (by rfl) (by rfl)) (rh_no _)), Nat.lt_succ_self _⟩
              · try simp -implicitDefEqProofs only [go_sem, ↓reduceIte, c155]
                obtain rfl := Option.some.inj H156
                exact ⟨⟨(), rfl⟩, ren_mk [] (by rfl) (rf_no _) (rh_no _)⟩
        · rintro ⟨_, he205⟩
          replace he205 := he205.symm
          subst he205
          try dsimp only at H105
          refine runR_take tab_ok fol 1 ?_
          obtain ⟨t129, b203, H204⟩ := bind_inv H105
          try simp -implicitDefEqProofs only [go_sem, Nat.reduceAdd]
          refine onCall_pure (by rfl) (law15_awake_ok b203) (by exact .inr rfl) ?_
          try simp -implicitDefEqProofs only [go_sem, Bool.false_and, Nat.reduceAdd, ↓reduceIte]
          obtain rfl := Option.some.inj H204
          exact end_pure (by simp -implicitDefEqProofs only [go_sem, ↓reduceIte, Try.f9] <;> rfl) (by rfl) rfl (by intro h; rfl)
end Go.Proofs.Ytkkhgdmmbhpckaa.Ab
