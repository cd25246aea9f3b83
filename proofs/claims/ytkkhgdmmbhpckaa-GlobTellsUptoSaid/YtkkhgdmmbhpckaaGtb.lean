/-
  Functions, read off the code.
-/
import Derived.Test.YtkkhgdmmbhpckaaGta
namespace Go.Proofs.Ytkkhgdmmbhpckaa.Ab
open Go.RowKit
def glob_bounded_L1 (n : Nat) (p : GPolicy) (user : ByteArray) (action : ByteArray) (resource : ByteArray) : Nat → (Bool × Int) → Option ((Bool) ⊕ Bool)
  | 0, _ => none
  | c + 1, (some_, t15) =>
    (if (decide (t15 < (p.bounds.length : Int))) then
      (idx p.bounds t15).bind fun x2 =>
      (if (x2.user.toList == user.toList) then
        (glob_matches n x2.actions action).bind fun t262 =>
        (if t262 then
          (glob_matches n x2.resources resource).bind fun t312 =>
          (if t312 then
            some (.inr true)
          else
            glob_bounded_L1 n p user action resource c (true, (IntKind.i64.wrap (t15 + 1))))
        else
          glob_bounded_L1 n p user action resource c (true, (IntKind.i64.wrap (t15 + 1))))
      else
        glob_bounded_L1 n p user action resource c (some_, (IntKind.i64.wrap (t15 + 1))))
    else
      some (.inl some_))
def glob_bounded_L1_f (n : Nat) (_ : GPolicy) (user : ByteArray) (action : ByteArray) (resource : ByteArray) (st : Bool) (x2 : GBound) (k : Bool → Option ((Bool) ⊕ Bool)) : Option ((Bool) ⊕ Bool) :=
  match st with
  | some_ =>
    (if (x2.user.toList == user.toList) then
      (glob_matches n x2.actions action).bind fun t262 =>
      (if t262 then
        (glob_matches n x2.resources resource).bind fun t312 =>
        (if t312 then
          some (.inr true)
        else
          k true)
      else
        k true)
    else
      k some_)
def glob_bounded_L1_e (_ : Nat) (_ : GPolicy) (_ : ByteArray) (_ : ByteArray) (_ : ByteArray) (st : Bool) : Option ((Bool) ⊕ Bool) :=
  match st with
  | some_ => some (.inl some_)
theorem glob_bounded_L1_list (n : Nat) (p : GPolicy) (user : ByteArray) (action : ByteArray) (resource : ByteArray) (hx : p.bounds.length < 4611686018427387904) (c : Nat) (st : Bool) (ix : Nat) (hi : ix ≤ p.bounds.length) (hc : p.bounds.length - ix < c) : glob_bounded_L1 n p user action resource c (match st, (ix : Int) with | some_, ix => (some_, ix)) = foldK (glob_bounded_L1_f n p user action resource) (glob_bounded_L1_e n p user action resource) (p.bounds.drop ix) st :=
  loop_list (fun c st ix => glob_bounded_L1 n p user action resource c (match st, ix with | some_, ix => (some_, ix))) p.bounds (glob_bounded_L1_f n p user action resource) (glob_bounded_L1_e n p user action resource) (fun _ _ _ => rfl) hx c st ix hi hc

def glob_bounded (n : Nat) (p : GPolicy) (user : ByteArray) (action : ByteArray) (resource : ByteArray) : Option Bool :=
  (
    glob_bounded_L1 n p user action resource n (false, 0) : Option ((Bool) ⊕ Bool)).bind fun
    | .inl some_3 =>
      some (!some_3)
    | .inr r => some r
theorem glob_bounded_ok {n : Nat} {p : GPolicy} {user : ByteArray} {action : ByteArray} {resource : ByteArray} {r : Bool} (H : glob_bounded n p user action resource = some r) : PureOK Try.prog 42 [D.ag (eGPolicy p), D.v (.string user), D.v (.string action), D.v (.string resource)] (D.v (.bool r)) true := by
  unfold glob_bounded at H
  refine pure_runR (tab := tab) tab_ok Try.func42 rfl (by kernel_rfl) (by kernel_rfl) (by simp [Try.f42]) ?_
  refine runR_seq ?_
  refine runR_take tab_ok fol 1 ?_
  try simp -implicitDefEqProofs only [go_sem, Nat.reduceAdd, eGPolicy]
  refine runR_seq ?_
  refine runR_take tab_ok fol 1 ?_
  try simp -implicitDefEqProofs only [go_sem, Nat.reduceAdd]
  refine runR_seq ?_
  refine runR_seq ?_
  refine runR_take tab_ok fol 1 ?_
  try simp -implicitDefEqProofs only [go_sem, Nat.reduceEqDiff, Nat.reduceAdd, reduceCtorEq, ↓reduceIte]
  obtain ⟨e_, E1, H2⟩ := bind_inv H
  refine runR_join (α := { y : Bool // e_ = .inl y }) (fun | ⟨some_3, _⟩ => ⟨upd 9 (.v (.bool some_3)) noFr, noHp, 0⟩) ?_ ?_
  · refine runR_block ?_
    refine runR_loop (α := { q : Nat × (Bool × Int) // glob_bounded_L1 n p user action resource q.1 q.2 = some e_ }) (fun | ⟨⟨c, ⟨some_, t15⟩⟩, _⟩ => ⟨upd 1 (.v (.string user)) (upd 2 (.v (.string action)) (upd 3 (.v (.string resource)) (upd 9 (.v (.bool some_)) (upd 13 (.d (.sl (List.map eGBound p.bounds)) true) (upd 14 (.v (.int .i64 (p.bounds.length : Int))) (upd 15 (.v (.int .i64 t15)) noFr)))))), noHp, 0⟩) (fun q => q.1.1) ⟨(n, (false, 0)), E1⟩ ?_ ?_
    · exact ren_mk [] (by rfl) (rf_upd (by rfl) (rf_upd (by rfl) (rf_upd (by rfl) (rf_upd (by rfl) (rf_upd (by rfl) (rf_upd (by rfl) (rf_upd (by rfl) (rf_no _)))))))) (rh_no _)
    · rintro ⟨⟨c, ⟨some_, t15⟩⟩, L3⟩
      rcases c with _ | c
      · exact nomatch (show none = some _ from L3)
      · unfold glob_bounded_L1 at L3
        try dsimp only at L3
        refine runR_take tab_ok fol 1 ?_
        try simp -implicitDefEqProofs only [go_sem, Nat.reduceEqDiff, ↓reduceIte]
        rcases ite_inv L3 with ⟨c22, H23⟩ | ⟨c22, H23⟩
        · obtain ⟨x2, b24, H25⟩ := bind_inv H23
          obtain ⟨h26, h27⟩ := idx_inv b24
          try simp only [Int.reduceToNat, Int.toNat_natCast] at h27
          have h28 := map_at eGBound h27
          try simp -implicitDefEqProofs only [go_sem, Nat.reduceEqDiff, Nat.reduceAdd, reduceCtorEq, ↓reduceIte, eGBound, c22, nat_of .i64 h26, h28]
          rcases ite_inv H25 with ⟨c30, H31⟩ | ⟨c30, H31⟩
          · obtain ⟨t262, b32, H33⟩ := bind_inv H31
            try simp -implicitDefEqProofs only [go_sem, Nat.reduceEqDiff, Nat.reduceAdd, reduceCtorEq, ↓reduceIte, c30]
            refine onCall_pure (by first | rfl | (simp -implicitDefEqProofs only [go_sem, Int.reduceToNat, Int.reduceLT, Int.reduceLE, Int.reduceBEq, Int.reduceBNe, Nat.reduceLT, Nat.reduceBEq, Int.reduceEq, Nat.reduceEqDiff, Nat.reduceAdd, Nat.reduceSub, Nat.reduceMul, Nat.reduceLeDiff, reduceCtorEq, ↓reduceIte, eGPolicy, eGGroup, eGBound, eGStmt, eGAsk, c22, nat_of .i64 h26, h28, c30]; done) | (simp -implicitDefEqProofs only [go_sem, Int.reduceToNat, Int.reduceLT, Int.reduceLE, Int.reduceBEq, Int.reduceBNe, Nat.reduceLT, Nat.reduceBEq, Int.reduceEq, Nat.reduceEqDiff, Nat.reduceAdd, Nat.reduceSub, Nat.reduceMul, Nat.reduceLeDiff, reduceCtorEq, ↓reduceIte, eGPolicy, eGGroup, eGBound, eGStmt, eGAsk, c22, nat_of .i64 h26, h28, c30]; rfl)) (glob_matches_ok b32) (by first | exact .inr rfl | exact .inl rfl) ?_
            try simp -implicitDefEqProofs only [go_sem, Nat.reduceAdd, ↓reduceIte]
            rcases ite_inv H33 with ⟨c34, H35⟩ | ⟨c34, H35⟩
            · obtain ⟨t312, b36, H37⟩ := bind_inv H35
              try simp -implicitDefEqProofs only [go_sem, Nat.reduceEqDiff, Nat.reduceAdd, reduceCtorEq, ↓reduceIte, c34]
              refine onCall_pure (by first | rfl | (simp -implicitDefEqProofs only [go_sem, Int.reduceToNat, Int.reduceLT, Int.reduceLE, Int.reduceBEq, Int.reduceBNe, Nat.reduceLT, Nat.reduceBEq, Int.reduceEq, Nat.reduceEqDiff, Nat.reduceAdd, Nat.reduceSub, Nat.reduceMul, Nat.reduceLeDiff, reduceCtorEq, ↓reduceIte, eGPolicy, eGGroup, eGBound, eGStmt, eGAsk, c22, nat_of .i64 h26, h28, c30, c34]; done) | (simp -implicitDefEqProofs only [go_sem, Int.reduceToNat, Int.reduceLT, Int.reduceLE, Int.reduceBEq, Int.reduceBNe, Nat.reduceLT, Nat.reduceBEq, Int.reduceEq, Nat.reduceEqDiff, Nat.reduceAdd, Nat.reduceSub, Nat.reduceMul, Nat.reduceLeDiff, reduceCtorEq, ↓reduceIte, eGPolicy, eGGroup, eGBound, eGStmt, eGAsk, c22, nat_of .i64 h26, h28, c30, c34]; rfl)) (glob_matches_ok b36) (by first | exact .inr rfl | exact .inl rfl) ?_
              try simp -implicitDefEqProofs only [go_sem, Nat.reduceEqDiff, Nat.reduceAdd, ↓reduceIte]
              rcases ite_inv H37 with ⟨c38, H39⟩ | ⟨c38, H39⟩
              · try simp -implicitDefEqProofs only [go_sem, Nat.reduceAdd, c38]
                obtain rfl := Option.some.inj H39
                obtain rfl := Option.some.inj H2
                exact end_pure (by first | (simp -implicitDefEqProofs only [go_sem, ↓reduceIte, Try.f42] <;> rfl) | rfl) (by first | rfl | (simp -implicitDefEqProofs only [go_sem, Int.reduceToNat, Int.reduceLT, Int.reduceLE, Int.reduceBEq, Int.reduceBNe, Nat.reduceLT, Nat.reduceBEq, Int.reduceEq, Nat.reduceEqDiff, Nat.reduceAdd, Nat.reduceSub, Nat.reduceMul, Nat.reduceLeDiff, reduceCtorEq, ↓reduceIte, eGPolicy, eGGroup, eGBound, eGStmt, eGAsk, c22, nat_of .i64 h26, h28, c30, c34, c38]; done) | (simp -implicitDefEqProofs only [go_sem, Int.reduceToNat, Int.reduceLT, Int.reduceLE, Int.reduceBEq, Int.reduceBNe, Nat.reduceLT, Nat.reduceBEq, Int.reduceEq, Nat.reduceEqDiff, Nat.reduceAdd, Nat.reduceSub, Nat.reduceMul, Nat.reduceLeDiff, reduceCtorEq, ↓reduceIte, eGPolicy, eGGroup, eGBound, eGStmt, eGAsk, c22, nat_of .i64 h26, h28, c30, c34, c38]; rfl)) rfl (by intro h; first | rfl | cases h)
              · try simp -implicitDefEqProofs only [go_sem, Nat.reduceEqDiff, Nat.reduceAdd, ↓reduceIte, c38]
                exact ⟨⟨(c, (true, (IntKind.i64.wrap (t15 + 1)))), H39⟩, ren_mk [] (by rfl) (rf_upd (by rfl) (rf_upd (by rfl) (rf_upd (by rfl) (rf_upd (by rfl) (rf_upd (by rfl) (rf_upd (by rfl) (rf_upd (by rfl) (rf_no _)))))))) (rh_no _), Nat.lt_succ_self _⟩
            · try simp -implicitDefEqProofs only [go_sem, Nat.reduceEqDiff, Nat.reduceAdd, ↓reduceIte, c34]
              exact ⟨⟨(c, (true, (IntKind.i64.wrap (t15 + 1)))), H35⟩, ren_mk [] (by rfl) (rf_upd (by rfl) (rf_upd (by rfl) (rf_upd (by rfl) (rf_upd (by rfl) (rf_upd (by rfl) (rf_upd (by rfl) (rf_upd (by rfl) (rf_no _)))))))) (rh_no _), Nat.lt_succ_self _⟩
          · try simp -implicitDefEqProofs only [go_sem, Nat.reduceEqDiff, Nat.reduceAdd, ↓reduceIte, c30]
            exact ⟨⟨(c, (some_, (IntKind.i64.wrap (t15 + 1)))), H31⟩, ren_mk [] (by rfl) (rf_upd (by rfl) (rf_upd (by rfl) (rf_upd (by rfl) (rf_upd (by rfl) (rf_upd (by rfl) (rf_upd (by rfl) (rf_upd (by rfl) (rf_no _)))))))) (rh_no _), Nat.lt_succ_self _⟩
        · try simp -implicitDefEqProofs only [go_sem, ↓reduceIte, c22]
          obtain rfl := Option.some.inj H23
          exact ⟨⟨some_, rfl⟩, ren_mk [] (by rfl) (rf_upd (by rfl) (rf_no _)) (rh_no _)⟩
  · rintro ⟨some_3, he40⟩
    replace he40 := he40.symm
    subst he40
    try dsimp only at H2
    refine runR_take tab_ok fol 1 ?_
    try simp -implicitDefEqProofs only [go_sem, Nat.reduceAdd, ↓reduceIte]
    obtain rfl := Option.some.inj H2
    exact end_pure (by first | (simp -implicitDefEqProofs only [go_sem, ↓reduceIte, Try.f42] <;> rfl) | rfl) (by first | rfl | (simp -implicitDefEqProofs only [go_sem, Int.reduceToNat, Int.reduceLT, Int.reduceLE, Int.reduceBEq, Int.reduceBNe, Nat.reduceLT, Nat.reduceBEq, Int.reduceEq, Nat.reduceEqDiff, Nat.reduceAdd, Nat.reduceSub, Nat.reduceMul, Nat.reduceLeDiff, reduceCtorEq, ↓reduceIte, eGPolicy, eGGroup, eGBound, eGStmt, eGAsk]; done) | (simp -implicitDefEqProofs only [go_sem, Int.reduceToNat, Int.reduceLT, Int.reduceLE, Int.reduceBEq, Int.reduceBNe, Nat.reduceLT, Nat.reduceBEq, Int.reduceEq, Nat.reduceEqDiff, Nat.reduceAdd, Nat.reduceSub, Nat.reduceMul, Nat.reduceLeDiff, reduceCtorEq, ↓reduceIte, eGPolicy, eGGroup, eGBound, eGStmt, eGAsk]; rfl)) rfl (by intro h; first | rfl | cases h)
def glob_May_L1 (n : Nat) (p : GPolicy) (user : ByteArray) (action : ByteArray) (resource : ByteArray) : Nat → (Bool × Int) → Option ((Bool) ⊕ Bool)
  | 0, _ => none
  | c + 1, (allowed, t34) =>
    (if (decide (t34 < (p.stmts.length : Int))) then
      (idx p.stmts t34).bind fun x2 =>
      (glob_bears n p x2 user action resource).bind fun t432 =>
      (if t432 then
        (if x2.deny then
          some (.inr false)
        else
          glob_May_L1 n p user action resource c (true, (IntKind.i64.wrap (t34 + 1))))
      else
        glob_May_L1 n p user action resource c (allowed, (IntKind.i64.wrap (t34 + 1))))
    else
      some (.inl allowed))
def glob_May_L1_f (n : Nat) (p : GPolicy) (user : ByteArray) (action : ByteArray) (resource : ByteArray) (st : Bool) (x2 : GStmt) (k : Bool → Option ((Bool) ⊕ Bool)) : Option ((Bool) ⊕ Bool) :=
  match st with
  | allowed =>
    (glob_bears n p x2 user action resource).bind fun t432 =>
    (if t432 then
      (if x2.deny then
        some (.inr false)
      else
        k true)
    else
      k allowed)
def glob_May_L1_e (_ : Nat) (_ : GPolicy) (_ : ByteArray) (_ : ByteArray) (_ : ByteArray) (st : Bool) : Option ((Bool) ⊕ Bool) :=
  match st with
  | allowed => some (.inl allowed)
theorem glob_May_L1_list (n : Nat) (p : GPolicy) (user : ByteArray) (action : ByteArray) (resource : ByteArray) (hx : p.stmts.length < 4611686018427387904) (c : Nat) (st : Bool) (ix : Nat) (hi : ix ≤ p.stmts.length) (hc : p.stmts.length - ix < c) : glob_May_L1 n p user action resource c (match st, (ix : Int) with | allowed, ix => (allowed, ix)) = foldK (glob_May_L1_f n p user action resource) (glob_May_L1_e n p user action resource) (p.stmts.drop ix) st :=
  loop_list (fun c st ix => glob_May_L1 n p user action resource c (match st, ix with | allowed, ix => (allowed, ix))) p.stmts (glob_May_L1_f n p user action resource) (glob_May_L1_e n p user action resource) (fun _ _ _ => rfl) hx c st ix hi hc

def glob_May (n : Nat) (p : GPolicy) (user : ByteArray) (action : ByteArray) (resource : ByteArray) : Option Bool :=
  (
    (slices_Contains_string n p.users user).bind fun t15 =>
    (if t15 then
      (slices_Contains_string n p.actions action).bind fun t21 =>
      (if t21 then
        (slices_Contains_string n p.resources resource).bind fun t28 =>
        some (!t28)
      else
        some true)
    else
      some true) : Option (Bool)).bind fun t30 =>
  (if t30 then
    some false
  else
    (
      glob_May_L1 n p user action resource n (false, 0) : Option ((Bool) ⊕ Bool)).bind fun
      | .inl allowed3 =>
        (if allowed3 then
          (glob_bounded n p user action resource).bind fun t54 =>
          some t54
        else
          some false)
      | .inr r => some r)
theorem glob_May_ok {n : Nat} {p : GPolicy} {user : ByteArray} {action : ByteArray} {resource : ByteArray} {r : Bool} (H : glob_May n p user action resource = some r) : PureOK Try.prog 13 [D.ag (eGPolicy p), D.v (.string user), D.v (.string action), D.v (.string resource)] (D.v (.bool r)) true := by
  unfold glob_May at H
  refine pure_runR (tab := tab) tab_ok Try.func13 rfl (by kernel_rfl) (by kernel_rfl) (by simp [Try.f13]) ?_
  refine runR_seq ?_
  refine runR_take tab_ok fol 1 ?_
  try simp -implicitDefEqProofs only [go_sem, Nat.reduceAdd, eGPolicy]
  refine runR_seq ?_
  refine runR_seq ?_
  obtain ⟨e_, E1, H2⟩ := bind_inv H
  refine runR_join (α := { y : Bool // e_ = y }) (fun | ⟨t30, _⟩ => ⟨upd 1 (.v (.string user)) (upd 2 (.v (.string action)) (upd 3 (.v (.string resource)) (upd 4 (.pt 0 0) (upd 30 (.v (.bool t30)) noFr)))), upd 0 (some (.bx [.d (.sl (List.map eS p.users)) true, .d (.sl (List.map eS p.actions)) true, .d (.sl (List.map eS p.resources)) true, .d (.sl (List.map eGGroup p.groups)) true, .d (.sl (List.map eGStmt p.stmts)) true, .d (.sl (List.map eGBound p.bounds)) true])) noHp, 1⟩) ?_ ?_
  · refine runR_take tab_ok fol 1 ?_
    obtain ⟨t15, b3, H4⟩ := bind_inv E1
    try simp -implicitDefEqProofs only [go_sem, Nat.reduceEqDiff, Nat.reduceAdd, reduceCtorEq, ↓reduceIte]
    refine onCall_pure (by first | rfl | (simp -implicitDefEqProofs only [go_sem, Int.reduceToNat, Int.reduceLT, Int.reduceLE, Int.reduceBEq, Int.reduceBNe, Nat.reduceLT, Nat.reduceBEq, Int.reduceEq, Nat.reduceEqDiff, Nat.reduceAdd, Nat.reduceSub, Nat.reduceMul, Nat.reduceLeDiff, reduceCtorEq, ↓reduceIte, eGPolicy, eGGroup, eGBound, eGStmt, eGAsk]; done) | (simp -implicitDefEqProofs only [go_sem, Int.reduceToNat, Int.reduceLT, Int.reduceLE, Int.reduceBEq, Int.reduceBNe, Nat.reduceLT, Nat.reduceBEq, Int.reduceEq, Nat.reduceEqDiff, Nat.reduceAdd, Nat.reduceSub, Nat.reduceMul, Nat.reduceLeDiff, reduceCtorEq, ↓reduceIte, eGPolicy, eGGroup, eGBound, eGStmt, eGAsk]; rfl)) (slices_Contains_string_ok b3) (by first | exact .inr rfl | exact .inl rfl) ?_
    try simp -implicitDefEqProofs only [go_sem, Nat.reduceAdd, ↓reduceIte]
    rcases ite_inv H4 with ⟨c5, H6⟩ | ⟨c5, H6⟩
    · obtain ⟨t21, b7, H8⟩ := bind_inv H6
      try simp -implicitDefEqProofs only [go_sem, Nat.reduceEqDiff, Nat.reduceAdd, reduceCtorEq, ↓reduceIte, c5]
      refine onCall_pure (by first | rfl | (simp -implicitDefEqProofs only [go_sem, Int.reduceToNat, Int.reduceLT, Int.reduceLE, Int.reduceBEq, Int.reduceBNe, Nat.reduceLT, Nat.reduceBEq, Int.reduceEq, Nat.reduceEqDiff, Nat.reduceAdd, Nat.reduceSub, Nat.reduceMul, Nat.reduceLeDiff, reduceCtorEq, ↓reduceIte, eGPolicy, eGGroup, eGBound, eGStmt, eGAsk, c5]; done) | (simp -implicitDefEqProofs only [go_sem, Int.reduceToNat, Int.reduceLT, Int.reduceLE, Int.reduceBEq, Int.reduceBNe, Nat.reduceLT, Nat.reduceBEq, Int.reduceEq, Nat.reduceEqDiff, Nat.reduceAdd, Nat.reduceSub, Nat.reduceMul, Nat.reduceLeDiff, reduceCtorEq, ↓reduceIte, eGPolicy, eGGroup, eGBound, eGStmt, eGAsk, c5]; rfl)) (slices_Contains_string_ok b7) (by first | exact .inr rfl | exact .inl rfl) ?_
      try simp -implicitDefEqProofs only [go_sem, Nat.reduceEqDiff, Nat.reduceAdd, ↓reduceIte]
      rcases ite_inv H8 with ⟨c9, H10⟩ | ⟨c9, H10⟩
      · obtain ⟨t28, b11, H12⟩ := bind_inv H10
        try simp -implicitDefEqProofs only [go_sem, Nat.reduceEqDiff, Nat.reduceAdd, reduceCtorEq, ↓reduceIte, c9]
        refine onCall_pure (by first | rfl | (simp -implicitDefEqProofs only [go_sem, Int.reduceToNat, Int.reduceLT, Int.reduceLE, Int.reduceBEq, Int.reduceBNe, Nat.reduceLT, Nat.reduceBEq, Int.reduceEq, Nat.reduceEqDiff, Nat.reduceAdd, Nat.reduceSub, Nat.reduceMul, Nat.reduceLeDiff, reduceCtorEq, ↓reduceIte, eGPolicy, eGGroup, eGBound, eGStmt, eGAsk, c5, c9]; done) | (simp -implicitDefEqProofs only [go_sem, Int.reduceToNat, Int.reduceLT, Int.reduceLE, Int.reduceBEq, Int.reduceBNe, Nat.reduceLT, Nat.reduceBEq, Int.reduceEq, Nat.reduceEqDiff, Nat.reduceAdd, Nat.reduceSub, Nat.reduceMul, Nat.reduceLeDiff, reduceCtorEq, ↓reduceIte, eGPolicy, eGGroup, eGBound, eGStmt, eGAsk, c5, c9]; rfl)) (slices_Contains_string_ok b11) (by first | exact .inr rfl | exact .inl rfl) ?_
        try simp -implicitDefEqProofs only [go_sem, Nat.reduceEqDiff, Nat.reduceAdd, ↓reduceIte]
        obtain rfl := Option.some.inj H12
        exact ⟨⟨(!t28), rfl⟩, ren_mk [(0, 0)] (by rfl) (rf_upd (by rfl) (rf_upd (by rfl) (rf_upd (by rfl) (rf_upd (by rfl) (rf_upd (by rfl) (rf_no _)))))) (rh_upd (rh_one (by rfl) (by rfl) (by rfl)) (rh_no _))⟩
      · try simp -implicitDefEqProofs only [go_sem, Nat.reduceEqDiff, Nat.reduceAdd, ↓reduceIte, c9]
        obtain rfl := Option.some.inj H10
        exact ⟨⟨true, rfl⟩, ren_mk [(0, 0)] (by rfl) (rf_upd (by rfl) (rf_upd (by rfl) (rf_upd (by rfl) (rf_upd (by rfl) (rf_upd (by rfl) (rf_no _)))))) (rh_upd (rh_one (by rfl) (by rfl) (by rfl)) (rh_no _))⟩
    · try simp -implicitDefEqProofs only [go_sem, Nat.reduceEqDiff, Nat.reduceAdd, ↓reduceIte, c5]
      obtain rfl := Option.some.inj H6
      exact ⟨⟨true, rfl⟩, ren_mk [(0, 0)] (by rfl) (rf_upd (by rfl) (rf_upd (by rfl) (rf_upd (by rfl) (rf_upd (by rfl) (rf_upd (by rfl) (rf_no _)))))) (rh_upd (rh_one (by rfl) (by rfl) (by rfl)) (rh_no _))⟩
  · rintro ⟨t30, he51⟩
    replace he51 := he51.symm
    subst he51
    try dsimp only at H2
    refine runR_take tab_ok fol 1 ?_
    try simp -implicitDefEqProofs only [go_sem, Nat.reduceEqDiff, ↓reduceIte]
    rcases ite_inv H2 with ⟨c13, H14⟩ | ⟨c13, H14⟩
    · try simp -implicitDefEqProofs only [go_sem, Nat.reduceAdd, c13]
      obtain rfl := Option.some.inj H14
      exact end_pure (by first | (simp -implicitDefEqProofs only [go_sem, ↓reduceIte, Try.f13] <;> rfl) | rfl) (by first | rfl | (simp -implicitDefEqProofs only [go_sem, Int.reduceToNat, Int.reduceLT, Int.reduceLE, Int.reduceBEq, Int.reduceBNe, Nat.reduceLT, Nat.reduceBEq, Int.reduceEq, Nat.reduceEqDiff, Nat.reduceAdd, Nat.reduceSub, Nat.reduceMul, Nat.reduceLeDiff, reduceCtorEq, ↓reduceIte, eGPolicy, eGGroup, eGBound, eGStmt, eGAsk, c13]; done) | (simp -implicitDefEqProofs only [go_sem, Int.reduceToNat, Int.reduceLT, Int.reduceLE, Int.reduceBEq, Int.reduceBNe, Nat.reduceLT, Nat.reduceBEq, Int.reduceEq, Nat.reduceEqDiff, Nat.reduceAdd, Nat.reduceSub, Nat.reduceMul, Nat.reduceLeDiff, reduceCtorEq, ↓reduceIte, eGPolicy, eGGroup, eGBound, eGStmt, eGAsk, c13]; rfl)) rfl (by intro h; first | rfl | cases h)
    · try simp -implicitDefEqProofs only [go_sem, c13]
      refine runR_seq ?_
      refine runR_take tab_ok fol 1 ?_
      try simp -implicitDefEqProofs only [go_sem, Nat.reduceAdd]
      refine runR_seq ?_
      refine runR_seq ?_
      refine runR_take tab_ok fol 1 ?_
      try simp -implicitDefEqProofs only [go_sem, Nat.reduceEqDiff, Nat.reduceAdd, reduceCtorEq, ↓reduceIte]
      obtain ⟨e_2, E15, H16⟩ := bind_inv H14
      refine runR_join (α := { y : Bool // e_2 = .inl y }) (fun | ⟨allowed3, _⟩ => ⟨upd 1 (.v (.string user)) (upd 2 (.v (.string action)) (upd 3 (.v (.string resource)) (upd 4 (.pt 0 0) (upd 9 (.v (.bool allowed3)) noFr)))), upd 0 (some (.bx [.d (.sl (List.map eS p.users)) true, .d (.sl (List.map eS p.actions)) true, .d (.sl (List.map eS p.resources)) true, .d (.sl (List.map eGGroup p.groups)) true, .d (.sl (List.map eGStmt p.stmts)) true, .d (.sl (List.map eGBound p.bounds)) true])) noHp, 1⟩) ?_ ?_
      · refine runR_block ?_
        refine runR_loop (α := { q : Nat × (Bool × Int) // glob_May_L1 n p user action resource q.1 q.2 = some e_2 }) (fun | ⟨⟨c, ⟨allowed, t34⟩⟩, _⟩ => ⟨upd 1 (.v (.string user)) (upd 2 (.v (.string action)) (upd 3 (.v (.string resource)) (upd 4 (.pt 0 0) (upd 9 (.v (.bool allowed)) (upd 32 (.d (.sl (List.map eGStmt p.stmts)) true) (upd 33 (.v (.int .i64 (p.stmts.length : Int))) (upd 34 (.v (.int .i64 t34)) noFr))))))), upd 0 (some (.bx [.d (.sl (List.map eS p.users)) true, .d (.sl (List.map eS p.actions)) true, .d (.sl (List.map eS p.resources)) true, .d (.sl (List.map eGGroup p.groups)) true, .d (.sl (List.map eGStmt p.stmts)) true, .d (.sl (List.map eGBound p.bounds)) true])) noHp, 1⟩) (fun q => q.1.1) ⟨(n, (false, 0)), E15⟩ ?_ ?_
        · exact ren_mk [(0, 0)] (by rfl) (rf_upd (by rfl) (rf_upd (by rfl) (rf_upd (by rfl) (rf_upd (by rfl) (rf_upd (by rfl) (rf_upd (by rfl) (rf_upd (by rfl) (rf_upd (by rfl) (rf_no _))))))))) (rh_upd (rh_one (by rfl) (by rfl) (by rfl)) (rh_no _))
        · rintro ⟨⟨c, ⟨allowed, t34⟩⟩, L17⟩
          rcases c with _ | c
          · exact nomatch (show none = some _ from L17)
          · unfold glob_May_L1 at L17
            try dsimp only at L17
            refine runR_take tab_ok fol 1 ?_
            try simp -implicitDefEqProofs only [go_sem, Nat.reduceEqDiff, Nat.reduceAdd, ↓reduceIte]
            rcases ite_inv L17 with ⟨c32, H33⟩ | ⟨c32, H33⟩
            · obtain ⟨x2, b34, H35⟩ := bind_inv H33
              obtain ⟨h36, h37⟩ := idx_inv b34
              try simp only [Int.reduceToNat, Int.toNat_natCast] at h37
              have h38 := map_at eGStmt h37
              obtain ⟨t432, b40, H41⟩ := bind_inv H35
              try simp -implicitDefEqProofs only [go_sem, Nat.reduceEqDiff, Nat.reduceAdd, reduceCtorEq, ↓reduceIte, eGStmt, c32, nat_of .i64 h36, h38]
              refine onCall_pure (by first | rfl | (simp -implicitDefEqProofs only [go_sem, Int.reduceToNat, Int.reduceLT, Int.reduceLE, Int.reduceBEq, Int.reduceBNe, Nat.reduceLT, Nat.reduceBEq, Int.reduceEq, Nat.reduceEqDiff, Nat.reduceAdd, Nat.reduceSub, Nat.reduceMul, Nat.reduceLeDiff, reduceCtorEq, ↓reduceIte, eGPolicy, eGGroup, eGBound, eGStmt, eGAsk, c32, nat_of .i64 h36, h38]; done) | (simp -implicitDefEqProofs only [go_sem, Int.reduceToNat, Int.reduceLT, Int.reduceLE, Int.reduceBEq, Int.reduceBNe, Nat.reduceLT, Nat.reduceBEq, Int.reduceEq, Nat.reduceEqDiff, Nat.reduceAdd, Nat.reduceSub, Nat.reduceMul, Nat.reduceLeDiff, reduceCtorEq, ↓reduceIte, eGPolicy, eGGroup, eGBound, eGStmt, eGAsk, c32, nat_of .i64 h36, h38]; rfl)) (glob_bears_ok b40) (by first | exact .inr rfl | exact .inl rfl) ?_
              try simp -implicitDefEqProofs only [go_sem, Nat.reduceAdd, ↓reduceIte]
              rcases ite_inv H41 with ⟨c42, H43⟩ | ⟨c42, H43⟩
              · try simp -implicitDefEqProofs only [go_sem, Nat.reduceEqDiff, Nat.reduceAdd, reduceCtorEq, ↓reduceIte, c42]
                rcases ite_inv H43 with ⟨c44, H45⟩ | ⟨c44, H45⟩
                · try simp -implicitDefEqProofs only [go_sem, Nat.reduceAdd, c44]
                  obtain rfl := Option.some.inj H45
                  obtain rfl := Option.some.inj H16
                  exact end_pure (by first | (simp -implicitDefEqProofs only [go_sem, ↓reduceIte, Try.f13] <;> rfl) | rfl) (by first | rfl | (simp -implicitDefEqProofs only [go_sem, Int.reduceToNat, Int.reduceLT, Int.reduceLE, Int.reduceBEq, Int.reduceBNe, Nat.reduceLT, Nat.reduceBEq, Int.reduceEq, Nat.reduceEqDiff, Nat.reduceAdd, Nat.reduceSub, Nat.reduceMul, Nat.reduceLeDiff, reduceCtorEq, ↓reduceIte, eGPolicy, eGGroup, eGBound, eGStmt, eGAsk, c32, nat_of .i64 h36, h38, c42, c44]; done) | (simp -implicitDefEqProofs only [go_sem, Int.reduceToNat, Int.reduceLT, Int.reduceLE, Int.reduceBEq, Int.reduceBNe, Nat.reduceLT, Nat.reduceBEq, Int.reduceEq, Nat.reduceEqDiff, Nat.reduceAdd, Nat.reduceSub, Nat.reduceMul, Nat.reduceLeDiff, reduceCtorEq, ↓reduceIte, eGPolicy, eGGroup, eGBound, eGStmt, eGAsk, c32, nat_of .i64 h36, h38, c42, c44]; rfl)) rfl (by intro h; first | rfl | cases h)
                · try simp -implicitDefEqProofs only [go_sem, Nat.reduceEqDiff, Nat.reduceAdd, ↓reduceIte, c44]
                  exact ⟨⟨(c, (true, (IntKind.i64.wrap (t34 + 1)))), H45⟩, ren_mk [(0, 0)] (by rfl) (rf_upd (by rfl) (rf_upd (by rfl) (rf_upd (by rfl) (rf_upd (by rfl) (rf_upd (by rfl) (rf_upd (by rfl) (rf_upd (by rfl) (rf_upd (by rfl) (rf_no _))))))))) (rh_upd (rh_one (by rfl) (by rfl) (by rfl)) (rh_no _)), Nat.lt_succ_self _⟩
              · try simp -implicitDefEqProofs only [go_sem, Nat.reduceEqDiff, Nat.reduceAdd, ↓reduceIte, c42]
                exact ⟨⟨(c, (allowed, (IntKind.i64.wrap (t34 + 1)))), H43⟩, ren_mk [(0, 0)] (by rfl) (rf_upd (by rfl) (rf_upd (by rfl) (rf_upd (by rfl) (rf_upd (by rfl) (rf_upd (by rfl) (rf_upd (by rfl) (rf_upd (by rfl) (rf_upd (by rfl) (rf_no _))))))))) (rh_upd (rh_one (by rfl) (by rfl) (by rfl)) (rh_no _)), Nat.lt_succ_self _⟩
            · try simp -implicitDefEqProofs only [go_sem, ↓reduceIte, c32]
              obtain rfl := Option.some.inj H33
              exact ⟨⟨allowed, rfl⟩, ren_mk [(0, 0)] (by rfl) (rf_upd (by rfl) (rf_upd (by rfl) (rf_upd (by rfl) (rf_upd (by rfl) (rf_upd (by rfl) (rf_no _)))))) (rh_upd (rh_one (by rfl) (by rfl) (by rfl)) (rh_no _))⟩
      · rintro ⟨allowed3, he50⟩
        replace he50 := he50.symm
        subst he50
        try dsimp only at H16
        refine runR_take tab_ok fol 1 ?_
        try simp -implicitDefEqProofs only [go_sem, Nat.reduceEqDiff, Nat.reduceAdd, ↓reduceIte]
        rcases ite_inv H16 with ⟨c46, H47⟩ | ⟨c46, H47⟩
        · obtain ⟨t54, b48, H49⟩ := bind_inv H47
          try simp -implicitDefEqProofs only [go_sem, Nat.reduceEqDiff, Nat.reduceAdd, ↓reduceIte, c46]
          refine onCall_pure (by first | rfl | (simp -implicitDefEqProofs only [go_sem, Int.reduceToNat, Int.reduceLT, Int.reduceLE, Int.reduceBEq, Int.reduceBNe, Nat.reduceLT, Nat.reduceBEq, Int.reduceEq, Nat.reduceEqDiff, Nat.reduceAdd, Nat.reduceSub, Nat.reduceMul, Nat.reduceLeDiff, reduceCtorEq, ↓reduceIte, eGPolicy, eGGroup, eGBound, eGStmt, eGAsk, c46]; done) | (simp -implicitDefEqProofs only [go_sem, Int.reduceToNat, Int.reduceLT, Int.reduceLE, Int.reduceBEq, Int.reduceBNe, Nat.reduceLT, Nat.reduceBEq, Int.reduceEq, Nat.reduceEqDiff, Nat.reduceAdd, Nat.reduceSub, Nat.reduceMul, Nat.reduceLeDiff, reduceCtorEq, ↓reduceIte, eGPolicy, eGGroup, eGBound, eGStmt, eGAsk, c46]; rfl)) (glob_bounded_ok b48) (by first | exact .inr rfl | exact .inl rfl) ?_
          try simp -implicitDefEqProofs only [go_sem, Nat.reduceEqDiff, Nat.reduceAdd, ↓reduceIte]
          obtain rfl := Option.some.inj H49
          exact end_pure (by first | (simp -implicitDefEqProofs only [go_sem, ↓reduceIte, Try.f13] <;> rfl) | rfl) (by first | rfl | (simp -implicitDefEqProofs only [go_sem, Int.reduceToNat, Int.reduceLT, Int.reduceLE, Int.reduceBEq, Int.reduceBNe, Nat.reduceLT, Nat.reduceBEq, Int.reduceEq, Nat.reduceEqDiff, Nat.reduceAdd, Nat.reduceSub, Nat.reduceMul, Nat.reduceLeDiff, reduceCtorEq, ↓reduceIte, eGPolicy, eGGroup, eGBound, eGStmt, eGAsk, c46]; done) | (simp -implicitDefEqProofs only [go_sem, Int.reduceToNat, Int.reduceLT, Int.reduceLE, Int.reduceBEq, Int.reduceBNe, Nat.reduceLT, Nat.reduceBEq, Int.reduceEq, Nat.reduceEqDiff, Nat.reduceAdd, Nat.reduceSub, Nat.reduceMul, Nat.reduceLeDiff, reduceCtorEq, ↓reduceIte, eGPolicy, eGGroup, eGBound, eGStmt, eGAsk, c46]; rfl)) rfl (by intro h; first | rfl | cases h)
        · try simp -implicitDefEqProofs only [go_sem, Nat.reduceEqDiff, Nat.reduceAdd, ↓reduceIte, c46]
          obtain rfl := Option.some.inj H47
          exact end_pure (by first | (simp -implicitDefEqProofs only [go_sem, ↓reduceIte, Try.f13] <;> rfl) | rfl) (by first | rfl | (simp -implicitDefEqProofs only [go_sem, Int.reduceToNat, Int.reduceLT, Int.reduceLE, Int.reduceBEq, Int.reduceBNe, Nat.reduceLT, Nat.reduceBEq, Int.reduceEq, Nat.reduceEqDiff, Nat.reduceAdd, Nat.reduceSub, Nat.reduceMul, Nat.reduceLeDiff, reduceCtorEq, ↓reduceIte, eGPolicy, eGGroup, eGBound, eGStmt, eGAsk, c46]; done) | (simp -implicitDefEqProofs only [go_sem, Int.reduceToNat, Int.reduceLT, Int.reduceLE, Int.reduceBEq, Int.reduceBNe, Nat.reduceLT, Nat.reduceBEq, Int.reduceEq, Nat.reduceEqDiff, Nat.reduceAdd, Nat.reduceSub, Nat.reduceMul, Nat.reduceLeDiff, reduceCtorEq, ↓reduceIte, eGPolicy, eGGroup, eGBound, eGStmt, eGAsk, c46]; rfl)) rfl (by intro h; first | rfl | cases h)
end Go.Proofs.Ytkkhgdmmbhpckaa.Ab
