/-
  Functions, read off the code.
-/
import Derived.Test.YtkkhgdmmbhpckaaGtd
namespace Go.Proofs.Ytkkhgdmmbhpckaa.Ab
open Go.RowKit
def ref22_May_L2 (n : Nat) (t0 : GPolicy) (t1 : ByteArray) (x4 : GStmt) : Nat → (Bool × Int) → Option (Bool)
  | 0, _ => none
  | c + 1, (t124, t133) =>
    (if (decide (t133 < (x4.groups.length : Int))) then
      (if t124 then
        ref22_May_L2 n t0 t1 x4 c (true, (IntKind.i64.wrap (t133 + 1)))
      else
        (idx x4.groups t133).bind fun x6 =>
        (ref22_Inside n t0 t1 x6).bind fun t694 =>
        ref22_May_L2 n t0 t1 x4 c (t694, (IntKind.i64.wrap (t133 + 1))))
    else
      some t124)

def ref22_May_L1 (n : Nat) (t0 : GPolicy) (t1 : ByteArray) (t2 : ByteArray) (t3 : ByteArray) : Nat → (Bool × Int) → Option ((Bool) ⊕ Bool)
  | 0, _ => none
  | c + 1, (t9, t10) =>
    (if (decide (t10 < (t0.stmts.length : Int))) then
      (idx t0.stmts t10).bind fun x4 =>
      (ref22_In n x4.users t1).bind fun t522 =>
      (
        ref22_May_L2 n t0 t1 x4 n (t522, 0) : Option (Bool)).bind fun t126 =>
      (if t126 then
        (ref22_matches n x4.actions t2).bind fun t772 =>
        (if t772 then
          (ref22_matches n x4.resources t3).bind fun t842 =>
          (if t842 then
            (if x4.deny then
              some (.inr false)
            else
              ref22_May_L1 n t0 t1 t2 t3 c (true, (IntKind.i64.wrap (t10 + 1))))
          else
            ref22_May_L1 n t0 t1 t2 t3 c (t9, (IntKind.i64.wrap (t10 + 1))))
        else
          ref22_May_L1 n t0 t1 t2 t3 c (t9, (IntKind.i64.wrap (t10 + 1))))
      else
        ref22_May_L1 n t0 t1 t2 t3 c (t9, (IntKind.i64.wrap (t10 + 1))))
    else
      some (.inl t9))
def ref22_May_L1_f (n : Nat) (t0 : GPolicy) (t1 : ByteArray) (t2 : ByteArray) (t3 : ByteArray) (st : Bool) (x4 : GStmt) (k : Bool → Option ((Bool) ⊕ Bool)) : Option ((Bool) ⊕ Bool) :=
  match st with
  | t9 =>
    (ref22_In n x4.users t1).bind fun t522 =>
    (
      ref22_May_L2 n t0 t1 x4 n (t522, 0) : Option (Bool)).bind fun t126 =>
    (if t126 then
      (ref22_matches n x4.actions t2).bind fun t772 =>
      (if t772 then
        (ref22_matches n x4.resources t3).bind fun t842 =>
        (if t842 then
          (if x4.deny then
            some (.inr false)
          else
            k true)
        else
          k t9)
      else
        k t9)
    else
      k t9)
def ref22_May_L1_e (_ : Nat) (_ : GPolicy) (_ : ByteArray) (_ : ByteArray) (_ : ByteArray) (st : Bool) : Option ((Bool) ⊕ Bool) :=
  match st with
  | t9 => some (.inl t9)
theorem ref22_May_L1_list (n : Nat) (t0 : GPolicy) (t1 : ByteArray) (t2 : ByteArray) (t3 : ByteArray) (hx : t0.stmts.length < 4611686018427387904) (c : Nat) (st : Bool) (ix : Nat) (hi : ix ≤ t0.stmts.length) (hc : t0.stmts.length - ix < c) : ref22_May_L1 n t0 t1 t2 t3 c (match st, (ix : Int) with | t9, ix => (t9, ix)) = foldK (ref22_May_L1_f n t0 t1 t2 t3) (ref22_May_L1_e n t0 t1 t2 t3) (t0.stmts.drop ix) st :=
  loop_list (fun c st ix => ref22_May_L1 n t0 t1 t2 t3 c (match st, ix with | t9, ix => (t9, ix))) t0.stmts (ref22_May_L1_f n t0 t1 t2 t3) (ref22_May_L1_e n t0 t1 t2 t3) (fun _ _ _ => rfl) hx c st ix hi hc

def ref22_May_L3 (n : Nat) (t0 : GPolicy) (t1 : ByteArray) (t2 : ByteArray) (t3 : ByteArray) : Nat → (Bool × Bool × Int) → Option (Bool × Bool)
  | 0, _ => none
  | c + 1, (t14, t15, t16) =>
    (if (decide (t16 < (t0.bounds.length : Int))) then
      (idx t0.bounds t16).bind fun x8 =>
      (if (x8.user.toList == t1.toList) then
        (if t15 then
          ref22_May_L3 n t0 t1 t2 t3 c (true, true, (IntKind.i64.wrap (t16 + 1)))
        else
          (ref22_matches n x8.actions t2).bind fun t1102 =>
          (if t1102 then
            (ref22_matches n x8.resources t3).bind fun t1152 =>
            ref22_May_L3 n t0 t1 t2 t3 c (true, t1152, (IntKind.i64.wrap (t16 + 1)))
          else
            ref22_May_L3 n t0 t1 t2 t3 c (true, false, (IntKind.i64.wrap (t16 + 1)))))
      else
        ref22_May_L3 n t0 t1 t2 t3 c (t14, t15, (IntKind.i64.wrap (t16 + 1))))
    else
      some (t14, t15))
def ref22_May_L3_f (n : Nat) (_ : GPolicy) (t1 : ByteArray) (t2 : ByteArray) (t3 : ByteArray) (st : Bool × Bool) (x8 : GBound) (k : (Bool × Bool) → Option (Bool × Bool)) : Option (Bool × Bool) :=
  match st with
  | (t14, t15) =>
    (if (x8.user.toList == t1.toList) then
      (if t15 then
        k (true, true)
      else
        (ref22_matches n x8.actions t2).bind fun t1102 =>
        (if t1102 then
          (ref22_matches n x8.resources t3).bind fun t1152 =>
          k (true, t1152)
        else
          k (true, false)))
    else
      k (t14, t15))
def ref22_May_L3_e (_ : Nat) (_ : GPolicy) (_ : ByteArray) (_ : ByteArray) (_ : ByteArray) (st : Bool × Bool) : Option (Bool × Bool) :=
  match st with
  | (t14, t15) => some (t14, t15)
theorem ref22_May_L3_list (n : Nat) (t0 : GPolicy) (t1 : ByteArray) (t2 : ByteArray) (t3 : ByteArray) (hx : t0.bounds.length < 4611686018427387904) (c : Nat) (st : Bool × Bool) (ix : Nat) (hi : ix ≤ t0.bounds.length) (hc : t0.bounds.length - ix < c) : ref22_May_L3 n t0 t1 t2 t3 c (match st, (ix : Int) with | (t14, t15), ix => (t14, t15, ix)) = foldK (ref22_May_L3_f n t0 t1 t2 t3) (ref22_May_L3_e n t0 t1 t2 t3) (t0.bounds.drop ix) st :=
  loop_list (fun c st ix => ref22_May_L3 n t0 t1 t2 t3 c (match st, ix with | (t14, t15), ix => (t14, t15, ix))) t0.bounds (ref22_May_L3_f n t0 t1 t2 t3) (ref22_May_L3_e n t0 t1 t2 t3) (fun _ _ _ => rfl) hx c st ix hi hc

def ref22_May (n : Nat) (t0 : GPolicy) (t1 : ByteArray) (t2 : ByteArray) (t3 : ByteArray) : Option Bool :=
  (
    (ref22_In n t0.users t1).bind fun t21 =>
    (if t21 then
      (ref22_In n t0.actions t2).bind fun t27 =>
      (if t27 then
        (ref22_In n t0.resources t3).bind fun t34 =>
        some (!t34)
      else
        some true)
    else
      some true) : Option (Bool)).bind fun t36 =>
  (if t36 then
    some false
  else
    (
      ref22_May_L1 n t0 t1 t2 t3 n (false, 0) : Option ((Bool) ⊕ Bool)).bind fun
      | .inl t93 =>
        (
          ref22_May_L3 n t0 t1 t2 t3 n (false, false, 0) : Option (Bool × Bool)).bind fun (t143, t153) =>
        (if t93 then
          (if t143 then
            some t153
          else
            some true)
        else
          some false)
      | .inr r => some r)
set_option maxHeartbeats 8000000 in
theorem ref22_May_ok {n : Nat} {t0 : GPolicy} {t1 : ByteArray} {t2 : ByteArray} {t3 : ByteArray} {r : Bool} (H : ref22_May n t0 t1 t2 t3 = some r) : PureOK Try.prog 22 [D.ag (eGPolicy t0), D.v (.string t1), D.v (.string t2), D.v (.string t3)] (D.v (.bool r)) true := by
  unfold ref22_May at H
  refine pure_runR (tab := tab) tab_ok Try.func22 rfl (by kernel_rfl) (by kernel_rfl) (by simp [Try.f22]) ?_
  refine runR_seq ?_
  refine runR_take tab_ok fol 1 ?_
  try simp -implicitDefEqProofs only [go_sem, Nat.reduceAdd, eGPolicy]
  refine runR_seq ?_
  refine runR_seq ?_
  obtain ⟨e_, E1, H2⟩ := bind_inv H
  refine runR_join (α := { y : Bool // e_ = y }) (fun | ⟨t36, _⟩ => ⟨upd 1 (.v (.string t1)) (upd 2 (.v (.string t2)) (upd 3 (.v (.string t3)) (upd 4 (.pt 0 0) (upd 36 (.v (.bool t36)) noFr)))), upd 0 (some (.bx [.d (.sl (List.map eS t0.users)) true, .d (.sl (List.map eS t0.actions)) true, .d (.sl (List.map eS t0.resources)) true, .d (.sl (List.map eGGroup t0.groups)) true, .d (.sl (List.map eGStmt t0.stmts)) true, .d (.sl (List.map eGBound t0.bounds)) true])) noHp, 1⟩) ?_ ?_
  · refine runR_take tab_ok fol 1 ?_
    obtain ⟨t21, b3, H4⟩ := bind_inv E1
    try simp -implicitDefEqProofs only [go_sem, Nat.reduceEqDiff, Nat.reduceAdd, reduceCtorEq, ↓reduceIte]
    refine onCall_pure (by first | rfl | (simp -implicitDefEqProofs only [go_sem, Int.reduceToNat, Int.reduceLT, Int.reduceLE, Int.reduceBEq, Int.reduceBNe, Nat.reduceLT, Nat.reduceBEq, Int.reduceEq, Nat.reduceEqDiff, Nat.reduceAdd, Nat.reduceSub, Nat.reduceMul, Nat.reduceLeDiff, reduceCtorEq, ↓reduceIte, eGPolicy, eGGroup, eGBound, eGStmt, eGAsk]; done) | (simp -implicitDefEqProofs only [go_sem, Int.reduceToNat, Int.reduceLT, Int.reduceLE, Int.reduceBEq, Int.reduceBNe, Nat.reduceLT, Nat.reduceBEq, Int.reduceEq, Nat.reduceEqDiff, Nat.reduceAdd, Nat.reduceSub, Nat.reduceMul, Nat.reduceLeDiff, reduceCtorEq, ↓reduceIte, eGPolicy, eGGroup, eGBound, eGStmt, eGAsk]; rfl)) (ref22_In_ok b3) (by first | exact .inr rfl | exact .inl rfl) ?_
    try simp -implicitDefEqProofs only [go_sem, Nat.reduceAdd, ↓reduceIte]
    rcases ite_inv H4 with ⟨c5, H6⟩ | ⟨c5, H6⟩
    · obtain ⟨t27, b7, H8⟩ := bind_inv H6
      try simp -implicitDefEqProofs only [go_sem, Nat.reduceEqDiff, Nat.reduceAdd, reduceCtorEq, ↓reduceIte, c5]
      refine onCall_pure (by first | rfl | (simp -implicitDefEqProofs only [go_sem, Int.reduceToNat, Int.reduceLT, Int.reduceLE, Int.reduceBEq, Int.reduceBNe, Nat.reduceLT, Nat.reduceBEq, Int.reduceEq, Nat.reduceEqDiff, Nat.reduceAdd, Nat.reduceSub, Nat.reduceMul, Nat.reduceLeDiff, reduceCtorEq, ↓reduceIte, eGPolicy, eGGroup, eGBound, eGStmt, eGAsk, c5]; done) | (simp -implicitDefEqProofs only [go_sem, Int.reduceToNat, Int.reduceLT, Int.reduceLE, Int.reduceBEq, Int.reduceBNe, Nat.reduceLT, Nat.reduceBEq, Int.reduceEq, Nat.reduceEqDiff, Nat.reduceAdd, Nat.reduceSub, Nat.reduceMul, Nat.reduceLeDiff, reduceCtorEq, ↓reduceIte, eGPolicy, eGGroup, eGBound, eGStmt, eGAsk, c5]; rfl)) (ref22_In_ok b7) (by first | exact .inr rfl | exact .inl rfl) ?_
      try simp -implicitDefEqProofs only [go_sem, Nat.reduceEqDiff, Nat.reduceAdd, ↓reduceIte]
      rcases ite_inv H8 with ⟨c9, H10⟩ | ⟨c9, H10⟩
      · obtain ⟨t34, b11, H12⟩ := bind_inv H10
        try simp -implicitDefEqProofs only [go_sem, Nat.reduceEqDiff, Nat.reduceAdd, reduceCtorEq, ↓reduceIte, c9]
        refine onCall_pure (by first | rfl | (simp -implicitDefEqProofs only [go_sem, Int.reduceToNat, Int.reduceLT, Int.reduceLE, Int.reduceBEq, Int.reduceBNe, Nat.reduceLT, Nat.reduceBEq, Int.reduceEq, Nat.reduceEqDiff, Nat.reduceAdd, Nat.reduceSub, Nat.reduceMul, Nat.reduceLeDiff, reduceCtorEq, ↓reduceIte, eGPolicy, eGGroup, eGBound, eGStmt, eGAsk, c5, c9]; done) | (simp -implicitDefEqProofs only [go_sem, Int.reduceToNat, Int.reduceLT, Int.reduceLE, Int.reduceBEq, Int.reduceBNe, Nat.reduceLT, Nat.reduceBEq, Int.reduceEq, Nat.reduceEqDiff, Nat.reduceAdd, Nat.reduceSub, Nat.reduceMul, Nat.reduceLeDiff, reduceCtorEq, ↓reduceIte, eGPolicy, eGGroup, eGBound, eGStmt, eGAsk, c5, c9]; rfl)) (ref22_In_ok b11) (by first | exact .inr rfl | exact .inl rfl) ?_
        try simp -implicitDefEqProofs only [go_sem, Nat.reduceEqDiff, Nat.reduceAdd, ↓reduceIte]
        obtain rfl := Option.some.inj H12
        exact ⟨⟨(!t34), rfl⟩, ren_mk [(0, 0)] (by rfl) (rf_upd (by rfl) (rf_upd (by rfl) (rf_upd (by rfl) (rf_upd (by rfl) (rf_upd (by rfl) (rf_no _)))))) (rh_upd (rh_one (by rfl) (by rfl) (by rfl)) (rh_no _))⟩
      · try simp -implicitDefEqProofs only [go_sem, Nat.reduceEqDiff, Nat.reduceAdd, ↓reduceIte, c9]
        obtain rfl := Option.some.inj H10
        exact ⟨⟨true, rfl⟩, ren_mk [(0, 0)] (by rfl) (rf_upd (by rfl) (rf_upd (by rfl) (rf_upd (by rfl) (rf_upd (by rfl) (rf_upd (by rfl) (rf_no _)))))) (rh_upd (rh_one (by rfl) (by rfl) (by rfl)) (rh_no _))⟩
    · try simp -implicitDefEqProofs only [go_sem, Nat.reduceEqDiff, Nat.reduceAdd, ↓reduceIte, c5]
      obtain rfl := Option.some.inj H6
      exact ⟨⟨true, rfl⟩, ren_mk [(0, 0)] (by rfl) (rf_upd (by rfl) (rf_upd (by rfl) (rf_upd (by rfl) (rf_upd (by rfl) (rf_upd (by rfl) (rf_no _)))))) (rh_upd (rh_one (by rfl) (by rfl) (by rfl)) (rh_no _))⟩
  · rintro ⟨t36, he161⟩
    replace he161 := he161.symm
    subst he161
    try dsimp only at H2
    refine runR_take tab_ok fol 1 ?_
    try simp -implicitDefEqProofs only [go_sem, Nat.reduceEqDiff, ↓reduceIte]
    rcases ite_inv H2 with ⟨c13, H14⟩ | ⟨c13, H14⟩
    · try simp -implicitDefEqProofs only [go_sem, Nat.reduceAdd, c13]
      obtain rfl := Option.some.inj H14
      exact end_pure (by first | (simp -implicitDefEqProofs only [go_sem, ↓reduceIte, Try.f22] <;> rfl) | rfl) (by first | rfl | (simp -implicitDefEqProofs only [go_sem, Int.reduceToNat, Int.reduceLT, Int.reduceLE, Int.reduceBEq, Int.reduceBNe, Nat.reduceLT, Nat.reduceBEq, Int.reduceEq, Nat.reduceEqDiff, Nat.reduceAdd, Nat.reduceSub, Nat.reduceMul, Nat.reduceLeDiff, reduceCtorEq, ↓reduceIte, eGPolicy, eGGroup, eGBound, eGStmt, eGAsk, c13]; done) | (simp -implicitDefEqProofs only [go_sem, Int.reduceToNat, Int.reduceLT, Int.reduceLE, Int.reduceBEq, Int.reduceBNe, Nat.reduceLT, Nat.reduceBEq, Int.reduceEq, Nat.reduceEqDiff, Nat.reduceAdd, Nat.reduceSub, Nat.reduceMul, Nat.reduceLeDiff, reduceCtorEq, ↓reduceIte, eGPolicy, eGGroup, eGBound, eGStmt, eGAsk, c13]; rfl)) rfl (by intro h; first | rfl | cases h)
    · try simp -implicitDefEqProofs only [go_sem, c13]
      refine runR_seq ?_
      refine runR_take tab_ok fol 1 ?_
      try simp -implicitDefEqProofs only [go_sem, Nat.reduceAdd]
      refine runR_seq ?_
      refine runR_seq ?_
      refine runR_take tab_ok fol 1 ?_
      try simp -implicitDefEqProofs only [go_sem, Nat.reduceAdd]
      obtain ⟨e_2, E15, H16⟩ := bind_inv H14
      refine runR_join (α := { y : Bool // e_2 = .inl y }) (fun | ⟨t93, _⟩ => ⟨upd 1 (.v (.string t1)) (upd 2 (.v (.string t2)) (upd 3 (.v (.string t3)) (upd 4 (.pt 0 0) (upd 9 (.v (.bool t93)) noFr)))), upd 0 (some (.bx [.d (.sl (List.map eS t0.users)) true, .d (.sl (List.map eS t0.actions)) true, .d (.sl (List.map eS t0.resources)) true, .d (.sl (List.map eGGroup t0.groups)) true, .d (.sl (List.map eGStmt t0.stmts)) true, .d (.sl (List.map eGBound t0.bounds)) true])) noHp, 1⟩) ?_ ?_
      · refine runR_block ?_
        refine runR_loop (α := { q : Nat × (Bool × Int) // ref22_May_L1 n t0 t1 t2 t3 q.1 q.2 = some e_2 }) (fun | ⟨⟨c, ⟨t9, t10⟩⟩, _⟩ => ⟨upd 1 (.v (.string t1)) (upd 2 (.v (.string t2)) (upd 3 (.v (.string t3)) (upd 4 (.pt 0 0) (upd 9 (.v (.bool t9)) (upd 10 (.v (.int .i64 t10)) noFr))))), upd 0 (some (.bx [.d (.sl (List.map eS t0.users)) true, .d (.sl (List.map eS t0.actions)) true, .d (.sl (List.map eS t0.resources)) true, .d (.sl (List.map eGGroup t0.groups)) true, .d (.sl (List.map eGStmt t0.stmts)) true, .d (.sl (List.map eGBound t0.bounds)) true])) noHp, 1⟩) (fun q => q.1.1) ⟨(n, (false, 0)), E15⟩ ?_ ?_
        · exact ren_mk [(0, 0)] (by rfl) (rf_upd (by rfl) (rf_upd (by rfl) (rf_upd (by rfl) (rf_upd (by rfl) (rf_upd (by rfl) (rf_upd (by rfl) (rf_no _))))))) (rh_upd (rh_one (by rfl) (by rfl) (by rfl)) (rh_no _))
        · rintro ⟨⟨c, ⟨t9, t10⟩⟩, L17⟩
          rcases c with _ | c
          · exact nomatch (show none = some _ from L17)
          · unfold ref22_May_L1 at L17
            try dsimp only at L17
            refine runR_seq ?_
            refine runR_take tab_ok fol 1 ?_
            try simp -implicitDefEqProofs only [go_sem, Nat.reduceEqDiff, Nat.reduceAdd, reduceCtorEq, ↓reduceIte]
            rcases ite_inv L17 with ⟨c68, H69⟩ | ⟨c68, H69⟩
            · try simp -implicitDefEqProofs only [go_sem, c68]
              refine runR_seq ?_
              refine runR_block ?_
              refine runR_seq ?_
              refine runR_take tab_ok fol 1 ?_
              obtain ⟨x4, b70, H71⟩ := bind_inv H69
              obtain ⟨h72, h73⟩ := idx_inv b70
              try simp only [Int.reduceToNat, Int.toNat_natCast] at h73
              have h74 := map_at eGStmt h73
              try simp -implicitDefEqProofs only [go_sem, Nat.reduceEqDiff, Nat.reduceAdd, reduceCtorEq, ↓reduceIte, eGStmt, nat_of .i64 h72, h74]
              refine runR_seq ?_
              refine runR_take tab_ok fol 1 ?_
              obtain ⟨t522, b76, H77⟩ := bind_inv H71
              try simp -implicitDefEqProofs only [go_sem, Nat.reduceEqDiff, Nat.reduceAdd, reduceCtorEq, ↓reduceIte]
              refine onCall_pure (by first | rfl | (simp -implicitDefEqProofs only [go_sem, Int.reduceToNat, Int.reduceLT, Int.reduceLE, Int.reduceBEq, Int.reduceBNe, Nat.reduceLT, Nat.reduceBEq, Int.reduceEq, Nat.reduceEqDiff, Nat.reduceAdd, Nat.reduceSub, Nat.reduceMul, Nat.reduceLeDiff, reduceCtorEq, ↓reduceIte, eGPolicy, eGGroup, eGBound, eGStmt, eGAsk, c68, nat_of .i64 h72, h74]; done) | (simp -implicitDefEqProofs only [go_sem, Int.reduceToNat, Int.reduceLT, Int.reduceLE, Int.reduceBEq, Int.reduceBNe, Nat.reduceLT, Nat.reduceBEq, Int.reduceEq, Nat.reduceEqDiff, Nat.reduceAdd, Nat.reduceSub, Nat.reduceMul, Nat.reduceLeDiff, reduceCtorEq, ↓reduceIte, eGPolicy, eGGroup, eGBound, eGStmt, eGAsk, c68, nat_of .i64 h72, h74]; rfl)) (ref22_In_ok b76) (by first | exact .inr rfl | exact .inl rfl) ?_
              try simp -implicitDefEqProofs only [go_sem, Nat.reduceAdd, ↓reduceIte]
              refine runR_seq ?_
              refine runR_seq ?_
              refine runR_take tab_ok fol 1 ?_
              try simp -implicitDefEqProofs only [go_sem, Nat.reduceAdd]
              obtain ⟨e_4, E78, H79⟩ := bind_inv H77
              refine runR_join (α := { y : Bool // e_4 = y }) (fun | ⟨t126, _⟩ => ⟨upd 1 (.v (.string t1)) (upd 2 (.v (.string t2)) (upd 3 (.v (.string t3)) (upd 4 (.pt 0 0) (upd 9 (.v (.bool t9)) (upd 10 (.v (.int .i64 t10)) (upd 11 (.pt 1 0) (upd 12 (.v (.bool t126)) noFr))))))), upd 0 (some (.bx [.d (.sl (List.map eS t0.users)) true, .d (.sl (List.map eS t0.actions)) true, .d (.sl (List.map eS t0.resources)) true, .d (.sl (List.map eGGroup t0.groups)) true, .d (.sl (List.map eGStmt t0.stmts)) true, .d (.sl (List.map eGBound t0.bounds)) true])) (upd 1 (some (.bx [.v (.string x4.sid), .v (.bool x4.deny), .d (.sl (List.map eS x4.users)) true, .d (.sl (List.map eS x4.groups)) true, .d (.sl (List.map eS x4.actions)) true, .d (.sl (List.map eS x4.resources)) true])) noHp), 2⟩) ?_ ?_
              · refine runR_block ?_
                refine runR_loop (α := { q : Nat × (Bool × Int) // ref22_May_L2 n t0 t1 x4 q.1 q.2 = some e_4 }) (fun | ⟨⟨c, ⟨t124, t133⟩⟩, _⟩ => ⟨upd 1 (.v (.string t1)) (upd 2 (.v (.string t2)) (upd 3 (.v (.string t3)) (upd 4 (.pt 0 0) (upd 9 (.v (.bool t9)) (upd 10 (.v (.int .i64 t10)) (upd 11 (.pt 1 0) (upd 12 (.v (.bool t124)) (upd 13 (.v (.int .i64 t133)) noFr)))))))), upd 0 (some (.bx [.d (.sl (List.map eS t0.users)) true, .d (.sl (List.map eS t0.actions)) true, .d (.sl (List.map eS t0.resources)) true, .d (.sl (List.map eGGroup t0.groups)) true, .d (.sl (List.map eGStmt t0.stmts)) true, .d (.sl (List.map eGBound t0.bounds)) true])) (upd 1 (some (.bx [.v (.string x4.sid), .v (.bool x4.deny), .d (.sl (List.map eS x4.users)) true, .d (.sl (List.map eS x4.groups)) true, .d (.sl (List.map eS x4.actions)) true, .d (.sl (List.map eS x4.resources)) true])) noHp), 2⟩) (fun q => q.1.1) ⟨(n, (t522, 0)), E78⟩ ?_ ?_
                · exact ren_mk [(0, 0), (1, 11)] (by rfl) (rf_upd (by rfl) (rf_upd (by rfl) (rf_upd (by rfl) (rf_upd (by rfl) (rf_upd (by rfl) (rf_upd (by rfl) (rf_upd (by rfl) (rf_upd (by rfl) (rf_upd (by rfl) (rf_no _)))))))))) (rh_upd (rh_one (by rfl) (by rfl) (by rfl)) (rh_upd (rh_one (by rfl) (by rfl) (by rfl)) (rh_no _)))
                · rintro ⟨⟨c, ⟨t124, t133⟩⟩, L80⟩
                  rcases c with _ | c
                  · exact nomatch (show none = some _ from L80)
                  · unfold ref22_May_L2 at L80
                    try dsimp only at L80
                    refine runR_take tab_ok fol 1 ?_
                    try simp -implicitDefEqProofs only [go_sem, Nat.reduceEqDiff, Nat.reduceAdd, reduceCtorEq, ↓reduceIte]
                    rcases ite_inv L80 with ⟨c93, H94⟩ | ⟨c93, H94⟩
                    · try simp -implicitDefEqProofs only [go_sem, Nat.reduceEqDiff, Nat.reduceAdd, ↓reduceIte, c93]
                      rcases ite_inv H94 with ⟨c95, H96⟩ | ⟨c95, H96⟩
                      · try simp -implicitDefEqProofs only [go_sem, Nat.reduceEqDiff, Nat.reduceAdd, ↓reduceIte, c95]
                        refine Rd_endF (by rfl) ?_
                        try simp -implicitDefEqProofs only [go_sem, Nat.reduceEqDiff, Nat.reduceAdd, ↓reduceIte]
                        exact ⟨⟨(c, (true, (IntKind.i64.wrap (t133 + 1)))), H96⟩, ren_mk [(0, 0), (1, 1)] (by rfl) (rf_upd (by rfl) (rf_upd (by rfl) (rf_upd (by rfl) (rf_upd (by rfl) (rf_upd (by rfl) (rf_upd (by rfl) (rf_upd (by rfl) (rf_upd (by rfl) (rf_upd (by rfl) (rf_no _)))))))))) (rh_upd (rh_one (by rfl) (by rfl) (by rfl)) (rh_upd (rh_one (by rfl) (by rfl) (by rfl)) (rh_no _))), Nat.lt_succ_self _⟩
                      · obtain ⟨x6, b97, H98⟩ := bind_inv H96
                        obtain ⟨h99, h100⟩ := idx_inv b97
                        try simp only [Int.reduceToNat, Int.toNat_natCast] at h100
                        have h101 := map_at eS h100
                        obtain ⟨t694, b103, H104⟩ := bind_inv H98
                        try simp -implicitDefEqProofs only [go_sem, Nat.reduceEqDiff, Nat.reduceAdd, reduceCtorEq, ↓reduceIte, c95, nat_of .i64 h99, h101]
                        refine onCallD_pure (by first | rfl | (simp -implicitDefEqProofs only [go_sem, Int.reduceToNat, Int.reduceLT, Int.reduceLE, Int.reduceBEq, Int.reduceBNe, Nat.reduceLT, Nat.reduceBEq, Int.reduceEq, Nat.reduceEqDiff, Nat.reduceAdd, Nat.reduceSub, Nat.reduceMul, Nat.reduceLeDiff, reduceCtorEq, ↓reduceIte, eGPolicy, eGGroup, eGBound, eGStmt, eGAsk, c93, c95, nat_of .i64 h99, h101]; done) | (simp -implicitDefEqProofs only [go_sem, Int.reduceToNat, Int.reduceLT, Int.reduceLE, Int.reduceBEq, Int.reduceBNe, Nat.reduceLT, Nat.reduceBEq, Int.reduceEq, Nat.reduceEqDiff, Nat.reduceAdd, Nat.reduceSub, Nat.reduceMul, Nat.reduceLeDiff, reduceCtorEq, ↓reduceIte, eGPolicy, eGGroup, eGBound, eGStmt, eGAsk, c93, c95, nat_of .i64 h99, h101]; rfl)) (ref22_Inside_ok b103) (by first | exact .inr rfl | exact .inl rfl) ?_
                        try simp -implicitDefEqProofs only [go_sem, Nat.reduceEqDiff, Nat.reduceAdd, ↓reduceIte]
                        refine Rd_endF (by rfl) ?_
                        try simp -implicitDefEqProofs only [go_sem, Nat.reduceEqDiff, Nat.reduceAdd, ↓reduceIte]
                        exact ⟨⟨(c, (t694, (IntKind.i64.wrap (t133 + 1)))), H104⟩, ren_mk [(0, 0), (1, 1)] (by rfl) (rf_upd (by rfl) (rf_upd (by rfl) (rf_upd (by rfl) (rf_upd (by rfl) (rf_upd (by rfl) (rf_upd (by rfl) (rf_upd (by rfl) (rf_upd (by rfl) (rf_upd (by rfl) (rf_no _)))))))))) (rh_upd (rh_one (by rfl) (by rfl) (by rfl)) (rh_upd (rh_one (by rfl) (by rfl) (by rfl)) (rh_no _))), Nat.lt_succ_self _⟩
                    · try simp -implicitDefEqProofs only [go_sem, ↓reduceIte, c93]
                      obtain rfl := Option.some.inj H94
                      exact ⟨⟨t124, rfl⟩, ren_mk [(0, 0), (1, 1)] (by rfl) (rf_upd (by rfl) (rf_upd (by rfl) (rf_upd (by rfl) (rf_upd (by rfl) (rf_upd (by rfl) (rf_upd (by rfl) (rf_upd (by rfl) (rf_upd (by rfl) (rf_no _))))))))) (rh_upd (rh_one (by rfl) (by rfl) (by rfl)) (rh_upd (rh_one (by rfl) (by rfl) (by rfl)) (rh_no _)))⟩
              · rintro ⟨t126, he117⟩
                replace he117 := he117.symm
                subst he117
                try dsimp only at H79
                refine runR_take tab_ok fol 3 ?_
                try simp -implicitDefEqProofs only [go_sem, Nat.reduceEqDiff, Nat.reduceAdd, ↓reduceIte]
                rcases ite_inv H79 with ⟨c105, H106⟩ | ⟨c105, H106⟩
                · obtain ⟨t772, b107, H108⟩ := bind_inv H106
                  try simp -implicitDefEqProofs only [go_sem, Nat.reduceEqDiff, Nat.reduceAdd, reduceCtorEq, ↓reduceIte, c105]
                  refine onCall_pure (by first | rfl | (simp -implicitDefEqProofs only [go_sem, Int.reduceToNat, Int.reduceLT, Int.reduceLE, Int.reduceBEq, Int.reduceBNe, Nat.reduceLT, Nat.reduceBEq, Int.reduceEq, Nat.reduceEqDiff, Nat.reduceAdd, Nat.reduceSub, Nat.reduceMul, Nat.reduceLeDiff, reduceCtorEq, ↓reduceIte, eGPolicy, eGGroup, eGBound, eGStmt, eGAsk, c105]; done) | (simp -implicitDefEqProofs only [go_sem, Int.reduceToNat, Int.reduceLT, Int.reduceLE, Int.reduceBEq, Int.reduceBNe, Nat.reduceLT, Nat.reduceBEq, Int.reduceEq, Nat.reduceEqDiff, Nat.reduceAdd, Nat.reduceSub, Nat.reduceMul, Nat.reduceLeDiff, reduceCtorEq, ↓reduceIte, eGPolicy, eGGroup, eGBound, eGStmt, eGAsk, c105]; rfl)) (ref22_matches_ok b107) (by first | exact .inr rfl | exact .inl rfl) ?_
                  try simp -implicitDefEqProofs only [go_sem, Nat.reduceEqDiff, Nat.reduceAdd, ↓reduceIte]
                  rcases ite_inv H108 with ⟨c109, H110⟩ | ⟨c109, H110⟩
                  · obtain ⟨t842, b111, H112⟩ := bind_inv H110
                    try simp -implicitDefEqProofs only [go_sem, Nat.reduceEqDiff, Nat.reduceAdd, reduceCtorEq, ↓reduceIte, c109]
                    refine onCall_pure (by first | rfl | (simp -implicitDefEqProofs only [go_sem, Int.reduceToNat, Int.reduceLT, Int.reduceLE, Int.reduceBEq, Int.reduceBNe, Nat.reduceLT, Nat.reduceBEq, Int.reduceEq, Nat.reduceEqDiff, Nat.reduceAdd, Nat.reduceSub, Nat.reduceMul, Nat.reduceLeDiff, reduceCtorEq, ↓reduceIte, eGPolicy, eGGroup, eGBound, eGStmt, eGAsk, c105, c109]; done) | (simp -implicitDefEqProofs only [go_sem, Int.reduceToNat, Int.reduceLT, Int.reduceLE, Int.reduceBEq, Int.reduceBNe, Nat.reduceLT, Nat.reduceBEq, Int.reduceEq, Nat.reduceEqDiff, Nat.reduceAdd, Nat.reduceSub, Nat.reduceMul, Nat.reduceLeDiff, reduceCtorEq, ↓reduceIte, eGPolicy, eGGroup, eGBound, eGStmt, eGAsk, c105, c109]; rfl)) (ref22_matches_ok b111) (by first | exact .inr rfl | exact .inl rfl) ?_
                    try simp -implicitDefEqProofs only [go_sem, Nat.reduceEqDiff, Nat.reduceAdd, ↓reduceIte]
                    rcases ite_inv H112 with ⟨c113, H114⟩ | ⟨c113, H114⟩
                    · try simp -implicitDefEqProofs only [go_sem, Nat.reduceEqDiff, Nat.reduceAdd, reduceCtorEq, ↓reduceIte, c113]
                      rcases ite_inv H114 with ⟨c115, H116⟩ | ⟨c115, H116⟩
                      · try simp -implicitDefEqProofs only [go_sem, Nat.reduceAdd, c115]
                        obtain rfl := Option.some.inj H116
                        obtain rfl := Option.some.inj H16
                        exact end_pure (by first | (simp -implicitDefEqProofs only [go_sem, ↓reduceIte, Try.f22] <;> rfl) | rfl) (by first | rfl | (simp -implicitDefEqProofs only [go_sem, Int.reduceToNat, Int.reduceLT, Int.reduceLE, Int.reduceBEq, Int.reduceBNe, Nat.reduceLT, Nat.reduceBEq, Int.reduceEq, Nat.reduceEqDiff, Nat.reduceAdd, Nat.reduceSub, Nat.reduceMul, Nat.reduceLeDiff, reduceCtorEq, ↓reduceIte, eGPolicy, eGGroup, eGBound, eGStmt, eGAsk, c105, c109, c113, c115]; done) | (simp -implicitDefEqProofs only [go_sem, Int.reduceToNat, Int.reduceLT, Int.reduceLE, Int.reduceBEq, Int.reduceBNe, Nat.reduceLT, Nat.reduceBEq, Int.reduceEq, Nat.reduceEqDiff, Nat.reduceAdd, Nat.reduceSub, Nat.reduceMul, Nat.reduceLeDiff, reduceCtorEq, ↓reduceIte, eGPolicy, eGGroup, eGBound, eGStmt, eGAsk, c105, c109, c113, c115]; rfl)) rfl (by intro h; first | rfl | cases h)
                      · try simp -implicitDefEqProofs only [go_sem, Nat.reduceEqDiff, Nat.reduceAdd, ↓reduceIte, c115]
                        exact ⟨⟨(c, (true, (IntKind.i64.wrap (t10 + 1)))), H116⟩, ren_mk [(0, 0)] (by rfl) (rf_upd (by rfl) (rf_upd (by rfl) (rf_upd (by rfl) (rf_upd (by rfl) (rf_upd (by rfl) (rf_upd (by rfl) (rf_no _))))))) (rh_upd (rh_one (by rfl) (by rfl) (by rfl)) (rh_no _)), Nat.lt_succ_self _⟩
                    · try simp -implicitDefEqProofs only [go_sem, Nat.reduceEqDiff, Nat.reduceAdd, ↓reduceIte, c113]
                      exact ⟨⟨(c, (t9, (IntKind.i64.wrap (t10 + 1)))), H114⟩, ren_mk [(0, 0)] (by rfl) (rf_upd (by rfl) (rf_upd (by rfl) (rf_upd (by rfl) (rf_upd (by rfl) (rf_upd (by rfl) (rf_upd (by rfl) (rf_no _))))))) (rh_upd (rh_one (by rfl) (by rfl) (by rfl)) (rh_no _)), Nat.lt_succ_self _⟩
                  · try simp -implicitDefEqProofs only [go_sem, Nat.reduceEqDiff, Nat.reduceAdd, ↓reduceIte, c109]
                    exact ⟨⟨(c, (t9, (IntKind.i64.wrap (t10 + 1)))), H110⟩, ren_mk [(0, 0)] (by rfl) (rf_upd (by rfl) (rf_upd (by rfl) (rf_upd (by rfl) (rf_upd (by rfl) (rf_upd (by rfl) (rf_upd (by rfl) (rf_no _))))))) (rh_upd (rh_one (by rfl) (by rfl) (by rfl)) (rh_no _)), Nat.lt_succ_self _⟩
                · try simp -implicitDefEqProofs only [go_sem, Nat.reduceEqDiff, Nat.reduceAdd, ↓reduceIte, c105]
                  exact ⟨⟨(c, (t9, (IntKind.i64.wrap (t10 + 1)))), H106⟩, ren_mk [(0, 0)] (by rfl) (rf_upd (by rfl) (rf_upd (by rfl) (rf_upd (by rfl) (rf_upd (by rfl) (rf_upd (by rfl) (rf_upd (by rfl) (rf_no _))))))) (rh_upd (rh_one (by rfl) (by rfl) (by rfl)) (rh_no _)), Nat.lt_succ_self _⟩
            · try simp -implicitDefEqProofs only [go_sem, ↓reduceIte, c68]
              obtain rfl := Option.some.inj H69
              exact ⟨⟨t9, rfl⟩, ren_mk [(0, 0)] (by rfl) (rf_upd (by rfl) (rf_upd (by rfl) (rf_upd (by rfl) (rf_upd (by rfl) (rf_upd (by rfl) (rf_no _)))))) (rh_upd (rh_one (by rfl) (by rfl) (by rfl)) (rh_no _))⟩
      · rintro ⟨t93, he160⟩
        replace he160 := he160.symm
        subst he160
        try dsimp only at H16
        refine runR_seq ?_
        refine runR_take tab_ok fol 1 ?_
        try simp -implicitDefEqProofs only [go_sem, Nat.reduceAdd]
        refine runR_seq ?_
        refine runR_seq ?_
        refine runR_take tab_ok fol 1 ?_
        try simp -implicitDefEqProofs only [go_sem, Nat.reduceAdd]
        obtain ⟨e_5, E118, H119⟩ := bind_inv H16
        refine runR_join (α := { y : Bool × Bool // e_5 = y }) (fun | ⟨⟨t143, t153⟩, _⟩ => ⟨upd 9 (.v (.bool t93)) (upd 14 (.v (.bool t143)) (upd 15 (.v (.bool t153)) noFr)), noHp, 0⟩) ?_ ?_
        · refine runR_block ?_
          refine runR_loop (α := { q : Nat × (Bool × Bool × Int) // ref22_May_L3 n t0 t1 t2 t3 q.1 q.2 = some e_5 }) (fun | ⟨⟨c, ⟨t14, t15, t16⟩⟩, _⟩ => ⟨upd 1 (.v (.string t1)) (upd 2 (.v (.string t2)) (upd 3 (.v (.string t3)) (upd 4 (.pt 0 0) (upd 9 (.v (.bool t93)) (upd 14 (.v (.bool t14)) (upd 15 (.v (.bool t15)) (upd 16 (.v (.int .i64 t16)) noFr))))))), upd 0 (some (.bx [.d (.sl (List.map eS t0.users)) true, .d (.sl (List.map eS t0.actions)) true, .d (.sl (List.map eS t0.resources)) true, .d (.sl (List.map eGGroup t0.groups)) true, .d (.sl (List.map eGStmt t0.stmts)) true, .d (.sl (List.map eGBound t0.bounds)) true])) noHp, 1⟩) (fun q => q.1.1) ⟨(n, (false, false, 0)), E118⟩ ?_ ?_
          · exact ren_mk [(0, 0)] (by rfl) (rf_upd (by rfl) (rf_upd (by rfl) (rf_upd (by rfl) (rf_upd (by rfl) (rf_upd (by rfl) (rf_upd (by rfl) (rf_upd (by rfl) (rf_upd (by rfl) (rf_no _))))))))) (rh_upd (rh_one (by rfl) (by rfl) (by rfl)) (rh_no _))
          · rintro ⟨⟨c, ⟨t14, t15, t16⟩⟩, L120⟩
            rcases c with _ | c
            · exact nomatch (show none = some _ from L120)
            · unfold ref22_May_L3 at L120
              try dsimp only at L120
              refine runR_take tab_ok fol 1 ?_
              try simp -implicitDefEqProofs only [go_sem, Nat.reduceEqDiff, Nat.reduceAdd, reduceCtorEq, ↓reduceIte]
              rcases ite_inv L120 with ⟨c137, H138⟩ | ⟨c137, H138⟩
              · obtain ⟨x8, b139, H140⟩ := bind_inv H138
                obtain ⟨h141, h142⟩ := idx_inv b139
                try simp only [Int.reduceToNat, Int.toNat_natCast] at h142
                have h143 := map_at eGBound h142
                try simp -implicitDefEqProofs only [go_sem, Nat.reduceEqDiff, Nat.reduceAdd, reduceCtorEq, ↓reduceIte, eGBound, c137, nat_of .i64 h141, h143]
                rcases ite_inv H140 with ⟨c145, H146⟩ | ⟨c145, H146⟩
                · try simp -implicitDefEqProofs only [go_sem, Nat.reduceEqDiff, Nat.reduceAdd, ↓reduceIte, c145]
                  rcases ite_inv H146 with ⟨c147, H148⟩ | ⟨c147, H148⟩
                  · try simp -implicitDefEqProofs only [go_sem, Nat.reduceEqDiff, Nat.reduceAdd, ↓reduceIte, c147]
                    exact ⟨⟨(c, (true, true, (IntKind.i64.wrap (t16 + 1)))), H148⟩, ren_mk [(0, 0)] (by rfl) (rf_upd (by rfl) (rf_upd (by rfl) (rf_upd (by rfl) (rf_upd (by rfl) (rf_upd (by rfl) (rf_upd (by rfl) (rf_upd (by rfl) (rf_upd (by rfl) (rf_no _))))))))) (rh_upd (rh_one (by rfl) (by rfl) (by rfl)) (rh_no _)), Nat.lt_succ_self _⟩
                  · obtain ⟨t1102, b149, H150⟩ := bind_inv H148
                    try simp -implicitDefEqProofs only [go_sem, Nat.reduceEqDiff, Nat.reduceAdd, reduceCtorEq, ↓reduceIte, c147]
                    refine onCall_pure (by first | rfl | (simp -implicitDefEqProofs only [go_sem, Int.reduceToNat, Int.reduceLT, Int.reduceLE, Int.reduceBEq, Int.reduceBNe, Nat.reduceLT, Nat.reduceBEq, Int.reduceEq, Nat.reduceEqDiff, Nat.reduceAdd, Nat.reduceSub, Nat.reduceMul, Nat.reduceLeDiff, reduceCtorEq, ↓reduceIte, eGPolicy, eGGroup, eGBound, eGStmt, eGAsk, c137, nat_of .i64 h141, h143, c145, c147]; done) | (simp -implicitDefEqProofs only [go_sem, Int.reduceToNat, Int.reduceLT, Int.reduceLE, Int.reduceBEq, Int.reduceBNe, Nat.reduceLT, Nat.reduceBEq, Int.reduceEq, Nat.reduceEqDiff, Nat.reduceAdd, Nat.reduceSub, Nat.reduceMul, Nat.reduceLeDiff, reduceCtorEq, ↓reduceIte, eGPolicy, eGGroup, eGBound, eGStmt, eGAsk, c137, nat_of .i64 h141, h143, c145, c147]; rfl)) (ref22_matches_ok b149) (by first | exact .inr rfl | exact .inl rfl) ?_
                    try simp -implicitDefEqProofs only [go_sem, Nat.reduceEqDiff, Nat.reduceAdd, ↓reduceIte]
                    rcases ite_inv H150 with ⟨c151, H152⟩ | ⟨c151, H152⟩
                    · obtain ⟨t1152, b153, H154⟩ := bind_inv H152
                      try simp -implicitDefEqProofs only [go_sem, Nat.reduceEqDiff, Nat.reduceAdd, reduceCtorEq, ↓reduceIte, c151]
                      refine onCall_pure (by first | rfl | (simp -implicitDefEqProofs only [go_sem, Int.reduceToNat, Int.reduceLT, Int.reduceLE, Int.reduceBEq, Int.reduceBNe, Nat.reduceLT, Nat.reduceBEq, Int.reduceEq, Nat.reduceEqDiff, Nat.reduceAdd, Nat.reduceSub, Nat.reduceMul, Nat.reduceLeDiff, reduceCtorEq, ↓reduceIte, eGPolicy, eGGroup, eGBound, eGStmt, eGAsk, c137, nat_of .i64 h141, h143, c145, c147, c151]; done) | (simp -implicitDefEqProofs only [go_sem, Int.reduceToNat, Int.reduceLT, Int.reduceLE, Int.reduceBEq, Int.reduceBNe, Nat.reduceLT, Nat.reduceBEq, Int.reduceEq, Nat.reduceEqDiff, Nat.reduceAdd, Nat.reduceSub, Nat.reduceMul, Nat.reduceLeDiff, reduceCtorEq, ↓reduceIte, eGPolicy, eGGroup, eGBound, eGStmt, eGAsk, c137, nat_of .i64 h141, h143, c145, c147, c151]; rfl)) (ref22_matches_ok b153) (by first | exact .inr rfl | exact .inl rfl) ?_
                      try simp -implicitDefEqProofs only [go_sem, Nat.reduceEqDiff, Nat.reduceAdd, ↓reduceIte]
                      exact ⟨⟨(c, (true, t1152, (IntKind.i64.wrap (t16 + 1)))), H154⟩, ren_mk [(0, 0)] (by rfl) (rf_upd (by rfl) (rf_upd (by rfl) (rf_upd (by rfl) (rf_upd (by rfl) (rf_upd (by rfl) (rf_upd (by rfl) (rf_upd (by rfl) (rf_upd (by rfl) (rf_no _))))))))) (rh_upd (rh_one (by rfl) (by rfl) (by rfl)) (rh_no _)), Nat.lt_succ_self _⟩
                    · try simp -implicitDefEqProofs only [go_sem, Nat.reduceEqDiff, Nat.reduceAdd, ↓reduceIte, c151]
                      exact ⟨⟨(c, (true, false, (IntKind.i64.wrap (t16 + 1)))), H152⟩, ren_mk [(0, 0)] (by rfl) (rf_upd (by rfl) (rf_upd (by rfl) (rf_upd (by rfl) (rf_upd (by rfl) (rf_upd (by rfl) (rf_upd (by rfl) (rf_upd (by rfl) (rf_upd (by rfl) (rf_no _))))))))) (rh_upd (rh_one (by rfl) (by rfl) (by rfl)) (rh_no _)), Nat.lt_succ_self _⟩
                · try simp -implicitDefEqProofs only [go_sem, Nat.reduceEqDiff, Nat.reduceAdd, ↓reduceIte, c145]
                  exact ⟨⟨(c, (t14, t15, (IntKind.i64.wrap (t16 + 1)))), H146⟩, ren_mk [(0, 0)] (by rfl) (rf_upd (by rfl) (rf_upd (by rfl) (rf_upd (by rfl) (rf_upd (by rfl) (rf_upd (by rfl) (rf_upd (by rfl) (rf_upd (by rfl) (rf_upd (by rfl) (rf_no _))))))))) (rh_upd (rh_one (by rfl) (by rfl) (by rfl)) (rh_no _)), Nat.lt_succ_self _⟩
              · try simp -implicitDefEqProofs only [go_sem, ↓reduceIte, c137]
                obtain rfl := Option.some.inj H138
                exact ⟨⟨(t14, t15), rfl⟩, ren_mk [] (by rfl) (rf_upd (by rfl) (rf_upd (by rfl) (rf_upd (by rfl) (rf_no _)))) (rh_no _)⟩
        · rintro ⟨⟨t143, t153⟩, he159⟩
          replace he159 := he159.symm
          subst he159
          try dsimp only at H119
          refine runR_take tab_ok fol 1 ?_
          try simp -implicitDefEqProofs only [go_sem, Nat.reduceAdd, ↓reduceIte]
          rcases ite_inv H119 with ⟨c155, H156⟩ | ⟨c155, H156⟩
          · try simp -implicitDefEqProofs only [go_sem, Nat.reduceEqDiff, Nat.reduceAdd, ↓reduceIte, c155]
            rcases ite_inv H156 with ⟨c157, H158⟩ | ⟨c157, H158⟩
            · try simp -implicitDefEqProofs only [go_sem, Nat.reduceEqDiff, Nat.reduceAdd, ↓reduceIte, c157]
              obtain rfl := Option.some.inj H158
              exact end_pure (by first | (simp -implicitDefEqProofs only [go_sem, ↓reduceIte, Try.f22] <;> rfl) | rfl) (by first | rfl | (simp -implicitDefEqProofs only [go_sem, Int.reduceToNat, Int.reduceLT, Int.reduceLE, Int.reduceBEq, Int.reduceBNe, Nat.reduceLT, Nat.reduceBEq, Int.reduceEq, Nat.reduceEqDiff, Nat.reduceAdd, Nat.reduceSub, Nat.reduceMul, Nat.reduceLeDiff, reduceCtorEq, ↓reduceIte, eGPolicy, eGGroup, eGBound, eGStmt, eGAsk, c155, c157]; done) | (simp -implicitDefEqProofs only [go_sem, Int.reduceToNat, Int.reduceLT, Int.reduceLE, Int.reduceBEq, Int.reduceBNe, Nat.reduceLT, Nat.reduceBEq, Int.reduceEq, Nat.reduceEqDiff, Nat.reduceAdd, Nat.reduceSub, Nat.reduceMul, Nat.reduceLeDiff, reduceCtorEq, ↓reduceIte, eGPolicy, eGGroup, eGBound, eGStmt, eGAsk, c155, c157]; rfl)) rfl (by intro h; first | rfl | cases h)
            · try simp -implicitDefEqProofs only [go_sem, Nat.reduceEqDiff, Nat.reduceAdd, ↓reduceIte, c157]
              obtain rfl := Option.some.inj H158
              exact end_pure (by first | (simp -implicitDefEqProofs only [go_sem, ↓reduceIte, Try.f22] <;> rfl) | rfl) (by first | rfl | (simp -implicitDefEqProofs only [go_sem, Int.reduceToNat, Int.reduceLT, Int.reduceLE, Int.reduceBEq, Int.reduceBNe, Nat.reduceLT, Nat.reduceBEq, Int.reduceEq, Nat.reduceEqDiff, Nat.reduceAdd, Nat.reduceSub, Nat.reduceMul, Nat.reduceLeDiff, reduceCtorEq, ↓reduceIte, eGPolicy, eGGroup, eGBound, eGStmt, eGAsk, c155, c157]; done) | (simp -implicitDefEqProofs only [go_sem, Int.reduceToNat, Int.reduceLT, Int.reduceLE, Int.reduceBEq, Int.reduceBNe, Nat.reduceLT, Nat.reduceBEq, Int.reduceEq, Nat.reduceEqDiff, Nat.reduceAdd, Nat.reduceSub, Nat.reduceMul, Nat.reduceLeDiff, reduceCtorEq, ↓reduceIte, eGPolicy, eGGroup, eGBound, eGStmt, eGAsk, c155, c157]; rfl)) rfl (by intro h; first | rfl | cases h)
          · try simp -implicitDefEqProofs only [go_sem, Nat.reduceEqDiff, Nat.reduceAdd, ↓reduceIte, c155]
            obtain rfl := Option.some.inj H156
            exact end_pure (by first | (simp -implicitDefEqProofs only [go_sem, ↓reduceIte, Try.f22] <;> rfl) | rfl) (by first | rfl | (simp -implicitDefEqProofs only [go_sem, Int.reduceToNat, Int.reduceLT, Int.reduceLE, Int.reduceBEq, Int.reduceBNe, Nat.reduceLT, Nat.reduceBEq, Int.reduceEq, Nat.reduceEqDiff, Nat.reduceAdd, Nat.reduceSub, Nat.reduceMul, Nat.reduceLeDiff, reduceCtorEq, ↓reduceIte, eGPolicy, eGGroup, eGBound, eGStmt, eGAsk, c155]; done) | (simp -implicitDefEqProofs only [go_sem, Int.reduceToNat, Int.reduceLT, Int.reduceLE, Int.reduceBEq, Int.reduceBNe, Nat.reduceLT, Nat.reduceBEq, Int.reduceEq, Nat.reduceEqDiff, Nat.reduceAdd, Nat.reduceSub, Nat.reduceMul, Nat.reduceLeDiff, reduceCtorEq, ↓reduceIte, eGPolicy, eGGroup, eGBound, eGStmt, eGAsk, c155]; rfl)) rfl (by intro h; first | rfl | cases h)
def law24_GlobTells_L1 (n : Nat) (t2 : List ByteArray) : Nat → Int → Option ((Unit) ⊕ Bool)
  | 0, _ => none
  | c + 1, t17 =>
    (if (decide (t17 < (t2.length : Int))) then
      (idx t2 t17).bind fun x2 =>
      (if (decide (60 < (x2.size : Int))) then
        (law24_awake n).bind fun t682 =>
        some (.inr t682)
      else
        law24_GlobTells_L1 n t2 c (IntKind.i64.wrap (t17 + 1)))
    else
      some (.inl ()))
def law24_GlobTells_L1_f (n : Nat) (_ : List ByteArray) (st : Unit) (x2 : ByteArray) (k : Unit → Option ((Unit) ⊕ Bool)) : Option ((Unit) ⊕ Bool) :=
  match st with
  | _ =>
    (if (decide (60 < (x2.size : Int))) then
      (law24_awake n).bind fun t682 =>
      some (.inr t682)
    else
      k ())
def law24_GlobTells_L1_e (_ : Nat) (_ : List ByteArray) (st : Unit) : Option ((Unit) ⊕ Bool) :=
  match st with
  | _ => some (.inl ())
theorem law24_GlobTells_L1_list (n : Nat) (t2 : List ByteArray) (hx : t2.length < 4611686018427387904) (c : Nat) (st : Unit) (ix : Nat) (hi : ix ≤ t2.length) (hc : t2.length - ix < c) : law24_GlobTells_L1 n t2 c (match st, (ix : Int) with | _, ix => ix) = foldK (law24_GlobTells_L1_f n t2) (law24_GlobTells_L1_e n t2) (t2.drop ix) st :=
  loop_list (fun c st ix => law24_GlobTells_L1 n t2 c (match st, ix with | _, ix => ix)) t2 (law24_GlobTells_L1_f n t2) (law24_GlobTells_L1_e n t2) (fun _ _ _ => rfl) hx c st ix hi hc

def law24_GlobTells_L2 (n : Nat) (t3 : List ByteArray) : Nat → Int → Option ((Unit) ⊕ Bool)
  | 0, _ => none
  | c + 1, t18 =>
    (if (decide (t18 < (t3.length : Int))) then
      (idx t3 t18).bind fun x4 =>
      (if (decide (60 < (x4.size : Int))) then
        (law24_awake n).bind fun t812 =>
        some (.inr t812)
      else
        law24_GlobTells_L2 n t3 c (IntKind.i64.wrap (t18 + 1)))
    else
      some (.inl ()))
def law24_GlobTells_L2_f (n : Nat) (_ : List ByteArray) (st : Unit) (x4 : ByteArray) (k : Unit → Option ((Unit) ⊕ Bool)) : Option ((Unit) ⊕ Bool) :=
  match st with
  | _ =>
    (if (decide (60 < (x4.size : Int))) then
      (law24_awake n).bind fun t812 =>
      some (.inr t812)
    else
      k ())
def law24_GlobTells_L2_e (_ : Nat) (_ : List ByteArray) (st : Unit) : Option ((Unit) ⊕ Bool) :=
  match st with
  | _ => some (.inl ())
theorem law24_GlobTells_L2_list (n : Nat) (t3 : List ByteArray) (hx : t3.length < 4611686018427387904) (c : Nat) (st : Unit) (ix : Nat) (hi : ix ≤ t3.length) (hc : t3.length - ix < c) : law24_GlobTells_L2 n t3 c (match st, (ix : Int) with | _, ix => ix) = foldK (law24_GlobTells_L2_f n t3) (law24_GlobTells_L2_e n t3) (t3.drop ix) st :=
  loop_list (fun c st ix => law24_GlobTells_L2 n t3 c (match st, ix with | _, ix => ix)) t3 (law24_GlobTells_L2_f n t3) (law24_GlobTells_L2_e n t3) (fun _ _ _ => rfl) hx c st ix hi hc

def law24_GlobTells_L3 (n : Nat) (t5 : List Int) (t7 : Int) : Nat → (List ByteArray × List ByteArray × List ByteArray × List GGroup × List GStmt × List GBound × Bool × ByteArray × ByteArray × ByteArray × Int) → Option ((List ByteArray × List ByteArray × List ByteArray × List GGroup × List GStmt × List GBound × Bool × ByteArray × ByteArray × ByteArray) ⊕ Bool)
  | 0, _ => none
  | c + 1, (t120, t121, t122, t123, t124, t125, t140, t141, t142, t143, t19) =>
    (if (decide (t19 < 2)) then
      (
        (glob_May n (⟨t120, t121, t122, t123, t124, t125⟩ : GPolicy) t141 t142 t143).bind fun t1102 =>
        (ref22_May n (⟨t120, t121, t122, t123, t124, t125⟩ : GPolicy) t141 t142 t143).bind fun t1182 =>
        (if (t1102 == t1182) then
          (glob_In n (⟨t120, t121, t122, t123, t124, t125⟩ : GPolicy) t141 t142).bind fun t1262 =>
          (ref22_Inside n (⟨t120, t121, t122, t123, t124, t125⟩ : GPolicy) t141 t142).bind fun t1322 =>
          some (!(t1262 == t1322))
        else
          some true) : Option (Bool)).bind fun t1342 =>
      (if t1342 then
        some (.inr false)
      else
        (law23_Made n t5).bind fun t1362 =>
        (law24_Ask n t7).bind fun t1382 =>
        law24_GlobTells_L3 n t5 t7 c (t1362.users, t1362.actions, t1362.resources, t1362.groups, t1362.stmts, t1362.bounds, t1382.session, t1382.who, t1382.act, t1382.obj, (IntKind.i64.wrap (t19 + 1))))
    else
      some (.inl (t120, t121, t122, t123, t124, t125, t140, t141, t142, t143)))

def law24_GlobTells (n : Nat) (t0 : ByteArray) (t1 : ByteArray) (t2 : List ByteArray) (t3 : List ByteArray) (t4 : GPolicy) (t5 : List Int) (t6 : GAsk) (t7 : Int) : Option Bool :=
  (
    (if (decide (200 < (IntKind.i64.wrap ((t0.size : Int) + (t1.size : Int))))) then
      some true
    else
      (if (decide (20 < (t2.length : Int))) then
        some true
      else
        (if (decide (20 < (t3.length : Int))) then
          some true
        else
          (law23_Small n t4).bind fun t38 =>
          (if t38 then
            some (decide (300 < (IntKind.i64.wrap ((IntKind.i64.wrap ((t6.who.size : Int) + (t6.act.size : Int))) + (t6.obj.size : Int)))))
          else
            some true)))) : Option (Bool)).bind fun t54 =>
  (if t54 then
    (law24_awake n).bind fun t55 =>
    some t55
  else
    (
      law24_GlobTells_L1 n t2 n 0 : Option ((Unit) ⊕ Bool)).bind fun
      | .inl _ =>
        (
          law24_GlobTells_L2 n t3 n 0 : Option ((Unit) ⊕ Bool)).bind fun
          | .inl _ =>
            (
              (glob_Match n t0 t1).bind fun t84 =>
              (ref22_Match n t0 t1).bind fun t87 =>
              (if (t84 == t87) then
                (glob_Over n t2 t3).bind fun t92 =>
                (ref22_Over n t2 t3).bind fun t95 =>
                (ref1_SameTexts n t92 t95).bind fun t96 =>
                some (!t96)
              else
                some true) : Option (Bool)).bind fun t98 =>
            (if t98 then
              some false
            else
              (
                law24_GlobTells_L3 n t5 t7 n (t4.users, t4.actions, t4.resources, t4.groups, t4.stmts, t4.bounds, t6.session, t6.who, t6.act, t6.obj, 0) : Option ((List ByteArray × List ByteArray × List ByteArray × List GGroup × List GStmt × List GBound × Bool × ByteArray × ByteArray × ByteArray) ⊕ Bool)).bind fun
                | .inl (t1203, t1213, t1223, t1233, t1243, t1253, _, t1413, _, _) =>
                  (glob_In n (⟨t1203, t1213, t1223, t1233, t1243, t1253⟩ : GPolicy) t1413 ({ data := #[103] })).bind fun t1424 =>
                  (ref22_Inside n (⟨t1203, t1213, t1223, t1233, t1243, t1253⟩ : GPolicy) t1413 ({ data := #[103] })).bind fun t146 =>
                  (if (t1424 == t146) then
                    (law24_awake n).bind fun t149 =>
                    some t149
                  else
                    some false)
                | .inr r => some r)
          | .inr r => some r
      | .inr r => some r)
set_option maxHeartbeats 8000000 in
theorem law24_GlobTells_ok {n : Nat} {t0 : ByteArray} {t1 : ByteArray} {t2 : List ByteArray} {t3 : List ByteArray} {t4 : GPolicy} {t5 : List Int} {t6 : GAsk} {t7 : Int} {r : Bool} (H : law24_GlobTells n t0 t1 t2 t3 t4 t5 t6 t7 = some r) : PureOK Try.prog 4 [D.v (.string t0), D.v (.string t1), D.sl (List.map eS t2), D.sl (List.map eS t3), D.ag (eGPolicy t4), D.sl (List.map eI t5), D.ag (eGAsk t6), D.v (.int .i64 t7)] (D.v (.bool r)) true := by
  unfold law24_GlobTells at H
  refine pure_runR (tab := tab) tab_ok Try.func4 rfl (by kernel_rfl) (by kernel_rfl) (by simp [Try.f4]) ?_
  refine runR_seq ?_
  refine runR_take tab_ok fol 1 ?_
  try simp -implicitDefEqProofs only [go_sem, Nat.reduceEqDiff, Nat.reduceAdd, ↓reduceIte, eGPolicy, eGAsk]
  refine runR_seq ?_
  refine runR_seq ?_
  obtain ⟨e_, E1, H2⟩ := bind_inv H
  refine runR_join (α := { y : Bool // e_ = y }) (fun | ⟨t54, _⟩ => ⟨upd 0 (.v (.string t0)) (upd 1 (.v (.string t1)) (upd 2 (.d (.sl (List.map eS t2)) true) (upd 3 (.d (.sl (List.map eS t3)) true) (upd 5 (.d (.sl (List.map eI t5)) true) (upd 7 (.v (.int .i64 t7)) (upd 12 (.pt 0 0) (upd 14 (.pt 1 0) (upd 54 (.v (.bool t54)) noFr)))))))), upd 0 (some (.bx [.d (.sl (List.map eS t4.users)) true, .d (.sl (List.map eS t4.actions)) true, .d (.sl (List.map eS t4.resources)) true, .d (.sl (List.map eGGroup t4.groups)) true, .d (.sl (List.map eGStmt t4.stmts)) true, .d (.sl (List.map eGBound t4.bounds)) true])) (upd 1 (some (.bx [.v (.bool t6.session), .v (.string t6.who), .v (.string t6.act), .v (.string t6.obj)])) noHp), 2⟩) ?_ ?_
  · refine runR_take tab_ok fol 1 ?_
    try simp -implicitDefEqProofs only [go_sem, Nat.reduceEqDiff, Nat.reduceAdd, reduceCtorEq, ↓reduceIte]
    rcases ite_inv E1 with ⟨c3, H4⟩ | ⟨c3, H4⟩
    · try simp -implicitDefEqProofs only [go_sem, Nat.reduceEqDiff, Nat.reduceAdd, ↓reduceIte, c3]
      obtain rfl := Option.some.inj H4
      exact ⟨⟨true, rfl⟩, ren_mk [(0, 0), (1, 1)] (by rfl) (rf_upd (by rfl) (rf_upd (by rfl) (rf_upd (by rfl) (rf_upd (by rfl) (rf_upd (by rfl) (rf_upd (by rfl) (rf_upd (by rfl) (rf_upd (by rfl) (rf_upd (by rfl) (rf_no _)))))))))) (rh_upd (rh_one (by rfl) (by rfl) (by rfl)) (rh_upd (rh_one (by rfl) (by rfl) (by rfl)) (rh_no _)))⟩
    · try simp -implicitDefEqProofs only [go_sem, Nat.reduceEqDiff, Nat.reduceAdd, ↓reduceIte, c3]
      rcases ite_inv H4 with ⟨c5, H6⟩ | ⟨c5, H6⟩
      · try simp -implicitDefEqProofs only [go_sem, Nat.reduceEqDiff, Nat.reduceAdd, ↓reduceIte, c5]
        obtain rfl := Option.some.inj H6
        exact ⟨⟨true, rfl⟩, ren_mk [(0, 0), (1, 1)] (by rfl) (rf_upd (by rfl) (rf_upd (by rfl) (rf_upd (by rfl) (rf_upd (by rfl) (rf_upd (by rfl) (rf_upd (by rfl) (rf_upd (by rfl) (rf_upd (by rfl) (rf_upd (by rfl) (rf_no _)))))))))) (rh_upd (rh_one (by rfl) (by rfl) (by rfl)) (rh_upd (rh_one (by rfl) (by rfl) (by rfl)) (rh_no _)))⟩
      · try simp -implicitDefEqProofs only [go_sem, Nat.reduceEqDiff, Nat.reduceAdd, ↓reduceIte, c5]
        rcases ite_inv H6 with ⟨c7, H8⟩ | ⟨c7, H8⟩
        · try simp -implicitDefEqProofs only [go_sem, Nat.reduceEqDiff, Nat.reduceAdd, ↓reduceIte, c7]
          obtain rfl := Option.some.inj H8
          exact ⟨⟨true, rfl⟩, ren_mk [(0, 0), (1, 1)] (by rfl) (rf_upd (by rfl) (rf_upd (by rfl) (rf_upd (by rfl) (rf_upd (by rfl) (rf_upd (by rfl) (rf_upd (by rfl) (rf_upd (by rfl) (rf_upd (by rfl) (rf_upd (by rfl) (rf_no _)))))))))) (rh_upd (rh_one (by rfl) (by rfl) (by rfl)) (rh_upd (rh_one (by rfl) (by rfl) (by rfl)) (rh_no _)))⟩
        · obtain ⟨t38, b9, H10⟩ := bind_inv H8
          try simp -implicitDefEqProofs only [go_sem, Nat.reduceEqDiff, Nat.reduceAdd, reduceCtorEq, ↓reduceIte, c7]
          refine onCall_pure (by first | rfl | (simp -implicitDefEqProofs only [go_sem, Int.reduceToNat, Int.reduceLT, Int.reduceLE, Int.reduceBEq, Int.reduceBNe, Nat.reduceLT, Nat.reduceBEq, Int.reduceEq, Nat.reduceEqDiff, Nat.reduceAdd, Nat.reduceSub, Nat.reduceMul, Nat.reduceLeDiff, reduceCtorEq, ↓reduceIte, eGPolicy, eGGroup, eGBound, eGStmt, eGAsk, c3, c5, c7]; done) | (simp -implicitDefEqProofs only [go_sem, Int.reduceToNat, Int.reduceLT, Int.reduceLE, Int.reduceBEq, Int.reduceBNe, Nat.reduceLT, Nat.reduceBEq, Int.reduceEq, Nat.reduceEqDiff, Nat.reduceAdd, Nat.reduceSub, Nat.reduceMul, Nat.reduceLeDiff, reduceCtorEq, ↓reduceIte, eGPolicy, eGGroup, eGBound, eGStmt, eGAsk, c3, c5, c7]; rfl)) (law23_Small_ok b9) (by first | exact .inr rfl | exact .inl rfl) ?_
          try simp -implicitDefEqProofs only [go_sem, Nat.reduceEqDiff, Nat.reduceAdd, ↓reduceIte]
          rcases ite_inv H10 with ⟨c11, H12⟩ | ⟨c11, H12⟩
          · try simp -implicitDefEqProofs only [go_sem, Nat.reduceEqDiff, Nat.reduceAdd, reduceCtorEq, ↓reduceIte, c11]
            obtain rfl := Option.some.inj H12
            exact ⟨⟨(decide (300 < (IntKind.i64.wrap ((IntKind.i64.wrap ((t6.who.size : Int) + (t6.act.size : Int))) + (t6.obj.size : Int))))), rfl⟩, ren_mk [(0, 0), (1, 1)] (by rfl) (rf_upd (by rfl) (rf_upd (by rfl) (rf_upd (by rfl) (rf_upd (by rfl) (rf_upd (by rfl) (rf_upd (by rfl) (rf_upd (by rfl) (rf_upd (by rfl) (rf_upd (by rfl) (rf_no _)))))))))) (rh_upd (rh_one (by rfl) (by rfl) (by rfl)) (rh_upd (rh_one (by rfl) (by rfl) (by rfl)) (rh_no _)))⟩
          · try simp -implicitDefEqProofs only [go_sem, Nat.reduceEqDiff, Nat.reduceAdd, ↓reduceIte, c11]
            obtain rfl := Option.some.inj H12
            exact ⟨⟨true, rfl⟩, ren_mk [(0, 0), (1, 1)] (by rfl) (rf_upd (by rfl) (rf_upd (by rfl) (rf_upd (by rfl) (rf_upd (by rfl) (rf_upd (by rfl) (rf_upd (by rfl) (rf_upd (by rfl) (rf_upd (by rfl) (rf_upd (by rfl) (rf_no _)))))))))) (rh_upd (rh_one (by rfl) (by rfl) (by rfl)) (rh_upd (rh_one (by rfl) (by rfl) (by rfl)) (rh_no _)))⟩
  · rintro ⟨t54, he142⟩
    replace he142 := he142.symm
    subst he142
    try dsimp only at H2
    refine runR_take tab_ok fol 1 ?_
    try simp -implicitDefEqProofs only [go_sem, Nat.reduceEqDiff, reduceCtorEq, ↓reduceIte]
    rcases ite_inv H2 with ⟨c13, H14⟩ | ⟨c13, H14⟩
    · obtain ⟨t55, b15, H16⟩ := bind_inv H14
      try simp -implicitDefEqProofs only [go_sem, Nat.reduceAdd, c13]
      refine onCall_pure (by first | rfl | (simp -implicitDefEqProofs only [go_sem, Int.reduceToNat, Int.reduceLT, Int.reduceLE, Int.reduceBEq, Int.reduceBNe, Nat.reduceLT, Nat.reduceBEq, Int.reduceEq, Nat.reduceEqDiff, Nat.reduceAdd, Nat.reduceSub, Nat.reduceMul, Nat.reduceLeDiff, reduceCtorEq, ↓reduceIte, eGPolicy, eGGroup, eGBound, eGStmt, eGAsk, c13]; done) | (simp -implicitDefEqProofs only [go_sem, Int.reduceToNat, Int.reduceLT, Int.reduceLE, Int.reduceBEq, Int.reduceBNe, Nat.reduceLT, Nat.reduceBEq, Int.reduceEq, Nat.reduceEqDiff, Nat.reduceAdd, Nat.reduceSub, Nat.reduceMul, Nat.reduceLeDiff, reduceCtorEq, ↓reduceIte, eGPolicy, eGGroup, eGBound, eGStmt, eGAsk, c13]; rfl)) (law24_awake_ok b15) (by first | exact .inr rfl | exact .inl rfl) ?_
      try simp -implicitDefEqProofs only [go_sem, Nat.reduceAdd, ↓reduceIte]
      obtain rfl := Option.some.inj H16
      exact end_pure (by first | (simp -implicitDefEqProofs only [go_sem, ↓reduceIte, Try.f4] <;> rfl) | rfl) (by first | rfl | (simp -implicitDefEqProofs only [go_sem, Int.reduceToNat, Int.reduceLT, Int.reduceLE, Int.reduceBEq, Int.reduceBNe, Nat.reduceLT, Nat.reduceBEq, Int.reduceEq, Nat.reduceEqDiff, Nat.reduceAdd, Nat.reduceSub, Nat.reduceMul, Nat.reduceLeDiff, reduceCtorEq, ↓reduceIte, eGPolicy, eGGroup, eGBound, eGStmt, eGAsk, c13]; done) | (simp -implicitDefEqProofs only [go_sem, Int.reduceToNat, Int.reduceLT, Int.reduceLE, Int.reduceBEq, Int.reduceBNe, Nat.reduceLT, Nat.reduceBEq, Int.reduceEq, Nat.reduceEqDiff, Nat.reduceAdd, Nat.reduceSub, Nat.reduceMul, Nat.reduceLeDiff, reduceCtorEq, ↓reduceIte, eGPolicy, eGGroup, eGBound, eGStmt, eGAsk, c13]; rfl)) rfl (by intro h; first | rfl | cases h)
    · try simp -implicitDefEqProofs only [go_sem, c13]
      refine runR_seq ?_
      refine runR_seq ?_
      refine runR_take tab_ok fol 1 ?_
      try simp -implicitDefEqProofs only [go_sem, Nat.reduceAdd]
      obtain ⟨e_2, E17, H18⟩ := bind_inv H14
      refine runR_join (α := { y : Unit // e_2 = .inl y }) (fun | ⟨_, _⟩ => ⟨upd 0 (.v (.string t0)) (upd 1 (.v (.string t1)) (upd 2 (.d (.sl (List.map eS t2)) true) (upd 3 (.d (.sl (List.map eS t3)) true) (upd 5 (.d (.sl (List.map eI t5)) true) (upd 7 (.v (.int .i64 t7)) (upd 12 (.pt 0 0) (upd 14 (.pt 1 0) noFr))))))), upd 0 (some (.bx [.d (.sl (List.map eS t4.users)) true, .d (.sl (List.map eS t4.actions)) true, .d (.sl (List.map eS t4.resources)) true, .d (.sl (List.map eGGroup t4.groups)) true, .d (.sl (List.map eGStmt t4.stmts)) true, .d (.sl (List.map eGBound t4.bounds)) true])) (upd 1 (some (.bx [.v (.bool t6.session), .v (.string t6.who), .v (.string t6.act), .v (.string t6.obj)])) noHp), 2⟩) ?_ ?_
      · refine runR_block ?_
        refine runR_loop (α := { q : Nat × Int // law24_GlobTells_L1 n t2 q.1 q.2 = some e_2 }) (fun | ⟨⟨c, t17⟩, _⟩ => ⟨upd 0 (.v (.string t0)) (upd 1 (.v (.string t1)) (upd 2 (.d (.sl (List.map eS t2)) true) (upd 3 (.d (.sl (List.map eS t3)) true) (upd 5 (.d (.sl (List.map eI t5)) true) (upd 7 (.v (.int .i64 t7)) (upd 12 (.pt 0 0) (upd 14 (.pt 1 0) (upd 17 (.v (.int .i64 t17)) noFr)))))))), upd 0 (some (.bx [.d (.sl (List.map eS t4.users)) true, .d (.sl (List.map eS t4.actions)) true, .d (.sl (List.map eS t4.resources)) true, .d (.sl (List.map eGGroup t4.groups)) true, .d (.sl (List.map eGStmt t4.stmts)) true, .d (.sl (List.map eGBound t4.bounds)) true])) (upd 1 (some (.bx [.v (.bool t6.session), .v (.string t6.who), .v (.string t6.act), .v (.string t6.obj)])) noHp), 2⟩) (fun q => q.1.1) ⟨(n, 0), E17⟩ ?_ ?_
        · exact ren_mk [(0, 0), (1, 1)] (by rfl) (rf_upd (by rfl) (rf_upd (by rfl) (rf_upd (by rfl) (rf_upd (by rfl) (rf_upd (by rfl) (rf_upd (by rfl) (rf_upd (by rfl) (rf_upd (by rfl) (rf_upd (by rfl) (rf_no _)))))))))) (rh_upd (rh_one (by rfl) (by rfl) (by rfl)) (rh_upd (rh_one (by rfl) (by rfl) (by rfl)) (rh_no _)))
        · rintro ⟨⟨c, t17⟩, L19⟩
          rcases c with _ | c
          · exact nomatch (show none = some _ from L19)
          · unfold law24_GlobTells_L1 at L19
            try dsimp only at L19
            refine runR_take tab_ok fol 1 ?_
            try simp -implicitDefEqProofs only [go_sem, Nat.reduceEqDiff, Nat.reduceAdd, reduceCtorEq, ↓reduceIte]
            rcases ite_inv L19 with ⟨c32, H33⟩ | ⟨c32, H33⟩
            · obtain ⟨x2, b34, H35⟩ := bind_inv H33
              obtain ⟨h36, h37⟩ := idx_inv b34
              try simp only [Int.reduceToNat, Int.toNat_natCast] at h37
              have h38 := map_at eS h37
              try simp -implicitDefEqProofs only [go_sem, Nat.reduceEqDiff, Nat.reduceAdd, reduceCtorEq, ↓reduceIte, c32, nat_of .i64 h36, h38]
              rcases ite_inv H35 with ⟨c40, H41⟩ | ⟨c40, H41⟩
              · obtain ⟨t682, b42, H43⟩ := bind_inv H41
                try simp -implicitDefEqProofs only [go_sem, Nat.reduceAdd, c40]
                refine onCall_pure (by first | rfl | (simp -implicitDefEqProofs only [go_sem, Int.reduceToNat, Int.reduceLT, Int.reduceLE, Int.reduceBEq, Int.reduceBNe, Nat.reduceLT, Nat.reduceBEq, Int.reduceEq, Nat.reduceEqDiff, Nat.reduceAdd, Nat.reduceSub, Nat.reduceMul, Nat.reduceLeDiff, reduceCtorEq, ↓reduceIte, eGPolicy, eGGroup, eGBound, eGStmt, eGAsk, c32, nat_of .i64 h36, h38, c40]; done) | (simp -implicitDefEqProofs only [go_sem, Int.reduceToNat, Int.reduceLT, Int.reduceLE, Int.reduceBEq, Int.reduceBNe, Nat.reduceLT, Nat.reduceBEq, Int.reduceEq, Nat.reduceEqDiff, Nat.reduceAdd, Nat.reduceSub, Nat.reduceMul, Nat.reduceLeDiff, reduceCtorEq, ↓reduceIte, eGPolicy, eGGroup, eGBound, eGStmt, eGAsk, c32, nat_of .i64 h36, h38, c40]; rfl)) (law24_awake_ok b42) (by first | exact .inr rfl | exact .inl rfl) ?_
                try simp -implicitDefEqProofs only [go_sem, Nat.reduceAdd, ↓reduceIte]
                obtain rfl := Option.some.inj H43
                obtain rfl := Option.some.inj H18
                exact end_pure (by first | (simp -implicitDefEqProofs only [go_sem, ↓reduceIte, Try.f4] <;> rfl) | rfl) (by first | rfl | (simp -implicitDefEqProofs only [go_sem, Int.reduceToNat, Int.reduceLT, Int.reduceLE, Int.reduceBEq, Int.reduceBNe, Nat.reduceLT, Nat.reduceBEq, Int.reduceEq, Nat.reduceEqDiff, Nat.reduceAdd, Nat.reduceSub, Nat.reduceMul, Nat.reduceLeDiff, reduceCtorEq, ↓reduceIte, eGPolicy, eGGroup, eGBound, eGStmt, eGAsk, c32, nat_of .i64 h36, h38, c40]; done) | (simp -implicitDefEqProofs only [go_sem, Int.reduceToNat, Int.reduceLT, Int.reduceLE, Int.reduceBEq, Int.reduceBNe, Nat.reduceLT, Nat.reduceBEq, Int.reduceEq, Nat.reduceEqDiff, Nat.reduceAdd, Nat.reduceSub, Nat.reduceMul, Nat.reduceLeDiff, reduceCtorEq, ↓reduceIte, eGPolicy, eGGroup, eGBound, eGStmt, eGAsk, c32, nat_of .i64 h36, h38, c40]; rfl)) rfl (by intro h; first | rfl | cases h)
              · try simp -implicitDefEqProofs only [go_sem, Nat.reduceEqDiff, Nat.reduceAdd, reduceCtorEq, ↓reduceIte, c40]
                exact ⟨⟨(c, (IntKind.i64.wrap (t17 + 1))), H41⟩, ren_mk [(0, 0), (1, 1)] (by rfl) (rf_upd (by rfl) (rf_upd (by rfl) (rf_upd (by rfl) (rf_upd (by rfl) (rf_upd (by rfl) (rf_upd (by rfl) (rf_upd (by rfl) (rf_upd (by rfl) (rf_upd (by rfl) (rf_no _)))))))))) (rh_upd (rh_one (by rfl) (by rfl) (by rfl)) (rh_upd (rh_one (by rfl) (by rfl) (by rfl)) (rh_no _))), Nat.lt_succ_self _⟩
            · try simp -implicitDefEqProofs only [go_sem, ↓reduceIte, c32]
              obtain rfl := Option.some.inj H33
              exact ⟨⟨(), rfl⟩, ren_mk [(0, 0), (1, 1)] (by rfl) (rf_upd (by rfl) (rf_upd (by rfl) (rf_upd (by rfl) (rf_upd (by rfl) (rf_upd (by rfl) (rf_upd (by rfl) (rf_upd (by rfl) (rf_upd (by rfl) (rf_no _))))))))) (rh_upd (rh_one (by rfl) (by rfl) (by rfl)) (rh_upd (rh_one (by rfl) (by rfl) (by rfl)) (rh_no _)))⟩
      · rintro ⟨_, he141⟩
        replace he141 := he141.symm
        subst he141
        try dsimp only at H18
        refine runR_seq ?_
        refine runR_seq ?_
        refine runR_take tab_ok fol 1 ?_
        try simp -implicitDefEqProofs only [go_sem, Nat.reduceAdd]
        obtain ⟨e_3, E44, H45⟩ := bind_inv H18
        refine runR_join (α := { y : Unit // e_3 = .inl y }) (fun | ⟨_, _⟩ => ⟨upd 0 (.v (.string t0)) (upd 1 (.v (.string t1)) (upd 2 (.d (.sl (List.map eS t2)) true) (upd 3 (.d (.sl (List.map eS t3)) true) (upd 5 (.d (.sl (List.map eI t5)) true) (upd 7 (.v (.int .i64 t7)) (upd 12 (.pt 0 0) (upd 14 (.pt 1 0) noFr))))))), upd 0 (some (.bx [.d (.sl (List.map eS t4.users)) true, .d (.sl (List.map eS t4.actions)) true, .d (.sl (List.map eS t4.resources)) true, .d (.sl (List.map eGGroup t4.groups)) true, .d (.sl (List.map eGStmt t4.stmts)) true, .d (.sl (List.map eGBound t4.bounds)) true])) (upd 1 (some (.bx [.v (.bool t6.session), .v (.string t6.who), .v (.string t6.act), .v (.string t6.obj)])) noHp), 2⟩) ?_ ?_
        · refine runR_block ?_
          refine runR_loop (α := { q : Nat × Int // law24_GlobTells_L2 n t3 q.1 q.2 = some e_3 }) (fun | ⟨⟨c, t18⟩, _⟩ => ⟨upd 0 (.v (.string t0)) (upd 1 (.v (.string t1)) (upd 2 (.d (.sl (List.map eS t2)) true) (upd 3 (.d (.sl (List.map eS t3)) true) (upd 5 (.d (.sl (List.map eI t5)) true) (upd 7 (.v (.int .i64 t7)) (upd 12 (.pt 0 0) (upd 14 (.pt 1 0) (upd 18 (.v (.int .i64 t18)) noFr)))))))), upd 0 (some (.bx [.d (.sl (List.map eS t4.users)) true, .d (.sl (List.map eS t4.actions)) true, .d (.sl (List.map eS t4.resources)) true, .d (.sl (List.map eGGroup t4.groups)) true, .d (.sl (List.map eGStmt t4.stmts)) true, .d (.sl (List.map eGBound t4.bounds)) true])) (upd 1 (some (.bx [.v (.bool t6.session), .v (.string t6.who), .v (.string t6.act), .v (.string t6.obj)])) noHp), 2⟩) (fun q => q.1.1) ⟨(n, 0), E44⟩ ?_ ?_
          · exact ren_mk [(0, 0), (1, 1)] (by rfl) (rf_upd (by rfl) (rf_upd (by rfl) (rf_upd (by rfl) (rf_upd (by rfl) (rf_upd (by rfl) (rf_upd (by rfl) (rf_upd (by rfl) (rf_upd (by rfl) (rf_upd (by rfl) (rf_no _)))))))))) (rh_upd (rh_one (by rfl) (by rfl) (by rfl)) (rh_upd (rh_one (by rfl) (by rfl) (by rfl)) (rh_no _)))
          · rintro ⟨⟨c, t18⟩, L46⟩
            rcases c with _ | c
            · exact nomatch (show none = some _ from L46)
            · unfold law24_GlobTells_L2 at L46
              try dsimp only at L46
              refine runR_take tab_ok fol 1 ?_
              try simp -implicitDefEqProofs only [go_sem, Nat.reduceEqDiff, Nat.reduceAdd, reduceCtorEq, ↓reduceIte]
              rcases ite_inv L46 with ⟨c59, H60⟩ | ⟨c59, H60⟩
              · obtain ⟨x4, b61, H62⟩ := bind_inv H60
                obtain ⟨h63, h64⟩ := idx_inv b61
                try simp only [Int.reduceToNat, Int.toNat_natCast] at h64
                have h65 := map_at eS h64
                try simp -implicitDefEqProofs only [go_sem, Nat.reduceEqDiff, Nat.reduceAdd, reduceCtorEq, ↓reduceIte, c59, nat_of .i64 h63, h65]
                rcases ite_inv H62 with ⟨c67, H68⟩ | ⟨c67, H68⟩
                · obtain ⟨t812, b69, H70⟩ := bind_inv H68
                  try simp -implicitDefEqProofs only [go_sem, Nat.reduceAdd, c67]
                  refine onCall_pure (by first | rfl | (simp -implicitDefEqProofs only [go_sem, Int.reduceToNat, Int.reduceLT, Int.reduceLE, Int.reduceBEq, Int.reduceBNe, Nat.reduceLT, Nat.reduceBEq, Int.reduceEq, Nat.reduceEqDiff, Nat.reduceAdd, Nat.reduceSub, Nat.reduceMul, Nat.reduceLeDiff, reduceCtorEq, ↓reduceIte, eGPolicy, eGGroup, eGBound, eGStmt, eGAsk, c59, nat_of .i64 h63, h65, c67]; done) | (simp -implicitDefEqProofs only [go_sem, Int.reduceToNat, Int.reduceLT, Int.reduceLE, Int.reduceBEq, Int.reduceBNe, Nat.reduceLT, Nat.reduceBEq, Int.reduceEq, Nat.reduceEqDiff, Nat.reduceAdd, Nat.reduceSub, Nat.reduceMul, Nat.reduceLeDiff, reduceCtorEq, ↓reduceIte, eGPolicy, eGGroup, eGBound, eGStmt, eGAsk, c59, nat_of .i64 h63, h65, c67]; rfl)) (law24_awake_ok b69) (by first | exact .inr rfl | exact .inl rfl) ?_
                  try simp -implicitDefEqProofs only [go_sem, Nat.reduceAdd, ↓reduceIte]
                  obtain rfl := Option.some.inj H70
                  obtain rfl := Option.some.inj H45
                  exact end_pure (by first | (simp -implicitDefEqProofs only [go_sem, ↓reduceIte, Try.f4] <;> rfl) | rfl) (by first | rfl | (simp -implicitDefEqProofs only [go_sem, Int.reduceToNat, Int.reduceLT, Int.reduceLE, Int.reduceBEq, Int.reduceBNe, Nat.reduceLT, Nat.reduceBEq, Int.reduceEq, Nat.reduceEqDiff, Nat.reduceAdd, Nat.reduceSub, Nat.reduceMul, Nat.reduceLeDiff, reduceCtorEq, ↓reduceIte, eGPolicy, eGGroup, eGBound, eGStmt, eGAsk, c59, nat_of .i64 h63, h65, c67]; done) | (simp -implicitDefEqProofs only [go_sem, Int.reduceToNat, Int.reduceLT, Int.reduceLE, Int.reduceBEq, Int.reduceBNe, Nat.reduceLT, Nat.reduceBEq, Int.reduceEq, Nat.reduceEqDiff, Nat.reduceAdd, Nat.reduceSub, Nat.reduceMul, Nat.reduceLeDiff, reduceCtorEq, ↓reduceIte, eGPolicy, eGGroup, eGBound, eGStmt, eGAsk, c59, nat_of .i64 h63, h65, c67]; rfl)) rfl (by intro h; first | rfl | cases h)
                · try simp -implicitDefEqProofs only [go_sem, Nat.reduceEqDiff, Nat.reduceAdd, reduceCtorEq, ↓reduceIte, c67]
                  exact ⟨⟨(c, (IntKind.i64.wrap (t18 + 1))), H68⟩, ren_mk [(0, 0), (1, 1)] (by rfl) (rf_upd (by rfl) (rf_upd (by rfl) (rf_upd (by rfl) (rf_upd (by rfl) (rf_upd (by rfl) (rf_upd (by rfl) (rf_upd (by rfl) (rf_upd (by rfl) (rf_upd (by rfl) (rf_no _)))))))))) (rh_upd (rh_one (by rfl) (by rfl) (by rfl)) (rh_upd (rh_one (by rfl) (by rfl) (by rfl)) (rh_no _))), Nat.lt_succ_self _⟩
              · try simp -implicitDefEqProofs only [go_sem, ↓reduceIte, c59]
                obtain rfl := Option.some.inj H60
                exact ⟨⟨(), rfl⟩, ren_mk [(0, 0), (1, 1)] (by rfl) (rf_upd (by rfl) (rf_upd (by rfl) (rf_upd (by rfl) (rf_upd (by rfl) (rf_upd (by rfl) (rf_upd (by rfl) (rf_upd (by rfl) (rf_upd (by rfl) (rf_no _))))))))) (rh_upd (rh_one (by rfl) (by rfl) (by rfl)) (rh_upd (rh_one (by rfl) (by rfl) (by rfl)) (rh_no _)))⟩
        · rintro ⟨_, he140⟩
          replace he140 := he140.symm
          subst he140
          try dsimp only at H45
          refine runR_seq ?_
          refine runR_seq ?_
          obtain ⟨e_4, E71, H72⟩ := bind_inv H45
          refine runR_join (α := { y : Bool // e_4 = y }) (fun | ⟨t98, _⟩ => ⟨upd 5 (.d (.sl (List.map eI t5)) true) (upd 7 (.v (.int .i64 t7)) (upd 12 (.pt 0 0) (upd 14 (.pt 1 0) (upd 98 (.v (.bool t98)) noFr)))), upd 0 (some (.bx [.d (.sl (List.map eS t4.users)) true, .d (.sl (List.map eS t4.actions)) true, .d (.sl (List.map eS t4.resources)) true, .d (.sl (List.map eGGroup t4.groups)) true, .d (.sl (List.map eGStmt t4.stmts)) true, .d (.sl (List.map eGBound t4.bounds)) true])) (upd 1 (some (.bx [.v (.bool t6.session), .v (.string t6.who), .v (.string t6.act), .v (.string t6.obj)])) noHp), 2⟩) ?_ ?_
          · refine runR_take tab_ok fol 1 ?_
            obtain ⟨t84, b73, H74⟩ := bind_inv E71
            try simp -implicitDefEqProofs only [go_sem, Nat.reduceEqDiff, Nat.reduceAdd, reduceCtorEq, ↓reduceIte]
            refine onCall_pure (by first | rfl | (simp -implicitDefEqProofs only [go_sem, Int.reduceToNat, Int.reduceLT, Int.reduceLE, Int.reduceBEq, Int.reduceBNe, Nat.reduceLT, Nat.reduceBEq, Int.reduceEq, Nat.reduceEqDiff, Nat.reduceAdd, Nat.reduceSub, Nat.reduceMul, Nat.reduceLeDiff, reduceCtorEq, ↓reduceIte, eGPolicy, eGGroup, eGBound, eGStmt, eGAsk]; done) | (simp -implicitDefEqProofs only [go_sem, Int.reduceToNat, Int.reduceLT, Int.reduceLE, Int.reduceBEq, Int.reduceBNe, Nat.reduceLT, Nat.reduceBEq, Int.reduceEq, Nat.reduceEqDiff, Nat.reduceAdd, Nat.reduceSub, Nat.reduceMul, Nat.reduceLeDiff, reduceCtorEq, ↓reduceIte, eGPolicy, eGGroup, eGBound, eGStmt, eGAsk]; rfl)) (glob_Match_ok b73) (by first | exact .inr rfl | exact .inl rfl) ?_
            obtain ⟨t87, b75, H76⟩ := bind_inv H74
            try simp -implicitDefEqProofs only [go_sem, Nat.reduceEqDiff, Nat.reduceAdd, reduceCtorEq, ↓reduceIte]
            refine onCall_pure (by first | rfl | (simp -implicitDefEqProofs only [go_sem, Int.reduceToNat, Int.reduceLT, Int.reduceLE, Int.reduceBEq, Int.reduceBNe, Nat.reduceLT, Nat.reduceBEq, Int.reduceEq, Nat.reduceEqDiff, Nat.reduceAdd, Nat.reduceSub, Nat.reduceMul, Nat.reduceLeDiff, reduceCtorEq, ↓reduceIte, eGPolicy, eGGroup, eGBound, eGStmt, eGAsk]; done) | (simp -implicitDefEqProofs only [go_sem, Int.reduceToNat, Int.reduceLT, Int.reduceLE, Int.reduceBEq, Int.reduceBNe, Nat.reduceLT, Nat.reduceBEq, Int.reduceEq, Nat.reduceEqDiff, Nat.reduceAdd, Nat.reduceSub, Nat.reduceMul, Nat.reduceLeDiff, reduceCtorEq, ↓reduceIte, eGPolicy, eGGroup, eGBound, eGStmt, eGAsk]; rfl)) (ref22_Match_ok b75) (by first | exact .inr rfl | exact .inl rfl) ?_
            try simp -implicitDefEqProofs only [go_sem, Nat.reduceEqDiff, Nat.reduceAdd, ↓reduceIte]
            rcases ite_inv H76 with ⟨c77, H78⟩ | ⟨c77, H78⟩
            · obtain ⟨t92, b79, H80⟩ := bind_inv H78
              try simp -implicitDefEqProofs only [go_sem, Nat.reduceEqDiff, Nat.reduceAdd, reduceCtorEq, ↓reduceIte, c77]
              refine onCall_pure (by first | rfl | (simp -implicitDefEqProofs only [go_sem, Int.reduceToNat, Int.reduceLT, Int.reduceLE, Int.reduceBEq, Int.reduceBNe, Nat.reduceLT, Nat.reduceBEq, Int.reduceEq, Nat.reduceEqDiff, Nat.reduceAdd, Nat.reduceSub, Nat.reduceMul, Nat.reduceLeDiff, reduceCtorEq, ↓reduceIte, eGPolicy, eGGroup, eGBound, eGStmt, eGAsk, c77]; done) | (simp -implicitDefEqProofs only [go_sem, Int.reduceToNat, Int.reduceLT, Int.reduceLE, Int.reduceBEq, Int.reduceBNe, Nat.reduceLT, Nat.reduceBEq, Int.reduceEq, Nat.reduceEqDiff, Nat.reduceAdd, Nat.reduceSub, Nat.reduceMul, Nat.reduceLeDiff, reduceCtorEq, ↓reduceIte, eGPolicy, eGGroup, eGBound, eGStmt, eGAsk, c77]; rfl)) (glob_Over_ok b79) (by first | exact .inr rfl | exact .inl rfl) ?_
              obtain ⟨t95, b81, H82⟩ := bind_inv H80
              try simp -implicitDefEqProofs only [go_sem, Nat.reduceEqDiff, Nat.reduceAdd, reduceCtorEq, ↓reduceIte]
              refine onCall_pure (by first | rfl | (simp -implicitDefEqProofs only [go_sem, Int.reduceToNat, Int.reduceLT, Int.reduceLE, Int.reduceBEq, Int.reduceBNe, Nat.reduceLT, Nat.reduceBEq, Int.reduceEq, Nat.reduceEqDiff, Nat.reduceAdd, Nat.reduceSub, Nat.reduceMul, Nat.reduceLeDiff, reduceCtorEq, ↓reduceIte, eGPolicy, eGGroup, eGBound, eGStmt, eGAsk, c77]; done) | (simp -implicitDefEqProofs only [go_sem, Int.reduceToNat, Int.reduceLT, Int.reduceLE, Int.reduceBEq, Int.reduceBNe, Nat.reduceLT, Nat.reduceBEq, Int.reduceEq, Nat.reduceEqDiff, Nat.reduceAdd, Nat.reduceSub, Nat.reduceMul, Nat.reduceLeDiff, reduceCtorEq, ↓reduceIte, eGPolicy, eGGroup, eGBound, eGStmt, eGAsk, c77]; rfl)) (ref22_Over_ok b81) (by first | exact .inr rfl | exact .inl rfl) ?_
              obtain ⟨t96, b83, H84⟩ := bind_inv H82
              try simp -implicitDefEqProofs only [go_sem, Nat.reduceEqDiff, Nat.reduceAdd, ↓reduceIte]
              refine onCall_pure (by first | rfl | (simp -implicitDefEqProofs only [go_sem, Int.reduceToNat, Int.reduceLT, Int.reduceLE, Int.reduceBEq, Int.reduceBNe, Nat.reduceLT, Nat.reduceBEq, Int.reduceEq, Nat.reduceEqDiff, Nat.reduceAdd, Nat.reduceSub, Nat.reduceMul, Nat.reduceLeDiff, reduceCtorEq, ↓reduceIte, eGPolicy, eGGroup, eGBound, eGStmt, eGAsk, c77]; done) | (simp -implicitDefEqProofs only [go_sem, Int.reduceToNat, Int.reduceLT, Int.reduceLE, Int.reduceBEq, Int.reduceBNe, Nat.reduceLT, Nat.reduceBEq, Int.reduceEq, Nat.reduceEqDiff, Nat.reduceAdd, Nat.reduceSub, Nat.reduceMul, Nat.reduceLeDiff, reduceCtorEq, ↓reduceIte, eGPolicy, eGGroup, eGBound, eGStmt, eGAsk, c77]; rfl)) (ref1_SameTexts_ok b83) (by first | exact .inr rfl | exact .inl rfl) ?_
              try simp -implicitDefEqProofs only [go_sem, Nat.reduceEqDiff, Nat.reduceAdd, ↓reduceIte]
              obtain rfl := Option.some.inj H84
              exact ⟨⟨(!t96), rfl⟩, ren_mk [(0, 0), (1, 1)] (by rfl) (rf_upd (by rfl) (rf_upd (by rfl) (rf_upd (by rfl) (rf_upd (by rfl) (rf_upd (by rfl) (rf_no _)))))) (rh_upd (rh_one (by rfl) (by rfl) (by rfl)) (rh_upd (rh_one (by rfl) (by rfl) (by rfl)) (rh_no _)))⟩
            · try simp -implicitDefEqProofs only [go_sem, Nat.reduceEqDiff, Nat.reduceAdd, ↓reduceIte, c77]
              obtain rfl := Option.some.inj H78
              exact ⟨⟨true, rfl⟩, ren_mk [(0, 0), (1, 1)] (by rfl) (rf_upd (by rfl) (rf_upd (by rfl) (rf_upd (by rfl) (rf_upd (by rfl) (rf_upd (by rfl) (rf_no _)))))) (rh_upd (rh_one (by rfl) (by rfl) (by rfl)) (rh_upd (rh_one (by rfl) (by rfl) (by rfl)) (rh_no _)))⟩
          · rintro ⟨t98, he139⟩
            replace he139 := he139.symm
            subst he139
            try dsimp only at H72
            refine runR_take tab_ok fol 1 ?_
            try simp -implicitDefEqProofs only [go_sem, Nat.reduceEqDiff, ↓reduceIte]
            rcases ite_inv H72 with ⟨c85, H86⟩ | ⟨c85, H86⟩
            · try simp -implicitDefEqProofs only [go_sem, Nat.reduceAdd, c85]
              obtain rfl := Option.some.inj H86
              exact end_pure (by first | (simp -implicitDefEqProofs only [go_sem, ↓reduceIte, Try.f4] <;> rfl) | rfl) (by first | rfl | (simp -implicitDefEqProofs only [go_sem, Int.reduceToNat, Int.reduceLT, Int.reduceLE, Int.reduceBEq, Int.reduceBNe, Nat.reduceLT, Nat.reduceBEq, Int.reduceEq, Nat.reduceEqDiff, Nat.reduceAdd, Nat.reduceSub, Nat.reduceMul, Nat.reduceLeDiff, reduceCtorEq, ↓reduceIte, eGPolicy, eGGroup, eGBound, eGStmt, eGAsk, c85]; done) | (simp -implicitDefEqProofs only [go_sem, Int.reduceToNat, Int.reduceLT, Int.reduceLE, Int.reduceBEq, Int.reduceBNe, Nat.reduceLT, Nat.reduceBEq, Int.reduceEq, Nat.reduceEqDiff, Nat.reduceAdd, Nat.reduceSub, Nat.reduceMul, Nat.reduceLeDiff, reduceCtorEq, ↓reduceIte, eGPolicy, eGGroup, eGBound, eGStmt, eGAsk, c85]; rfl)) rfl (by intro h; first | rfl | cases h)
            · try simp -implicitDefEqProofs only [go_sem, c85]
              refine runR_seq ?_
              refine runR_seq ?_
              refine runR_take tab_ok fol 1 ?_
              try simp -implicitDefEqProofs only [go_sem, Nat.reduceAdd]
              obtain ⟨e_5, E87, H88⟩ := bind_inv H86
              refine runR_join (α := { y : List ByteArray × List ByteArray × List ByteArray × List GGroup × List GStmt × List GBound × Bool × ByteArray × ByteArray × ByteArray // e_5 = .inl y }) (fun | ⟨⟨t1203, t1213, t1223, t1233, t1243, t1253, t1403, t1413, t1423, t1433⟩, _⟩ => ⟨upd 12 (.pt 0 0) (upd 14 (.pt 1 0) noFr), upd 0 (some (.bx [.d (.sl (List.map eS t1203)) true, .d (.sl (List.map eS t1213)) true, .d (.sl (List.map eS t1223)) true, .d (.sl (List.map eGGroup t1233)) true, .d (.sl (List.map eGStmt t1243)) true, .d (.sl (List.map eGBound t1253)) true])) (upd 1 (some (.bx [.v (.bool t1403), .v (.string t1413), .v (.string t1423), .v (.string t1433)])) noHp), 2⟩) ?_ ?_
              · refine runR_block ?_
                refine runR_loop (α := { q : Nat × (List ByteArray × List ByteArray × List ByteArray × List GGroup × List GStmt × List GBound × Bool × ByteArray × ByteArray × ByteArray × Int) // law24_GlobTells_L3 n t5 t7 q.1 q.2 = some e_5 }) (fun | ⟨⟨c, ⟨t120, t121, t122, t123, t124, t125, t140, t141, t142, t143, t19⟩⟩, _⟩ => ⟨upd 5 (.d (.sl (List.map eI t5)) true) (upd 7 (.v (.int .i64 t7)) (upd 12 (.pt 0 0) (upd 14 (.pt 1 0) (upd 19 (.v (.int .i64 t19)) noFr)))), upd 0 (some (.bx [.d (.sl (List.map eS t120)) true, .d (.sl (List.map eS t121)) true, .d (.sl (List.map eS t122)) true, .d (.sl (List.map eGGroup t123)) true, .d (.sl (List.map eGStmt t124)) true, .d (.sl (List.map eGBound t125)) true])) (upd 1 (some (.bx [.v (.bool t140), .v (.string t141), .v (.string t142), .v (.string t143)])) noHp), 2⟩) (fun q => q.1.1) ⟨(n, (t4.users, t4.actions, t4.resources, t4.groups, t4.stmts, t4.bounds, t6.session, t6.who, t6.act, t6.obj, 0)), E87⟩ ?_ ?_
                · exact ren_mk [(0, 0), (1, 1)] (by rfl) (rf_upd (by rfl) (rf_upd (by rfl) (rf_upd (by rfl) (rf_upd (by rfl) (rf_upd (by rfl) (rf_no _)))))) (rh_upd (rh_one (by rfl) (by rfl) (by rfl)) (rh_upd (rh_one (by rfl) (by rfl) (by rfl)) (rh_no _)))
                · rintro ⟨⟨c, ⟨t120, t121, t122, t123, t124, t125, t140, t141, t142, t143, t19⟩⟩, L89⟩
                  rcases c with _ | c
                  · exact nomatch (show none = some _ from L89)
                  · unfold law24_GlobTells_L3 at L89
                    try dsimp only at L89
                    refine runR_seq ?_
                    refine runR_take tab_ok fol 1 ?_
                    try simp -implicitDefEqProofs only [go_sem, Nat.reduceEqDiff, Nat.reduceAdd, ↓reduceIte]
                    rcases ite_inv L89 with ⟨c109, H110⟩ | ⟨c109, H110⟩
                    · try simp -implicitDefEqProofs only [go_sem, c109]
                      refine runR_seq ?_
                      refine runR_block ?_
                      refine runR_seq ?_
                      refine runR_seq ?_
                      obtain ⟨e_7, E111, H112⟩ := bind_inv H110
                      refine runR_join (α := { y : Bool // e_7 = y }) (fun | ⟨t1342, _⟩ => ⟨upd 5 (.d (.sl (List.map eI t5)) true) (upd 7 (.v (.int .i64 t7)) (upd 12 (.pt 0 0) (upd 14 (.pt 1 0) (upd 19 (.v (.int .i64 t19)) (upd 134 (.v (.bool t1342)) noFr))))), upd 0 (some (.bx [.d (.sl (List.map eS t120)) true, .d (.sl (List.map eS t121)) true, .d (.sl (List.map eS t122)) true, .d (.sl (List.map eGGroup t123)) true, .d (.sl (List.map eGStmt t124)) true, .d (.sl (List.map eGBound t125)) true])) (upd 1 (some (.bx [.v (.bool t140), .v (.string t141), .v (.string t142), .v (.string t143)])) noHp), 2⟩) ?_ ?_
                      · refine runR_take tab_ok fol 1 ?_
                        obtain ⟨t1102, b113, H114⟩ := bind_inv E111
                        try simp -implicitDefEqProofs only [go_sem, Nat.reduceEqDiff, Nat.reduceAdd, reduceCtorEq, ↓reduceIte]
                        refine onCallD_pure (by first | rfl | (simp -implicitDefEqProofs only [go_sem, Int.reduceToNat, Int.reduceLT, Int.reduceLE, Int.reduceBEq, Int.reduceBNe, Nat.reduceLT, Nat.reduceBEq, Int.reduceEq, Nat.reduceEqDiff, Nat.reduceAdd, Nat.reduceSub, Nat.reduceMul, Nat.reduceLeDiff, reduceCtorEq, ↓reduceIte, eGPolicy, eGGroup, eGBound, eGStmt, eGAsk]; done) | (simp -implicitDefEqProofs only [go_sem, Int.reduceToNat, Int.reduceLT, Int.reduceLE, Int.reduceBEq, Int.reduceBNe, Nat.reduceLT, Nat.reduceBEq, Int.reduceEq, Nat.reduceEqDiff, Nat.reduceAdd, Nat.reduceSub, Nat.reduceMul, Nat.reduceLeDiff, reduceCtorEq, ↓reduceIte, eGPolicy, eGGroup, eGBound, eGStmt, eGAsk]; rfl)) (glob_May_ok b113) (by first | exact .inr rfl | exact .inl rfl) ?_
                        obtain ⟨t1182, b115, H116⟩ := bind_inv H114
                        try simp -implicitDefEqProofs only [go_sem, Nat.reduceEqDiff, Nat.reduceAdd, reduceCtorEq, ↓reduceIte]
                        refine onCallD_pure (by first | rfl | (simp -implicitDefEqProofs only [go_sem, Int.reduceToNat, Int.reduceLT, Int.reduceLE, Int.reduceBEq, Int.reduceBNe, Nat.reduceLT, Nat.reduceBEq, Int.reduceEq, Nat.reduceEqDiff, Nat.reduceAdd, Nat.reduceSub, Nat.reduceMul, Nat.reduceLeDiff, reduceCtorEq, ↓reduceIte, eGPolicy, eGGroup, eGBound, eGStmt, eGAsk]; done) | (simp -implicitDefEqProofs only [go_sem, Int.reduceToNat, Int.reduceLT, Int.reduceLE, Int.reduceBEq, Int.reduceBNe, Nat.reduceLT, Nat.reduceBEq, Int.reduceEq, Nat.reduceEqDiff, Nat.reduceAdd, Nat.reduceSub, Nat.reduceMul, Nat.reduceLeDiff, reduceCtorEq, ↓reduceIte, eGPolicy, eGGroup, eGBound, eGStmt, eGAsk]; rfl)) (ref22_May_ok b115) (by first | exact .inr rfl | exact .inl rfl) ?_
                        try simp -implicitDefEqProofs only [go_sem, Nat.reduceEqDiff, Nat.reduceAdd, ↓reduceIte]
                        rcases ite_inv H116 with ⟨c117, H118⟩ | ⟨c117, H118⟩
                        · obtain ⟨t1262, b119, H120⟩ := bind_inv H118
                          try simp -implicitDefEqProofs only [go_sem, Nat.reduceEqDiff, Nat.reduceAdd, reduceCtorEq, ↓reduceIte, c117]
                          refine onCallD_pure (by first | rfl | (simp -implicitDefEqProofs only [go_sem, Int.reduceToNat, Int.reduceLT, Int.reduceLE, Int.reduceBEq, Int.reduceBNe, Nat.reduceLT, Nat.reduceBEq, Int.reduceEq, Nat.reduceEqDiff, Nat.reduceAdd, Nat.reduceSub, Nat.reduceMul, Nat.reduceLeDiff, reduceCtorEq, ↓reduceIte, eGPolicy, eGGroup, eGBound, eGStmt, eGAsk, c117]; done) | (simp -implicitDefEqProofs only [go_sem, Int.reduceToNat, Int.reduceLT, Int.reduceLE, Int.reduceBEq, Int.reduceBNe, Nat.reduceLT, Nat.reduceBEq, Int.reduceEq, Nat.reduceEqDiff, Nat.reduceAdd, Nat.reduceSub, Nat.reduceMul, Nat.reduceLeDiff, reduceCtorEq, ↓reduceIte, eGPolicy, eGGroup, eGBound, eGStmt, eGAsk, c117]; rfl)) (glob_In_ok b119) (by first | exact .inr rfl | exact .inl rfl) ?_
                          obtain ⟨t1322, b121, H122⟩ := bind_inv H120
                          try simp -implicitDefEqProofs only [go_sem, Nat.reduceEqDiff, Nat.reduceAdd, reduceCtorEq, ↓reduceIte]
                          refine onCallD_pure (by first | rfl | (simp -implicitDefEqProofs only [go_sem, Int.reduceToNat, Int.reduceLT, Int.reduceLE, Int.reduceBEq, Int.reduceBNe, Nat.reduceLT, Nat.reduceBEq, Int.reduceEq, Nat.reduceEqDiff, Nat.reduceAdd, Nat.reduceSub, Nat.reduceMul, Nat.reduceLeDiff, reduceCtorEq, ↓reduceIte, eGPolicy, eGGroup, eGBound, eGStmt, eGAsk, c117]; done) | (simp -implicitDefEqProofs only [go_sem, Int.reduceToNat, Int.reduceLT, Int.reduceLE, Int.reduceBEq, Int.reduceBNe, Nat.reduceLT, Nat.reduceBEq, Int.reduceEq, Nat.reduceEqDiff, Nat.reduceAdd, Nat.reduceSub, Nat.reduceMul, Nat.reduceLeDiff, reduceCtorEq, ↓reduceIte, eGPolicy, eGGroup, eGBound, eGStmt, eGAsk, c117]; rfl)) (ref22_Inside_ok b121) (by first | exact .inr rfl | exact .inl rfl) ?_
                          try simp -implicitDefEqProofs only [go_sem, Nat.reduceEqDiff, Nat.reduceAdd, ↓reduceIte]
                          refine Rd_endF (by rfl) ?_
                          try simp -implicitDefEqProofs only [go_sem]
                          obtain rfl := Option.some.inj H122
                          exact ⟨⟨(!(t1262 == t1322)), rfl⟩, ren_mk [(0, 0), (1, 1)] (by rfl) (rf_upd (by rfl) (rf_upd (by rfl) (rf_upd (by rfl) (rf_upd (by rfl) (rf_upd (by rfl) (rf_upd (by rfl) (rf_no _))))))) (rh_upd (rh_one (by rfl) (by rfl) (by rfl)) (rh_upd (rh_one (by rfl) (by rfl) (by rfl)) (rh_no _)))⟩
                        · try simp -implicitDefEqProofs only [go_sem, Nat.reduceEqDiff, Nat.reduceAdd, ↓reduceIte, c117]
                          refine Rd_endF (by rfl) ?_
                          try simp -implicitDefEqProofs only [go_sem]
                          obtain rfl := Option.some.inj H118
                          exact ⟨⟨true, rfl⟩, ren_mk [(0, 0), (1, 1)] (by rfl) (rf_upd (by rfl) (rf_upd (by rfl) (rf_upd (by rfl) (rf_upd (by rfl) (rf_upd (by rfl) (rf_upd (by rfl) (rf_no _))))))) (rh_upd (rh_one (by rfl) (by rfl) (by rfl)) (rh_upd (rh_one (by rfl) (by rfl) (by rfl)) (rh_no _)))⟩
                      · rintro ⟨t1342, he129⟩
                        replace he129 := he129.symm
                        subst he129
                        try dsimp only at H112
                        refine runR_take tab_ok fol 4 ?_
                        try simp -implicitDefEqProofs only [go_sem, Nat.reduceEqDiff, ↓reduceIte]
                        rcases ite_inv H112 with ⟨c123, H124⟩ | ⟨c123, H124⟩
                        · try simp -implicitDefEqProofs only [go_sem, Nat.reduceAdd, c123]
                          obtain rfl := Option.some.inj H124
                          obtain rfl := Option.some.inj H88
                          exact end_pure (by first | (simp -implicitDefEqProofs only [go_sem, ↓reduceIte, Try.f4] <;> rfl) | rfl) (by first | rfl | (simp -implicitDefEqProofs only [go_sem, Int.reduceToNat, Int.reduceLT, Int.reduceLE, Int.reduceBEq, Int.reduceBNe, Nat.reduceLT, Nat.reduceBEq, Int.reduceEq, Nat.reduceEqDiff, Nat.reduceAdd, Nat.reduceSub, Nat.reduceMul, Nat.reduceLeDiff, reduceCtorEq, ↓reduceIte, eGPolicy, eGGroup, eGBound, eGStmt, eGAsk, c123]; done) | (simp -implicitDefEqProofs only [go_sem, Int.reduceToNat, Int.reduceLT, Int.reduceLE, Int.reduceBEq, Int.reduceBNe, Nat.reduceLT, Nat.reduceBEq, Int.reduceEq, Nat.reduceEqDiff, Nat.reduceAdd, Nat.reduceSub, Nat.reduceMul, Nat.reduceLeDiff, reduceCtorEq, ↓reduceIte, eGPolicy, eGGroup, eGBound, eGStmt, eGAsk, c123]; rfl)) rfl (by intro h; first | rfl | cases h)
                        · obtain ⟨t1362, b125, H126⟩ := bind_inv H124
                          try simp -implicitDefEqProofs only [go_sem, Nat.reduceAdd, ↓reduceIte, c123]
                          refine onCall_pureAW (by first | rfl | (simp -implicitDefEqProofs only [go_sem, Int.reduceToNat, Int.reduceLT, Int.reduceLE, Int.reduceBEq, Int.reduceBNe, Nat.reduceLT, Nat.reduceBEq, Int.reduceEq, Nat.reduceEqDiff, Nat.reduceAdd, Nat.reduceSub, Nat.reduceMul, Nat.reduceLeDiff, reduceCtorEq, ↓reduceIte, eGPolicy, eGGroup, eGBound, eGStmt, eGAsk, c123]; done) | (simp -implicitDefEqProofs only [go_sem, Int.reduceToNat, Int.reduceLT, Int.reduceLE, Int.reduceBEq, Int.reduceBNe, Nat.reduceLT, Nat.reduceBEq, Int.reduceEq, Nat.reduceEqDiff, Nat.reduceAdd, Nat.reduceSub, Nat.reduceMul, Nat.reduceLeDiff, reduceCtorEq, ↓reduceIte, eGPolicy, eGGroup, eGBound, eGStmt, eGAsk, c123]; rfl)) (PureA.of_pure (law23_Made_ok b125)) (by first | exact .inr rfl | exact .inl rfl) ?_
                          obtain ⟨t1382, b127, H128⟩ := bind_inv H126
                          try simp -implicitDefEqProofs only [go_sem, Nat.reduceEqDiff, Nat.reduceAdd, ↓reduceIte, eGPolicy]
                          refine onCall_pure (by first | rfl | (simp -implicitDefEqProofs only [go_sem, Int.reduceToNat, Int.reduceLT, Int.reduceLE, Int.reduceBEq, Int.reduceBNe, Nat.reduceLT, Nat.reduceBEq, Int.reduceEq, Nat.reduceEqDiff, Nat.reduceAdd, Nat.reduceSub, Nat.reduceMul, Nat.reduceLeDiff, reduceCtorEq, ↓reduceIte, eGPolicy, eGGroup, eGBound, eGStmt, eGAsk, c123]; done) | (simp -implicitDefEqProofs only [go_sem, Int.reduceToNat, Int.reduceLT, Int.reduceLE, Int.reduceBEq, Int.reduceBNe, Nat.reduceLT, Nat.reduceBEq, Int.reduceEq, Nat.reduceEqDiff, Nat.reduceAdd, Nat.reduceSub, Nat.reduceMul, Nat.reduceLeDiff, reduceCtorEq, ↓reduceIte, eGPolicy, eGGroup, eGBound, eGStmt, eGAsk, c123]; rfl)) (law24_Ask_ok b127) (by first | exact .inr rfl | exact .inl rfl) ?_
                          try simp -implicitDefEqProofs only [go_sem, Nat.reduceEqDiff, Nat.reduceAdd, reduceCtorEq, ↓reduceIte, eGAsk]
                          exact ⟨⟨(c, (t1362.users, t1362.actions, t1362.resources, t1362.groups, t1362.stmts, t1362.bounds, t1382.session, t1382.who, t1382.act, t1382.obj, (IntKind.i64.wrap (t19 + 1)))), H128⟩, ren_mk [(0, 0), (1, 1)] (by rfl) (rf_upd (by rfl) (rf_upd (by rfl) (rf_upd (by rfl) (rf_upd (by rfl) (rf_upd (by rfl) (rf_no _)))))) (rh_upd (rh_one (by rfl) (by rfl) (by rfl)) (rh_upd (rh_one (by rfl) (by rfl) (by rfl)) (rh_no _))), Nat.lt_succ_self _⟩
                    · try simp -implicitDefEqProofs only [go_sem, ↓reduceIte, c109]
                      obtain rfl := Option.some.inj H110
                      exact ⟨⟨(t120, t121, t122, t123, t124, t125, t140, t141, t142, t143), rfl⟩, ren_mk [(0, 0), (1, 1)] (by rfl) (rf_upd (by rfl) (rf_upd (by rfl) (rf_no _))) (rh_upd (rh_one (by rfl) (by rfl) (by rfl)) (rh_upd (rh_one (by rfl) (by rfl) (by rfl)) (rh_no _)))⟩
              · rintro ⟨⟨t1203, t1213, t1223, t1233, t1243, t1253, t1403, t1413, t1423, t1433⟩, he138⟩
                replace he138 := he138.symm
                subst he138
                try dsimp only at H88
                refine runR_take tab_ok fol 1 ?_
                obtain ⟨t1424, b130, H131⟩ := bind_inv H88
                try simp -implicitDefEqProofs only [go_sem, Nat.reduceEqDiff, Nat.reduceAdd, reduceCtorEq, ↓reduceIte]
                refine onCallD_pure (by first | rfl | (simp -implicitDefEqProofs only [go_sem, Int.reduceToNat, Int.reduceLT, Int.reduceLE, Int.reduceBEq, Int.reduceBNe, Nat.reduceLT, Nat.reduceBEq, Int.reduceEq, Nat.reduceEqDiff, Nat.reduceAdd, Nat.reduceSub, Nat.reduceMul, Nat.reduceLeDiff, reduceCtorEq, ↓reduceIte, eGPolicy, eGGroup, eGBound, eGStmt, eGAsk]; done) | (simp -implicitDefEqProofs only [go_sem, Int.reduceToNat, Int.reduceLT, Int.reduceLE, Int.reduceBEq, Int.reduceBNe, Nat.reduceLT, Nat.reduceBEq, Int.reduceEq, Nat.reduceEqDiff, Nat.reduceAdd, Nat.reduceSub, Nat.reduceMul, Nat.reduceLeDiff, reduceCtorEq, ↓reduceIte, eGPolicy, eGGroup, eGBound, eGStmt, eGAsk]; rfl)) (glob_In_ok b130) (by first | exact .inr rfl | exact .inl rfl) ?_
                obtain ⟨t146, b132, H133⟩ := bind_inv H131
                try simp -implicitDefEqProofs only [go_sem, Nat.reduceEqDiff, Nat.reduceAdd, reduceCtorEq, ↓reduceIte]
                refine onCallD_pure (by first | rfl | (simp -implicitDefEqProofs only [go_sem, Int.reduceToNat, Int.reduceLT, Int.reduceLE, Int.reduceBEq, Int.reduceBNe, Nat.reduceLT, Nat.reduceBEq, Int.reduceEq, Nat.reduceEqDiff, Nat.reduceAdd, Nat.reduceSub, Nat.reduceMul, Nat.reduceLeDiff, reduceCtorEq, ↓reduceIte, eGPolicy, eGGroup, eGBound, eGStmt, eGAsk]; done) | (simp -implicitDefEqProofs only [go_sem, Int.reduceToNat, Int.reduceLT, Int.reduceLE, Int.reduceBEq, Int.reduceBNe, Nat.reduceLT, Nat.reduceBEq, Int.reduceEq, Nat.reduceEqDiff, Nat.reduceAdd, Nat.reduceSub, Nat.reduceMul, Nat.reduceLeDiff, reduceCtorEq, ↓reduceIte, eGPolicy, eGGroup, eGBound, eGStmt, eGAsk]; rfl)) (ref22_Inside_ok b132) (by first | exact .inr rfl | exact .inl rfl) ?_
                try simp -implicitDefEqProofs only [go_sem, Nat.reduceEqDiff, Nat.reduceAdd, ↓reduceIte]
                rcases ite_inv H133 with ⟨c134, H135⟩ | ⟨c134, H135⟩
                · obtain ⟨t149, b136, H137⟩ := bind_inv H135
                  try simp -implicitDefEqProofs only [go_sem, Nat.reduceAdd, ↓reduceIte, c134]
                  refine onCallD_pure (by first | rfl | (simp -implicitDefEqProofs only [go_sem, Int.reduceToNat, Int.reduceLT, Int.reduceLE, Int.reduceBEq, Int.reduceBNe, Nat.reduceLT, Nat.reduceBEq, Int.reduceEq, Nat.reduceEqDiff, Nat.reduceAdd, Nat.reduceSub, Nat.reduceMul, Nat.reduceLeDiff, reduceCtorEq, ↓reduceIte, eGPolicy, eGGroup, eGBound, eGStmt, eGAsk, c134]; done) | (simp -implicitDefEqProofs only [go_sem, Int.reduceToNat, Int.reduceLT, Int.reduceLE, Int.reduceBEq, Int.reduceBNe, Nat.reduceLT, Nat.reduceBEq, Int.reduceEq, Nat.reduceEqDiff, Nat.reduceAdd, Nat.reduceSub, Nat.reduceMul, Nat.reduceLeDiff, reduceCtorEq, ↓reduceIte, eGPolicy, eGGroup, eGBound, eGStmt, eGAsk, c134]; rfl)) (law24_awake_ok b136) (by first | exact .inr rfl | exact .inl rfl) ?_
                  try simp -implicitDefEqProofs only [go_sem, Nat.reduceEqDiff, Nat.reduceAdd, ↓reduceIte]
                  refine Rd_endF (by rfl) ?_
                  try simp -implicitDefEqProofs only [go_sem]
                  obtain rfl := Option.some.inj H137
                  exact end_pure (by first | (simp -implicitDefEqProofs only [go_sem, ↓reduceIte, Try.f4] <;> rfl) | rfl) (by first | rfl | (simp -implicitDefEqProofs only [go_sem, Int.reduceToNat, Int.reduceLT, Int.reduceLE, Int.reduceBEq, Int.reduceBNe, Nat.reduceLT, Nat.reduceBEq, Int.reduceEq, Nat.reduceEqDiff, Nat.reduceAdd, Nat.reduceSub, Nat.reduceMul, Nat.reduceLeDiff, reduceCtorEq, ↓reduceIte, eGPolicy, eGGroup, eGBound, eGStmt, eGAsk, c134]; done) | (simp -implicitDefEqProofs only [go_sem, Int.reduceToNat, Int.reduceLT, Int.reduceLE, Int.reduceBEq, Int.reduceBNe, Nat.reduceLT, Nat.reduceBEq, Int.reduceEq, Nat.reduceEqDiff, Nat.reduceAdd, Nat.reduceSub, Nat.reduceMul, Nat.reduceLeDiff, reduceCtorEq, ↓reduceIte, eGPolicy, eGGroup, eGBound, eGStmt, eGAsk, c134]; rfl)) rfl (by intro h; first | rfl | cases h)
                · try simp -implicitDefEqProofs only [go_sem, Nat.reduceEqDiff, Nat.reduceAdd, ↓reduceIte, c134]
                  refine Rd_endF (by rfl) ?_
                  try simp -implicitDefEqProofs only [go_sem]
                  obtain rfl := Option.some.inj H135
                  exact end_pure (by first | (simp -implicitDefEqProofs only [go_sem, ↓reduceIte, Try.f4] <;> rfl) | rfl) (by first | rfl | (simp -implicitDefEqProofs only [go_sem, Int.reduceToNat, Int.reduceLT, Int.reduceLE, Int.reduceBEq, Int.reduceBNe, Nat.reduceLT, Nat.reduceBEq, Int.reduceEq, Nat.reduceEqDiff, Nat.reduceAdd, Nat.reduceSub, Nat.reduceMul, Nat.reduceLeDiff, reduceCtorEq, ↓reduceIte, eGPolicy, eGGroup, eGBound, eGStmt, eGAsk, c134]; done) | (simp -implicitDefEqProofs only [go_sem, Int.reduceToNat, Int.reduceLT, Int.reduceLE, Int.reduceBEq, Int.reduceBNe, Nat.reduceLT, Nat.reduceBEq, Int.reduceEq, Nat.reduceEqDiff, Nat.reduceAdd, Nat.reduceSub, Nat.reduceMul, Nat.reduceLeDiff, reduceCtorEq, ↓reduceIte, eGPolicy, eGGroup, eGBound, eGStmt, eGAsk, c134]; rfl)) rfl (by intro h; first | rfl | cases h)
end Go.Proofs.Ytkkhgdmmbhpckaa.Ab
