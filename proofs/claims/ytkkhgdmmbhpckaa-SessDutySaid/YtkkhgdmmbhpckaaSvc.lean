/-
  Functions, read off the code.
-/
import Derived.Test.YtkkhgdmmbhpckaaSvb
namespace Go.Proofs.Ytkkhgdmmbhpckaa.Ab
open Go.RowKit
def slices_IndexFunc_____string___string___sess_static_c1_L1 (n : Nat) (s : List (List ByteArray)) (c2 : GFact) : Nat → Int → Option ((Unit) ⊕ Int)
  | 0, _ => none
  | c + 1, t8 =>
    (if (decide (t8 < (s.length : Int))) then
      (idx s t8).bind fun x2 =>
      (sess_static_c1 n x2 c2).bind fun t162 =>
      (if t162 then
        some (.inr t8)
      else
        slices_IndexFunc_____string___string___sess_static_c1_L1 n s c2 c (IntKind.i64.wrap (t8 + 1)))
    else
      some (.inl ()))

def slices_IndexFunc_____string___string___sess_static_c1 (n : Nat) (s : List (List ByteArray)) (c2 : GFact) : Option Int :=
  (
    slices_IndexFunc_____string___string___sess_static_c1_L1 n s c2 n 0 : Option ((Unit) ⊕ Int)).bind fun
    | .inl _ =>
      some (-1)
    | .inr r => some r
theorem slices_IndexFunc_____string___string___sess_static_c1_ok {n : Nat} {s : List (List ByteArray)} {c2 : GFact} {r : Int} (H : slices_IndexFunc_____string___string___sess_static_c1 n s c2 = some r) : PureA Try.prog 103 [.d (D.sl (List.map (eL eS) s)), .fn 90 [D.pt (eGFact c2) 0]] (D.v (.int .i64 r)) true := by
  unfold slices_IndexFunc_____string___string___sess_static_c1 at H
  refine pureA_runR (tab := tab) tab_ok Try.func103 rfl (by kernel_rfl) (by kernel_rfl) (by simp [Try.f103]) ?_
  refine runR_seq ?_
  refine runR_take tab_ok fol 1 ?_
  try simp -implicitDefEqProofs only [go_sem, eGFact]
  refine runR_seq ?_
  refine runR_seq ?_
  refine runR_take tab_ok fol 1 ?_
  try simp -implicitDefEqProofs only [go_sem, Nat.reduceAdd, reduceCtorEq, ↓reduceIte]
  obtain ⟨e_, E1, H2⟩ := bind_inv H
  refine runR_join (α := { y : Unit // e_ = .inl y }) (fun | ⟨_, _⟩ => ⟨noFr, noHp, 0⟩) ?_ ?_
  · refine runR_block ?_
    refine runR_loop (α := { q : Nat × Int // slices_IndexFunc_____string___string___sess_static_c1_L1 n s c2 q.1 q.2 = some e_ }) (fun | ⟨⟨c, t8⟩, _⟩ => ⟨upd 0 (.d (.sl (List.map (eL eS) s)) true) (upd 1 (.fn 90 [.d (.pt [.v (.int .i64 c2.kind), .v (.string c2.a), .v (.string c2.b), .v (.string c2.c), .v (.int .i64 c2.n_), .sl (List.map eS c2.l), .v (.int .i64 c2.at_)] 0) true]) (upd 7 (.v (.int .i64 (s.length : Int))) (upd 8 (.v (.int .i64 t8)) noFr))), noHp, 0⟩) (fun q => q.1.1) ⟨(n, 0), E1⟩ ?_ ?_
    · exact ren_mk [] (by rfl) (rf_upd (by rfl) (rf_upd (by rfl) (rf_upd (by rfl) (rf_upd (by rfl) (rf_no _))))) (rh_no _)
    · rintro ⟨⟨c, t8⟩, L3⟩
      rcases c with _ | c
      · exact nomatch (show none = some _ from L3)
      · unfold slices_IndexFunc_____string___string___sess_static_c1_L1 at L3
        try dsimp only at L3
        refine runR_take tab_ok fol 1 ?_
        try simp -implicitDefEqProofs only [go_sem, Nat.reduceEqDiff, reduceCtorEq, ↓reduceIte]
        rcases ite_inv L3 with ⟨c16, H17⟩ | ⟨c16, H17⟩
        · obtain ⟨x2, b18, H19⟩ := bind_inv H17
          obtain ⟨h20, h21⟩ := idx_inv b18
          try simp only [Int.reduceToNat, Int.toNat_natCast] at h21
          have h22 := map_at (eL eS) h21
          obtain ⟨t162, b24, H25⟩ := bind_inv H19
          try simp -implicitDefEqProofs only [go_sem, Nat.reduceEqDiff, Nat.reduceAdd, reduceCtorEq, ↓reduceIte, c16, nat_of .i64 h20, h22]
          refine onCall_pure (by rfl) (sess_static_c1_ok b24) (by exact .inr rfl) ?_
          try simp -implicitDefEqProofs only [go_sem, Bool.false_and, ↓reduceIte]
          rcases ite_inv H25 with ⟨c26, H27⟩ | ⟨c26, H27⟩
          · try simp -implicitDefEqProofs only [go_sem, Nat.reduceEqDiff, Nat.reduceAdd, ↓reduceIte, c26]
            obtain rfl := Option.some.inj H27
            obtain rfl := Option.some.inj H2
            exact end_pure (by simp -implicitDefEqProofs only [go_sem, ↓reduceIte, Try.f103] <;> rfl) (by rfl) rfl (by intro h; rfl)
          · try simp -implicitDefEqProofs only [go_sem, Nat.reduceEqDiff, Nat.reduceAdd, reduceCtorEq, ↓reduceIte, c26]
            exact ⟨⟨(c, (IntKind.i64.wrap (t8 + 1))), H27⟩, ren_mk [] (by rfl) (rf_upd (by rfl) (rf_upd (by rfl) (rf_upd (by rfl) (rf_upd (by rfl) (rf_no _))))) (rh_no _), Nat.lt_succ_self _⟩
        · try simp -implicitDefEqProofs only [go_sem, ↓reduceIte, c16]
          obtain rfl := Option.some.inj H17
          exact ⟨⟨(), rfl⟩, ren_mk [] (by rfl) (rf_no _) (rh_no _)⟩
  · rintro ⟨_, he28⟩
    replace he28 := he28.symm
    subst he28
    try dsimp only at H2
    refine runR_take tab_ok fol 1 ?_
    try simp -implicitDefEqProofs only [go_sem]
    obtain rfl := Option.some.inj H2
    exact end_pure (by simp -implicitDefEqProofs only [go_sem, ↓reduceIte, Try.f103] <;> rfl) (by rfl) rfl (by intro h; rfl)
def slices_ContainsFunc_____string___string___sess_static_c1 (n : Nat) (s : List (List ByteArray)) (c2 : GFact) : Option Bool :=
  (slices_IndexFunc_____string___string___sess_static_c1 n s c2).bind fun t7 =>
  some (decide (0 ≤ t7))
theorem slices_ContainsFunc_____string___string___sess_static_c1_ok {n : Nat} {s : List (List ByteArray)} {c2 : GFact} {r : Bool} (H : slices_ContainsFunc_____string___string___sess_static_c1 n s c2 = some r) : PureA Try.prog 89 [.d (D.sl (List.map (eL eS) s)), .fn 90 [D.pt (eGFact c2) 0]] (D.v (.bool r)) true := by
  unfold slices_ContainsFunc_____string___string___sess_static_c1 at H
  refine pureA_runR (tab := tab) tab_ok Try.func89 rfl (by kernel_rfl) (by kernel_rfl) (by simp [Try.f89]) ?_
  refine runR_take tab_ok fol 1 ?_
  obtain ⟨t7, b1, H2⟩ := bind_inv H
  try simp -implicitDefEqProofs only [go_sem, Nat.reduceEqDiff, Nat.reduceAdd, reduceCtorEq, ↓reduceIte, eGFact]
  refine onCall_pureA (by rfl) (slices_IndexFunc_____string___string___sess_static_c1_ok b1) (by exact .inr rfl) ?_
  try simp -implicitDefEqProofs only [go_sem, Bool.false_and, Nat.reduceAdd, ↓reduceIte]
  obtain rfl := Option.some.inj H2
  exact end_pure (by simp -implicitDefEqProofs only [go_sem, ↓reduceIte, Try.f89] <;> rfl) (by rfl) rfl (by intro h; rfl)
def sess_static_L1 (n : Nat) (p : GRoles) (t13 : List ByteArray) : Nat → (List (List ByteArray) × Int) → Option (List (List ByteArray))
  | 0, _ => none
  | c + 1, (of, t15) =>
    (if (decide (t15 < (t13.length : Int))) then
      (idx t13 t15).bind fun x2 =>
      (sess_Roles n p x2).bind fun t222 =>
      (app of [t222]).bind fun l2 =>
      sess_static_L1 n p t13 c (l2, (IntKind.i64.wrap (t15 + 1)))
    else
      some of)
def sess_static_L1_f (n : Nat) (p : GRoles) (_ : List ByteArray) (st : List (List ByteArray)) (x2 : ByteArray) (k : List (List ByteArray) → Option (List (List ByteArray))) : Option (List (List ByteArray)) :=
  match st with
  | of =>
    (sess_Roles n p x2).bind fun t222 =>
    (app of [t222]).bind fun l2 =>
    k l2
def sess_static_L1_e (_ : Nat) (_ : GRoles) (_ : List ByteArray) (st : List (List ByteArray)) : Option (List (List ByteArray)) :=
  match st with
  | of => some of
theorem sess_static_L1_list (n : Nat) (p : GRoles) (t13 : List ByteArray) (hx : t13.length < 4611686018427387904) (c : Nat) (st : List (List ByteArray)) (ix : Nat) (hi : ix ≤ t13.length) (hc : t13.length - ix < c) : sess_static_L1 n p t13 c (match st, (ix : Int) with | of, ix => (of, ix)) = foldK (sess_static_L1_f n p t13) (sess_static_L1_e n p t13) (t13.drop ix) st :=
  loop_list (fun c st ix => sess_static_L1 n p t13 c (match st, ix with | of, ix => (of, ix))) t13 (sess_static_L1_f n p t13) (sess_static_L1_e n p t13) (fun _ _ _ => rfl) hx c st ix hi hc

def sess_static_L2 (n : Nat) (l : List GFact) (of3 : List (List ByteArray)) : Nat → Int → Option ((Unit) ⊕ (Int × Bool))
  | 0, _ => none
  | c + 1, t28 =>
    (if (decide (t28 < (l.length : Int))) then
      (idx l t28).bind fun x4 =>
      (if (x4.kind == 6) then
        (slices_ContainsFunc_____string___string___sess_static_c1 n of3 x4).bind fun t382 =>
        (if t382 then
          some (.inr (x4.at_, true))
        else
          sess_static_L2 n l of3 c (IntKind.i64.wrap (t28 + 1)))
      else
        sess_static_L2 n l of3 c (IntKind.i64.wrap (t28 + 1)))
    else
      some (.inl ()))
def sess_static_L2_f (n : Nat) (_ : List GFact) (of3 : List (List ByteArray)) (st : Unit) (x4 : GFact) (k : Unit → Option ((Unit) ⊕ (Int × Bool))) : Option ((Unit) ⊕ (Int × Bool)) :=
  match st with
  | _ =>
    (if (x4.kind == 6) then
      (slices_ContainsFunc_____string___string___sess_static_c1 n of3 x4).bind fun t382 =>
      (if t382 then
        some (.inr (x4.at_, true))
      else
        k ())
    else
      k ())
def sess_static_L2_e (_ : Nat) (_ : List GFact) (_ : List (List ByteArray)) (st : Unit) : Option ((Unit) ⊕ (Int × Bool)) :=
  match st with
  | _ => some (.inl ())
theorem sess_static_L2_list (n : Nat) (l : List GFact) (of3 : List (List ByteArray)) (hx : l.length < 4611686018427387904) (c : Nat) (st : Unit) (ix : Nat) (hi : ix ≤ l.length) (hc : l.length - ix < c) : sess_static_L2 n l of3 c (match st, (ix : Int) with | _, ix => ix) = foldK (sess_static_L2_f n l of3) (sess_static_L2_e n l of3) (l.drop ix) st :=
  loop_list (fun c st ix => sess_static_L2 n l of3 c (match st, ix with | _, ix => ix)) l (sess_static_L2_f n l of3) (sess_static_L2_e n l of3) (fun _ _ _ => rfl) hx c st ix hi hc

def sess_static (n : Nat) (l : List GFact) (p : GRoles) : Option (Int × Bool) :=
  (norm_Once n p.users).bind fun t13 =>
  (
    sess_static_L1 n p t13 n ([], 0) : Option (List (List ByteArray))).bind fun of3 =>
  (
    sess_static_L2 n l of3 n 0 : Option ((Unit) ⊕ (Int × Bool))).bind fun
    | .inl _ =>
      some (0, false)
    | .inr r => some r
theorem sess_static_ok {n : Nat} {l : List GFact} {p : GRoles} {r : Int × Bool} (H : sess_static n l p = some r) : PureOK Try.prog 61 [D.sl (List.map eGFact l), D.ag (eGRoles p)] (D.tu [D.v (.int .i64 r.1), D.v (.bool r.2)]) true := by
  unfold sess_static at H
  refine pure_runR (tab := tab) tab_ok Try.func61 rfl (by kernel_rfl) (by kernel_rfl) (by simp [Try.f61]) ?_
  refine runR_seq ?_
  refine runR_take tab_ok fol 1 ?_
  try simp -implicitDefEqProofs only [go_sem, Nat.reduceAdd, eGRoles]
  refine runR_seq ?_
  refine runR_take tab_ok fol 1 ?_
  try simp -implicitDefEqProofs only [go_sem, Nat.reduceAdd]
  refine runR_seq ?_
  refine runR_seq ?_
  refine runR_take tab_ok fol 1 ?_
  obtain ⟨t13, b1, H2⟩ := bind_inv H
  try simp -implicitDefEqProofs only [go_sem, Nat.reduceEqDiff, Nat.reduceAdd, reduceCtorEq, ↓reduceIte]
  refine onCall_pure (by rfl) (norm_Once_ok b1) (by exact .inr rfl) ?_
  try simp -implicitDefEqProofs only [go_sem, Bool.false_and, Nat.reduceAdd, ↓reduceIte]
  obtain ⟨e_, E3, H4⟩ := bind_inv H2
  refine runR_join (α := { y : List (List ByteArray) // e_ = y } × Nat) (fun | ⟨⟨of3, _⟩, g3⟩ => ⟨upd 0 (.d (.sl (List.map eGFact l)) true) (upd 6 (accV 0 g3 (List.map (eL eS) of3)) noFr), upd 0 (accO 1 g3 false (List.map (eL eS) of3)) noHp, 1⟩) ?_ ?_
  · refine runR_block ?_
    refine runR_loop (α := { q : (Nat × (List (List ByteArray) × Int)) × Nat // sess_static_L1 n p t13 q.1.1 q.1.2 = some e_ }) (fun | ⟨⟨⟨c, ⟨of, t15⟩⟩, g⟩, _⟩ => ⟨upd 0 (.d (.sl (List.map eGFact l)) true) (upd 3 (.pt 0 0) (upd 6 (accV 1 g (List.map (eL eS) of)) (upd 13 (.d (.sl (List.map eS t13)) false) (upd 14 (.v (.int .i64 (t13.length : Int))) (upd 15 (.v (.int .i64 t15)) noFr))))), upd 0 (some (.bx [.d (.sl (List.map eS p.users)) true, .d (.sl (List.map eS p.roles)) true, .d (.sl (List.map eGPair p.inherit)) true, .d (.sl (List.map eGPair p.assign)) true, .d (.sl (List.map eGGrant p.grants)) true, .d (.sl (List.map eGSod p.ssd)) true, .d (.sl (List.map eGSod p.dsd)) true, .d (.sl (List.map eGSession p.sessions)) true])) (upd 1 (accO 1 g false (List.map (eL eS) of)) noHp), 2⟩) (fun q => q.1.1.1) ⟨((n, ([], 0)), 0), E3⟩ ?_ ?_
    · exact ren_mk [(0, 0)] (by rfl) (rf_upd (by rfl) (rf_upd (by rfl) (rf_upd (by rfl) (rf_upd (by rfl) (rf_upd (by rfl) (rf_upd (by rfl) (rf_no _))))))) (rh_upd (rh_one (by rfl) (by rfl) (by rfl)) (rh_upd rh_accN (rh_no _)))
    · rintro ⟨⟨⟨c, ⟨of, t15⟩⟩, g⟩, L5⟩
      rcases c with _ | c
      · exact nomatch (show none = some _ from L5)
      · unfold sess_static_L1 at L5
        try dsimp only at L5
        refine runR_take tab_ok fol 1 ?_
        try simp -implicitDefEqProofs only [go_sem, Nat.reduceEqDiff, Nat.reduceAdd, reduceCtorEq, ↓reduceIte]
        rcases ite_inv L5 with ⟨c16, H17⟩ | ⟨c16, H17⟩
        · obtain ⟨x2, b18, H19⟩ := bind_inv H17
          obtain ⟨h20, h21⟩ := idx_inv b18
          try simp only [Int.reduceToNat, Int.toNat_natCast] at h21
          have h22 := map_at eS h21
          obtain ⟨t222, b24, H25⟩ := bind_inv H19
          try simp -implicitDefEqProofs only [go_sem, Nat.reduceEqDiff, Nat.reduceAdd, reduceCtorEq, ↓reduceIte, c16, nat_of .i64 h20, h22]
          refine onCall_pure (by rfl) (sess_Roles_ok b24) (by exact .inr rfl) ?_
          obtain ⟨l2, b26, H27⟩ := bind_inv H25
          obtain ⟨h28, h29⟩ := app_inv b26
          have h28 : of.length + 1 ≤ 4294967296 := h28
          have h30 : List.map (eL eS) of ++ [[.sl (List.map eS t222)]] = List.map (eL eS) l2 := app_map (eL eS) h29
          have h31 : of.length + 1 = l2.length := app_len h29
          have h32 : l2.length ≤ 4294967296 := by omega
          have q33 : 0 < l2.length := by omega
          try simp -implicitDefEqProofs only [go_sem, Bool.false_and, Nat.reduceLT, Nat.reduceEqDiff, Nat.reduceAdd, Nat.reduceLeDiff, reduceCtorEq, ↓reduceIte, h30, h31, h32]
          rcases of with _ | ⟨q0, q1⟩
          · try simp only [List.map_nil, accI, accN]
            exact ⟨⟨((c, (l2, (IntKind.i64.wrap (t15 + 1)))), 0), H27⟩, ren_mk [(0, 0), (1, 11)] (by rfl) (rf_upd (by rfl) (rf_upd (by rfl) (rf_upd (by exact ren_accP (by rfl) q33) (rf_upd (by rfl) (rf_upd (by rfl) (rf_upd (by rfl) (rf_no _))))))) (rh_upd (rh_one (by rfl) (by rfl) (by rfl)) (rh_upd (by exact rh_accP (by rfl) q33 (by rfl)) (rh_no _))), Nat.lt_succ_self _⟩
          · try simp only [List.map_cons, accI, accN]
            exact ⟨⟨((c, (l2, (IntKind.i64.wrap (t15 + 1)))), (g + 1)), H27⟩, ren_mk [(0, 0), (1, 1)] (by rfl) (rf_upd (by rfl) (rf_upd (by rfl) (rf_upd (by exact ren_accP (by rfl) q33) (rf_upd (by rfl) (rf_upd (by rfl) (rf_upd (by rfl) (rf_no _))))))) (rh_upd (rh_one (by rfl) (by rfl) (by rfl)) (rh_upd (by exact rh_accP (by rfl) q33 (by rfl)) (rh_no _))), Nat.lt_succ_self _⟩
        · try simp -implicitDefEqProofs only [go_sem, ↓reduceIte, c16]
          obtain rfl := Option.some.inj H17
          exact ⟨⟨⟨of, rfl⟩, g⟩, ren_mk [(0, 1)] (by rfl) (rf_upd (by rfl) (rf_upd (ren_acc (by rfl)) (rf_no _))) (rh_upd (rh_acc (by rfl) (by rfl)) (rh_no _))⟩
  · rintro ⟨⟨of3, he66⟩, g3⟩
    replace he66 := he66.symm
    subst he66
    try dsimp only at H4
    refine runR_seq ?_
    refine runR_seq ?_
    refine runR_take tab_ok fol 1 ?_
    try simp -implicitDefEqProofs only [go_sem, Nat.reduceAdd, ↓reduceIte]
    obtain ⟨e_2, E34, H35⟩ := bind_inv H4
    refine runR_join (α := { y : Unit // e_2 = .inl y }) (fun | ⟨_, _⟩ => ⟨noFr, noHp, 0⟩) ?_ ?_
    · refine runR_block ?_
      refine runR_loop (α := { q : (Nat × Int) × Nat // sess_static_L2 n l of3 q.1.1 q.1.2 = some e_2 }) (fun | ⟨⟨⟨c, t28⟩, g5⟩, _⟩ => ⟨upd 6 (accV 0 g5 (List.map (eL eS) of3)) (upd 26 (.d (.sl (List.map eGFact l)) true) (upd 27 (.v (.int .i64 (l.length : Int))) (upd 28 (.v (.int .i64 t28)) noFr))), upd 0 (accO 1 g5 false (List.map (eL eS) of3)) noHp, 1⟩) (fun q => q.1.1.1) ⟨((n, 0), g3), E34⟩ ?_ ?_
      · exact ren_mk [(0, 0)] (by rfl) (rf_upd (ren_acc (by rfl)) (rf_upd (by rfl) (rf_upd (by rfl) (rf_upd (by rfl) (rf_no _))))) (rh_upd (rh_acc (by rfl) (by rfl)) (rh_no _))
      · rintro ⟨⟨⟨c, t28⟩, g5⟩, L36⟩
        rcases c with _ | c
        · exact nomatch (show none = some _ from L36)
        · unfold sess_static_L2 at L36
          try dsimp only at L36
          refine runR_take tab_ok fol 1 ?_
          try simp -implicitDefEqProofs only [go_sem, Nat.reduceEqDiff, Nat.reduceAdd, ↓reduceIte]
          rcases ite_inv L36 with ⟨c51, H52⟩ | ⟨c51, H52⟩
          · obtain ⟨x4, b53, H54⟩ := bind_inv H52
            obtain ⟨h55, h56⟩ := idx_inv b53
            try simp only [Int.reduceToNat, Int.toNat_natCast] at h56
            have h57 := map_at eGFact h56
            try simp -implicitDefEqProofs only [go_sem, Nat.reduceEqDiff, Nat.reduceAdd, reduceCtorEq, ↓reduceIte, eGFact, c51, nat_of .i64 h55, h57]
            rcases ite_inv H54 with ⟨c59, H60⟩ | ⟨c59, H60⟩
            · obtain ⟨t382, b61, H62⟩ := bind_inv H60
              try simp -implicitDefEqProofs only [go_sem, Nat.reduceEqDiff, Nat.reduceAdd, ↓reduceIte, c59]
              refine onCall_pureA (by simp -implicitDefEqProofs only [go_sem, reduceCtorEq, ↓reduceIte, eGFact]; rfl) (slices_ContainsFunc_____string___string___sess_static_c1_ok b61) (by exact .inr rfl) ?_
              try simp -implicitDefEqProofs only [go_sem, Bool.false_and, Nat.reduceEqDiff, Nat.reduceAdd, ↓reduceIte]
              rcases ite_inv H62 with ⟨c63, H64⟩ | ⟨c63, H64⟩
              · try simp -implicitDefEqProofs only [go_sem, Nat.reduceEqDiff, Nat.reduceAdd, reduceCtorEq, ↓reduceIte, c63]
                obtain rfl := Option.some.inj H64
                obtain rfl := Option.some.inj H35
                exact end_pure (by simp -implicitDefEqProofs only [go_sem, Nat.reduceEqDiff, ↓reduceIte, Try.f61] <;> rfl) (by rfl) rfl (by intro h; rfl)
              · try simp -implicitDefEqProofs only [go_sem, Nat.reduceEqDiff, Nat.reduceAdd, ↓reduceIte, c63]
                exact ⟨⟨((c, (IntKind.i64.wrap (t28 + 1))), g5), H64⟩, ren_mk [(0, 0)] (by rfl) (rf_upd (ren_acc (by rfl)) (rf_upd (by rfl) (rf_upd (by rfl) (rf_upd (by rfl) (rf_no _))))) (rh_upd (rh_acc (by rfl) (by rfl)) (rh_no _)), Nat.lt_succ_self _⟩
            · try simp -implicitDefEqProofs only [go_sem, Nat.reduceEqDiff, Nat.reduceAdd, ↓reduceIte, c59]
              exact ⟨⟨((c, (IntKind.i64.wrap (t28 + 1))), g5), H60⟩, ren_mk [(0, 0)] (by rfl) (rf_upd (ren_acc (by rfl)) (rf_upd (by rfl) (rf_upd (by rfl) (rf_upd (by rfl) (rf_no _))))) (rh_upd (rh_acc (by rfl) (by rfl)) (rh_no _)), Nat.lt_succ_self _⟩
          · try simp -implicitDefEqProofs only [go_sem, ↓reduceIte, c51]
            obtain rfl := Option.some.inj H52
            exact ⟨⟨(), rfl⟩, ren_mk [] (by rfl) (rf_no _) (rh_no _)⟩
    · rintro ⟨_, he65⟩
      replace he65 := he65.symm
      subst he65
      try dsimp only at H35
      refine runR_take tab_ok fol 1 ?_
      try simp -implicitDefEqProofs only [go_sem, Nat.reduceAdd]
      obtain rfl := Option.some.inj H35
      exact end_pure (by simp -implicitDefEqProofs only [go_sem, Nat.reduceEqDiff, ↓reduceIte, Try.f61] <;> rfl) (by rfl) rfl (by intro h; rfl)
def sess_session_L1 (n : Nat) (p : GRoles) (t25 : List ByteArray) : Nat → Int → Option ((Unit) ⊕ Int)
  | 0, _ => none
  | c + 1, t29 =>
    (if (decide (t29 < (p.dsd.length : Int))) then
      (idx p.dsd t29).bind fun x2 =>
      (sess_common n x2.roles t25).bind fun t362 =>
      (if (decide (x2.n_ ≤ t362)) then
        some (.inr 19)
      else
        sess_session_L1 n p t25 c (IntKind.i64.wrap (t29 + 1)))
    else
      some (.inl ()))
def sess_session_L1_f (n : Nat) (_ : GRoles) (t25 : List ByteArray) (st : Unit) (x2 : GSod) (k : Unit → Option ((Unit) ⊕ Int)) : Option ((Unit) ⊕ Int) :=
  match st with
  | _ =>
    (sess_common n x2.roles t25).bind fun t362 =>
    (if (decide (x2.n_ ≤ t362)) then
      some (.inr 19)
    else
      k ())
def sess_session_L1_e (_ : Nat) (_ : GRoles) (_ : List ByteArray) (st : Unit) : Option ((Unit) ⊕ Int) :=
  match st with
  | _ => some (.inl ())
theorem sess_session_L1_list (n : Nat) (p : GRoles) (t25 : List ByteArray) (hx : p.dsd.length < 4611686018427387904) (c : Nat) (st : Unit) (ix : Nat) (hi : ix ≤ p.dsd.length) (hc : p.dsd.length - ix < c) : sess_session_L1 n p t25 c (match st, (ix : Int) with | _, ix => ix) = foldK (sess_session_L1_f n p t25) (sess_session_L1_e n p t25) (p.dsd.drop ix) st :=
  loop_list (fun c st ix => sess_session_L1 n p t25 c (match st, ix with | _, ix => ix)) p.dsd (sess_session_L1_f n p t25) (sess_session_L1_e n p t25) (fun _ _ _ => rfl) hx c st ix hi hc

def sess_session (n : Nat) (f : GFact) (p : GRoles) : Option Int :=
  (sess_Roles n p f.b).bind fun t12 =>
  (sess_common n f.l t12).bind fun t16 =>
  (norm_Once n f.l).bind fun t19 =>
  (if (decide (t16 < (t19.length : Int))) then
    some 18
  else
    (sess_Active n p f.a).bind fun t25 =>
    (
      sess_session_L1 n p t25 n 0 : Option ((Unit) ⊕ Int)).bind fun
      | .inl _ =>
        some 0
      | .inr r => some r)
theorem sess_session_ok {n : Nat} {f : GFact} {p : GRoles} {r : Int} (H : sess_session n f p = some r) : PureOK Try.prog 62 [D.ag (eGFact f), D.ag (eGRoles p)] (D.v (.int .i64 r)) true := by
  unfold sess_session at H
  refine pure_runR (tab := tab) tab_ok Try.func62 rfl (by kernel_rfl) (by kernel_rfl) (by simp [Try.f62]) ?_
  refine runR_seq ?_
  refine runR_take tab_ok fol 1 ?_
  try simp -implicitDefEqProofs only [go_sem, Nat.reduceEqDiff, Nat.reduceAdd, ↓reduceIte, eGFact, eGRoles]
  refine runR_seq ?_
  refine runR_take tab_ok fol 1 ?_
  obtain ⟨t12, b1, H2⟩ := bind_inv H
  try simp -implicitDefEqProofs only [go_sem, Nat.reduceEqDiff, Nat.reduceAdd, reduceCtorEq, ↓reduceIte]
  refine onCall_pure (by rfl) (sess_Roles_ok b1) (by exact .inr rfl) ?_
  try simp -implicitDefEqProofs only [go_sem, Bool.false_and, Nat.reduceAdd, ↓reduceIte]
  refine runR_seq ?_
  refine runR_take tab_ok fol 1 ?_
  obtain ⟨t16, b3, H4⟩ := bind_inv H2
  try simp -implicitDefEqProofs only [go_sem, Nat.reduceEqDiff, Nat.reduceAdd, reduceCtorEq, ↓reduceIte]
  refine onCallD_pure (by rfl) (sess_common_ok b3) (by exact .inr rfl) ?_
  obtain ⟨t19, b5, H6⟩ := bind_inv H4
  try simp -implicitDefEqProofs only [go_sem, Bool.false_and, Nat.reduceEqDiff, Nat.reduceAdd, reduceCtorEq, ↓reduceIte]
  refine onCallD_pure (by rfl) (norm_Once_ok b5) (by exact .inr rfl) ?_
  try simp -implicitDefEqProofs only [go_sem, Bool.false_and, Nat.reduceEqDiff, Nat.reduceAdd, ↓reduceIte]
  refine Rd_endF (by rfl) ?_
  try simp -implicitDefEqProofs only [go_sem, ↓reduceIte]
  rcases ite_inv H6 with ⟨c7, H8⟩ | ⟨c7, H8⟩
  · try simp -implicitDefEqProofs only [go_sem, Nat.reduceAdd, c7]
    obtain rfl := Option.some.inj H8
    exact end_pure (by simp -implicitDefEqProofs only [go_sem, ↓reduceIte, Try.f62] <;> rfl) (by rfl) rfl (by intro h; rfl)
  · try simp -implicitDefEqProofs only [go_sem, c7]
    refine runR_seq ?_
    refine runR_take tab_ok fol 1 ?_
    obtain ⟨t25, b9, H10⟩ := bind_inv H8
    try simp -implicitDefEqProofs only [go_sem, Nat.reduceEqDiff, Nat.reduceAdd, reduceCtorEq, ↓reduceIte]
    refine onCall_pure (by rfl) (sess_Active_ok b9) (by exact .inr rfl) ?_
    try simp -implicitDefEqProofs only [go_sem, Bool.false_and, Nat.reduceAdd, ↓reduceIte]
    refine runR_seq ?_
    refine runR_seq ?_
    refine runR_take tab_ok fol 1 ?_
    try simp -implicitDefEqProofs only [go_sem, Nat.reduceEqDiff, Nat.reduceAdd, reduceCtorEq, ↓reduceIte]
    obtain ⟨e_, E11, H12⟩ := bind_inv H10
    refine runR_join (α := { y : Unit // e_ = .inl y }) (fun | ⟨_, _⟩ => ⟨noFr, noHp, 0⟩) ?_ ?_
    · refine runR_block ?_
      refine runR_loop (α := { q : Nat × Int // sess_session_L1 n p t25 q.1 q.2 = some e_ }) (fun | ⟨⟨c, t29⟩, _⟩ => ⟨upd 6 (.d (.sl (List.map eS t25)) false) (upd 27 (.d (.sl (List.map eGSod p.dsd)) true) (upd 28 (.v (.int .i64 (p.dsd.length : Int))) (upd 29 (.v (.int .i64 t29)) noFr))), noHp, 0⟩) (fun q => q.1.1) ⟨(n, 0), E11⟩ ?_ ?_
      · exact ren_mk [] (by rfl) (rf_upd (by rfl) (rf_upd (by rfl) (rf_upd (by rfl) (rf_upd (by rfl) (rf_no _))))) (rh_no _)
      · rintro ⟨⟨c, t29⟩, L13⟩
        rcases c with _ | c
        · exact nomatch (show none = some _ from L13)
        · unfold sess_session_L1 at L13
          try dsimp only at L13
          refine runR_take tab_ok fol 1 ?_
          try simp -implicitDefEqProofs only [go_sem, Nat.reduceEqDiff, ↓reduceIte]
          rcases ite_inv L13 with ⟨c26, H27⟩ | ⟨c26, H27⟩
          · obtain ⟨x2, b28, H29⟩ := bind_inv H27
            obtain ⟨h30, h31⟩ := idx_inv b28
            try simp only [Int.reduceToNat, Int.toNat_natCast] at h31
            have h32 := map_at eGSod h31
            obtain ⟨t362, b34, H35⟩ := bind_inv H29
            try simp -implicitDefEqProofs only [go_sem, Nat.reduceEqDiff, Nat.reduceAdd, reduceCtorEq, ↓reduceIte, eGSod, c26, nat_of .i64 h30, h32]
            refine onCallD_pure (by rfl) (sess_common_ok b34) (by exact .inr rfl) ?_
            try simp -implicitDefEqProofs only [go_sem, Bool.false_and, Nat.reduceEqDiff, Nat.reduceAdd, reduceCtorEq, ↓reduceIte]
            refine Rd_endF (by rfl) ?_
            try simp -implicitDefEqProofs only [go_sem, ↓reduceIte]
            rcases ite_inv H35 with ⟨c36, H37⟩ | ⟨c36, H37⟩
            · try simp -implicitDefEqProofs only [go_sem, Nat.reduceAdd, c36]
              obtain rfl := Option.some.inj H37
              obtain rfl := Option.some.inj H12
              exact end_pure (by simp -implicitDefEqProofs only [go_sem, ↓reduceIte, Try.f62] <;> rfl) (by rfl) rfl (by intro h; rfl)
            · try simp -implicitDefEqProofs only [go_sem, Nat.reduceEqDiff, Nat.reduceAdd, ↓reduceIte, c36]
              exact ⟨⟨(c, (IntKind.i64.wrap (t29 + 1))), H37⟩, ren_mk [] (by rfl) (rf_upd (by rfl) (rf_upd (by rfl) (rf_upd (by rfl) (rf_upd (by rfl) (rf_no _))))) (rh_no _), Nat.lt_succ_self _⟩
          · try simp -implicitDefEqProofs only [go_sem, ↓reduceIte, c26]
            obtain rfl := Option.some.inj H27
            exact ⟨⟨(), rfl⟩, ren_mk [] (by rfl) (rf_no _) (rh_no _)⟩
    · rintro ⟨_, he38⟩
      replace he38 := he38.symm
      subst he38
      try dsimp only at H12
      refine runR_take tab_ok fol 1 ?_
      try simp -implicitDefEqProofs only [go_sem]
      obtain rfl := Option.some.inj H12
      exact end_pure (by simp -implicitDefEqProofs only [go_sem, ↓reduceIte, Try.f62] <;> rfl) (by rfl) rfl (by intro h; rfl)
def sess_Valid_L1 (n : Nat) (t21 : GRoles) : Nat → (List (ByteArray × Int) × List (ByteArray × Int) × Int) → Option (List (ByteArray × Int) × List (ByteArray × Int))
  | 0, _ => none
  | c + 1, (t502, t512, t28) =>
    (if (decide (t28 < (t21.users.length : Int))) then
      (idx t21.users t28).bind fun x2 =>
      sess_Valid_L1 n t21 c ((mset x2 1 t502), t512, (IntKind.i64.wrap (t28 + 1)))
    else
      some (t502, t512))
def sess_Valid_L1_f (_ : Nat) (_ : GRoles) (st : List (ByteArray × Int) × List (ByteArray × Int)) (x2 : ByteArray) (k : (List (ByteArray × Int) × List (ByteArray × Int)) → Option (List (ByteArray × Int) × List (ByteArray × Int))) : Option (List (ByteArray × Int) × List (ByteArray × Int)) :=
  match st with
  | (t502, t512) =>
    k ((mset x2 1 t502), t512)
def sess_Valid_L1_e (_ : Nat) (_ : GRoles) (st : List (ByteArray × Int) × List (ByteArray × Int)) : Option (List (ByteArray × Int) × List (ByteArray × Int)) :=
  match st with
  | (t502, t512) => some (t502, t512)
theorem sess_Valid_L1_list (n : Nat) (t21 : GRoles) (hx : t21.users.length < 4611686018427387904) (c : Nat) (st : List (ByteArray × Int) × List (ByteArray × Int)) (ix : Nat) (hi : ix ≤ t21.users.length) (hc : t21.users.length - ix < c) : sess_Valid_L1 n t21 c (match st, (ix : Int) with | (t502, t512), ix => (t502, t512, ix)) = foldK (sess_Valid_L1_f n t21) (sess_Valid_L1_e n t21) (t21.users.drop ix) st :=
  loop_list (fun c st ix => sess_Valid_L1 n t21 c (match st, ix with | (t502, t512), ix => (t502, t512, ix))) t21.users (sess_Valid_L1_f n t21) (sess_Valid_L1_e n t21) (fun _ _ _ => rfl) hx c st ix hi hc

def sess_Valid_L2 (n : Nat) (t21 : GRoles) : Nat → (List (ByteArray × Int) × Int) → Option (List (ByteArray × Int))
  | 0, _ => none
  | c + 1, (t515, t39) =>
    (if (decide (t39 < (t21.roles.length : Int))) then
      (idx t21.roles t39).bind fun x4 =>
      sess_Valid_L2 n t21 c ((mset x4 1 t515), (IntKind.i64.wrap (t39 + 1)))
    else
      some t515)
def sess_Valid_L2_f (_ : Nat) (_ : GRoles) (st : List (ByteArray × Int)) (x4 : ByteArray) (k : (List (ByteArray × Int)) → Option (List (ByteArray × Int))) : Option (List (ByteArray × Int)) :=
  match st with
  | t515 =>
    k (mset x4 1 t515)
def sess_Valid_L2_e (_ : Nat) (_ : GRoles) (st : List (ByteArray × Int)) : Option (List (ByteArray × Int)) :=
  match st with
  | t515 => some t515
theorem sess_Valid_L2_list (n : Nat) (t21 : GRoles) (hx : t21.roles.length < 4611686018427387904) (c : Nat) (st : List (ByteArray × Int)) (ix : Nat) (hi : ix ≤ t21.roles.length) (hc : t21.roles.length - ix < c) : sess_Valid_L2 n t21 c (match st, (ix : Int) with | t515, ix => (t515, ix)) = foldK (sess_Valid_L2_f n t21) (sess_Valid_L2_e n t21) (t21.roles.drop ix) st :=
  loop_list (fun c st ix => sess_Valid_L2 n t21 c (match st, ix with | t515, ix => (t515, ix))) t21.roles (sess_Valid_L2_f n t21) (sess_Valid_L2_e n t21) (fun _ _ _ => rfl) hx c st ix hi hc

def sess_Valid_L3 (n : Nat) (t0 : List GFact) (t504 : List (ByteArray × Int)) (t517 : List (ByteArray × Int)) : Nat → Int → Option ((Unit) ⊕ (Int × Int))
  | 0, _ => none
  | c + 1, t49 =>
    (if (decide (t49 < (t0.length : Int))) then
      (idx t0 t49).bind fun x6 =>
      (slc t0 0 t49).bind fun l2 =>
      (sess_told_one n (⟨t504, t517⟩ : SessTold) x6 l2).bind fun t592 =>
      (if (t592 != 0) then
        some (.inr (x6.at_, t592))
      else
        sess_Valid_L3 n t0 t504 t517 c (IntKind.i64.wrap (t49 + 1)))
    else
      some (.inl ()))

def sess_Valid_L4 (n : Nat) (t0 : List GFact) (t21 : GRoles) : Nat → Int → Option ((Unit) ⊕ (Int × Int))
  | 0, _ => none
  | c + 1, t83 =>
    (if (decide (t83 < (t0.length : Int))) then
      (idx t0 t83).bind fun x8 =>
      (if (x8.kind != 8) then
        sess_Valid_L4 n t0 t21 c (IntKind.i64.wrap (t83 + 1))
      else
        (sess_session n x8 t21).bind fun t922 =>
        (if (t922 != 0) then
          some (.inr (x8.at_, t922))
        else
          sess_Valid_L4 n t0 t21 c (IntKind.i64.wrap (t83 + 1))))
    else
      some (.inl ()))
def sess_Valid_L4_f (n : Nat) (_ : List GFact) (t21 : GRoles) (st : Unit) (x8 : GFact) (k : Unit → Option ((Unit) ⊕ (Int × Int))) : Option ((Unit) ⊕ (Int × Int)) :=
  match st with
  | _ =>
    (if (x8.kind != 8) then
      k ()
    else
      (sess_session n x8 t21).bind fun t922 =>
      (if (t922 != 0) then
        some (.inr (x8.at_, t922))
      else
        k ()))
def sess_Valid_L4_e (_ : Nat) (_ : List GFact) (_ : GRoles) (st : Unit) : Option ((Unit) ⊕ (Int × Int)) :=
  match st with
  | _ => some (.inl ())
theorem sess_Valid_L4_list (n : Nat) (t0 : List GFact) (t21 : GRoles) (hx : t0.length < 4611686018427387904) (c : Nat) (st : Unit) (ix : Nat) (hi : ix ≤ t0.length) (hc : t0.length - ix < c) : sess_Valid_L4 n t0 t21 c (match st, (ix : Int) with | _, ix => ix) = foldK (sess_Valid_L4_f n t0 t21) (sess_Valid_L4_e n t0 t21) (t0.drop ix) st :=
  loop_list (fun c st ix => sess_Valid_L4 n t0 t21 c (match st, ix with | _, ix => ix)) t0 (sess_Valid_L4_f n t0 t21) (sess_Valid_L4_e n t0 t21) (fun _ _ _ => rfl) hx c st ix hi hc

def sess_Valid (n : Nat) (t0 : List GFact) : Option (Int × Int) :=
  (norm_Of n t0).bind fun t21 =>
  (
    sess_Valid_L1 n t21 n ([], [], 0) : Option (List (ByteArray × Int) × List (ByteArray × Int))).bind fun (t504, t514) =>
  (
    sess_Valid_L2 n t21 n (t514, 0) : Option (List (ByteArray × Int))).bind fun t517 =>
  (
    sess_Valid_L3 n t0 t504 t517 n 0 : Option ((Unit) ⊕ (Int × Int))).bind fun
    | .inl _ =>
      (sess_loop n t0).bind fun t68 =>
      (if t68.2 then
        some (t68.1, 14)
      else
        (sess_static n t0 t21).bind fun t76 =>
        (if t76.2 then
          some (t76.1, 17)
        else
          (
            sess_Valid_L4 n t0 t21 n 0 : Option ((Unit) ⊕ (Int × Int))).bind fun
            | .inl _ =>
              some (0, 0)
            | .inr r => some r))
    | .inr r => some r
set_option maxHeartbeats 8000000 in
theorem sess_Valid_ok {n : Nat} {t0 : List GFact} {r : Int × Int} (H : sess_Valid n t0 = some r) : PureOK Try.prog 32 [D.sl (List.map eGFact t0)] (D.tu [D.v (.int .i64 r.1), D.v (.int .i64 r.2)]) true := by
  unfold sess_Valid at H
  refine pure_runR (tab := tab) tab_ok Try.func32 rfl (by kernel_rfl) (by kernel_rfl) (by simp [Try.f32]) ?_
  refine runR_seq ?_
  refine runR_take tab_ok fol 1 ?_
  try simp -implicitDefEqProofs only [go_sem, Nat.reduceAdd]
  refine runR_seq ?_
  refine runR_take tab_ok fol 1 ?_
  obtain ⟨t21, b1, H2⟩ := bind_inv H
  try simp -implicitDefEqProofs only [go_sem, Nat.reduceAdd, reduceCtorEq, ↓reduceIte]
  refine onCall_pure (by rfl) (norm_Of_ok b1) (by exact .inr rfl) ?_
  try simp -implicitDefEqProofs only [go_sem, Bool.false_and, Nat.reduceEqDiff, Nat.reduceAdd, ↓reduceIte, eGRoles]
  refine runR_seq ?_
  refine runR_take tab_ok fol 1 ?_
  try simp -implicitDefEqProofs only [go_sem, Nat.reduceEqDiff, Nat.reduceAdd, Nat.reduceLeDiff, ↓reduceIte]
  refine runR_seq ?_
  refine runR_seq ?_
  refine runR_take tab_ok fol 1 ?_
  try simp -implicitDefEqProofs only [go_sem, Nat.reduceEqDiff, Nat.reduceAdd, reduceCtorEq, ↓reduceIte]
  obtain ⟨e_, E3, H4⟩ := bind_inv H2
  refine runR_join (α := { y : List (ByteArray × Int) × List (ByteArray × Int) // e_ = y }) (fun | ⟨⟨t504, t514⟩, _⟩ => ⟨upd 0 (.d (.sl (List.map eGFact t0)) true) (upd 4 (.pt 0 0) (upd 5 (.pt 1 0) noFr)), upd 0 (some (.bx [.d (.sl (List.map eS t21.users)) false, .d (.sl (List.map eS t21.roles)) false, .d (.sl (List.map eGPair t21.inherit)) false, .d (.sl (List.map eGPair t21.assign)) false, .d (.sl (List.map eGGrant t21.grants)) false, .d (.sl (List.map eGSod t21.ssd)) false, .d (.sl (List.map eGSod t21.dsd)) false, .d (.sl (List.map eGSession t21.sessions)) false])) (upd 1 (some (.bx [.mo 2, .mo 3])) (upd 2 (some (.mo (encM Value.string vI t504) false)) (upd 3 (some (.mo (encM Value.string vI t514) false)) noHp))), 4⟩) ?_ ?_
  · refine runR_block ?_
    refine runR_loop (α := { q : Nat × (List (ByteArray × Int) × List (ByteArray × Int) × Int) // sess_Valid_L1 n t21 q.1 q.2 = some e_ }) (fun | ⟨⟨c, ⟨t502, t512, t28⟩⟩, _⟩ => ⟨upd 0 (.d (.sl (List.map eGFact t0)) true) (upd 4 (.pt 0 0) (upd 5 (.pt 1 0) (upd 26 (.d (.sl (List.map eS t21.users)) false) (upd 27 (.v (.int .i64 (t21.users.length : Int))) (upd 28 (.v (.int .i64 t28)) noFr))))), upd 0 (some (.bx [.d (.sl (List.map eS t21.users)) false, .d (.sl (List.map eS t21.roles)) false, .d (.sl (List.map eGPair t21.inherit)) false, .d (.sl (List.map eGPair t21.assign)) false, .d (.sl (List.map eGGrant t21.grants)) false, .d (.sl (List.map eGSod t21.ssd)) false, .d (.sl (List.map eGSod t21.dsd)) false, .d (.sl (List.map eGSession t21.sessions)) false])) (upd 1 (some (.bx [.mo 2, .mo 3])) (upd 2 (some (.mo (encM Value.string vI t502) false)) (upd 3 (some (.mo (encM Value.string vI t512) false)) noHp))), 4⟩) (fun q => q.1.1) ⟨(n, ([], [], 0)), E3⟩ ?_ ?_
    · exact ren_mk [(0, 4), (1, 9), (2, 6), (3, 7)] (by rfl) (rf_upd (by rfl) (rf_upd (by rfl) (rf_upd (by rfl) (rf_upd (by rfl) (rf_upd (by rfl) (rf_upd (by rfl) (rf_no _))))))) (rh_upd (rh_one (by rfl) (by rfl) (by rfl)) (rh_upd (rh_one (by rfl) (by rfl) (by rfl)) (rh_upd (rh_one (by rfl) (renO_encM (fun _ => rfl) _ _) (by rfl)) (rh_upd (rh_one (by rfl) (renO_encM (fun _ => rfl) _ _) (by rfl)) (rh_no _)))))
    · rintro ⟨⟨c, ⟨t502, t512, t28⟩⟩, L5⟩
      rcases c with _ | c
      · exact nomatch (show none = some _ from L5)
      · unfold sess_Valid_L1 at L5
        try dsimp only at L5
        refine runR_take tab_ok fol 1 ?_
        try simp -implicitDefEqProofs only [go_sem, Nat.reduceEqDiff, Nat.reduceAdd, reduceCtorEq, ↓reduceIte]
        rcases ite_inv L5 with ⟨c14, H15⟩ | ⟨c14, H15⟩
        · obtain ⟨x2, b16, H17⟩ := bind_inv H15
          obtain ⟨h18, h19⟩ := idx_inv b16
          try simp only [Int.reduceToNat, Int.toNat_natCast] at h19
          have h20 := map_at eS h19
          try simp -implicitDefEqProofs only [go_sem, Nat.reduceEqDiff, Nat.reduceAdd, reduceCtorEq, ↓reduceIte, c14, nat_of .i64 h18, h20]
          exact ⟨⟨(c, ((mset x2 1 t502), t512, (IntKind.i64.wrap (t28 + 1)))), H17⟩, ren_mk [(0, 0), (1, 1), (2, 2), (3, 3)] (by rfl) (rf_upd (by rfl) (rf_upd (by rfl) (rf_upd (by rfl) (rf_upd (by rfl) (rf_upd (by rfl) (rf_upd (by rfl) (rf_no _))))))) (rh_upd (rh_one (by rfl) (by rfl) (by rfl)) (rh_upd (rh_one (by rfl) (by rfl) (by rfl)) (rh_upd (rh_one (by rfl) (renO_encM (fun _ => rfl) _ _) (by rfl)) (rh_upd (rh_one (by rfl) (renO_encM (fun _ => rfl) _ _) (by rfl)) (rh_no _))))), Nat.lt_succ_self _⟩
        · try simp -implicitDefEqProofs only [go_sem, ↓reduceIte, c14]
          obtain rfl := Option.some.inj H15
          exact ⟨⟨(t502, t512), rfl⟩, ren_mk [(0, 0), (1, 1), (2, 2), (3, 3)] (by rfl) (rf_upd (by rfl) (rf_upd (by rfl) (rf_upd (by rfl) (rf_no _)))) (rh_upd (rh_one (by rfl) (by rfl) (by rfl)) (rh_upd (rh_one (by rfl) (by rfl) (by rfl)) (rh_upd (rh_one (by rfl) (renO_encM (fun _ => rfl) _ _) (by rfl)) (rh_upd (rh_one (by rfl) (renO_encM (fun _ => rfl) _ _) (by rfl)) (rh_no _)))))⟩
  · rintro ⟨⟨t504, t514⟩, he128⟩
    replace he128 := he128.symm
    subst he128
    try dsimp only at H4
    refine runR_seq ?_
    refine runR_seq ?_
    refine runR_take tab_ok fol 1 ?_
    try simp -implicitDefEqProofs only [go_sem, Nat.reduceAdd, reduceCtorEq, ↓reduceIte]
    obtain ⟨e_2, E22, H23⟩ := bind_inv H4
    refine runR_join (α := { y : List (ByteArray × Int) // e_2 = y }) (fun | ⟨t517, _⟩ => ⟨upd 0 (.d (.sl (List.map eGFact t0)) true) (upd 4 (.pt 0 0) (upd 5 (.pt 1 0) noFr)), upd 0 (some (.bx [.d (.sl (List.map eS t21.users)) false, .d (.sl (List.map eS t21.roles)) false, .d (.sl (List.map eGPair t21.inherit)) false, .d (.sl (List.map eGPair t21.assign)) false, .d (.sl (List.map eGGrant t21.grants)) false, .d (.sl (List.map eGSod t21.ssd)) false, .d (.sl (List.map eGSod t21.dsd)) false, .d (.sl (List.map eGSession t21.sessions)) false])) (upd 1 (some (.bx [.mo 2, .mo 3])) (upd 2 (some (.mo (encM Value.string vI t504) false)) (upd 3 (some (.mo (encM Value.string vI t517) false)) noHp))), 4⟩) ?_ ?_
    · refine runR_block ?_
      refine runR_loop (α := { q : Nat × (List (ByteArray × Int) × Int) // sess_Valid_L2 n t21 q.1 q.2 = some e_2 }) (fun | ⟨⟨c, ⟨t515, t39⟩⟩, _⟩ => ⟨upd 0 (.d (.sl (List.map eGFact t0)) true) (upd 4 (.pt 0 0) (upd 5 (.pt 1 0) (upd 37 (.d (.sl (List.map eS t21.roles)) false) (upd 38 (.v (.int .i64 (t21.roles.length : Int))) (upd 39 (.v (.int .i64 t39)) noFr))))), upd 0 (some (.bx [.d (.sl (List.map eS t21.users)) false, .d (.sl (List.map eS t21.roles)) false, .d (.sl (List.map eGPair t21.inherit)) false, .d (.sl (List.map eGPair t21.assign)) false, .d (.sl (List.map eGGrant t21.grants)) false, .d (.sl (List.map eGSod t21.ssd)) false, .d (.sl (List.map eGSod t21.dsd)) false, .d (.sl (List.map eGSession t21.sessions)) false])) (upd 1 (some (.bx [.mo 2, .mo 3])) (upd 2 (some (.mo (encM Value.string vI t504) false)) (upd 3 (some (.mo (encM Value.string vI t515) false)) noHp))), 4⟩) (fun q => q.1.1) ⟨(n, (t514, 0)), E22⟩ ?_ ?_
      · exact ren_mk [(0, 0), (1, 1), (2, 2), (3, 3)] (by rfl) (rf_upd (by rfl) (rf_upd (by rfl) (rf_upd (by rfl) (rf_upd (by rfl) (rf_upd (by rfl) (rf_upd (by rfl) (rf_no _))))))) (rh_upd (rh_one (by rfl) (by rfl) (by rfl)) (rh_upd (rh_one (by rfl) (by rfl) (by rfl)) (rh_upd (rh_one (by rfl) (renO_encM (fun _ => rfl) _ _) (by rfl)) (rh_upd (rh_one (by rfl) (renO_encM (fun _ => rfl) _ _) (by rfl)) (rh_no _)))))
      · rintro ⟨⟨c, ⟨t515, t39⟩⟩, L24⟩
        rcases c with _ | c
        · exact nomatch (show none = some _ from L24)
        · unfold sess_Valid_L2 at L24
          try dsimp only at L24
          refine runR_take tab_ok fol 1 ?_
          try simp -implicitDefEqProofs only [go_sem, Nat.reduceEqDiff, Nat.reduceAdd, reduceCtorEq, ↓reduceIte]
          rcases ite_inv L24 with ⟨c33, H34⟩ | ⟨c33, H34⟩
          · obtain ⟨x4, b35, H36⟩ := bind_inv H34
            obtain ⟨h37, h38⟩ := idx_inv b35
            try simp only [Int.reduceToNat, Int.toNat_natCast] at h38
            have h39 := map_at eS h38
            try simp -implicitDefEqProofs only [go_sem, Nat.reduceEqDiff, Nat.reduceAdd, reduceCtorEq, ↓reduceIte, c33, nat_of .i64 h37, h39]
            exact ⟨⟨(c, ((mset x4 1 t515), (IntKind.i64.wrap (t39 + 1)))), H36⟩, ren_mk [(0, 0), (1, 1), (2, 2), (3, 3)] (by rfl) (rf_upd (by rfl) (rf_upd (by rfl) (rf_upd (by rfl) (rf_upd (by rfl) (rf_upd (by rfl) (rf_upd (by rfl) (rf_no _))))))) (rh_upd (rh_one (by rfl) (by rfl) (by rfl)) (rh_upd (rh_one (by rfl) (by rfl) (by rfl)) (rh_upd (rh_one (by rfl) (renO_encM (fun _ => rfl) _ _) (by rfl)) (rh_upd (rh_one (by rfl) (renO_encM (fun _ => rfl) _ _) (by rfl)) (rh_no _))))), Nat.lt_succ_self _⟩
          · try simp -implicitDefEqProofs only [go_sem, ↓reduceIte, c33]
            obtain rfl := Option.some.inj H34
            exact ⟨⟨t515, rfl⟩, ren_mk [(0, 0), (1, 1), (2, 2), (3, 3)] (by rfl) (rf_upd (by rfl) (rf_upd (by rfl) (rf_upd (by rfl) (rf_no _)))) (rh_upd (rh_one (by rfl) (by rfl) (by rfl)) (rh_upd (rh_one (by rfl) (by rfl) (by rfl)) (rh_upd (rh_one (by rfl) (renO_encM (fun _ => rfl) _ _) (by rfl)) (rh_upd (rh_one (by rfl) (renO_encM (fun _ => rfl) _ _) (by rfl)) (rh_no _)))))⟩
    · rintro ⟨t517, he127⟩
      replace he127 := he127.symm
      subst he127
      try dsimp only at H23
      refine runR_seq ?_
      refine runR_seq ?_
      refine runR_take tab_ok fol 1 ?_
      try simp -implicitDefEqProofs only [go_sem, Nat.reduceAdd, ↓reduceIte]
      obtain ⟨e_3, E41, H42⟩ := bind_inv H23
      refine runR_join (α := { y : Unit // e_3 = .inl y }) (fun | ⟨_, _⟩ => ⟨upd 0 (.d (.sl (List.map eGFact t0)) true) (upd 4 (.pt 0 0) noFr), upd 0 (some (.bx [.d (.sl (List.map eS t21.users)) false, .d (.sl (List.map eS t21.roles)) false, .d (.sl (List.map eGPair t21.inherit)) false, .d (.sl (List.map eGPair t21.assign)) false, .d (.sl (List.map eGGrant t21.grants)) false, .d (.sl (List.map eGSod t21.ssd)) false, .d (.sl (List.map eGSod t21.dsd)) false, .d (.sl (List.map eGSession t21.sessions)) false])) noHp, 1⟩) ?_ ?_
      · refine runR_block ?_
        refine runR_loop (α := { q : Nat × Int // sess_Valid_L3 n t0 t504 t517 q.1 q.2 = some e_3 }) (fun | ⟨⟨c, t49⟩, _⟩ => ⟨upd 0 (.d (.sl (List.map eGFact t0)) true) (upd 4 (.pt 0 0) (upd 5 (.pt 1 0) (upd 47 (.d (.sl (List.map eGFact t0)) true) (upd 48 (.v (.int .i64 (t0.length : Int))) (upd 49 (.v (.int .i64 t49)) noFr))))), upd 0 (some (.bx [.d (.sl (List.map eS t21.users)) false, .d (.sl (List.map eS t21.roles)) false, .d (.sl (List.map eGPair t21.inherit)) false, .d (.sl (List.map eGPair t21.assign)) false, .d (.sl (List.map eGGrant t21.grants)) false, .d (.sl (List.map eGSod t21.ssd)) false, .d (.sl (List.map eGSod t21.dsd)) false, .d (.sl (List.map eGSession t21.sessions)) false])) (upd 1 (some (.bx [.mo 2, .mo 3])) (upd 2 (some (.mo (encM Value.string vI t504) false)) (upd 3 (some (.mo (encM Value.string vI t517) false)) noHp))), 4⟩) (fun q => q.1.1) ⟨(n, 0), E41⟩ ?_ ?_
        · exact ren_mk [(0, 0), (1, 1), (2, 2), (3, 3)] (by rfl) (rf_upd (by rfl) (rf_upd (by rfl) (rf_upd (by rfl) (rf_upd (by rfl) (rf_upd (by rfl) (rf_upd (by rfl) (rf_no _))))))) (rh_upd (rh_one (by rfl) (by rfl) (by rfl)) (rh_upd (rh_one (by rfl) (by rfl) (by rfl)) (rh_upd (rh_one (by rfl) (renO_encM (fun _ => rfl) _ _) (by rfl)) (rh_upd (rh_one (by rfl) (renO_encM (fun _ => rfl) _ _) (by rfl)) (rh_no _)))))
        · rintro ⟨⟨c, t49⟩, L43⟩
          rcases c with _ | c
          · exact nomatch (show none = some _ from L43)
          · unfold sess_Valid_L3 at L43
            try dsimp only at L43
            refine runR_take tab_ok fol 1 ?_
            try simp -implicitDefEqProofs only [go_sem, Nat.reduceEqDiff, Nat.reduceAdd, reduceCtorEq, ↓reduceIte]
            rcases ite_inv L43 with ⟨c65, H66⟩ | ⟨c65, H66⟩
            · obtain ⟨x6, b67, H68⟩ := bind_inv H66
              obtain ⟨h69, h70⟩ := idx_inv b67
              try simp only [Int.reduceToNat, Int.toNat_natCast] at h70
              have h71 := map_at eGFact h70
              obtain ⟨l2, b73, H74⟩ := bind_inv H68
              obtain ⟨h75, h76, h77, h78⟩ := slc_inv b73
              have h79 : 0 ≤ Int.toNat t49 := by omega
              have h80 : Int.toNat t49 ≤ (List.length t0) := by omega
              have h81 : List.take (Int.toNat t49) (List.map eGFact t0) = List.map eGFact l2 := by rw [h78]; simp [List.map_take]
              try simp only [Int.toNat_natCast] at h79 h80 h81
              obtain ⟨t592, b82, H83⟩ := bind_inv H74
              try simp -implicitDefEqProofs only [go_sem, Nat.reduceEqDiff, Nat.reduceAdd, reduceCtorEq, ↓reduceIte, eGFact, c65, nat_of .i64 h69, h71, h79, h80, h81, chk_map (n := 7) (f := eGFact) (fun _ => rfl) t0]
              refine onCallD_pureX (b := true) [2, 3] (fun hp1 h1 => by exact (PW.cons (ToXA.d (ToXV.agP (PW.cons (encM_X ((h1 2 (by simp)).trans (by rfl)) (fun v => ⟨_, rfl, rfl, rfl⟩)) (PW.cons (encM_X ((h1 3 (by simp)).trans (by rfl)) (fun v => ⟨_, rfl, rfl, rfl⟩)) PW.nil)))) (PW.cons (ToXA.d (ToXV.agP (PW.cons (ToX.one (b' := false) (is := []) rfl (fun _ => rfl)) (PW.cons (ToX.one (b' := false) (is := []) rfl (fun _ => rfl)) (PW.cons (ToX.one (b' := false) (is := []) rfl (fun _ => rfl)) (PW.cons (ToX.one (b' := false) (is := []) rfl (fun _ => rfl)) (PW.cons (ToX.one (b' := false) (is := []) rfl (fun _ => rfl)) (PW.cons (ToX.one (b' := true) (is := []) rfl (fun _ => rfl)) (PW.cons (ToX.one (b' := false) (is := []) rfl (fun _ => rfl)) PW.nil))))))))) (PW.cons (ToXA.d (ToXV.one (ToX.one (b' := true) (is := []) rfl (fun _ => rfl)) rfl)) PW.nil)))) (PureA.of_pure (sess_told_one_ok b82)) ?_
              try simp -implicitDefEqProofs only [go_sem, Nat.reduceAdd, ↓reduceIte]
              refine Rd_endF (by rfl) ?_
              try simp -implicitDefEqProofs only [go_sem, Nat.reduceAdd, ↓reduceIte]
              rcases ite_inv H83 with ⟨c84, H85⟩ | ⟨c84, H85⟩
              · try simp -implicitDefEqProofs only [go_sem, Nat.reduceEqDiff, Nat.reduceAdd, reduceCtorEq, ↓reduceIte, c84]
                obtain rfl := Option.some.inj H85
                obtain rfl := Option.some.inj H42
                exact end_pure (by simp -implicitDefEqProofs only [go_sem, Nat.reduceEqDiff, ↓reduceIte, Try.f32] <;> rfl) (by rfl) rfl (by intro h; rfl)
              · try simp -implicitDefEqProofs only [go_sem, Nat.reduceEqDiff, Nat.reduceAdd, reduceCtorEq, ↓reduceIte, c84]
                exact ⟨⟨(c, (IntKind.i64.wrap (t49 + 1))), H85⟩, ren_mk [(0, 0), (1, 1), (2, 2), (3, 3)] (by rfl) (rf_upd (by rfl) (rf_upd (by rfl) (rf_upd (by rfl) (rf_upd (by rfl) (rf_upd (by rfl) (rf_upd (by rfl) (rf_no _))))))) (rh_upd (rh_one (by rfl) (by rfl) (by rfl)) (rh_upd (rh_one (by rfl) (by rfl) (by rfl)) (rh_upd (rh_one (by rfl) (renO_encM (fun _ => rfl) _ _) (by rfl)) (rh_upd (rh_one (by rfl) (renO_encM (fun _ => rfl) _ _) (by rfl)) (rh_no _))))), Nat.lt_succ_self _⟩
            · try simp -implicitDefEqProofs only [go_sem, ↓reduceIte, c65]
              obtain rfl := Option.some.inj H66
              exact ⟨⟨(), rfl⟩, ren_mk [(0, 0)] (by rfl) (rf_upd (by rfl) (rf_upd (by rfl) (rf_no _))) (rh_upd (rh_one (by rfl) (by rfl) (by rfl)) (rh_no _))⟩
      · rintro ⟨_, he126⟩
        replace he126 := he126.symm
        subst he126
        try dsimp only at H42
        refine runR_seq ?_
        refine runR_take tab_ok fol 1 ?_
        obtain ⟨t68, b86, H87⟩ := bind_inv H42
        try simp -implicitDefEqProofs only [go_sem, Nat.reduceAdd, ↓reduceIte]
        refine onCall_pure (by rfl) (sess_loop_ok b86) (by exact .inr rfl) ?_
        try simp -implicitDefEqProofs only [go_sem, Bool.false_and, Nat.reduceEqDiff, Nat.reduceAdd, ↓reduceIte]
        rcases ite_inv H87 with ⟨c88, H89⟩ | ⟨c88, H89⟩
        · try simp -implicitDefEqProofs only [go_sem, Nat.reduceEqDiff, Nat.reduceAdd, ↓reduceIte, c88]
          obtain rfl := Option.some.inj H89
          exact end_pure (by simp -implicitDefEqProofs only [go_sem, Nat.reduceEqDiff, ↓reduceIte, Try.f32] <;> rfl) (by rfl) rfl (by intro h; rfl)
        · try simp -implicitDefEqProofs only [go_sem, c88]
          refine runR_seq ?_
          refine runR_take tab_ok fol 1 ?_
          obtain ⟨t76, b90, H91⟩ := bind_inv H89
          try simp -implicitDefEqProofs only [go_sem, Nat.reduceEqDiff, Nat.reduceAdd, reduceCtorEq, ↓reduceIte]
          refine onCall_pure (by rfl) (sess_static_ok b90) (by exact .inr rfl) ?_
          try simp -implicitDefEqProofs only [go_sem, Bool.false_and, Nat.reduceEqDiff, Nat.reduceAdd, ↓reduceIte]
          rcases ite_inv H91 with ⟨c92, H93⟩ | ⟨c92, H93⟩
          · try simp -implicitDefEqProofs only [go_sem, Nat.reduceEqDiff, Nat.reduceAdd, ↓reduceIte, c92]
            obtain rfl := Option.some.inj H93
            exact end_pure (by simp -implicitDefEqProofs only [go_sem, Nat.reduceEqDiff, ↓reduceIte, Try.f32] <;> rfl) (by rfl) rfl (by intro h; rfl)
          · try simp -implicitDefEqProofs only [go_sem, c92]
            refine runR_seq ?_
            refine runR_seq ?_
            refine runR_take tab_ok fol 1 ?_
            try simp -implicitDefEqProofs only [go_sem, Nat.reduceAdd, reduceCtorEq, ↓reduceIte]
            obtain ⟨e_4, E94, H95⟩ := bind_inv H93
            refine runR_join (α := { y : Unit // e_4 = .inl y }) (fun | ⟨_, _⟩ => ⟨noFr, noHp, 0⟩) ?_ ?_
            · refine runR_block ?_
              refine runR_loop (α := { q : Nat × Int // sess_Valid_L4 n t0 t21 q.1 q.2 = some e_4 }) (fun | ⟨⟨c, t83⟩, _⟩ => ⟨upd 4 (.pt 0 0) (upd 81 (.d (.sl (List.map eGFact t0)) true) (upd 82 (.v (.int .i64 (t0.length : Int))) (upd 83 (.v (.int .i64 t83)) noFr))), upd 0 (some (.bx [.d (.sl (List.map eS t21.users)) false, .d (.sl (List.map eS t21.roles)) false, .d (.sl (List.map eGPair t21.inherit)) false, .d (.sl (List.map eGPair t21.assign)) false, .d (.sl (List.map eGGrant t21.grants)) false, .d (.sl (List.map eGSod t21.ssd)) false, .d (.sl (List.map eGSod t21.dsd)) false, .d (.sl (List.map eGSession t21.sessions)) false])) noHp, 1⟩) (fun q => q.1.1) ⟨(n, 0), E94⟩ ?_ ?_
              · exact ren_mk [(0, 0)] (by rfl) (rf_upd (by rfl) (rf_upd (by rfl) (rf_upd (by rfl) (rf_upd (by rfl) (rf_no _))))) (rh_upd (rh_one (by rfl) (by rfl) (by rfl)) (rh_no _))
              · rintro ⟨⟨c, t83⟩, L96⟩
                rcases c with _ | c
                · exact nomatch (show none = some _ from L96)
                · unfold sess_Valid_L4 at L96
                  try dsimp only at L96
                  refine runR_take tab_ok fol 1 ?_
                  try simp -implicitDefEqProofs only [go_sem, Nat.reduceEqDiff, Nat.reduceAdd, ↓reduceIte]
                  rcases ite_inv L96 with ⟨c111, H112⟩ | ⟨c111, H112⟩
                  · obtain ⟨x8, b113, H114⟩ := bind_inv H112
                    obtain ⟨h115, h116⟩ := idx_inv b113
                    try simp only [Int.reduceToNat, Int.toNat_natCast] at h116
                    have h117 := map_at eGFact h116
                    try simp -implicitDefEqProofs only [go_sem, Nat.reduceEqDiff, Nat.reduceAdd, reduceCtorEq, ↓reduceIte, eGFact, c111, nat_of .i64 h115, h117]
                    rcases ite_inv H114 with ⟨c119, H120⟩ | ⟨c119, H120⟩
                    · try simp -implicitDefEqProofs only [go_sem, Nat.reduceEqDiff, Nat.reduceAdd, ↓reduceIte, c119]
                      exact ⟨⟨(c, (IntKind.i64.wrap (t83 + 1))), H120⟩, ren_mk [(0, 0)] (by rfl) (rf_upd (by rfl) (rf_upd (by rfl) (rf_upd (by rfl) (rf_upd (by rfl) (rf_no _))))) (rh_upd (rh_one (by rfl) (by rfl) (by rfl)) (rh_no _)), Nat.lt_succ_self _⟩
                    · obtain ⟨t922, b121, H122⟩ := bind_inv H120
                      try simp -implicitDefEqProofs only [go_sem, Nat.reduceEqDiff, Nat.reduceAdd, reduceCtorEq, ↓reduceIte, c119]
                      refine onCall_pure (by rfl) (sess_session_ok b121) (by exact .inr rfl) ?_
                      try simp -implicitDefEqProofs only [go_sem, Bool.false_and, Nat.reduceAdd, ↓reduceIte]
                      rcases ite_inv H122 with ⟨c123, H124⟩ | ⟨c123, H124⟩
                      · try simp -implicitDefEqProofs only [go_sem, Nat.reduceEqDiff, Nat.reduceAdd, reduceCtorEq, ↓reduceIte, c123]
                        obtain rfl := Option.some.inj H124
                        obtain rfl := Option.some.inj H95
                        exact end_pure (by simp -implicitDefEqProofs only [go_sem, Nat.reduceEqDiff, ↓reduceIte, Try.f32] <;> rfl) (by rfl) rfl (by intro h; rfl)
                      · try simp -implicitDefEqProofs only [go_sem, Nat.reduceEqDiff, Nat.reduceAdd, ↓reduceIte, c123]
                        exact ⟨⟨(c, (IntKind.i64.wrap (t83 + 1))), H124⟩, ren_mk [(0, 0)] (by rfl) (rf_upd (by rfl) (rf_upd (by rfl) (rf_upd (by rfl) (rf_upd (by rfl) (rf_no _))))) (rh_upd (rh_one (by rfl) (by rfl) (by rfl)) (rh_no _)), Nat.lt_succ_self _⟩
                  · try simp -implicitDefEqProofs only [go_sem, ↓reduceIte, c111]
                    obtain rfl := Option.some.inj H112
                    exact ⟨⟨(), rfl⟩, ren_mk [] (by rfl) (rf_no _) (rh_no _)⟩
            · rintro ⟨_, he125⟩
              replace he125 := he125.symm
              subst he125
              try dsimp only at H95
              refine runR_take tab_ok fol 1 ?_
              try simp -implicitDefEqProofs only [go_sem, Nat.reduceAdd]
              obtain rfl := Option.some.inj H95
              exact end_pure (by simp -implicitDefEqProofs only [go_sem, Nat.reduceEqDiff, ↓reduceIte, Try.f32] <;> rfl) (by rfl) rfl (by intro h; rfl)
end Go.Proofs.Ytkkhgdmmbhpckaa.Ab
