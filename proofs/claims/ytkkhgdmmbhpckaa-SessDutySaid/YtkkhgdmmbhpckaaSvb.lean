/-
  Functions, read off the code.
-/
import Derived.Test.YtkkhgdmmbhpckaaSva
namespace Go.Proofs.Ytkkhgdmmbhpckaa.Ab
open Go.RowKit
def sess_unlike (n : Nat) (a : GFact) (b : GFact) : Option Bool :=
  (
    (if (a.kind != b.kind) then
      some true
    else
      (if (a.a.toList == b.a.toList) then
        (if (decide (a.kind < 6)) then
          some true
        else
          some (decide (8 < a.kind)))
      else
        some true)) : Option (Bool)).bind fun t26 =>
  (if t26 then
    some false
  else
    (if (a.n_ != b.n_) then
      some true
    else
      (if (a.b.toList == b.b.toList) then
        (norm_Once n a.l).bind fun t42 =>
        (norm_Once n b.l).bind fun t45 =>
        (slices_Equal_string n t42 t45).bind fun t46 =>
        some (!t46)
      else
        some true)))
theorem sess_unlike_ok {n : Nat} {a : GFact} {b : GFact} {r : Bool} (H : sess_unlike n a b = some r) : PureOK Try.prog 88 [D.ag (eGFact a), D.ag (eGFact b)] (D.v (.bool r)) true := by
  unfold sess_unlike at H
  refine pure_runR (tab := tab) tab_ok Try.func88 rfl (by kernel_rfl) (by kernel_rfl) (by simp [Try.f88]) ?_
  refine runR_seq ?_
  refine runR_take tab_ok fol 1 ?_
  try simp -implicitDefEqProofs only [go_sem, Nat.reduceEqDiff, Nat.reduceAdd, ↓reduceIte, eGFact]
  refine runR_seq ?_
  refine runR_seq ?_
  obtain ⟨e_, E1, H2⟩ := bind_inv H
  refine runR_join (α := { y : Bool // e_ = y }) (fun | ⟨t26, _⟩ => ⟨upd 2 (.pt 0 0) (upd 3 (.pt 1 0) (upd 26 (.v (.bool t26)) noFr)), upd 0 (some (.bx [.v (.int .i64 a.kind), .v (.string a.a), .v (.string a.b), .v (.string a.c), .v (.int .i64 a.n_), .d (.sl (List.map eS a.l)) true, .v (.int .i64 a.at_)])) (upd 1 (some (.bx [.v (.int .i64 b.kind), .v (.string b.a), .v (.string b.b), .v (.string b.c), .v (.int .i64 b.n_), .d (.sl (List.map eS b.l)) true, .v (.int .i64 b.at_)])) noHp), 2⟩) ?_ ?_
  · refine runR_take tab_ok fol 1 ?_
    try simp -implicitDefEqProofs only [go_sem, Nat.reduceEqDiff, Nat.reduceAdd, reduceCtorEq, ↓reduceIte]
    rcases ite_inv E1 with ⟨c3, H4⟩ | ⟨c3, H4⟩
    · try simp -implicitDefEqProofs only [go_sem, Nat.reduceEqDiff, Nat.reduceAdd, ↓reduceIte, c3]
      obtain rfl := Option.some.inj H4
      exact ⟨⟨true, rfl⟩, ren_mk [(0, 0), (1, 1)] (by rfl) (rf_upd (by rfl) (rf_upd (by rfl) (rf_upd (by rfl) (rf_no _)))) (rh_upd (rh_one (by rfl) (by rfl) (by rfl)) (rh_upd (rh_one (by rfl) (by rfl) (by rfl)) (rh_no _)))⟩
    · try simp -implicitDefEqProofs only [go_sem, Nat.reduceEqDiff, Nat.reduceAdd, reduceCtorEq, ↓reduceIte, c3]
      rcases ite_inv H4 with ⟨c5, H6⟩ | ⟨c5, H6⟩
      · try simp -implicitDefEqProofs only [go_sem, Nat.reduceEqDiff, Nat.reduceAdd, reduceCtorEq, ↓reduceIte, c5]
        rcases ite_inv H6 with ⟨c7, H8⟩ | ⟨c7, H8⟩
        · try simp -implicitDefEqProofs only [go_sem, Nat.reduceEqDiff, Nat.reduceAdd, ↓reduceIte, c7]
          obtain rfl := Option.some.inj H8
          exact ⟨⟨true, rfl⟩, ren_mk [(0, 0), (1, 1)] (by rfl) (rf_upd (by rfl) (rf_upd (by rfl) (rf_upd (by rfl) (rf_no _)))) (rh_upd (rh_one (by rfl) (by rfl) (by rfl)) (rh_upd (rh_one (by rfl) (by rfl) (by rfl)) (rh_no _)))⟩
        · try simp -implicitDefEqProofs only [go_sem, Nat.reduceEqDiff, Nat.reduceAdd, reduceCtorEq, ↓reduceIte, c7]
          obtain rfl := Option.some.inj H8
          exact ⟨⟨(decide (8 < a.kind)), rfl⟩, ren_mk [(0, 0), (1, 1)] (by rfl) (rf_upd (by rfl) (rf_upd (by rfl) (rf_upd (by rfl) (rf_no _)))) (rh_upd (rh_one (by rfl) (by rfl) (by rfl)) (rh_upd (rh_one (by rfl) (by rfl) (by rfl)) (rh_no _)))⟩
      · try simp -implicitDefEqProofs only [go_sem, Nat.reduceEqDiff, Nat.reduceAdd, ↓reduceIte, c5]
        obtain rfl := Option.some.inj H6
        exact ⟨⟨true, rfl⟩, ren_mk [(0, 0), (1, 1)] (by rfl) (rf_upd (by rfl) (rf_upd (by rfl) (rf_upd (by rfl) (rf_no _)))) (rh_upd (rh_one (by rfl) (by rfl) (by rfl)) (rh_upd (rh_one (by rfl) (by rfl) (by rfl)) (rh_no _)))⟩
  · rintro ⟨t26, he21⟩
    replace he21 := he21.symm
    subst he21
    try dsimp only at H2
    refine runR_take tab_ok fol 2 ?_
    try simp -implicitDefEqProofs only [go_sem, Nat.reduceEqDiff, ↓reduceIte]
    rcases ite_inv H2 with ⟨c9, H10⟩ | ⟨c9, H10⟩
    · try simp -implicitDefEqProofs only [go_sem, Nat.reduceAdd, c9]
      obtain rfl := Option.some.inj H10
      exact end_pure (by simp -implicitDefEqProofs only [go_sem, ↓reduceIte, Try.f88] <;> rfl) (by rfl) rfl (by intro h; rfl)
    · try simp -implicitDefEqProofs only [go_sem, Nat.reduceEqDiff, Nat.reduceAdd, reduceCtorEq, ↓reduceIte, c9]
      rcases ite_inv H10 with ⟨c11, H12⟩ | ⟨c11, H12⟩
      · try simp -implicitDefEqProofs only [go_sem, Nat.reduceEqDiff, Nat.reduceAdd, ↓reduceIte, c11]
        refine Rd_endF (by rfl) ?_
        try simp -implicitDefEqProofs only [go_sem]
        obtain rfl := Option.some.inj H12
        exact end_pure (by simp -implicitDefEqProofs only [go_sem, ↓reduceIte, Try.f88] <;> rfl) (by rfl) rfl (by intro h; rfl)
      · try simp -implicitDefEqProofs only [go_sem, Nat.reduceEqDiff, Nat.reduceAdd, reduceCtorEq, ↓reduceIte, c11]
        rcases ite_inv H12 with ⟨c13, H14⟩ | ⟨c13, H14⟩
        · obtain ⟨t42, b15, H16⟩ := bind_inv H14
          try simp -implicitDefEqProofs only [go_sem, Nat.reduceEqDiff, Nat.reduceAdd, reduceCtorEq, ↓reduceIte, c13]
          refine onCallD_pure (by rfl) (norm_Once_ok b15) (by exact .inr rfl) ?_
          obtain ⟨t45, b17, H18⟩ := bind_inv H16
          try simp -implicitDefEqProofs only [go_sem, Bool.false_and, Nat.reduceEqDiff, Nat.reduceAdd, reduceCtorEq, ↓reduceIte]
          refine onCallD_pure (by rfl) (norm_Once_ok b17) (by exact .inr rfl) ?_
          obtain ⟨t46, b19, H20⟩ := bind_inv H18
          try simp -implicitDefEqProofs only [go_sem, Bool.false_and, Nat.reduceEqDiff, Nat.reduceAdd, ↓reduceIte]
          refine onCallD_pure (by rfl) (slices_Equal_string_ok b19) (by exact .inr rfl) ?_
          try simp -implicitDefEqProofs only [go_sem, Bool.false_and, Nat.reduceEqDiff, Nat.reduceAdd, ↓reduceIte]
          refine Rd_endF (by rfl) ?_
          try simp -implicitDefEqProofs only [go_sem]
          obtain rfl := Option.some.inj H20
          exact end_pure (by simp -implicitDefEqProofs only [go_sem, ↓reduceIte, Try.f88] <;> rfl) (by rfl) rfl (by intro h; rfl)
        · try simp -implicitDefEqProofs only [go_sem, Nat.reduceEqDiff, Nat.reduceAdd, ↓reduceIte, c13]
          refine Rd_endF (by rfl) ?_
          try simp -implicitDefEqProofs only [go_sem]
          obtain rfl := Option.some.inj H14
          exact end_pure (by simp -implicitDefEqProofs only [go_sem, ↓reduceIte, Try.f88] <;> rfl) (by rfl) rfl (by intro h; rfl)
def sess_told_one_c1 (n : Nat) (x : GFact) (c2 : GFact) : Option Bool :=
  (sess_unlike n x c2).bind fun t6 =>
  some t6
theorem sess_told_one_c1_ok {n : Nat} {x : GFact} {c2 : GFact} {r : Bool} (H : sess_told_one_c1 n x c2 = some r) : PureOK Try.prog 87 [D.ag (eGFact x), D.pt (eGFact c2) 0] (D.v (.bool r)) true := by
  unfold sess_told_one_c1 at H
  refine pure_runR (tab := tab) tab_ok Try.func87 rfl (by kernel_rfl) (by kernel_rfl) (by simp [Try.f87]) ?_
  refine runR_take tab_ok fol 1 ?_
  obtain ⟨t6, b1, H2⟩ := bind_inv H
  try simp -implicitDefEqProofs only [go_sem, Nat.reduceEqDiff, Nat.reduceAdd, ↓reduceIte, eGFact]
  refine onCall_pure (by rfl) (sess_unlike_ok b1) (by exact .inr rfl) ?_
  try simp -implicitDefEqProofs only [go_sem, Bool.false_and, Nat.reduceAdd, ↓reduceIte]
  obtain rfl := Option.some.inj H2
  exact end_pure (by simp -implicitDefEqProofs only [go_sem, ↓reduceIte, Try.f87] <;> rfl) (by rfl) rfl (by intro h; rfl)
def slices_IndexFunc_Fact__sess_told_one_c1_L1 (n : Nat) (s : List GFact) (c2 : GFact) : Nat → Int → Option ((Unit) ⊕ Int)
  | 0, _ => none
  | c + 1, t8 =>
    (if (decide (t8 < (s.length : Int))) then
      (idx s t8).bind fun x2 =>
      (sess_told_one_c1 n x2 c2).bind fun t162 =>
      (if t162 then
        some (.inr t8)
      else
        slices_IndexFunc_Fact__sess_told_one_c1_L1 n s c2 c (IntKind.i64.wrap (t8 + 1)))
    else
      some (.inl ()))

def slices_IndexFunc_Fact__sess_told_one_c1 (n : Nat) (s : List GFact) (c2 : GFact) : Option Int :=
  (
    slices_IndexFunc_Fact__sess_told_one_c1_L1 n s c2 n 0 : Option ((Unit) ⊕ Int)).bind fun
    | .inl _ =>
      some (-1)
    | .inr r => some r
theorem slices_IndexFunc_Fact__sess_told_one_c1_ok {n : Nat} {s : List GFact} {c2 : GFact} {r : Int} (H : slices_IndexFunc_Fact__sess_told_one_c1 n s c2 = some r) : PureA Try.prog 101 [.d (D.sl (List.map eGFact s)), .fn 87 [D.pt (eGFact c2) 0]] (D.v (.int .i64 r)) true := by
  unfold slices_IndexFunc_Fact__sess_told_one_c1 at H
  refine pureA_runR (tab := tab) tab_ok Try.func101 rfl (by kernel_rfl) (by kernel_rfl) (by simp [Try.f101]) ?_
  refine runR_seq ?_
  refine runR_take tab_ok fol 1 ?_
  try simp -implicitDefEqProofs only [go_sem, eGFact]
  refine runR_seq ?_
  refine runR_seq ?_
  refine runR_take tab_ok fol 1 ?_
  try simp -implicitDefEqProofs only [go_sem, Nat.reduceAdd, reduceCtorEq, ↓reduceIte]
  obtain ⟨e_, E1, H2⟩ := bind_inv H
  refine runR_join (α := { y : Unit // e_ = .inl y }) (fun | ⟨_, _⟩ => ⟨noFr, noHp, 0⟩) ?_ ?_
  · refine runR_block ?_
    refine runR_loop (α := { q : Nat × Int // slices_IndexFunc_Fact__sess_told_one_c1_L1 n s c2 q.1 q.2 = some e_ }) (fun | ⟨⟨c, t8⟩, _⟩ => ⟨upd 0 (.d (.sl (List.map eGFact s)) true) (upd 1 (.fn 87 [.d (.pt [.v (.int .i64 c2.kind), .v (.string c2.a), .v (.string c2.b), .v (.string c2.c), .v (.int .i64 c2.n_), .sl (List.map eS c2.l), .v (.int .i64 c2.at_)] 0) true]) (upd 7 (.v (.int .i64 (s.length : Int))) (upd 8 (.v (.int .i64 t8)) noFr))), noHp, 0⟩) (fun q => q.1.1) ⟨(n, 0), E1⟩ ?_ ?_
    · exact ren_mk [] (by rfl) (rf_upd (by rfl) (rf_upd (by rfl) (rf_upd (by rfl) (rf_upd (by rfl) (rf_no _))))) (rh_no _)
    · rintro ⟨⟨c, t8⟩, L3⟩
      rcases c with _ | c
      · exact nomatch (show none = some _ from L3)
      · unfold slices_IndexFunc_Fact__sess_told_one_c1_L1 at L3
        try dsimp only at L3
        refine runR_take tab_ok fol 1 ?_
        try simp -implicitDefEqProofs only [go_sem, Nat.reduceEqDiff, reduceCtorEq, ↓reduceIte]
        rcases ite_inv L3 with ⟨c16, H17⟩ | ⟨c16, H17⟩
        · obtain ⟨x2, b18, H19⟩ := bind_inv H17
          obtain ⟨h20, h21⟩ := idx_inv b18
          try simp only [Int.reduceToNat, Int.toNat_natCast] at h21
          have h22 := map_at eGFact h21
          obtain ⟨t162, b24, H25⟩ := bind_inv H19
          try simp -implicitDefEqProofs only [go_sem, Nat.reduceEqDiff, Nat.reduceAdd, reduceCtorEq, ↓reduceIte, eGFact, c16, nat_of .i64 h20, h22]
          refine onCall_pure (by rfl) (sess_told_one_c1_ok b24) (by exact .inr rfl) ?_
          try simp -implicitDefEqProofs only [go_sem, Bool.false_and, ↓reduceIte]
          rcases ite_inv H25 with ⟨c26, H27⟩ | ⟨c26, H27⟩
          · try simp -implicitDefEqProofs only [go_sem, Nat.reduceEqDiff, Nat.reduceAdd, ↓reduceIte, c26]
            obtain rfl := Option.some.inj H27
            obtain rfl := Option.some.inj H2
            exact end_pure (by simp -implicitDefEqProofs only [go_sem, ↓reduceIte, Try.f101] <;> rfl) (by rfl) rfl (by intro h; rfl)
          · try simp -implicitDefEqProofs only [go_sem, Nat.reduceEqDiff, Nat.reduceAdd, reduceCtorEq, ↓reduceIte, c26]
            exact ⟨⟨(c, (IntKind.i64.wrap (t8 + 1))), H27⟩, ren_mk [] (by rfl) (rf_upd (by rfl) (rf_upd (by rfl) (rf_upd (by rfl) (rf_upd (by rfl) (rf_no _))))) (rh_no _), Nat.lt_succ_self _⟩
        · try simp -implicitDefEqProofs only [go_sem, ↓reduceIte, c16]
          obtain rfl := Option.some.inj H17
          exact ⟨⟨(), rfl⟩, ren_mk [] (by rfl) (rf_no _) (rh_no _)⟩
  · rintro ⟨_, he28⟩
    replace he28 := he28.symm
    subst he28
    try dsimp only at H2
    refine runR_take tab_ok fol 1 ?_
    try simp -implicitDefEqProofs only [go_sem]
    obtain rfl := Option.some.inj H2
    exact end_pure (by simp -implicitDefEqProofs only [go_sem, ↓reduceIte, Try.f101] <;> rfl) (by rfl) rfl (by intro h; rfl)
def slices_ContainsFunc_Fact__sess_told_one_c1 (n : Nat) (s : List GFact) (c2 : GFact) : Option Bool :=
  (slices_IndexFunc_Fact__sess_told_one_c1 n s c2).bind fun t7 =>
  some (decide (0 ≤ t7))
theorem slices_ContainsFunc_Fact__sess_told_one_c1_ok {n : Nat} {s : List GFact} {c2 : GFact} {r : Bool} (H : slices_ContainsFunc_Fact__sess_told_one_c1 n s c2 = some r) : PureA Try.prog 86 [.d (D.sl (List.map eGFact s)), .fn 87 [D.pt (eGFact c2) 0]] (D.v (.bool r)) true := by
  unfold slices_ContainsFunc_Fact__sess_told_one_c1 at H
  refine pureA_runR (tab := tab) tab_ok Try.func86 rfl (by kernel_rfl) (by kernel_rfl) (by simp [Try.f86]) ?_
  refine runR_take tab_ok fol 1 ?_
  obtain ⟨t7, b1, H2⟩ := bind_inv H
  try simp -implicitDefEqProofs only [go_sem, Nat.reduceEqDiff, Nat.reduceAdd, reduceCtorEq, ↓reduceIte, eGFact]
  refine onCall_pureA (by rfl) (slices_IndexFunc_Fact__sess_told_one_c1_ok b1) (by exact .inr rfl) ?_
  try simp -implicitDefEqProofs only [go_sem, Bool.false_and, Nat.reduceAdd, ↓reduceIte]
  obtain rfl := Option.some.inj H2
  exact end_pure (by simp -implicitDefEqProofs only [go_sem, ↓reduceIte, Try.f86] <;> rfl) (by rfl) rfl (by intro h; rfl)
def sess_told_one (n : Nat) (t : SessTold) (f : GFact) (ahead : List GFact) : Option Int :=
  (
    (if (f.kind == 6) then
      some true
    else
      some (f.kind == 7)) : Option (Bool)).bind fun sod =>
  (sess_told_names n t f).bind fun t19 =>
  (if t19 then
    (slices_ContainsFunc_Fact__sess_told_one_c1 n ahead f).bind fun t24 =>
    (if t24 then
      some 11
    else
      (if sod then
        (if (decide (f.n_ < 2)) then
          some 16
        else
          (norm_Once n f.l).bind fun t36 =>
          (if (decide ((t36.length : Int) < f.n_)) then
            some 16
          else
            some 0))
      else
        some 0))
  else
    some 12)
theorem sess_told_one_ok {n : Nat} {t : SessTold} {f : GFact} {ahead : List GFact} {r : Int} (H : sess_told_one n t f ahead = some r) : PureOK Try.prog 59 [D.ag (eSessTold t), D.ag (eGFact f), D.sl (List.map eGFact ahead)] (D.v (.int .i64 r)) true := by
  unfold sess_told_one at H
  refine pure_runR (tab := tab) tab_ok Try.func59 rfl (by kernel_rfl) (by kernel_rfl) (by simp [Try.f59]) ?_
  refine runR_seq ?_
  refine runR_take tab_ok fol 1 ?_
  try simp -implicitDefEqProofs only [go_sem, Nat.reduceEqDiff, Nat.reduceAdd, ↓reduceIte, eGFact, eSessTold]
  refine runR_seq ?_
  obtain ⟨e_, E1, H2⟩ := bind_inv H
  refine runR_join (α := { y : Bool // e_ = y }) (fun | ⟨sod, _⟩ => ⟨upd 2 (.d (.sl (List.map eGFact ahead)) true) (upd 3 (.pt 0 0) (upd 4 (.pt 1 0) (upd 7 (.v (.bool sod)) noFr))), upd 0 (some (.bx [.d (.mp (encMp Value.string false eI t.users)) true, .d (.mp (encMp Value.string false eI t.roles)) true])) (upd 1 (some (.bx [.v (.int .i64 f.kind), .v (.string f.a), .v (.string f.b), .v (.string f.c), .v (.int .i64 f.n_), .d (.sl (List.map eS f.l)) true, .v (.int .i64 f.at_)])) noHp), 2⟩) ?_ ?_
  · refine runR_take tab_ok fol 1 ?_
    try simp -implicitDefEqProofs only [go_sem, Nat.reduceEqDiff, Nat.reduceAdd, reduceCtorEq, ↓reduceIte]
    rcases ite_inv E1 with ⟨c3, H4⟩ | ⟨c3, H4⟩
    · try simp -implicitDefEqProofs only [go_sem, Nat.reduceEqDiff, Nat.reduceAdd, ↓reduceIte, c3]
      obtain rfl := Option.some.inj H4
      exact ⟨⟨true, rfl⟩, ren_mk [(0, 0), (1, 1)] (by rfl) (rf_upd (by rfl) (rf_upd (by rfl) (rf_upd (by rfl) (rf_upd (by rfl) (rf_no _))))) (rh_upd (rh_one (by rfl) (by rfl) (by rfl)) (rh_upd (rh_one (by rfl) (by rfl) (by rfl)) (rh_no _)))⟩
    · try simp -implicitDefEqProofs only [go_sem, Nat.reduceEqDiff, Nat.reduceAdd, reduceCtorEq, ↓reduceIte, c3]
      obtain rfl := Option.some.inj H4
      exact ⟨⟨(f.kind == 7), rfl⟩, ren_mk [(0, 0), (1, 1)] (by rfl) (rf_upd (by rfl) (rf_upd (by rfl) (rf_upd (by rfl) (rf_upd (by rfl) (rf_no _))))) (rh_upd (rh_one (by rfl) (by rfl) (by rfl)) (rh_upd (rh_one (by rfl) (by rfl) (by rfl)) (rh_no _)))⟩
  · rintro ⟨sod, he21⟩
    replace he21 := he21.symm
    subst he21
    try dsimp only at H2
    refine runR_take tab_ok fol 1 ?_
    obtain ⟨t19, b5, H6⟩ := bind_inv H2
    try simp -implicitDefEqProofs only [go_sem, Nat.reduceEqDiff, Nat.reduceAdd, reduceCtorEq, ↓reduceIte]
    refine onCall_pure (by rfl) (sess_told_names_ok b5) (by exact .inr rfl) ?_
    try simp -implicitDefEqProofs only [go_sem, Bool.false_and, Nat.reduceAdd, ↓reduceIte]
    rcases ite_inv H6 with ⟨c7, H8⟩ | ⟨c7, H8⟩
    · obtain ⟨t24, b9, H10⟩ := bind_inv H8
      try simp -implicitDefEqProofs only [go_sem, Nat.reduceEqDiff, Nat.reduceAdd, ↓reduceIte, c7]
      refine onCall_pureA (by rfl) (slices_ContainsFunc_Fact__sess_told_one_c1_ok b9) (by exact .inr rfl) ?_
      try simp -implicitDefEqProofs only [go_sem, Bool.false_and, Nat.reduceAdd, ↓reduceIte]
      rcases ite_inv H10 with ⟨c11, H12⟩ | ⟨c11, H12⟩
      · try simp -implicitDefEqProofs only [go_sem, Nat.reduceAdd, c11]
        obtain rfl := Option.some.inj H12
        exact end_pure (by simp -implicitDefEqProofs only [go_sem, ↓reduceIte, Try.f59] <;> rfl) (by rfl) rfl (by intro h; rfl)
      · try simp -implicitDefEqProofs only [go_sem, Nat.reduceEqDiff, Nat.reduceAdd, ↓reduceIte, c11]
        rcases ite_inv H12 with ⟨c13, H14⟩ | ⟨c13, H14⟩
        · try simp -implicitDefEqProofs only [go_sem, Nat.reduceEqDiff, Nat.reduceAdd, reduceCtorEq, ↓reduceIte, c13]
          rcases ite_inv H14 with ⟨c15, H16⟩ | ⟨c15, H16⟩
          · try simp -implicitDefEqProofs only [go_sem, Nat.reduceEqDiff, Nat.reduceAdd, ↓reduceIte, c15]
            refine Rd_endF (by rfl) ?_
            try simp -implicitDefEqProofs only [go_sem, Nat.reduceAdd, ↓reduceIte]
            obtain rfl := Option.some.inj H16
            exact end_pure (by simp -implicitDefEqProofs only [go_sem, ↓reduceIte, Try.f59] <;> rfl) (by rfl) rfl (by intro h; rfl)
          · obtain ⟨t36, b17, H18⟩ := bind_inv H16
            try simp -implicitDefEqProofs only [go_sem, Nat.reduceEqDiff, Nat.reduceAdd, reduceCtorEq, ↓reduceIte, c15]
            refine onCallD_pure (by rfl) (norm_Once_ok b17) (by exact .inr rfl) ?_
            try simp -implicitDefEqProofs only [go_sem, Bool.false_and, Nat.reduceEqDiff, Nat.reduceAdd, ↓reduceIte]
            refine Rd_endF (by rfl) ?_
            try simp -implicitDefEqProofs only [go_sem, ↓reduceIte]
            rcases ite_inv H18 with ⟨c19, H20⟩ | ⟨c19, H20⟩
            · try simp -implicitDefEqProofs only [go_sem, Nat.reduceAdd, c19]
              obtain rfl := Option.some.inj H20
              exact end_pure (by simp -implicitDefEqProofs only [go_sem, ↓reduceIte, Try.f59] <;> rfl) (by rfl) rfl (by intro h; rfl)
            · try simp -implicitDefEqProofs only [go_sem, Nat.reduceAdd, c19]
              obtain rfl := Option.some.inj H20
              exact end_pure (by simp -implicitDefEqProofs only [go_sem, ↓reduceIte, Try.f59] <;> rfl) (by rfl) rfl (by intro h; rfl)
        · try simp -implicitDefEqProofs only [go_sem, Nat.reduceEqDiff, Nat.reduceAdd, ↓reduceIte, c13]
          refine Rd_endF (by rfl) ?_
          try simp -implicitDefEqProofs only [go_sem, Nat.reduceAdd, ↓reduceIte]
          obtain rfl := Option.some.inj H14
          exact end_pure (by simp -implicitDefEqProofs only [go_sem, ↓reduceIte, Try.f59] <;> rfl) (by rfl) rfl (by intro h; rfl)
    · try simp -implicitDefEqProofs only [go_sem, Nat.reduceAdd, c7]
      obtain rfl := Option.some.inj H8
      exact end_pure (by simp -implicitDefEqProofs only [go_sem, ↓reduceIte, Try.f59] <;> rfl) (by rfl) rfl (by intro h; rfl)
def sess_loop_L1 (n : Nat) (l : List GFact) : Nat → (List GPair × Int) → Option ((Unit) ⊕ (Int × Bool))
  | 0, _ => none
  | c + 1, (pairs, t10) =>
    (if (decide (t10 < (l.length : Int))) then
      (idx l t10).bind fun x2 =>
      (if (x2.kind != 3) then
        sess_loop_L1 n l c (pairs, (IntKind.i64.wrap (t10 + 1)))
      else
        (norm_Down n (⟨[], [], pairs, [], [], [], [], []⟩ : GRoles) x2.b).bind fun t222 =>
        (slices_Contains_string n t222 x2.a).bind fun t252 =>
        (if t252 then
          some (.inr (x2.at_, true))
        else
          (app pairs [(⟨x2.a, x2.b⟩ : GPair)]).bind fun l2 =>
          sess_loop_L1 n l c (l2, (IntKind.i64.wrap (t10 + 1)))))
    else
      some (.inl ()))
def sess_loop_L1_f (n : Nat) (_ : List GFact) (st : List GPair) (x2 : GFact) (k : List GPair → Option ((Unit) ⊕ (Int × Bool))) : Option ((Unit) ⊕ (Int × Bool)) :=
  match st with
  | pairs =>
    (if (x2.kind != 3) then
      k pairs
    else
      (norm_Down n (⟨[], [], pairs, [], [], [], [], []⟩ : GRoles) x2.b).bind fun t222 =>
      (slices_Contains_string n t222 x2.a).bind fun t252 =>
      (if t252 then
        some (.inr (x2.at_, true))
      else
        (app pairs [(⟨x2.a, x2.b⟩ : GPair)]).bind fun l2 =>
        k l2))
def sess_loop_L1_e (_ : Nat) (_ : List GFact) (st : List GPair) : Option ((Unit) ⊕ (Int × Bool)) :=
  match st with
  | _ => some (.inl ())
theorem sess_loop_L1_list (n : Nat) (l : List GFact) (hx : l.length < 4611686018427387904) (c : Nat) (st : List GPair) (ix : Nat) (hi : ix ≤ l.length) (hc : l.length - ix < c) : sess_loop_L1 n l c (match st, (ix : Int) with | pairs, ix => (pairs, ix)) = foldK (sess_loop_L1_f n l) (sess_loop_L1_e n l) (l.drop ix) st :=
  loop_list (fun c st ix => sess_loop_L1 n l c (match st, ix with | pairs, ix => (pairs, ix))) l (sess_loop_L1_f n l) (sess_loop_L1_e n l) (fun _ _ _ => rfl) hx c st ix hi hc

def sess_loop (n : Nat) (l : List GFact) : Option (Int × Bool) :=
  (
    sess_loop_L1 n l n ([], 0) : Option ((Unit) ⊕ (Int × Bool))).bind fun
    | .inl _ =>
      some (0, false)
    | .inr r => some r
theorem sess_loop_ok {n : Nat} {l : List GFact} {r : Int × Bool} (H : sess_loop n l = some r) : PureOK Try.prog 60 [D.sl (List.map eGFact l)] (D.tu [D.v (.int .i64 r.1), D.v (.bool r.2)]) true := by
  unfold sess_loop at H
  refine pure_runR (tab := tab) tab_ok Try.func60 rfl (by kernel_rfl) (by kernel_rfl) (by simp [Try.f60]) ?_
  refine runR_seq ?_
  refine runR_take tab_ok fol 1 ?_
  try simp -implicitDefEqProofs only [go_sem, Nat.reduceAdd]
  refine runR_seq ?_
  refine runR_take tab_ok fol 1 ?_
  try simp -implicitDefEqProofs only [go_sem, Nat.reduceAdd]
  refine runR_seq ?_
  refine runR_seq ?_
  refine runR_take tab_ok fol 1 ?_
  try simp -implicitDefEqProofs only [go_sem, Nat.reduceAdd, reduceCtorEq, ↓reduceIte]
  obtain ⟨e_, E1, H2⟩ := bind_inv H
  refine runR_join (α := { y : Unit // e_ = .inl y }) (fun | ⟨_, _⟩ => ⟨noFr, noHp, 0⟩) ?_ ?_
  · refine runR_block ?_
    refine runR_loop (α := { q : (Nat × (List GPair × Int)) × Nat // sess_loop_L1 n l q.1.1 q.1.2 = some e_ }) (fun | ⟨⟨⟨c, ⟨pairs, t10⟩⟩, g⟩, _⟩ => ⟨upd 4 (accV 0 g (List.map eGPair pairs)) (upd 8 (.d (.sl (List.map eGFact l)) true) (upd 9 (.v (.int .i64 (l.length : Int))) (upd 10 (.v (.int .i64 t10)) noFr))), upd 0 (accO 2 g false (List.map eGPair pairs)) noHp, 1⟩) (fun q => q.1.1.1) ⟨((n, ([], 0)), 0), E1⟩ ?_ ?_
    · exact ren_mk [] (by rfl) (rf_upd (by rfl) (rf_upd (by rfl) (rf_upd (by rfl) (rf_upd (by rfl) (rf_no _))))) (rh_upd rh_accN (rh_no _))
    · rintro ⟨⟨⟨c, ⟨pairs, t10⟩⟩, g⟩, L3⟩
      rcases c with _ | c
      · exact nomatch (show none = some _ from L3)
      · unfold sess_loop_L1 at L3
        try dsimp only at L3
        refine runR_take tab_ok fol 1 ?_
        try simp -implicitDefEqProofs only [go_sem, Nat.reduceEqDiff, Nat.reduceAdd, ↓reduceIte]
        rcases ite_inv L3 with ⟨c20, H21⟩ | ⟨c20, H21⟩
        · obtain ⟨x2, b22, H23⟩ := bind_inv H21
          obtain ⟨h24, h25⟩ := idx_inv b22
          try simp only [Int.reduceToNat, Int.toNat_natCast] at h25
          have h26 := map_at eGFact h25
          try simp -implicitDefEqProofs only [go_sem, Nat.reduceEqDiff, Nat.reduceAdd, reduceCtorEq, ↓reduceIte, eGFact, c20, nat_of .i64 h24, h26]
          rcases ite_inv H23 with ⟨c28, H29⟩ | ⟨c28, H29⟩
          · try simp -implicitDefEqProofs only [go_sem, Nat.reduceEqDiff, Nat.reduceAdd, ↓reduceIte, c28]
            exact ⟨⟨((c, (pairs, (IntKind.i64.wrap (t10 + 1)))), g), H29⟩, ren_mk [(0, 0)] (by rfl) (rf_upd (ren_acc (by rfl)) (rf_upd (by rfl) (rf_upd (by rfl) (rf_upd (by rfl) (rf_no _))))) (rh_upd (rh_acc (by rfl) (by rfl)) (rh_no _)), Nat.lt_succ_self _⟩
          · obtain ⟨t222, b30, H31⟩ := bind_inv H29
            try simp -implicitDefEqProofs only [go_sem, Nat.reduceEqDiff, Nat.reduceAdd, Nat.reduceLeDiff, reduceCtorEq, ↓reduceIte, c28]
            refine onCallD_pure (by simp -implicitDefEqProofs only [go_sem, reduceCtorEq, ↓reduceIte, eGRoles]; rfl) (norm_Down_ok b30) (by exact .inr rfl) ?_
            obtain ⟨t252, b32, H33⟩ := bind_inv H31
            try simp -implicitDefEqProofs only [go_sem, Bool.false_and, Nat.reduceEqDiff, Nat.reduceAdd, reduceCtorEq, ↓reduceIte]
            refine onCallD_pure (by rfl) (slices_Contains_string_ok b32) (by exact .inr rfl) ?_
            try simp -implicitDefEqProofs only [go_sem, Bool.false_and]
            refine Rd_endF (by rfl) ?_
            try simp -implicitDefEqProofs only [go_sem, ↓reduceIte]
            rcases ite_inv H33 with ⟨c34, H35⟩ | ⟨c34, H35⟩
            · try simp -implicitDefEqProofs only [go_sem, Nat.reduceEqDiff, Nat.reduceAdd, reduceCtorEq, ↓reduceIte, c34]
              obtain rfl := Option.some.inj H35
              obtain rfl := Option.some.inj H2
              exact end_pure (by simp -implicitDefEqProofs only [go_sem, Nat.reduceEqDiff, ↓reduceIte, Try.f60] <;> rfl) (by rfl) rfl (by intro h; rfl)
            · obtain ⟨l2, b36, H37⟩ := bind_inv H35
              obtain ⟨h38, h39⟩ := app_inv b36
              have h38 : pairs.length + 1 ≤ 4294967296 := h38
              have h40 : List.map eGPair pairs ++ [[.v (.string x2.a), .v (.string x2.b)]] = List.map eGPair l2 := app_map eGPair h39
              have h41 : pairs.length + 1 = l2.length := app_len h39
              have h42 : l2.length ≤ 4294967296 := by omega
              have q43 : 0 < l2.length := by omega
              try simp -implicitDefEqProofs only [go_sem, Nat.reduceLT, Nat.reduceEqDiff, Nat.reduceAdd, Nat.reduceMul, Nat.reduceLeDiff, reduceCtorEq, ↓reduceIte, c34, h40, h41, h42]
              rcases pairs with _ | ⟨q0, q1⟩
              · try simp only [List.map_nil, accI, accN]
                exact ⟨⟨((c, (l2, (IntKind.i64.wrap (t10 + 1)))), 0), H37⟩, ren_mk [(0, 27)] (by rfl) (rf_upd (by exact ren_accP (by rfl) q43) (rf_upd (by rfl) (rf_upd (by rfl) (rf_upd (by rfl) (rf_no _))))) (rh_upd (by exact rh_accP (by rfl) q43 (by rfl)) (rh_no _)), Nat.lt_succ_self _⟩
              · try simp only [List.map_cons, accI, accN]
                exact ⟨⟨((c, (l2, (IntKind.i64.wrap (t10 + 1)))), (g + 1)), H37⟩, ren_mk [(0, 0)] (by rfl) (rf_upd (by exact ren_accP (by rfl) q43) (rf_upd (by rfl) (rf_upd (by rfl) (rf_upd (by rfl) (rf_no _))))) (rh_upd (by exact rh_accP (by rfl) q43 (by rfl)) (rh_no _)), Nat.lt_succ_self _⟩
        · try simp -implicitDefEqProofs only [go_sem, ↓reduceIte, c20]
          obtain rfl := Option.some.inj H21
          exact ⟨⟨(), rfl⟩, ren_mk [] (by rfl) (rf_no _) (rh_no _)⟩
  · rintro ⟨_, he44⟩
    replace he44 := he44.symm
    subst he44
    try dsimp only at H2
    refine runR_take tab_ok fol 1 ?_
    try simp -implicitDefEqProofs only [go_sem, Nat.reduceAdd]
    obtain rfl := Option.some.inj H2
    exact end_pure (by simp -implicitDefEqProofs only [go_sem, Nat.reduceEqDiff, ↓reduceIte, Try.f60] <;> rfl) (by rfl) rfl (by intro h; rfl)
def cmp_isNaN_string (_ : Nat) (_ : ByteArray) : Option Bool :=
  some false
theorem cmp_isNaN_string_ok {n : Nat} {x : ByteArray} {r : Bool} (H : cmp_isNaN_string n x = some r) : PureOK Try.prog 124 [D.v (.string x)] (D.v (.bool r)) true := by
  unfold cmp_isNaN_string at H
  refine pure_runR (tab := tab) tab_ok Try.func124 rfl (by kernel_rfl) (by kernel_rfl) (by simp [Try.f124]) ?_
  refine runR_take tab_ok fol 1 ?_
  try simp -implicitDefEqProofs only [go_sem, Nat.reduceEqDiff, Nat.reduceAdd, reduceCtorEq, ↓reduceIte]
  obtain rfl := Option.some.inj H
  exact end_pure (by simp -implicitDefEqProofs only [go_sem, ↓reduceIte, Try.f124] <;> rfl) (by rfl) rfl (by intro h; rfl)
def cmp_Less_string (n : Nat) (x : ByteArray) (y : ByteArray) : Option Bool :=
  (cmp_isNaN_string n x).bind fun t6 =>
  (if t6 then
    (cmp_isNaN_string n y).bind fun t9 =>
    (if t9 then
      some (Op.bytesLess x.toList y.toList)
    else
      some true)
  else
    some (Op.bytesLess x.toList y.toList))
theorem cmp_Less_string_ok {n : Nat} {x : ByteArray} {y : ByteArray} {r : Bool} (H : cmp_Less_string n x y = some r) : PureOK Try.prog 113 [D.v (.string x), D.v (.string y)] (D.v (.bool r)) true := by
  unfold cmp_Less_string at H
  refine pure_runR (tab := tab) tab_ok Try.func113 rfl (by kernel_rfl) (by kernel_rfl) (by simp [Try.f113]) ?_
  refine runR_take tab_ok fol 1 ?_
  obtain ⟨t6, b1, H2⟩ := bind_inv H
  try simp -implicitDefEqProofs only [go_sem, Nat.reduceAdd, reduceCtorEq, ↓reduceIte]
  refine onCall_pure (by rfl) (cmp_isNaN_string_ok b1) (by exact .inr rfl) ?_
  try simp -implicitDefEqProofs only [go_sem, Bool.false_and, Nat.reduceAdd, ↓reduceIte]
  rcases ite_inv H2 with ⟨c3, H4⟩ | ⟨c3, H4⟩
  · obtain ⟨t9, b5, H6⟩ := bind_inv H4
    try simp -implicitDefEqProofs only [go_sem, Nat.reduceEqDiff, Nat.reduceAdd, ↓reduceIte, c3]
    refine onCall_pure (by rfl) (cmp_isNaN_string_ok b5) (by exact .inr rfl) ?_
    try simp -implicitDefEqProofs only [go_sem, Bool.false_and, Nat.reduceEqDiff, Nat.reduceAdd, ↓reduceIte]
    rcases ite_inv H6 with ⟨c7, H8⟩ | ⟨c7, H8⟩
    · try simp -implicitDefEqProofs only [go_sem, Nat.reduceEqDiff, Nat.reduceAdd, reduceCtorEq, ↓reduceIte, c7]
      obtain rfl := Option.some.inj H8
      exact end_pure (by simp -implicitDefEqProofs only [go_sem, ↓reduceIte, Try.f113] <;> rfl) (by rfl) rfl (by intro h; rfl)
    · try simp -implicitDefEqProofs only [go_sem, Nat.reduceEqDiff, Nat.reduceAdd, ↓reduceIte, c7]
      obtain rfl := Option.some.inj H8
      exact end_pure (by simp -implicitDefEqProofs only [go_sem, ↓reduceIte, Try.f113] <;> rfl) (by rfl) rfl (by intro h; rfl)
  · try simp -implicitDefEqProofs only [go_sem, Nat.reduceEqDiff, Nat.reduceAdd, reduceCtorEq, ↓reduceIte, c3]
    obtain rfl := Option.some.inj H4
    exact end_pure (by simp -implicitDefEqProofs only [go_sem, ↓reduceIte, Try.f113] <;> rfl) (by rfl) rfl (by intro h; rfl)
def slices_isNaN_string (_ : Nat) (_ : ByteArray) : Option Bool :=
  some false
theorem slices_isNaN_string_ok {n : Nat} {x : ByteArray} {r : Bool} (H : slices_isNaN_string n x = some r) : PureOK Try.prog 118 [D.v (.string x)] (D.v (.bool r)) true := by
  unfold slices_isNaN_string at H
  refine pure_runR (tab := tab) tab_ok Try.func118 rfl (by kernel_rfl) (by kernel_rfl) (by simp [Try.f118]) ?_
  refine runR_take tab_ok fol 1 ?_
  try simp -implicitDefEqProofs only [go_sem, Nat.reduceEqDiff, Nat.reduceAdd, reduceCtorEq, ↓reduceIte]
  obtain rfl := Option.some.inj H
  exact end_pure (by simp -implicitDefEqProofs only [go_sem, ↓reduceIte, Try.f118] <;> rfl) (by rfl) rfl (by intro h; rfl)
def slices_BinarySearch_string_L1 (n : Nat) (x : List ByteArray) (target : ByteArray) : Nat → (Int × Int) → Option (Int)
  | 0, _ => none
  | c + 1, (i, j) =>
    (if (decide (i < j)) then
      (idx x (IntKind.i64.wrap (sh (IntKind.u64.wrap (IntKind.i64.wrap (i + j))) 1))).bind fun x3 =>
      (cmp_Less_string n x3 target).bind fun t272 =>
      (if t272 then
        slices_BinarySearch_string_L1 n x target c ((IntKind.i64.wrap ((IntKind.i64.wrap (sh (IntKind.u64.wrap (IntKind.i64.wrap (i + j))) 1)) + 1)), j)
      else
        slices_BinarySearch_string_L1 n x target c (i, (IntKind.i64.wrap (sh (IntKind.u64.wrap (IntKind.i64.wrap (i + j))) 1))))
    else
      some i)

def slices_BinarySearch_string (n : Nat) (x : List ByteArray) (target : ByteArray) : Option (Int × Bool) :=
  (
    slices_BinarySearch_string_L1 n x target n (0, (x.length : Int)) : Option (Int)).bind fun i3 =>
  (if (decide (i3 < (x.length : Int))) then
    (idx x i3).bind fun x4 =>
    (if (x4.toList == target.toList) then
      some (i3, true)
    else
      (slices_isNaN_string n x4).bind fun t47 =>
      (if t47 then
        (slices_isNaN_string n target).bind fun t50 =>
        some (i3, t50)
      else
        some (i3, false)))
  else
    some (i3, false))
theorem slices_BinarySearch_string_ok {n : Nat} {x : List ByteArray} {target : ByteArray} {r : Int × Bool} (H : slices_BinarySearch_string n x target = some r) : PureOK Try.prog 104 [D.sl (List.map eS x), D.v (.string target)] (D.tu [D.v (.int .i64 r.1), D.v (.bool r.2)]) true := by
  unfold slices_BinarySearch_string at H
  refine pure_runR (tab := tab) tab_ok Try.func104 rfl (by kernel_rfl) (by kernel_rfl) (by simp [Try.f104]) ?_
  refine runR_seq ?_
  refine runR_take tab_ok fol 1 ?_
  try simp -implicitDefEqProofs only [go_sem, Nat.reduceAdd]
  refine runR_seq ?_
  refine runR_take tab_ok fol 1 ?_
  try simp -implicitDefEqProofs only [go_sem, Nat.reduceAdd, reduceCtorEq, ↓reduceIte]
  refine runR_seq ?_
  refine runR_take tab_ok fol 1 ?_
  try simp -implicitDefEqProofs only [go_sem, Nat.reduceEqDiff, Nat.reduceAdd, ↓reduceIte]
  refine runR_seq ?_
  obtain ⟨e_, E1, H2⟩ := bind_inv H
  refine runR_join (α := { y : Int // e_ = y }) (fun | ⟨i3, _⟩ => ⟨upd 0 (.d (.sl (List.map eS x)) true) (upd 1 (.v (.string target)) (upd 6 (.v (.int .i64 (x.length : Int))) (upd 7 (.v (.int .i64 i3)) noFr))), noHp, 0⟩) ?_ ?_
  · refine runR_block ?_
    refine runR_loop (α := { q : Nat × (Int × Int) // slices_BinarySearch_string_L1 n x target q.1 q.2 = some e_ }) (fun | ⟨⟨c, ⟨i, j⟩⟩, _⟩ => ⟨upd 0 (.d (.sl (List.map eS x)) true) (upd 1 (.v (.string target)) (upd 6 (.v (.int .i64 (x.length : Int))) (upd 7 (.v (.int .i64 i)) (upd 8 (.v (.int .i64 j)) noFr)))), noHp, 0⟩) (fun q => q.1.1) ⟨(n, (0, (x.length : Int))), E1⟩ ?_ ?_
    · exact ren_mk [] (by rfl) (rf_upd (by rfl) (rf_upd (by rfl) (rf_upd (by rfl) (rf_upd (by rfl) (rf_upd (by rfl) (rf_no _)))))) (rh_no _)
    · rintro ⟨⟨c, ⟨i, j⟩⟩, L3⟩
      rcases c with _ | c
      · exact nomatch (show none = some _ from L3)
      · unfold slices_BinarySearch_string_L1 at L3
        try dsimp only at L3
        refine runR_take tab_ok fol 1 ?_
        try simp -implicitDefEqProofs only [go_sem, Nat.reduceEqDiff, Nat.reduceAdd, reduceCtorEq, ↓reduceIte]
        rcases ite_inv L3 with ⟨c16, H17⟩ | ⟨c16, H17⟩
        · obtain ⟨x3, b18, H19⟩ := bind_inv H17
          obtain ⟨h20, h21⟩ := idx_inv b18
          try simp only [Int.reduceToNat, Int.toNat_natCast] at h21
          have h22 := map_at eS h21
          obtain ⟨t272, b24, H25⟩ := bind_inv H19
          try simp -implicitDefEqProofs only [go_sem, Int.reduceToNat, Int.reduceLT, Nat.reduceEqDiff, Nat.reduceAdd, reduceCtorEq, ↓reduceIte, c16, nat_of .i64 h20, h22]
          refine onCall_pure (by rfl) (cmp_Less_string_ok b24) (by exact .inr rfl) ?_
          try simp -implicitDefEqProofs only [go_sem, Bool.false_and, ↓reduceIte]
          rcases ite_inv H25 with ⟨c26, H27⟩ | ⟨c26, H27⟩
          · try simp -implicitDefEqProofs only [go_sem, Nat.reduceEqDiff, Nat.reduceAdd, ↓reduceIte, c26]
            exact ⟨⟨(c, ((IntKind.i64.wrap ((IntKind.i64.wrap (sh (IntKind.u64.wrap (IntKind.i64.wrap (i + j))) 1)) + 1)), j)), H27⟩, ren_mk [] (by rfl) (rf_upd (by rfl) (rf_upd (by rfl) (rf_upd (by rfl) (rf_upd (by rfl) (rf_upd (by rfl) (rf_no _)))))) (rh_no _), Nat.lt_succ_self _⟩
          · try simp -implicitDefEqProofs only [go_sem, Nat.reduceEqDiff, Nat.reduceAdd, ↓reduceIte, c26]
            exact ⟨⟨(c, (i, (IntKind.i64.wrap (sh (IntKind.u64.wrap (IntKind.i64.wrap (i + j))) 1)))), H27⟩, ren_mk [] (by rfl) (rf_upd (by rfl) (rf_upd (by rfl) (rf_upd (by rfl) (rf_upd (by rfl) (rf_upd (by rfl) (rf_no _)))))) (rh_no _), Nat.lt_succ_self _⟩
        · try simp -implicitDefEqProofs only [go_sem, ↓reduceIte, c16]
          obtain rfl := Option.some.inj H17
          exact ⟨⟨i, rfl⟩, ren_mk [] (by rfl) (rf_upd (by rfl) (rf_upd (by rfl) (rf_upd (by rfl) (rf_upd (by rfl) (rf_no _))))) (rh_no _)⟩
  · rintro ⟨i3, he44⟩
    replace he44 := he44.symm
    subst he44
    try dsimp only at H2
    refine runR_take tab_ok fol 1 ?_
    try simp -implicitDefEqProofs only [go_sem, Nat.reduceEqDiff, Nat.reduceAdd, reduceCtorEq, ↓reduceIte]
    rcases ite_inv H2 with ⟨c28, H29⟩ | ⟨c28, H29⟩
    · obtain ⟨x4, b30, H31⟩ := bind_inv H29
      obtain ⟨h32, h33⟩ := idx_inv b30
      try simp only [Int.reduceToNat, Int.toNat_natCast] at h33
      have h34 := map_at eS h33
      try simp -implicitDefEqProofs only [go_sem, Nat.reduceEqDiff, Nat.reduceAdd, reduceCtorEq, ↓reduceIte, c28, nat_of .i64 h32, h34]
      rcases ite_inv H31 with ⟨c36, H37⟩ | ⟨c36, H37⟩
      · try simp -implicitDefEqProofs only [go_sem, Nat.reduceEqDiff, Nat.reduceAdd, ↓reduceIte, c36]
        obtain rfl := Option.some.inj H37
        exact end_pure (by simp -implicitDefEqProofs only [go_sem, Nat.reduceEqDiff, ↓reduceIte, Try.f104] <;> rfl) (by rfl) rfl (by intro h; rfl)
      · obtain ⟨t47, b38, H39⟩ := bind_inv H37
        try simp -implicitDefEqProofs only [go_sem, Nat.reduceEqDiff, Nat.reduceAdd, reduceCtorEq, ↓reduceIte, nat_of .i64 h32, h34, c36]
        refine onCall_pure (by rfl) (slices_isNaN_string_ok b38) (by exact .inr rfl) ?_
        try simp -implicitDefEqProofs only [go_sem, Bool.false_and, Nat.reduceEqDiff, Nat.reduceAdd, ↓reduceIte]
        rcases ite_inv H39 with ⟨c40, H41⟩ | ⟨c40, H41⟩
        · obtain ⟨t50, b42, H43⟩ := bind_inv H41
          try simp -implicitDefEqProofs only [go_sem, Nat.reduceEqDiff, Nat.reduceAdd, reduceCtorEq, ↓reduceIte, c40]
          refine onCall_pure (by rfl) (slices_isNaN_string_ok b42) (by exact .inr rfl) ?_
          try simp -implicitDefEqProofs only [go_sem, Bool.false_and, Nat.reduceEqDiff, Nat.reduceAdd, ↓reduceIte]
          obtain rfl := Option.some.inj H43
          exact end_pure (by simp -implicitDefEqProofs only [go_sem, Nat.reduceEqDiff, ↓reduceIte, Try.f104] <;> rfl) (by rfl) rfl (by intro h; rfl)
        · try simp -implicitDefEqProofs only [go_sem, Nat.reduceEqDiff, Nat.reduceAdd, ↓reduceIte, c40]
          obtain rfl := Option.some.inj H41
          exact end_pure (by simp -implicitDefEqProofs only [go_sem, Nat.reduceEqDiff, ↓reduceIte, Try.f104] <;> rfl) (by rfl) rfl (by intro h; rfl)
    · try simp -implicitDefEqProofs only [go_sem, Nat.reduceEqDiff, Nat.reduceAdd, ↓reduceIte, c28]
      obtain rfl := Option.some.inj H29
      exact end_pure (by simp -implicitDefEqProofs only [go_sem, Nat.reduceEqDiff, ↓reduceIte, Try.f104] <;> rfl) (by rfl) rfl (by intro h; rfl)
def sess_common_L1 (n : Nat) (among : List ByteArray) (t11 : List ByteArray) : Nat → (Int × Int) → Option (Int)
  | 0, _ => none
  | c + 1, (n_, t13) =>
    (if (decide (t13 < (t11.length : Int))) then
      (idx t11 t13).bind fun x2 =>
      (slices_BinarySearch_string n among x2).bind fun t202 =>
      (if t202.2 then
        sess_common_L1 n among t11 c ((IntKind.i64.wrap (n_ + 1)), (IntKind.i64.wrap (t13 + 1)))
      else
        sess_common_L1 n among t11 c (n_, (IntKind.i64.wrap (t13 + 1))))
    else
      some n_)
def sess_common_L1_f (n : Nat) (among : List ByteArray) (_ : List ByteArray) (st : Int) (x2 : ByteArray) (k : Int → Option (Int)) : Option (Int) :=
  match st with
  | n_ =>
    (slices_BinarySearch_string n among x2).bind fun t202 =>
    (if t202.2 then
      k (IntKind.i64.wrap (n_ + 1))
    else
      k n_)
def sess_common_L1_e (_ : Nat) (_ : List ByteArray) (_ : List ByteArray) (st : Int) : Option (Int) :=
  match st with
  | n_ => some n_
theorem sess_common_L1_list (n : Nat) (among : List ByteArray) (t11 : List ByteArray) (hx : t11.length < 4611686018427387904) (c : Nat) (st : Int) (ix : Nat) (hi : ix ≤ t11.length) (hc : t11.length - ix < c) : sess_common_L1 n among t11 c (match st, (ix : Int) with | n_, ix => (n_, ix)) = foldK (sess_common_L1_f n among t11) (sess_common_L1_e n among t11) (t11.drop ix) st :=
  loop_list (fun c st ix => sess_common_L1 n among t11 c (match st, ix with | n_, ix => (n_, ix))) t11 (sess_common_L1_f n among t11) (sess_common_L1_e n among t11) (fun _ _ _ => rfl) hx c st ix hi hc

def sess_common (n : Nat) (roles : List ByteArray) (among : List ByteArray) : Option Int :=
  (norm_Once n roles).bind fun t11 =>
  (
    sess_common_L1 n among t11 n (0, 0) : Option (Int)).bind fun n_3 =>
  some n_3
theorem sess_common_ok {n : Nat} {roles : List ByteArray} {among : List ByteArray} {r : Int} (H : sess_common n roles among = some r) : PureOK Try.prog 91 [D.sl (List.map eS roles), D.sl (List.map eS among)] (D.v (.int .i64 r)) true := by
  unfold sess_common at H
  refine pure_runR (tab := tab) tab_ok Try.func91 rfl (by kernel_rfl) (by kernel_rfl) (by simp [Try.f91]) ?_
  refine runR_seq ?_
  refine runR_take tab_ok fol 1 ?_
  try simp -implicitDefEqProofs only [go_sem]
  refine runR_seq ?_
  refine runR_take tab_ok fol 1 ?_
  try simp -implicitDefEqProofs only [go_sem, Nat.reduceAdd]
  refine runR_seq ?_
  refine runR_seq ?_
  refine runR_take tab_ok fol 1 ?_
  obtain ⟨t11, b1, H2⟩ := bind_inv H
  try simp -implicitDefEqProofs only [go_sem, Nat.reduceAdd, reduceCtorEq, ↓reduceIte]
  refine onCall_pure (by rfl) (norm_Once_ok b1) (by exact .inr rfl) ?_
  try simp -implicitDefEqProofs only [go_sem, Bool.false_and, Nat.reduceAdd, ↓reduceIte]
  obtain ⟨e_, E3, H4⟩ := bind_inv H2
  refine runR_join (α := { y : Int // e_ = y }) (fun | ⟨n_3, _⟩ => ⟨upd 5 (.v (.int .i64 n_3)) noFr, noHp, 0⟩) ?_ ?_
  · refine runR_block ?_
    refine runR_loop (α := { q : Nat × (Int × Int) // sess_common_L1 n among t11 q.1 q.2 = some e_ }) (fun | ⟨⟨c, ⟨n_, t13⟩⟩, _⟩ => ⟨upd 1 (.d (.sl (List.map eS among)) true) (upd 5 (.v (.int .i64 n_)) (upd 11 (.d (.sl (List.map eS t11)) false) (upd 12 (.v (.int .i64 (t11.length : Int))) (upd 13 (.v (.int .i64 t13)) noFr)))), noHp, 0⟩) (fun q => q.1.1) ⟨(n, (0, 0)), E3⟩ ?_ ?_
    · exact ren_mk [] (by rfl) (rf_upd (by rfl) (rf_upd (by rfl) (rf_upd (by rfl) (rf_upd (by rfl) (rf_upd (by rfl) (rf_no _)))))) (rh_no _)
    · rintro ⟨⟨c, ⟨n_, t13⟩⟩, L5⟩
      rcases c with _ | c
      · exact nomatch (show none = some _ from L5)
      · unfold sess_common_L1 at L5
        try dsimp only at L5
        refine runR_take tab_ok fol 1 ?_
        try simp -implicitDefEqProofs only [go_sem, Nat.reduceEqDiff, ↓reduceIte]
        rcases ite_inv L5 with ⟨c18, H19⟩ | ⟨c18, H19⟩
        · obtain ⟨x2, b20, H21⟩ := bind_inv H19
          obtain ⟨h22, h23⟩ := idx_inv b20
          try simp only [Int.reduceToNat, Int.toNat_natCast] at h23
          have h24 := map_at eS h23
          obtain ⟨t202, b26, H27⟩ := bind_inv H21
          try simp -implicitDefEqProofs only [go_sem, Nat.reduceEqDiff, Nat.reduceAdd, ↓reduceIte, c18, nat_of .i64 h22, h24]
          refine onCall_pure (by rfl) (slices_BinarySearch_string_ok b26) (by exact .inr rfl) ?_
          try simp -implicitDefEqProofs only [go_sem, Bool.false_and, Nat.reduceEqDiff, Nat.reduceAdd, ↓reduceIte]
          rcases ite_inv H27 with ⟨c28, H29⟩ | ⟨c28, H29⟩
          · try simp -implicitDefEqProofs only [go_sem, Nat.reduceEqDiff, Nat.reduceAdd, ↓reduceIte, c28]
            exact ⟨⟨(c, ((IntKind.i64.wrap (n_ + 1)), (IntKind.i64.wrap (t13 + 1)))), H29⟩, ren_mk [] (by rfl) (rf_upd (by rfl) (rf_upd (by rfl) (rf_upd (by rfl) (rf_upd (by rfl) (rf_upd (by rfl) (rf_no _)))))) (rh_no _), Nat.lt_succ_self _⟩
          · try simp -implicitDefEqProofs only [go_sem, Nat.reduceEqDiff, Nat.reduceAdd, ↓reduceIte, c28]
            exact ⟨⟨(c, (n_, (IntKind.i64.wrap (t13 + 1)))), H29⟩, ren_mk [] (by rfl) (rf_upd (by rfl) (rf_upd (by rfl) (rf_upd (by rfl) (rf_upd (by rfl) (rf_upd (by rfl) (rf_no _)))))) (rh_no _), Nat.lt_succ_self _⟩
        · try simp -implicitDefEqProofs only [go_sem, ↓reduceIte, c18]
          obtain rfl := Option.some.inj H19
          exact ⟨⟨n_, rfl⟩, ren_mk [] (by rfl) (rf_upd (by rfl) (rf_no _)) (rh_no _)⟩
  · rintro ⟨n_3, he30⟩
    replace he30 := he30.symm
    subst he30
    try dsimp only at H4
    refine runR_take tab_ok fol 1 ?_
    try simp -implicitDefEqProofs only [go_sem, Nat.reduceAdd, ↓reduceIte]
    obtain rfl := Option.some.inj H4
    exact end_pure (by simp -implicitDefEqProofs only [go_sem, ↓reduceIte, Try.f91] <;> rfl) (by rfl) rfl (by intro h; rfl)
def sess_static_c1 (n : Nat) (have_ : List ByteArray) (c2 : GFact) : Option Bool :=
  (sess_common n c2.l have_).bind fun t7 =>
  some (decide (c2.n_ ≤ t7))
theorem sess_static_c1_ok {n : Nat} {have_ : List ByteArray} {c2 : GFact} {r : Bool} (H : sess_static_c1 n have_ c2 = some r) : PureOK Try.prog 90 [D.sl (List.map eS have_), D.pt (eGFact c2) 0] (D.v (.bool r)) true := by
  unfold sess_static_c1 at H
  refine pure_runR (tab := tab) tab_ok Try.func90 rfl (by kernel_rfl) (by kernel_rfl) (by simp [Try.f90]) ?_
  refine runR_take tab_ok fol 1 ?_
  obtain ⟨t7, b1, H2⟩ := bind_inv H
  try simp -implicitDefEqProofs only [go_sem, Nat.reduceEqDiff, Nat.reduceAdd, reduceCtorEq, ↓reduceIte, eGFact]
  refine onCallD_pure (by rfl) (sess_common_ok b1) (by exact .inr rfl) ?_
  try simp -implicitDefEqProofs only [go_sem, Bool.false_and, Nat.reduceEqDiff, Nat.reduceAdd, reduceCtorEq, ↓reduceIte]
  refine Rd_endF (by rfl) ?_
  try simp -implicitDefEqProofs only [go_sem]
  obtain rfl := Option.some.inj H2
  exact end_pure (by simp -implicitDefEqProofs only [go_sem, ↓reduceIte, Try.f90] <;> rfl) (by rfl) rfl (by intro h; rfl)
end Go.Proofs.Ytkkhgdmmbhpckaa.Ab
