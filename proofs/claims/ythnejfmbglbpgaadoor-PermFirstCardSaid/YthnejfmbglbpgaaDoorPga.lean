/-
  Functions, read off the code.
-/
import Derived.Test.YthnejfmbglbpgaaDoorPgs
import Derived.Test.YthnejfmbglbpgaaDoorPca
import Derived.Test.YthnejfmbglbpgaaDoorSe
import Derived.Test.YthnejfmbglbpgaaDoorPka
namespace Go.Proofs.YthnejfmbglbpgaaDoor.Ab
open Go.RowKit
def law20_PermFirst_c1 (_ : Nat) (k2 : Int) (c2 : Int) : Option Int :=
  grd (decide (0 ≤ (IntKind.u64.wrap k2))) <|
  some (IntKind.i64.wrap (an (sh c2 (Int.toNat (IntKind.u64.wrap k2))) 7 : Int))
theorem law20_PermFirst_c1_ok {n : Nat} {k2 : Int} {c2 : Int} {r : Int} (H : law20_PermFirst_c1 n k2 c2 = some r) : PureOK Tryd.prog 4 [D.v (.int .i64 k2), D.pt [D.v (.int .i64 c2)] 0] (D.v (.int .i64 r)) true := by
  unfold law20_PermFirst_c1 at H
  refine pure_runR (tab := tab) tab_ok Tryd.func4 rfl (by kernel_rfl) (by kernel_rfl) (by simp [Tryd.f4]) ?_
  refine runR_take tab_ok fol 1 ?_
  obtain ⟨g1, H2⟩ := grd_inv H
  have g1 : ¬ (IntKind.u64.wrap k2) < 0 := by have := of_decide_eq_true g1; omega
  try simp -implicitDefEqProofs only [go_sem, Nat.reduceEqDiff, Nat.reduceAdd, reduceCtorEq, ↓reduceIte, g1]
  obtain rfl := Option.some.inj H2
  exact end_pure (by first | (simp -implicitDefEqProofs only [go_sem, ↓reduceIte, Tryd.f4] <;> rfl) | rfl) (by first | rfl | (simp -implicitDefEqProofs only [go_sem, Bool.false_and, Int.reduceToNat, Int.reduceLT, Int.reduceLE, Int.reduceBEq, Int.reduceBNe, Nat.reduceLT, Nat.reduceBEq, Int.reduceEq, Nat.reduceEqDiff, Nat.reduceAdd, Nat.reduceSub, Nat.reduceMul, Nat.reduceLeDiff, reduceCtorEq, ↓reduceIte, eGEntry, g1]; done) | (simp -implicitDefEqProofs only [go_sem, Bool.false_and, Int.reduceToNat, Int.reduceLT, Int.reduceLE, Int.reduceBEq, Int.reduceBNe, Nat.reduceLT, Nat.reduceBEq, Int.reduceEq, Nat.reduceEqDiff, Nat.reduceAdd, Nat.reduceSub, Nat.reduceMul, Nat.reduceLeDiff, reduceCtorEq, ↓reduceIte, eGEntry, g1]; rfl)) rfl (by intro h; first | rfl | cases h)
def mask_IsFile (_ : Nat) (f : GFile) : Option Bool :=
  (if (f.kind == 3) then
    some true
  else
    some (f.kind == 4))
theorem mask_IsFile_ok {n : Nat} {f : GFile} {r : Bool} (H : mask_IsFile n f = some r) : PureOK Tryd.prog 18 [D.ag (eGFile f)] (D.v (.bool r)) true := by
  unfold mask_IsFile at H
  refine pure_runR (tab := tab) tab_ok Tryd.func18 rfl (by kernel_rfl) (by kernel_rfl) (by simp [Tryd.f18]) ?_
  refine runR_take tab_ok fol 1 ?_
  try simp -implicitDefEqProofs only [go_sem, Nat.reduceEqDiff, Nat.reduceAdd, reduceCtorEq, ↓reduceIte, eGFile]
  rcases ite_inv H with ⟨c1, H2⟩ | ⟨c1, H2⟩
  · try simp -implicitDefEqProofs only [go_sem, Nat.reduceEqDiff, Nat.reduceAdd, ↓reduceIte, c1]
    obtain rfl := Option.some.inj H2
    exact end_pure (by first | (simp -implicitDefEqProofs only [go_sem, ↓reduceIte, Tryd.f18] <;> rfl) | rfl) (by first | rfl | (simp -implicitDefEqProofs only [go_sem, Bool.false_and, Int.reduceToNat, Int.reduceLT, Int.reduceLE, Int.reduceBEq, Int.reduceBNe, Nat.reduceLT, Nat.reduceBEq, Int.reduceEq, Nat.reduceEqDiff, Nat.reduceAdd, Nat.reduceSub, Nat.reduceMul, Nat.reduceLeDiff, reduceCtorEq, ↓reduceIte, eGEntry, eGFile, c1]; done) | (simp -implicitDefEqProofs only [go_sem, Bool.false_and, Int.reduceToNat, Int.reduceLT, Int.reduceLE, Int.reduceBEq, Int.reduceBNe, Nat.reduceLT, Nat.reduceBEq, Int.reduceEq, Nat.reduceEqDiff, Nat.reduceAdd, Nat.reduceSub, Nat.reduceMul, Nat.reduceLeDiff, reduceCtorEq, ↓reduceIte, eGEntry, eGFile, c1]; rfl)) rfl (by intro h; first | rfl | cases h)
  · try simp -implicitDefEqProofs only [go_sem, Nat.reduceEqDiff, Nat.reduceAdd, reduceCtorEq, ↓reduceIte, c1]
    obtain rfl := Option.some.inj H2
    exact end_pure (by first | (simp -implicitDefEqProofs only [go_sem, ↓reduceIte, Tryd.f18] <;> rfl) | rfl) (by first | rfl | (simp -implicitDefEqProofs only [go_sem, Bool.false_and, Int.reduceToNat, Int.reduceLT, Int.reduceLE, Int.reduceBEq, Int.reduceBNe, Nat.reduceLT, Nat.reduceBEq, Int.reduceEq, Nat.reduceEqDiff, Nat.reduceAdd, Nat.reduceSub, Nat.reduceMul, Nat.reduceLeDiff, reduceCtorEq, ↓reduceIte, eGEntry, eGFile, c1]; done) | (simp -implicitDefEqProofs only [go_sem, Bool.false_and, Int.reduceToNat, Int.reduceLT, Int.reduceLE, Int.reduceBEq, Int.reduceBNe, Nat.reduceLT, Nat.reduceBEq, Int.reduceEq, Nat.reduceEqDiff, Nat.reduceAdd, Nat.reduceSub, Nat.reduceMul, Nat.reduceLeDiff, reduceCtorEq, ↓reduceIte, eGEntry, eGFile, c1]; rfl)) rfl (by intro h; first | rfl | cases h)
def perm_File_L1 (n : Nat) (l : List GFile) (path : ByteArray) : Nat → Int → Option ((Unit) ⊕ (GFile × Bool))
  | 0, _ => none
  | c + 1, t10 =>
    (if (decide (t10 < (l.length : Int))) then
      (idx l t10).bind fun x2 =>
      (mask_IsFile n x2).bind fun t152 =>
      (if t152 then
        (if (x2.name.toList == path.toList) then
          some (.inr (x2, true))
        else
          perm_File_L1 n l path c (IntKind.i64.wrap (t10 + 1)))
      else
        perm_File_L1 n l path c (IntKind.i64.wrap (t10 + 1)))
    else
      some (.inl ()))
def perm_File_L1_f (n : Nat) (_ : List GFile) (path : ByteArray) (st : Unit) (x2 : GFile) (k : Unit → Option ((Unit) ⊕ (GFile × Bool))) : Option ((Unit) ⊕ (GFile × Bool)) :=
  match st with
  | _ =>
    (mask_IsFile n x2).bind fun t152 =>
    (if t152 then
      (if (x2.name.toList == path.toList) then
        some (.inr (x2, true))
      else
        k ())
    else
      k ())
def perm_File_L1_e (_ : Nat) (_ : List GFile) (_ : ByteArray) (st : Unit) : Option ((Unit) ⊕ (GFile × Bool)) :=
  match st with
  | _ => some (.inl ())
theorem perm_File_L1_list (n : Nat) (l : List GFile) (path : ByteArray) (hx : l.length < 4611686018427387904) (c : Nat) (st : Unit) (ix : Nat) (hi : ix ≤ l.length) (hc : l.length - ix < c) : perm_File_L1 n l path c (match st, (ix : Int) with | _, ix => ix) = foldK (perm_File_L1_f n l path) (perm_File_L1_e n l path) (l.drop ix) st :=
  loop_list (fun c st ix => perm_File_L1 n l path c (match st, ix with | _, ix => ix)) l (perm_File_L1_f n l path) (perm_File_L1_e n l path) (fun _ _ _ => rfl) hx c st ix hi hc

def perm_File (n : Nat) (l : List GFile) (path : ByteArray) : Option (GFile × Bool) :=
  (
    perm_File_L1 n l path n 0 : Option ((Unit) ⊕ (GFile × Bool))).bind fun
    | .inl _ =>
      some ((⟨0, ByteArray.empty, [], ByteArray.empty, ByteArray.empty, [], 0⟩ : GFile), false)
    | .inr r => some r
theorem perm_File_ok {n : Nat} {l : List GFile} {path : ByteArray} {r : GFile × Bool} (H : perm_File n l path = some r) : PureOK Tryd.prog 8 [D.sl (List.map eGFile l), D.v (.string path)] (D.tu [D.ag (eGFile r.1), D.v (.bool r.2)]) false := by
  unfold perm_File at H
  refine pure_runR (tab := tab) tab_ok Tryd.func8 rfl (by kernel_rfl) (by kernel_rfl) (by simp [Tryd.f8]) ?_
  refine runR_seq ?_
  refine runR_take tab_ok fol 1 ?_
  try simp -implicitDefEqProofs only [go_sem, Nat.reduceAdd, ↓reduceIte, eGFile]
  refine runR_seq ?_
  refine runR_seq ?_
  refine runR_take tab_ok fol 1 ?_
  try simp -implicitDefEqProofs only [go_sem, Nat.reduceAdd, reduceCtorEq, ↓reduceIte]
  obtain ⟨e_, E1, H2⟩ := bind_inv H
  refine runR_join (α := { y : Unit // e_ = .inl y }) (fun | ⟨_, _⟩ => ⟨upd 4 (.pt 0 0) noFr, upd 0 (some (.bx [.v (.int .i64 0), .v (.string ByteArray.empty), .v (.slice none 0 0), .v (.string ByteArray.empty), .v (.string ByteArray.empty), .v (.slice none 0 0), .v (.int .i64 0)])) noHp, 1⟩) ?_ ?_
  · refine runR_block ?_
    refine runR_loop (α := { q : Nat × Int // perm_File_L1 n l path q.1 q.2 = some e_ }) (fun | ⟨⟨c, t10⟩, _⟩ => ⟨upd 1 (.v (.string path)) (upd 4 (.pt 0 0) (upd 8 (.d (.sl (List.map eGFile l)) true) (upd 9 (.v (.int .i64 (l.length : Int))) (upd 10 (.v (.int .i64 t10)) noFr)))), upd 0 (some (.bx [.v (.int .i64 0), .v (.string ByteArray.empty), .v (.slice none 0 0), .v (.string ByteArray.empty), .v (.string ByteArray.empty), .v (.slice none 0 0), .v (.int .i64 0)])) noHp, 1⟩) (fun q => q.1.1) ⟨(n, 0), E1⟩ ?_ ?_
    · exact ren_mk [(0, 0)] (by rfl) (rf_upd (by rfl) (rf_upd (by rfl) (rf_upd (by rfl) (rf_upd (by rfl) (rf_upd (by rfl) (rf_no _)))))) (rh_upd (rh_one (by rfl) (by rfl) (by rfl)) (rh_no _))
    · rintro ⟨⟨c, t10⟩, L3⟩
      rcases c with _ | c
      · exact nomatch (show none = some _ from L3)
      · unfold perm_File_L1 at L3
        try dsimp only at L3
        refine runR_take tab_ok fol 1 ?_
        try simp -implicitDefEqProofs only [go_sem, Nat.reduceEqDiff, Nat.reduceAdd, ↓reduceIte]
        rcases ite_inv L3 with ⟨c18, H19⟩ | ⟨c18, H19⟩
        · obtain ⟨x2, b20, H21⟩ := bind_inv H19
          obtain ⟨h22, h23⟩ := idx_inv b20
          try simp only [Int.reduceToNat, Int.toNat_natCast] at h23
          have h24 := map_at eGFile h23
          obtain ⟨t152, b26, H27⟩ := bind_inv H21
          try simp -implicitDefEqProofs only [go_sem, Nat.reduceEqDiff, Nat.reduceAdd, ↓reduceIte, eGFile, c18, nat_of .i64 h22, h24]
          refine onCall_pure (by first | rfl | (simp -implicitDefEqProofs only [go_sem, Bool.false_and, Int.reduceToNat, Int.reduceLT, Int.reduceLE, Int.reduceBEq, Int.reduceBNe, Nat.reduceLT, Nat.reduceBEq, Int.reduceEq, Nat.reduceEqDiff, Nat.reduceAdd, Nat.reduceSub, Nat.reduceMul, Nat.reduceLeDiff, reduceCtorEq, ↓reduceIte, eGEntry, eGFile, c18, nat_of .i64 h22, h24]; done) | (simp -implicitDefEqProofs only [go_sem, Bool.false_and, Int.reduceToNat, Int.reduceLT, Int.reduceLE, Int.reduceBEq, Int.reduceBNe, Nat.reduceLT, Nat.reduceBEq, Int.reduceEq, Nat.reduceEqDiff, Nat.reduceAdd, Nat.reduceSub, Nat.reduceMul, Nat.reduceLeDiff, reduceCtorEq, ↓reduceIte, eGEntry, eGFile, c18, nat_of .i64 h22, h24]; rfl)) (mask_IsFile_ok b26) (by first | exact .inr rfl | exact .inl rfl) ?_
          try simp -implicitDefEqProofs only [go_sem, Bool.false_and, Nat.reduceAdd, ↓reduceIte]
          rcases ite_inv H27 with ⟨c28, H29⟩ | ⟨c28, H29⟩
          · try simp -implicitDefEqProofs only [go_sem, Nat.reduceEqDiff, Nat.reduceAdd, reduceCtorEq, ↓reduceIte, c28]
            rcases ite_inv H29 with ⟨c30, H31⟩ | ⟨c30, H31⟩
            · try simp -implicitDefEqProofs only [go_sem, Nat.reduceEqDiff, Nat.reduceAdd, reduceCtorEq, ↓reduceIte, c30]
              obtain rfl := Option.some.inj H31
              obtain rfl := Option.some.inj H2
              exact end_pure (by first | (simp -implicitDefEqProofs only [go_sem, Nat.reduceEqDiff, Nat.reduceAdd, ↓reduceIte, Tryd.f8] <;> rfl) | rfl) (by first | rfl | (simp -implicitDefEqProofs only [go_sem, Bool.false_and, Int.reduceToNat, Int.reduceLT, Int.reduceLE, Int.reduceBEq, Int.reduceBNe, Nat.reduceLT, Nat.reduceBEq, Int.reduceEq, Nat.reduceEqDiff, Nat.reduceAdd, Nat.reduceSub, Nat.reduceMul, Nat.reduceLeDiff, reduceCtorEq, ↓reduceIte, eGEntry, eGFile, c18, nat_of .i64 h22, h24, c28, c30]; done) | (simp -implicitDefEqProofs only [go_sem, Bool.false_and, Int.reduceToNat, Int.reduceLT, Int.reduceLE, Int.reduceBEq, Int.reduceBNe, Nat.reduceLT, Nat.reduceBEq, Int.reduceEq, Nat.reduceEqDiff, Nat.reduceAdd, Nat.reduceSub, Nat.reduceMul, Nat.reduceLeDiff, reduceCtorEq, ↓reduceIte, eGEntry, eGFile, c18, nat_of .i64 h22, h24, c28, c30]; rfl)) rfl (by intro h; first | rfl | cases h)
            · try simp -implicitDefEqProofs only [go_sem, Nat.reduceEqDiff, Nat.reduceAdd, ↓reduceIte, c30]
              exact ⟨⟨(c, (IntKind.i64.wrap (t10 + 1))), H31⟩, ren_mk [(0, 0)] (by rfl) (rf_upd (by rfl) (rf_upd (by rfl) (rf_upd (by rfl) (rf_upd (by rfl) (rf_upd (by rfl) (rf_no _)))))) (rh_upd (rh_one (by rfl) (by rfl) (by rfl)) (rh_no _)), Nat.lt_succ_self _⟩
          · try simp -implicitDefEqProofs only [go_sem, Nat.reduceEqDiff, Nat.reduceAdd, ↓reduceIte, c28]
            exact ⟨⟨(c, (IntKind.i64.wrap (t10 + 1))), H29⟩, ren_mk [(0, 0)] (by rfl) (rf_upd (by rfl) (rf_upd (by rfl) (rf_upd (by rfl) (rf_upd (by rfl) (rf_upd (by rfl) (rf_no _)))))) (rh_upd (rh_one (by rfl) (by rfl) (by rfl)) (rh_no _)), Nat.lt_succ_self _⟩
        · try simp -implicitDefEqProofs only [go_sem, ↓reduceIte, c18]
          obtain rfl := Option.some.inj H19
          exact ⟨⟨(), rfl⟩, ren_mk [(0, 0)] (by rfl) (rf_upd (by rfl) (rf_no _)) (rh_upd (rh_one (by rfl) (by rfl) (by rfl)) (rh_no _))⟩
  · rintro ⟨_, he32⟩
    replace he32 := he32.symm
    subst he32
    try dsimp only at H2
    refine runR_take tab_ok fol 1 ?_
    try simp -implicitDefEqProofs only [go_sem, Nat.reduceEqDiff, Nat.reduceAdd, ↓reduceIte]
    obtain rfl := Option.some.inj H2
    exact end_pure (by first | (simp -implicitDefEqProofs only [go_sem, Nat.reduceEqDiff, Nat.reduceAdd, ↓reduceIte, Tryd.f8] <;> rfl) | rfl) (by first | rfl | (simp -implicitDefEqProofs only [go_sem, Bool.false_and, Int.reduceToNat, Int.reduceLT, Int.reduceLE, Int.reduceBEq, Int.reduceBNe, Nat.reduceLT, Nat.reduceBEq, Int.reduceEq, Nat.reduceEqDiff, Nat.reduceAdd, Nat.reduceSub, Nat.reduceMul, Nat.reduceLeDiff, reduceCtorEq, ↓reduceIte, eGEntry, eGFile]; done) | (simp -implicitDefEqProofs only [go_sem, Bool.false_and, Int.reduceToNat, Int.reduceLT, Int.reduceLE, Int.reduceBEq, Int.reduceBNe, Nat.reduceLT, Nat.reduceBEq, Int.reduceEq, Nat.reduceEqDiff, Nat.reduceAdd, Nat.reduceSub, Nat.reduceMul, Nat.reduceLeDiff, reduceCtorEq, ↓reduceIte, eGEntry, eGFile]; rfl)) rfl (by intro h; first | rfl | cases h)
def perm_isUser_c1 (_ : Nat) (f : GFile) (c2 : ByteArray) : Option Bool :=
  (if (f.kind == 1) then
    some (f.name.toList == c2.toList)
  else
    some false)
theorem perm_isUser_c1_ok {n : Nat} {f : GFile} {c2 : ByteArray} {r : Bool} (H : perm_isUser_c1 n f c2 = some r) : PureOK Tryd.prog 20 [D.ag (eGFile f), D.pt [D.v (.string c2)] 0] (D.v (.bool r)) true := by
  unfold perm_isUser_c1 at H
  refine pure_runR (tab := tab) tab_ok Tryd.func20 rfl (by kernel_rfl) (by kernel_rfl) (by simp [Tryd.f20]) ?_
  refine runR_take tab_ok fol 1 ?_
  try simp -implicitDefEqProofs only [go_sem, Nat.reduceEqDiff, Nat.reduceAdd, reduceCtorEq, ↓reduceIte, eGFile]
  rcases ite_inv H with ⟨c1, H2⟩ | ⟨c1, H2⟩
  · try simp -implicitDefEqProofs only [go_sem, Nat.reduceEqDiff, Nat.reduceAdd, reduceCtorEq, ↓reduceIte, c1]
    obtain rfl := Option.some.inj H2
    exact end_pure (by first | (simp -implicitDefEqProofs only [go_sem, ↓reduceIte, Tryd.f20] <;> rfl) | rfl) (by first | rfl | (simp -implicitDefEqProofs only [go_sem, Bool.false_and, Int.reduceToNat, Int.reduceLT, Int.reduceLE, Int.reduceBEq, Int.reduceBNe, Nat.reduceLT, Nat.reduceBEq, Int.reduceEq, Nat.reduceEqDiff, Nat.reduceAdd, Nat.reduceSub, Nat.reduceMul, Nat.reduceLeDiff, reduceCtorEq, ↓reduceIte, eGEntry, eGFile, c1]; done) | (simp -implicitDefEqProofs only [go_sem, Bool.false_and, Int.reduceToNat, Int.reduceLT, Int.reduceLE, Int.reduceBEq, Int.reduceBNe, Nat.reduceLT, Nat.reduceBEq, Int.reduceEq, Nat.reduceEqDiff, Nat.reduceAdd, Nat.reduceSub, Nat.reduceMul, Nat.reduceLeDiff, reduceCtorEq, ↓reduceIte, eGEntry, eGFile, c1]; rfl)) rfl (by intro h; first | rfl | cases h)
  · try simp -implicitDefEqProofs only [go_sem, Nat.reduceEqDiff, Nat.reduceAdd, ↓reduceIte, c1]
    obtain rfl := Option.some.inj H2
    exact end_pure (by first | (simp -implicitDefEqProofs only [go_sem, ↓reduceIte, Tryd.f20] <;> rfl) | rfl) (by first | rfl | (simp -implicitDefEqProofs only [go_sem, Bool.false_and, Int.reduceToNat, Int.reduceLT, Int.reduceLE, Int.reduceBEq, Int.reduceBNe, Nat.reduceLT, Nat.reduceBEq, Int.reduceEq, Nat.reduceEqDiff, Nat.reduceAdd, Nat.reduceSub, Nat.reduceMul, Nat.reduceLeDiff, reduceCtorEq, ↓reduceIte, eGEntry, eGFile, c1]; done) | (simp -implicitDefEqProofs only [go_sem, Bool.false_and, Int.reduceToNat, Int.reduceLT, Int.reduceLE, Int.reduceBEq, Int.reduceBNe, Nat.reduceLT, Nat.reduceBEq, Int.reduceEq, Nat.reduceEqDiff, Nat.reduceAdd, Nat.reduceSub, Nat.reduceMul, Nat.reduceLeDiff, reduceCtorEq, ↓reduceIte, eGEntry, eGFile, c1]; rfl)) rfl (by intro h; first | rfl | cases h)
def slices_IndexFunc_File__perm_isUser_c1_L1 (n : Nat) (s : List GFile) (c2 : ByteArray) : Nat → Int → Option ((Unit) ⊕ Int)
  | 0, _ => none
  | c + 1, t8 =>
    (if (decide (t8 < (s.length : Int))) then
      (idx s t8).bind fun x2 =>
      (perm_isUser_c1 n x2 c2).bind fun t162 =>
      (if t162 then
        some (.inr t8)
      else
        slices_IndexFunc_File__perm_isUser_c1_L1 n s c2 c (IntKind.i64.wrap (t8 + 1)))
    else
      some (.inl ()))

def slices_IndexFunc_File__perm_isUser_c1 (n : Nat) (s : List GFile) (c2 : ByteArray) : Option Int :=
  (
    slices_IndexFunc_File__perm_isUser_c1_L1 n s c2 n 0 : Option ((Unit) ⊕ Int)).bind fun
    | .inl _ =>
      some (-1)
    | .inr r => some r
theorem slices_IndexFunc_File__perm_isUser_c1_ok {n : Nat} {s : List GFile} {c2 : ByteArray} {r : Int} (H : slices_IndexFunc_File__perm_isUser_c1 n s c2 = some r) : PureA Tryd.prog 33 [.d (D.sl (List.map eGFile s)), .fn 20 [D.pt [D.v (.string c2)] 0]] (D.v (.int .i64 r)) true := by
  unfold slices_IndexFunc_File__perm_isUser_c1 at H
  refine pureA_runR (tab := tab) tab_ok Tryd.func33 rfl (by kernel_rfl) (by kernel_rfl) (by simp [Tryd.f33]) ?_
  refine runR_seq ?_
  refine runR_take tab_ok fol 1 ?_
  try simp -implicitDefEqProofs only [go_sem]
  refine runR_seq ?_
  refine runR_seq ?_
  refine runR_take tab_ok fol 1 ?_
  try simp -implicitDefEqProofs only [go_sem, Nat.reduceAdd, reduceCtorEq, ↓reduceIte]
  obtain ⟨e_, E1, H2⟩ := bind_inv H
  refine runR_join (α := { y : Unit // e_ = .inl y }) (fun | ⟨_, _⟩ => ⟨noFr, noHp, 0⟩) ?_ ?_
  · refine runR_block ?_
    refine runR_loop (α := { q : Nat × Int // slices_IndexFunc_File__perm_isUser_c1_L1 n s c2 q.1 q.2 = some e_ }) (fun | ⟨⟨c, t8⟩, _⟩ => ⟨upd 0 (.d (.sl (List.map eGFile s)) true) (upd 1 (.fn 20 [.d (.pt [.v (.string c2)] 0) true]) (upd 7 (.v (.int .i64 (s.length : Int))) (upd 8 (.v (.int .i64 t8)) noFr))), noHp, 0⟩) (fun q => q.1.1) ⟨(n, 0), E1⟩ ?_ ?_
    · exact ren_mk [] (by rfl) (rf_upd (by rfl) (rf_upd (by rfl) (rf_upd (by rfl) (rf_upd (by rfl) (rf_no _))))) (rh_no _)
    · rintro ⟨⟨c, t8⟩, L3⟩
      rcases c with _ | c
      · exact nomatch (show none = some _ from L3)
      · unfold slices_IndexFunc_File__perm_isUser_c1_L1 at L3
        try dsimp only at L3
        refine runR_take tab_ok fol 1 ?_
        try simp -implicitDefEqProofs only [go_sem, Nat.reduceEqDiff, reduceCtorEq, ↓reduceIte]
        rcases ite_inv L3 with ⟨c16, H17⟩ | ⟨c16, H17⟩
        · obtain ⟨x2, b18, H19⟩ := bind_inv H17
          obtain ⟨h20, h21⟩ := idx_inv b18
          try simp only [Int.reduceToNat, Int.toNat_natCast] at h21
          have h22 := map_at eGFile h21
          obtain ⟨t162, b24, H25⟩ := bind_inv H19
          try simp -implicitDefEqProofs only [go_sem, Nat.reduceEqDiff, Nat.reduceAdd, reduceCtorEq, ↓reduceIte, eGFile, c16, nat_of .i64 h20, h22]
          refine onCall_pure (by first | rfl | (simp -implicitDefEqProofs only [go_sem, Bool.false_and, Int.reduceToNat, Int.reduceLT, Int.reduceLE, Int.reduceBEq, Int.reduceBNe, Nat.reduceLT, Nat.reduceBEq, Int.reduceEq, Nat.reduceEqDiff, Nat.reduceAdd, Nat.reduceSub, Nat.reduceMul, Nat.reduceLeDiff, reduceCtorEq, ↓reduceIte, eGEntry, eGFile, c16, nat_of .i64 h20, h22]; done) | (simp -implicitDefEqProofs only [go_sem, Bool.false_and, Int.reduceToNat, Int.reduceLT, Int.reduceLE, Int.reduceBEq, Int.reduceBNe, Nat.reduceLT, Nat.reduceBEq, Int.reduceEq, Nat.reduceEqDiff, Nat.reduceAdd, Nat.reduceSub, Nat.reduceMul, Nat.reduceLeDiff, reduceCtorEq, ↓reduceIte, eGEntry, eGFile, c16, nat_of .i64 h20, h22]; rfl)) (perm_isUser_c1_ok b24) (by first | exact .inr rfl | exact .inl rfl) ?_
          try simp -implicitDefEqProofs only [go_sem, Bool.false_and, ↓reduceIte]
          rcases ite_inv H25 with ⟨c26, H27⟩ | ⟨c26, H27⟩
          · try simp -implicitDefEqProofs only [go_sem, Nat.reduceEqDiff, Nat.reduceAdd, ↓reduceIte, c26]
            obtain rfl := Option.some.inj H27
            obtain rfl := Option.some.inj H2
            exact end_pure (by first | (simp -implicitDefEqProofs only [go_sem, ↓reduceIte, Tryd.f33] <;> rfl) | rfl) (by first | rfl | (simp -implicitDefEqProofs only [go_sem, Bool.false_and, Int.reduceToNat, Int.reduceLT, Int.reduceLE, Int.reduceBEq, Int.reduceBNe, Nat.reduceLT, Nat.reduceBEq, Int.reduceEq, Nat.reduceEqDiff, Nat.reduceAdd, Nat.reduceSub, Nat.reduceMul, Nat.reduceLeDiff, reduceCtorEq, ↓reduceIte, eGEntry, eGFile, c16, nat_of .i64 h20, h22, c26]; done) | (simp -implicitDefEqProofs only [go_sem, Bool.false_and, Int.reduceToNat, Int.reduceLT, Int.reduceLE, Int.reduceBEq, Int.reduceBNe, Nat.reduceLT, Nat.reduceBEq, Int.reduceEq, Nat.reduceEqDiff, Nat.reduceAdd, Nat.reduceSub, Nat.reduceMul, Nat.reduceLeDiff, reduceCtorEq, ↓reduceIte, eGEntry, eGFile, c16, nat_of .i64 h20, h22, c26]; rfl)) rfl (by intro h; first | rfl | cases h)
          · try simp -implicitDefEqProofs only [go_sem, Nat.reduceEqDiff, Nat.reduceAdd, reduceCtorEq, ↓reduceIte, c26]
            exact ⟨⟨(c, (IntKind.i64.wrap (t8 + 1))), H27⟩, ren_mk [] (by rfl) (rf_upd (by rfl) (rf_upd (by rfl) (rf_upd (by rfl) (rf_upd (by rfl) (rf_no _))))) (rh_no _), Nat.lt_succ_self _⟩
        · try simp -implicitDefEqProofs only [go_sem, ↓reduceIte, c16]
          obtain rfl := Option.some.inj H17
          exact ⟨⟨(), rfl⟩, ren_mk [] (by rfl) (rf_no _) (rh_no _)⟩
  · rintro ⟨_, he28⟩
    replace he28 := he28.symm
    subst he28
    try dsimp only at H2
    refine runR_take tab_ok fol 1 ?_
    try simp -implicitDefEqProofs only [go_sem]
    obtain rfl := Option.some.inj H2
    exact end_pure (by first | (simp -implicitDefEqProofs only [go_sem, ↓reduceIte, Tryd.f33] <;> rfl) | rfl) (by first | rfl | (simp -implicitDefEqProofs only [go_sem, Bool.false_and, Int.reduceToNat, Int.reduceLT, Int.reduceLE, Int.reduceBEq, Int.reduceBNe, Nat.reduceLT, Nat.reduceBEq, Int.reduceEq, Nat.reduceEqDiff, Nat.reduceAdd, Nat.reduceSub, Nat.reduceMul, Nat.reduceLeDiff, reduceCtorEq, ↓reduceIte, eGEntry, eGFile]; done) | (simp -implicitDefEqProofs only [go_sem, Bool.false_and, Int.reduceToNat, Int.reduceLT, Int.reduceLE, Int.reduceBEq, Int.reduceBNe, Nat.reduceLT, Nat.reduceBEq, Int.reduceEq, Nat.reduceEqDiff, Nat.reduceAdd, Nat.reduceSub, Nat.reduceMul, Nat.reduceLeDiff, reduceCtorEq, ↓reduceIte, eGEntry, eGFile]; rfl)) rfl (by intro h; first | rfl | cases h)
def slices_ContainsFunc_File__perm_isUser_c1 (n : Nat) (s : List GFile) (c2 : ByteArray) : Option Bool :=
  (slices_IndexFunc_File__perm_isUser_c1 n s c2).bind fun t7 =>
  some (decide (0 ≤ t7))
theorem slices_ContainsFunc_File__perm_isUser_c1_ok {n : Nat} {s : List GFile} {c2 : ByteArray} {r : Bool} (H : slices_ContainsFunc_File__perm_isUser_c1 n s c2 = some r) : PureA Tryd.prog 19 [.d (D.sl (List.map eGFile s)), .fn 20 [D.pt [D.v (.string c2)] 0]] (D.v (.bool r)) true := by
  unfold slices_ContainsFunc_File__perm_isUser_c1 at H
  refine pureA_runR (tab := tab) tab_ok Tryd.func19 rfl (by kernel_rfl) (by kernel_rfl) (by simp [Tryd.f19]) ?_
  refine runR_take tab_ok fol 1 ?_
  obtain ⟨t7, b1, H2⟩ := bind_inv H
  try simp -implicitDefEqProofs only [go_sem, Nat.reduceEqDiff, Nat.reduceAdd, reduceCtorEq, ↓reduceIte]
  refine onCall_pureA (by first | rfl | (simp -implicitDefEqProofs only [go_sem, Bool.false_and, Int.reduceToNat, Int.reduceLT, Int.reduceLE, Int.reduceBEq, Int.reduceBNe, Nat.reduceLT, Nat.reduceBEq, Int.reduceEq, Nat.reduceEqDiff, Nat.reduceAdd, Nat.reduceSub, Nat.reduceMul, Nat.reduceLeDiff, reduceCtorEq, ↓reduceIte, eGEntry, eGFile]; done) | (simp -implicitDefEqProofs only [go_sem, Bool.false_and, Int.reduceToNat, Int.reduceLT, Int.reduceLE, Int.reduceBEq, Int.reduceBNe, Nat.reduceLT, Nat.reduceBEq, Int.reduceEq, Nat.reduceEqDiff, Nat.reduceAdd, Nat.reduceSub, Nat.reduceMul, Nat.reduceLeDiff, reduceCtorEq, ↓reduceIte, eGEntry, eGFile]; rfl)) (slices_IndexFunc_File__perm_isUser_c1_ok b1) (by first | exact .inr rfl | exact .inl rfl) ?_
  try simp -implicitDefEqProofs only [go_sem, Bool.false_and, Nat.reduceAdd, ↓reduceIte]
  obtain rfl := Option.some.inj H2
  exact end_pure (by first | (simp -implicitDefEqProofs only [go_sem, ↓reduceIte, Tryd.f19] <;> rfl) | rfl) (by first | rfl | (simp -implicitDefEqProofs only [go_sem, Bool.false_and, Int.reduceToNat, Int.reduceLT, Int.reduceLE, Int.reduceBEq, Int.reduceBNe, Nat.reduceLT, Nat.reduceBEq, Int.reduceEq, Nat.reduceEqDiff, Nat.reduceAdd, Nat.reduceSub, Nat.reduceMul, Nat.reduceLeDiff, reduceCtorEq, ↓reduceIte, eGEntry, eGFile]; done) | (simp -implicitDefEqProofs only [go_sem, Bool.false_and, Int.reduceToNat, Int.reduceLT, Int.reduceLE, Int.reduceBEq, Int.reduceBNe, Nat.reduceLT, Nat.reduceBEq, Int.reduceEq, Nat.reduceEqDiff, Nat.reduceAdd, Nat.reduceSub, Nat.reduceMul, Nat.reduceLeDiff, reduceCtorEq, ↓reduceIte, eGEntry, eGFile]; rfl)) rfl (by intro h; first | rfl | cases h)
def perm_isUser (n : Nat) (l : List GFile) (user : ByteArray) : Option Bool :=
  (slices_ContainsFunc_File__perm_isUser_c1 n l user).bind fun t7 =>
  some t7
theorem perm_isUser_ok {n : Nat} {l : List GFile} {user : ByteArray} {r : Bool} (H : perm_isUser n l user = some r) : PureOK Tryd.prog 9 [D.sl (List.map eGFile l), D.v (.string user)] (D.v (.bool r)) true := by
  unfold perm_isUser at H
  refine pure_runR (tab := tab) tab_ok Tryd.func9 rfl (by kernel_rfl) (by kernel_rfl) (by simp [Tryd.f9]) ?_
  refine runR_take tab_ok fol 1 ?_
  obtain ⟨t7, b1, H2⟩ := bind_inv H
  try simp -implicitDefEqProofs only [go_sem, Nat.reduceEqDiff, Nat.reduceAdd, reduceCtorEq, ↓reduceIte]
  refine onCall_pureA (by first | rfl | (simp -implicitDefEqProofs only [go_sem, Bool.false_and, Int.reduceToNat, Int.reduceLT, Int.reduceLE, Int.reduceBEq, Int.reduceBNe, Nat.reduceLT, Nat.reduceBEq, Int.reduceEq, Nat.reduceEqDiff, Nat.reduceAdd, Nat.reduceSub, Nat.reduceMul, Nat.reduceLeDiff, reduceCtorEq, ↓reduceIte, eGEntry, eGFile]; done) | (simp -implicitDefEqProofs only [go_sem, Bool.false_and, Int.reduceToNat, Int.reduceLT, Int.reduceLE, Int.reduceBEq, Int.reduceBNe, Nat.reduceLT, Nat.reduceBEq, Int.reduceEq, Nat.reduceEqDiff, Nat.reduceAdd, Nat.reduceSub, Nat.reduceMul, Nat.reduceLeDiff, reduceCtorEq, ↓reduceIte, eGEntry, eGFile]; rfl)) (slices_ContainsFunc_File__perm_isUser_c1_ok b1) (by first | exact .inr rfl | exact .inl rfl) ?_
  try simp -implicitDefEqProofs only [go_sem, Bool.false_and, Nat.reduceAdd, ↓reduceIte]
  obtain rfl := Option.some.inj H2
  exact end_pure (by first | (simp -implicitDefEqProofs only [go_sem, ↓reduceIte, Tryd.f9] <;> rfl) | rfl) (by first | rfl | (simp -implicitDefEqProofs only [go_sem, Bool.false_and, Int.reduceToNat, Int.reduceLT, Int.reduceLE, Int.reduceBEq, Int.reduceBNe, Nat.reduceLT, Nat.reduceBEq, Int.reduceEq, Nat.reduceEqDiff, Nat.reduceAdd, Nat.reduceSub, Nat.reduceMul, Nat.reduceLeDiff, reduceCtorEq, ↓reduceIte, eGEntry, eGFile]; done) | (simp -implicitDefEqProofs only [go_sem, Bool.false_and, Int.reduceToNat, Int.reduceLT, Int.reduceLE, Int.reduceBEq, Int.reduceBNe, Nat.reduceLT, Nat.reduceBEq, Int.reduceEq, Nat.reduceEqDiff, Nat.reduceAdd, Nat.reduceSub, Nat.reduceMul, Nat.reduceLeDiff, reduceCtorEq, ↓reduceIte, eGEntry, eGFile]; rfl)) rfl (by intro h; first | rfl | cases h)
def atom_first (_ : Nat) (c2 : Int) : Option Bool :=
  (if (decide (97 ≤ c2)) then
    (if (decide (c2 ≤ 122)) then
      some true
    else
      (if (decide (48 ≤ c2)) then
        some (decide (c2 ≤ 57))
      else
        some false))
  else
    (if (decide (48 ≤ c2)) then
      some (decide (c2 ≤ 57))
    else
      some false))
theorem atom_first_ok {n : Nat} {c2 : Int} {r : Bool} (H : atom_first n c2 = some r) : PureOK Tryd.prog 64 [D.v (.int .u8 c2)] (D.v (.bool r)) true := by
  unfold atom_first at H
  refine pure_runR (tab := tab) tab_ok Tryd.func64 rfl (by kernel_rfl) (by kernel_rfl) (by simp [Tryd.f64]) ?_
  refine runR_take tab_ok fol 1 ?_
  try simp -implicitDefEqProofs only [go_sem, Nat.reduceAdd, reduceCtorEq, ↓reduceIte]
  rcases ite_inv H with ⟨c1, H2⟩ | ⟨c1, H2⟩
  · try simp -implicitDefEqProofs only [go_sem, Nat.reduceEqDiff, Nat.reduceAdd, reduceCtorEq, ↓reduceIte, c1]
    rcases ite_inv H2 with ⟨c3, H4⟩ | ⟨c3, H4⟩
    · try simp -implicitDefEqProofs only [go_sem, Nat.reduceEqDiff, Nat.reduceAdd, ↓reduceIte, c3]
      obtain rfl := Option.some.inj H4
      exact end_pure (by first | (simp -implicitDefEqProofs only [go_sem, ↓reduceIte, Tryd.f64] <;> rfl) | rfl) (by first | rfl | (simp -implicitDefEqProofs only [go_sem, Bool.false_and, Int.reduceToNat, Int.reduceLT, Int.reduceLE, Int.reduceBEq, Int.reduceBNe, Nat.reduceLT, Nat.reduceBEq, Int.reduceEq, Nat.reduceEqDiff, Nat.reduceAdd, Nat.reduceSub, Nat.reduceMul, Nat.reduceLeDiff, reduceCtorEq, ↓reduceIte, eGEntry, eGFile, c1, c3]; done) | (simp -implicitDefEqProofs only [go_sem, Bool.false_and, Int.reduceToNat, Int.reduceLT, Int.reduceLE, Int.reduceBEq, Int.reduceBNe, Nat.reduceLT, Nat.reduceBEq, Int.reduceEq, Nat.reduceEqDiff, Nat.reduceAdd, Nat.reduceSub, Nat.reduceMul, Nat.reduceLeDiff, reduceCtorEq, ↓reduceIte, eGEntry, eGFile, c1, c3]; rfl)) rfl (by intro h; first | rfl | cases h)
    · try simp -implicitDefEqProofs only [go_sem, Nat.reduceEqDiff, Nat.reduceAdd, reduceCtorEq, ↓reduceIte, c3]
      rcases ite_inv H4 with ⟨c5, H6⟩ | ⟨c5, H6⟩
      · try simp -implicitDefEqProofs only [go_sem, Nat.reduceEqDiff, Nat.reduceAdd, reduceCtorEq, ↓reduceIte, c5]
        obtain rfl := Option.some.inj H6
        exact end_pure (by first | (simp -implicitDefEqProofs only [go_sem, ↓reduceIte, Tryd.f64] <;> rfl) | rfl) (by first | rfl | (simp -implicitDefEqProofs only [go_sem, Bool.false_and, Int.reduceToNat, Int.reduceLT, Int.reduceLE, Int.reduceBEq, Int.reduceBNe, Nat.reduceLT, Nat.reduceBEq, Int.reduceEq, Nat.reduceEqDiff, Nat.reduceAdd, Nat.reduceSub, Nat.reduceMul, Nat.reduceLeDiff, reduceCtorEq, ↓reduceIte, eGEntry, eGFile, c1, c3, c5]; done) | (simp -implicitDefEqProofs only [go_sem, Bool.false_and, Int.reduceToNat, Int.reduceLT, Int.reduceLE, Int.reduceBEq, Int.reduceBNe, Nat.reduceLT, Nat.reduceBEq, Int.reduceEq, Nat.reduceEqDiff, Nat.reduceAdd, Nat.reduceSub, Nat.reduceMul, Nat.reduceLeDiff, reduceCtorEq, ↓reduceIte, eGEntry, eGFile, c1, c3, c5]; rfl)) rfl (by intro h; first | rfl | cases h)
      · try simp -implicitDefEqProofs only [go_sem, Nat.reduceEqDiff, Nat.reduceAdd, ↓reduceIte, c5]
        obtain rfl := Option.some.inj H6
        exact end_pure (by first | (simp -implicitDefEqProofs only [go_sem, ↓reduceIte, Tryd.f64] <;> rfl) | rfl) (by first | rfl | (simp -implicitDefEqProofs only [go_sem, Bool.false_and, Int.reduceToNat, Int.reduceLT, Int.reduceLE, Int.reduceBEq, Int.reduceBNe, Nat.reduceLT, Nat.reduceBEq, Int.reduceEq, Nat.reduceEqDiff, Nat.reduceAdd, Nat.reduceSub, Nat.reduceMul, Nat.reduceLeDiff, reduceCtorEq, ↓reduceIte, eGEntry, eGFile, c1, c3, c5]; done) | (simp -implicitDefEqProofs only [go_sem, Bool.false_and, Int.reduceToNat, Int.reduceLT, Int.reduceLE, Int.reduceBEq, Int.reduceBNe, Nat.reduceLT, Nat.reduceBEq, Int.reduceEq, Nat.reduceEqDiff, Nat.reduceAdd, Nat.reduceSub, Nat.reduceMul, Nat.reduceLeDiff, reduceCtorEq, ↓reduceIte, eGEntry, eGFile, c1, c3, c5]; rfl)) rfl (by intro h; first | rfl | cases h)
  · try simp -implicitDefEqProofs only [go_sem, Nat.reduceEqDiff, Nat.reduceAdd, reduceCtorEq, ↓reduceIte, c1]
    rcases ite_inv H2 with ⟨c7, H8⟩ | ⟨c7, H8⟩
    · try simp -implicitDefEqProofs only [go_sem, Nat.reduceEqDiff, Nat.reduceAdd, reduceCtorEq, ↓reduceIte, c7]
      obtain rfl := Option.some.inj H8
      exact end_pure (by first | (simp -implicitDefEqProofs only [go_sem, ↓reduceIte, Tryd.f64] <;> rfl) | rfl) (by first | rfl | (simp -implicitDefEqProofs only [go_sem, Bool.false_and, Int.reduceToNat, Int.reduceLT, Int.reduceLE, Int.reduceBEq, Int.reduceBNe, Nat.reduceLT, Nat.reduceBEq, Int.reduceEq, Nat.reduceEqDiff, Nat.reduceAdd, Nat.reduceSub, Nat.reduceMul, Nat.reduceLeDiff, reduceCtorEq, ↓reduceIte, eGEntry, eGFile, c1, c7]; done) | (simp -implicitDefEqProofs only [go_sem, Bool.false_and, Int.reduceToNat, Int.reduceLT, Int.reduceLE, Int.reduceBEq, Int.reduceBNe, Nat.reduceLT, Nat.reduceBEq, Int.reduceEq, Nat.reduceEqDiff, Nat.reduceAdd, Nat.reduceSub, Nat.reduceMul, Nat.reduceLeDiff, reduceCtorEq, ↓reduceIte, eGEntry, eGFile, c1, c7]; rfl)) rfl (by intro h; first | rfl | cases h)
    · try simp -implicitDefEqProofs only [go_sem, Nat.reduceEqDiff, Nat.reduceAdd, ↓reduceIte, c7]
      obtain rfl := Option.some.inj H8
      exact end_pure (by first | (simp -implicitDefEqProofs only [go_sem, ↓reduceIte, Tryd.f64] <;> rfl) | rfl) (by first | rfl | (simp -implicitDefEqProofs only [go_sem, Bool.false_and, Int.reduceToNat, Int.reduceLT, Int.reduceLE, Int.reduceBEq, Int.reduceBNe, Nat.reduceLT, Nat.reduceBEq, Int.reduceEq, Nat.reduceEqDiff, Nat.reduceAdd, Nat.reduceSub, Nat.reduceMul, Nat.reduceLeDiff, reduceCtorEq, ↓reduceIte, eGEntry, eGFile, c1, c7]; done) | (simp -implicitDefEqProofs only [go_sem, Bool.false_and, Int.reduceToNat, Int.reduceLT, Int.reduceLE, Int.reduceBEq, Int.reduceBNe, Nat.reduceLT, Nat.reduceBEq, Int.reduceEq, Nat.reduceEqDiff, Nat.reduceAdd, Nat.reduceSub, Nat.reduceMul, Nat.reduceLeDiff, reduceCtorEq, ↓reduceIte, eGEntry, eGFile, c1, c7]; rfl)) rfl (by intro h; first | rfl | cases h)
def atom_plain (n : Nat) (c2 : Int) : Option Bool :=
  (atom_first n c2).bind fun t4 =>
  (if t4 then
    some true
  else
    (if (c2 == 95) then
      some true
    else
      (if (c2 == 45) then
        some true
      else
        some (c2 == 46))))
theorem atom_plain_ok {n : Nat} {c2 : Int} {r : Bool} (H : atom_plain n c2 = some r) : PureOK Tryd.prog 65 [D.v (.int .u8 c2)] (D.v (.bool r)) true := by
  unfold atom_plain at H
  refine pure_runR (tab := tab) tab_ok Tryd.func65 rfl (by kernel_rfl) (by kernel_rfl) (by simp [Tryd.f65]) ?_
  refine runR_take tab_ok fol 1 ?_
  obtain ⟨t4, b1, H2⟩ := bind_inv H
  try simp -implicitDefEqProofs only [go_sem, Nat.reduceAdd, reduceCtorEq, ↓reduceIte]
  refine onCall_pure (by first | rfl | (simp -implicitDefEqProofs only [go_sem, Bool.false_and, Int.reduceToNat, Int.reduceLT, Int.reduceLE, Int.reduceBEq, Int.reduceBNe, Nat.reduceLT, Nat.reduceBEq, Int.reduceEq, Nat.reduceEqDiff, Nat.reduceAdd, Nat.reduceSub, Nat.reduceMul, Nat.reduceLeDiff, reduceCtorEq, ↓reduceIte, eGEntry, eGFile]; done) | (simp -implicitDefEqProofs only [go_sem, Bool.false_and, Int.reduceToNat, Int.reduceLT, Int.reduceLE, Int.reduceBEq, Int.reduceBNe, Nat.reduceLT, Nat.reduceBEq, Int.reduceEq, Nat.reduceEqDiff, Nat.reduceAdd, Nat.reduceSub, Nat.reduceMul, Nat.reduceLeDiff, reduceCtorEq, ↓reduceIte, eGEntry, eGFile]; rfl)) (atom_first_ok b1) (by first | exact .inr rfl | exact .inl rfl) ?_
  try simp -implicitDefEqProofs only [go_sem, Bool.false_and, Nat.reduceAdd, ↓reduceIte]
  rcases ite_inv H2 with ⟨c3, H4⟩ | ⟨c3, H4⟩
  · try simp -implicitDefEqProofs only [go_sem, Nat.reduceEqDiff, Nat.reduceAdd, ↓reduceIte, c3]
    obtain rfl := Option.some.inj H4
    exact end_pure (by first | (simp -implicitDefEqProofs only [go_sem, ↓reduceIte, Tryd.f65] <;> rfl) | rfl) (by first | rfl | (simp -implicitDefEqProofs only [go_sem, Bool.false_and, Int.reduceToNat, Int.reduceLT, Int.reduceLE, Int.reduceBEq, Int.reduceBNe, Nat.reduceLT, Nat.reduceBEq, Int.reduceEq, Nat.reduceEqDiff, Nat.reduceAdd, Nat.reduceSub, Nat.reduceMul, Nat.reduceLeDiff, reduceCtorEq, ↓reduceIte, eGEntry, eGFile, c3]; done) | (simp -implicitDefEqProofs only [go_sem, Bool.false_and, Int.reduceToNat, Int.reduceLT, Int.reduceLE, Int.reduceBEq, Int.reduceBNe, Nat.reduceLT, Nat.reduceBEq, Int.reduceEq, Nat.reduceEqDiff, Nat.reduceAdd, Nat.reduceSub, Nat.reduceMul, Nat.reduceLeDiff, reduceCtorEq, ↓reduceIte, eGEntry, eGFile, c3]; rfl)) rfl (by intro h; first | rfl | cases h)
  · try simp -implicitDefEqProofs only [go_sem, Nat.reduceEqDiff, Nat.reduceAdd, reduceCtorEq, ↓reduceIte, c3]
    rcases ite_inv H4 with ⟨c5, H6⟩ | ⟨c5, H6⟩
    · try simp -implicitDefEqProofs only [go_sem, Nat.reduceEqDiff, Nat.reduceAdd, ↓reduceIte, c5]
      obtain rfl := Option.some.inj H6
      exact end_pure (by first | (simp -implicitDefEqProofs only [go_sem, ↓reduceIte, Tryd.f65] <;> rfl) | rfl) (by first | rfl | (simp -implicitDefEqProofs only [go_sem, Bool.false_and, Int.reduceToNat, Int.reduceLT, Int.reduceLE, Int.reduceBEq, Int.reduceBNe, Nat.reduceLT, Nat.reduceBEq, Int.reduceEq, Nat.reduceEqDiff, Nat.reduceAdd, Nat.reduceSub, Nat.reduceMul, Nat.reduceLeDiff, reduceCtorEq, ↓reduceIte, eGEntry, eGFile, c3, c5]; done) | (simp -implicitDefEqProofs only [go_sem, Bool.false_and, Int.reduceToNat, Int.reduceLT, Int.reduceLE, Int.reduceBEq, Int.reduceBNe, Nat.reduceLT, Nat.reduceBEq, Int.reduceEq, Nat.reduceEqDiff, Nat.reduceAdd, Nat.reduceSub, Nat.reduceMul, Nat.reduceLeDiff, reduceCtorEq, ↓reduceIte, eGEntry, eGFile, c3, c5]; rfl)) rfl (by intro h; first | rfl | cases h)
    · try simp -implicitDefEqProofs only [go_sem, Nat.reduceEqDiff, Nat.reduceAdd, reduceCtorEq, ↓reduceIte, c5]
      rcases ite_inv H6 with ⟨c7, H8⟩ | ⟨c7, H8⟩
      · try simp -implicitDefEqProofs only [go_sem, Nat.reduceEqDiff, Nat.reduceAdd, ↓reduceIte, c7]
        obtain rfl := Option.some.inj H8
        exact end_pure (by first | (simp -implicitDefEqProofs only [go_sem, ↓reduceIte, Tryd.f65] <;> rfl) | rfl) (by first | rfl | (simp -implicitDefEqProofs only [go_sem, Bool.false_and, Int.reduceToNat, Int.reduceLT, Int.reduceLE, Int.reduceBEq, Int.reduceBNe, Nat.reduceLT, Nat.reduceBEq, Int.reduceEq, Nat.reduceEqDiff, Nat.reduceAdd, Nat.reduceSub, Nat.reduceMul, Nat.reduceLeDiff, reduceCtorEq, ↓reduceIte, eGEntry, eGFile, c3, c5, c7]; done) | (simp -implicitDefEqProofs only [go_sem, Bool.false_and, Int.reduceToNat, Int.reduceLT, Int.reduceLE, Int.reduceBEq, Int.reduceBNe, Nat.reduceLT, Nat.reduceBEq, Int.reduceEq, Nat.reduceEqDiff, Nat.reduceAdd, Nat.reduceSub, Nat.reduceMul, Nat.reduceLeDiff, reduceCtorEq, ↓reduceIte, eGEntry, eGFile, c3, c5, c7]; rfl)) rfl (by intro h; first | rfl | cases h)
      · try simp -implicitDefEqProofs only [go_sem, Nat.reduceEqDiff, Nat.reduceAdd, reduceCtorEq, ↓reduceIte, c7]
        obtain rfl := Option.some.inj H8
        exact end_pure (by first | (simp -implicitDefEqProofs only [go_sem, ↓reduceIte, Tryd.f65] <;> rfl) | rfl) (by first | rfl | (simp -implicitDefEqProofs only [go_sem, Bool.false_and, Int.reduceToNat, Int.reduceLT, Int.reduceLE, Int.reduceBEq, Int.reduceBNe, Nat.reduceLT, Nat.reduceBEq, Int.reduceEq, Nat.reduceEqDiff, Nat.reduceAdd, Nat.reduceSub, Nat.reduceMul, Nat.reduceLeDiff, reduceCtorEq, ↓reduceIte, eGEntry, eGFile, c3, c5, c7]; done) | (simp -implicitDefEqProofs only [go_sem, Bool.false_and, Int.reduceToNat, Int.reduceLT, Int.reduceLE, Int.reduceBEq, Int.reduceBNe, Nat.reduceLT, Nat.reduceBEq, Int.reduceEq, Nat.reduceEqDiff, Nat.reduceAdd, Nat.reduceSub, Nat.reduceMul, Nat.reduceLeDiff, reduceCtorEq, ↓reduceIte, eGEntry, eGFile, c3, c5, c7]; rfl)) rfl (by intro h; first | rfl | cases h)
def atom_Name_L1 (n : Nat) (s : ByteArray) : Nat → Int → Option ((Unit) ⊕ Bool)
  | 0, _ => none
  | c + 1, t19 =>
    (if (decide (t19 < (s.size : Int))) then
      (bidx s t19).bind fun ch3 =>
      (atom_plain n ch3).bind fun t252 =>
      (if t252 then
        atom_Name_L1 n s c (IntKind.i64.wrap (t19 + 1))
      else
        some (.inr false))
    else
      some (.inl ()))

def atom_Name (n : Nat) (s : ByteArray) : Option Bool :=
  (
    (if (s.toList == ({ data := #[] } : ByteArray).toList) then
      some true
    else
      (if (decide (30 < (s.size : Int))) then
        some true
      else
        (bidx s 0).bind fun ch =>
        (atom_first n ch).bind fun t14 =>
        some (!t14))) : Option (Bool)).bind fun t16 =>
  (if t16 then
    some false
  else
    (
      atom_Name_L1 n s n 0 : Option ((Unit) ⊕ Bool)).bind fun
      | .inl _ =>
        some true
      | .inr r => some r)
theorem atom_Name_ok {n : Nat} {s : ByteArray} {r : Bool} (H : atom_Name n s = some r) : PureOK Tryd.prog 40 [D.v (.string s)] (D.v (.bool r)) true := by
  unfold atom_Name at H
  refine pure_runR (tab := tab) tab_ok Tryd.func40 rfl (by kernel_rfl) (by kernel_rfl) (by simp [Tryd.f40]) ?_
  refine runR_seq ?_
  refine runR_take tab_ok fol 1 ?_
  try simp -implicitDefEqProofs only [go_sem]
  refine runR_seq ?_
  refine runR_seq ?_
  obtain ⟨e_, E1, H2⟩ := bind_inv H
  refine runR_join (α := { y : Bool // e_ = y }) (fun | ⟨t16, _⟩ => ⟨upd 0 (.v (.string s)) (upd 16 (.v (.bool t16)) noFr), noHp, 0⟩) ?_ ?_
  · refine runR_take tab_ok fol 1 ?_
    try simp -implicitDefEqProofs only [go_sem, Nat.reduceAdd, reduceCtorEq, ↓reduceIte]
    rcases ite_inv E1 with ⟨c3, H4⟩ | ⟨c3, H4⟩
    · try simp -implicitDefEqProofs only [go_sem, Nat.reduceEqDiff, Nat.reduceAdd, ↓reduceIte, c3]
      obtain rfl := Option.some.inj H4
      exact ⟨⟨true, rfl⟩, ren_mk [] (by rfl) (rf_upd (by rfl) (rf_upd (by rfl) (rf_no _))) (rh_no _)⟩
    · try simp -implicitDefEqProofs only [go_sem, Nat.reduceEqDiff, Nat.reduceAdd, reduceCtorEq, ↓reduceIte, c3]
      rcases ite_inv H4 with ⟨c5, H6⟩ | ⟨c5, H6⟩
      · try simp -implicitDefEqProofs only [go_sem, Nat.reduceEqDiff, Nat.reduceAdd, ↓reduceIte, c5]
        obtain rfl := Option.some.inj H6
        exact ⟨⟨true, rfl⟩, ren_mk [] (by rfl) (rf_upd (by rfl) (rf_upd (by rfl) (rf_no _))) (rh_no _)⟩
      · obtain ⟨ch, b7, H8⟩ := bind_inv H6
        obtain ⟨h9, by_, h10, h11⟩ := bidx_inv b7
        try simp only [Int.reduceToNat] at h10
        obtain ⟨t14, b12, H13⟩ := bind_inv H8
        try simp -implicitDefEqProofs only [go_sem, Int.reduceToNat, Nat.reduceEqDiff, Nat.reduceAdd, reduceCtorEq, ↓reduceIte, c5, nat_of .i64 h9, h10, h11.symm]
        refine onCall_pure (by first | rfl | (simp -implicitDefEqProofs only [go_sem, Bool.false_and, Int.reduceToNat, Int.reduceLT, Int.reduceLE, Int.reduceBEq, Int.reduceBNe, Nat.reduceLT, Nat.reduceBEq, Int.reduceEq, Nat.reduceEqDiff, Nat.reduceAdd, Nat.reduceSub, Nat.reduceMul, Nat.reduceLeDiff, reduceCtorEq, ↓reduceIte, eGEntry, eGFile, c3, c5, nat_of .i64 h9, h10, h11.symm]; done) | (simp -implicitDefEqProofs only [go_sem, Bool.false_and, Int.reduceToNat, Int.reduceLT, Int.reduceLE, Int.reduceBEq, Int.reduceBNe, Nat.reduceLT, Nat.reduceBEq, Int.reduceEq, Nat.reduceEqDiff, Nat.reduceAdd, Nat.reduceSub, Nat.reduceMul, Nat.reduceLeDiff, reduceCtorEq, ↓reduceIte, eGEntry, eGFile, c3, c5, nat_of .i64 h9, h10, h11.symm]; rfl)) (atom_first_ok b12) (by first | exact .inr rfl | exact .inl rfl) ?_
        try simp -implicitDefEqProofs only [go_sem, Bool.false_and, Nat.reduceEqDiff, Nat.reduceAdd, ↓reduceIte]
        obtain rfl := Option.some.inj H13
        exact ⟨⟨(!t14), rfl⟩, ren_mk [] (by rfl) (rf_upd (by rfl) (rf_upd (by rfl) (rf_no _))) (rh_no _)⟩
  · rintro ⟨t16, he42⟩
    replace he42 := he42.symm
    subst he42
    try dsimp only at H2
    refine runR_take tab_ok fol 1 ?_
    try simp -implicitDefEqProofs only [go_sem, reduceCtorEq, ↓reduceIte]
    rcases ite_inv H2 with ⟨c14, H15⟩ | ⟨c14, H15⟩
    · try simp -implicitDefEqProofs only [go_sem, c14]
      obtain rfl := Option.some.inj H15
      exact end_pure (by first | (simp -implicitDefEqProofs only [go_sem, ↓reduceIte, Tryd.f40] <;> rfl) | rfl) (by first | rfl | (simp -implicitDefEqProofs only [go_sem, Bool.false_and, Int.reduceToNat, Int.reduceLT, Int.reduceLE, Int.reduceBEq, Int.reduceBNe, Nat.reduceLT, Nat.reduceBEq, Int.reduceEq, Nat.reduceEqDiff, Nat.reduceAdd, Nat.reduceSub, Nat.reduceMul, Nat.reduceLeDiff, reduceCtorEq, ↓reduceIte, eGEntry, eGFile, c14]; done) | (simp -implicitDefEqProofs only [go_sem, Bool.false_and, Int.reduceToNat, Int.reduceLT, Int.reduceLE, Int.reduceBEq, Int.reduceBNe, Nat.reduceLT, Nat.reduceBEq, Int.reduceEq, Nat.reduceEqDiff, Nat.reduceAdd, Nat.reduceSub, Nat.reduceMul, Nat.reduceLeDiff, reduceCtorEq, ↓reduceIte, eGEntry, eGFile, c14]; rfl)) rfl (by intro h; first | rfl | cases h)
    · try simp -implicitDefEqProofs only [go_sem, c14]
      refine runR_seq ?_
      refine runR_seq ?_
      refine runR_take tab_ok fol 1 ?_
      try simp -implicitDefEqProofs only [go_sem, Nat.reduceAdd, ↓reduceIte]
      obtain ⟨e_2, E16, H17⟩ := bind_inv H15
      refine runR_join (α := { y : Unit // e_2 = .inl y }) (fun | ⟨_, _⟩ => ⟨noFr, noHp, 0⟩) ?_ ?_
      · refine runR_block ?_
        refine runR_loop (α := { q : Nat × Int // atom_Name_L1 n s q.1 q.2 = some e_2 }) (fun | ⟨⟨c, t19⟩, _⟩ => ⟨upd 0 (.v (.string s)) (upd 18 (.v (.int .i64 (s.size : Int))) (upd 19 (.v (.int .i64 t19)) noFr)), noHp, 0⟩) (fun q => q.1.1) ⟨(n, 0), E16⟩ ?_ ?_
        · exact ren_mk [] (by rfl) (rf_upd (by rfl) (rf_upd (by rfl) (rf_upd (by rfl) (rf_no _)))) (rh_no _)
        · rintro ⟨⟨c, t19⟩, L18⟩
          rcases c with _ | c
          · exact nomatch (show none = some _ from L18)
          · unfold atom_Name_L1 at L18
            try dsimp only at L18
            refine runR_take tab_ok fol 1 ?_
            try simp -implicitDefEqProofs only [go_sem, Nat.reduceEqDiff, reduceCtorEq, ↓reduceIte]
            rcases ite_inv L18 with ⟨c30, H31⟩ | ⟨c30, H31⟩
            · obtain ⟨ch3, b32, H33⟩ := bind_inv H31
              obtain ⟨h34, by_3, h35, h36⟩ := bidx_inv b32
              try simp only [Int.reduceToNat, Int.toNat_natCast] at h35
              obtain ⟨t252, b37, H38⟩ := bind_inv H33
              try simp -implicitDefEqProofs only [go_sem, Nat.reduceEqDiff, Nat.reduceAdd, reduceCtorEq, ↓reduceIte, c30, nat_of .i64 h34, h35, h36.symm]
              refine onCall_pure (by first | rfl | (simp -implicitDefEqProofs only [go_sem, Bool.false_and, Int.reduceToNat, Int.reduceLT, Int.reduceLE, Int.reduceBEq, Int.reduceBNe, Nat.reduceLT, Nat.reduceBEq, Int.reduceEq, Nat.reduceEqDiff, Nat.reduceAdd, Nat.reduceSub, Nat.reduceMul, Nat.reduceLeDiff, reduceCtorEq, ↓reduceIte, eGEntry, eGFile, c30, nat_of .i64 h34, h35, h36.symm]; done) | (simp -implicitDefEqProofs only [go_sem, Bool.false_and, Int.reduceToNat, Int.reduceLT, Int.reduceLE, Int.reduceBEq, Int.reduceBNe, Nat.reduceLT, Nat.reduceBEq, Int.reduceEq, Nat.reduceEqDiff, Nat.reduceAdd, Nat.reduceSub, Nat.reduceMul, Nat.reduceLeDiff, reduceCtorEq, ↓reduceIte, eGEntry, eGFile, c30, nat_of .i64 h34, h35, h36.symm]; rfl)) (atom_plain_ok b37) (by first | exact .inr rfl | exact .inl rfl) ?_
              try simp -implicitDefEqProofs only [go_sem, Bool.false_and, Nat.reduceAdd, ↓reduceIte]
              rcases ite_inv H38 with ⟨c39, H40⟩ | ⟨c39, H40⟩
              · try simp -implicitDefEqProofs only [go_sem, Nat.reduceEqDiff, Nat.reduceAdd, reduceCtorEq, ↓reduceIte, c39]
                exact ⟨⟨(c, (IntKind.i64.wrap (t19 + 1))), H40⟩, ren_mk [] (by rfl) (rf_upd (by rfl) (rf_upd (by rfl) (rf_upd (by rfl) (rf_no _)))) (rh_no _), Nat.lt_succ_self _⟩
              · try simp -implicitDefEqProofs only [go_sem, Nat.reduceAdd, c39]
                obtain rfl := Option.some.inj H40
                obtain rfl := Option.some.inj H17
                exact end_pure (by first | (simp -implicitDefEqProofs only [go_sem, ↓reduceIte, Tryd.f40] <;> rfl) | rfl) (by first | rfl | (simp -implicitDefEqProofs only [go_sem, Bool.false_and, Int.reduceToNat, Int.reduceLT, Int.reduceLE, Int.reduceBEq, Int.reduceBNe, Nat.reduceLT, Nat.reduceBEq, Int.reduceEq, Nat.reduceEqDiff, Nat.reduceAdd, Nat.reduceSub, Nat.reduceMul, Nat.reduceLeDiff, reduceCtorEq, ↓reduceIte, eGEntry, eGFile, c30, nat_of .i64 h34, h35, h36.symm, c39]; done) | (simp -implicitDefEqProofs only [go_sem, Bool.false_and, Int.reduceToNat, Int.reduceLT, Int.reduceLE, Int.reduceBEq, Int.reduceBNe, Nat.reduceLT, Nat.reduceBEq, Int.reduceEq, Nat.reduceEqDiff, Nat.reduceAdd, Nat.reduceSub, Nat.reduceMul, Nat.reduceLeDiff, reduceCtorEq, ↓reduceIte, eGEntry, eGFile, c30, nat_of .i64 h34, h35, h36.symm, c39]; rfl)) rfl (by intro h; first | rfl | cases h)
            · try simp -implicitDefEqProofs only [go_sem, ↓reduceIte, c30]
              obtain rfl := Option.some.inj H31
              exact ⟨⟨(), rfl⟩, ren_mk [] (by rfl) (rf_no _) (rh_no _)⟩
      · rintro ⟨_, he41⟩
        replace he41 := he41.symm
        subst he41
        try dsimp only at H17
        refine runR_take tab_ok fol 1 ?_
        try simp -implicitDefEqProofs only [go_sem]
        obtain rfl := Option.some.inj H17
        exact end_pure (by first | (simp -implicitDefEqProofs only [go_sem, ↓reduceIte, Tryd.f40] <;> rfl) | rfl) (by first | rfl | (simp -implicitDefEqProofs only [go_sem, Bool.false_and, Int.reduceToNat, Int.reduceLT, Int.reduceLE, Int.reduceBEq, Int.reduceBNe, Nat.reduceLT, Nat.reduceBEq, Int.reduceEq, Nat.reduceEqDiff, Nat.reduceAdd, Nat.reduceSub, Nat.reduceMul, Nat.reduceLeDiff, reduceCtorEq, ↓reduceIte, eGEntry, eGFile]; done) | (simp -implicitDefEqProofs only [go_sem, Bool.false_and, Int.reduceToNat, Int.reduceLT, Int.reduceLE, Int.reduceBEq, Int.reduceBNe, Nat.reduceLT, Nat.reduceBEq, Int.reduceEq, Nat.reduceEqDiff, Nat.reduceAdd, Nat.reduceSub, Nat.reduceMul, Nat.reduceLeDiff, reduceCtorEq, ↓reduceIte, eGEntry, eGFile]; rfl)) rfl (by intro h; first | rfl | cases h)
def mask_good (n : Nat) (x : GEntry) : Option Bool :=
  (
    (if (x.kind == 2) then
      some true
    else
      some (x.kind == 4)) : Option (Bool)).bind fun t14 =>
  (
    (if t14 then
      (atom_Name n x.name).bind fun t17 =>
      some t17
    else
      some (x.name.toList == ({ data := #[] } : ByteArray).toList)) : Option (Bool)).bind fun ok =>
  (if ok then
    (if (decide (1 ≤ x.kind)) then
      (if (decide (x.kind ≤ 6)) then
        (if (decide (0 ≤ x.bits)) then
          some (decide (x.bits ≤ 7))
        else
          some false)
      else
        some false)
    else
      some false)
  else
    some false)
theorem mask_good_ok {n : Nat} {x : GEntry} {r : Bool} (H : mask_good n x = some r) : PureOK Tryd.prog 24 [D.ag (eGEntry x)] (D.v (.bool r)) true := by
  unfold mask_good at H
  refine pure_runR (tab := tab) tab_ok Tryd.func24 rfl (by kernel_rfl) (by kernel_rfl) (by simp [Tryd.f24]) ?_
  refine runR_seq ?_
  refine runR_take tab_ok fol 1 ?_
  try simp -implicitDefEqProofs only [go_sem, Nat.reduceAdd, eGEntry]
  refine runR_seq ?_
  refine runR_take tab_ok fol 1 ?_
  try simp -implicitDefEqProofs only [go_sem, Nat.reduceEqDiff, Nat.reduceAdd, reduceCtorEq, ↓reduceIte]
  refine runR_seq ?_
  refine runR_seq ?_
  obtain ⟨e_, E1, H2⟩ := bind_inv H
  refine runR_join (α := { y : Bool // e_ = y }) (fun | ⟨t14, _⟩ => ⟨upd 1 (.pt 0 0) (upd 3 (.v (.bool (x.name.toList == ({ data := #[] } : ByteArray).toList))) (upd 14 (.v (.bool t14)) noFr)), upd 0 (some (.bx [.v (.int .i64 x.kind), .v (.bool x.default), .v (.string x.name), .v (.int .i64 x.bits)])) noHp, 1⟩) ?_ ?_
  · refine runR_take tab_ok fol 1 ?_
    try simp -implicitDefEqProofs only [go_sem, Nat.reduceEqDiff, Nat.reduceAdd, reduceCtorEq, ↓reduceIte]
    rcases ite_inv E1 with ⟨c3, H4⟩ | ⟨c3, H4⟩
    · try simp -implicitDefEqProofs only [go_sem, Nat.reduceEqDiff, Nat.reduceAdd, ↓reduceIte, c3]
      obtain rfl := Option.some.inj H4
      exact ⟨⟨true, rfl⟩, ren_mk [(0, 0)] (by rfl) (rf_upd (by rfl) (rf_upd (by rfl) (rf_upd (by rfl) (rf_no _)))) (rh_upd (rh_one (by rfl) (by rfl) (by rfl)) (rh_no _))⟩
    · try simp -implicitDefEqProofs only [go_sem, Nat.reduceEqDiff, Nat.reduceAdd, reduceCtorEq, ↓reduceIte, c3]
      obtain rfl := Option.some.inj H4
      exact ⟨⟨(x.kind == 4), rfl⟩, ren_mk [(0, 0)] (by rfl) (rf_upd (by rfl) (rf_upd (by rfl) (rf_upd (by rfl) (rf_no _)))) (rh_upd (rh_one (by rfl) (by rfl) (by rfl)) (rh_no _))⟩
  · rintro ⟨t14, he20⟩
    replace he20 := he20.symm
    subst he20
    try dsimp only at H2
    obtain ⟨e_2, E5, H6⟩ := bind_inv H2
    refine runR_join (α := { y : Bool // e_2 = y }) (fun | ⟨ok, _⟩ => ⟨upd 1 (.pt 0 0) (upd 3 (.v (.bool ok)) noFr), upd 0 (some (.bx [.v (.int .i64 x.kind), .v (.bool x.default), .v (.string x.name), .v (.int .i64 x.bits)])) noHp, 1⟩) ?_ ?_
    · refine runR_take tab_ok fol 1 ?_
      try simp -implicitDefEqProofs only [go_sem, Nat.reduceEqDiff, ↓reduceIte]
      rcases ite_inv E5 with ⟨c7, H8⟩ | ⟨c7, H8⟩
      · obtain ⟨t17, b9, H10⟩ := bind_inv H8
        try simp -implicitDefEqProofs only [go_sem, Nat.reduceAdd, reduceCtorEq, ↓reduceIte, c7]
        refine onCall_pure (by first | rfl | (simp -implicitDefEqProofs only [go_sem, Bool.false_and, Int.reduceToNat, Int.reduceLT, Int.reduceLE, Int.reduceBEq, Int.reduceBNe, Nat.reduceLT, Nat.reduceBEq, Int.reduceEq, Nat.reduceEqDiff, Nat.reduceAdd, Nat.reduceSub, Nat.reduceMul, Nat.reduceLeDiff, reduceCtorEq, ↓reduceIte, eGEntry, eGFile, c7]; done) | (simp -implicitDefEqProofs only [go_sem, Bool.false_and, Int.reduceToNat, Int.reduceLT, Int.reduceLE, Int.reduceBEq, Int.reduceBNe, Nat.reduceLT, Nat.reduceBEq, Int.reduceEq, Nat.reduceEqDiff, Nat.reduceAdd, Nat.reduceSub, Nat.reduceMul, Nat.reduceLeDiff, reduceCtorEq, ↓reduceIte, eGEntry, eGFile, c7]; rfl)) (atom_Name_ok b9) (by first | exact .inr rfl | exact .inl rfl) ?_
        try simp -implicitDefEqProofs only [go_sem, Bool.false_and, Nat.reduceAdd, ↓reduceIte]
        obtain rfl := Option.some.inj H10
        exact ⟨⟨t17, rfl⟩, ren_mk [(0, 0)] (by rfl) (rf_upd (by rfl) (rf_upd (by rfl) (rf_no _))) (rh_upd (rh_one (by rfl) (by rfl) (by rfl)) (rh_no _))⟩
      · try simp -implicitDefEqProofs only [go_sem, c7]
        obtain rfl := Option.some.inj H8
        exact ⟨⟨(x.name.toList == ({ data := #[] } : ByteArray).toList), rfl⟩, ren_mk [(0, 0)] (by rfl) (rf_upd (by rfl) (rf_upd (by rfl) (rf_no _))) (rh_upd (rh_one (by rfl) (by rfl) (by rfl)) (rh_no _))⟩
    · rintro ⟨ok, he19⟩
      replace he19 := he19.symm
      subst he19
      try dsimp only at H6
      refine runR_take tab_ok fol 1 ?_
      try simp -implicitDefEqProofs only [go_sem, Nat.reduceEqDiff, Nat.reduceAdd, ↓reduceIte]
      rcases ite_inv H6 with ⟨c11, H12⟩ | ⟨c11, H12⟩
      · try simp -implicitDefEqProofs only [go_sem, Nat.reduceEqDiff, Nat.reduceAdd, reduceCtorEq, ↓reduceIte, c11]
        rcases ite_inv H12 with ⟨c13, H14⟩ | ⟨c13, H14⟩
        · try simp -implicitDefEqProofs only [go_sem, Nat.reduceEqDiff, Nat.reduceAdd, reduceCtorEq, ↓reduceIte, c13]
          rcases ite_inv H14 with ⟨c15, H16⟩ | ⟨c15, H16⟩
          · try simp -implicitDefEqProofs only [go_sem, Nat.reduceEqDiff, Nat.reduceAdd, reduceCtorEq, ↓reduceIte, c15]
            rcases ite_inv H16 with ⟨c17, H18⟩ | ⟨c17, H18⟩
            · try simp -implicitDefEqProofs only [go_sem, Nat.reduceEqDiff, Nat.reduceAdd, reduceCtorEq, ↓reduceIte, c17]
              obtain rfl := Option.some.inj H18
              exact end_pure (by first | (simp -implicitDefEqProofs only [go_sem, ↓reduceIte, Tryd.f24] <;> rfl) | rfl) (by first | rfl | (simp -implicitDefEqProofs only [go_sem, Bool.false_and, Int.reduceToNat, Int.reduceLT, Int.reduceLE, Int.reduceBEq, Int.reduceBNe, Nat.reduceLT, Nat.reduceBEq, Int.reduceEq, Nat.reduceEqDiff, Nat.reduceAdd, Nat.reduceSub, Nat.reduceMul, Nat.reduceLeDiff, reduceCtorEq, ↓reduceIte, eGEntry, eGFile, c11, c13, c15, c17]; done) | (simp -implicitDefEqProofs only [go_sem, Bool.false_and, Int.reduceToNat, Int.reduceLT, Int.reduceLE, Int.reduceBEq, Int.reduceBNe, Nat.reduceLT, Nat.reduceBEq, Int.reduceEq, Nat.reduceEqDiff, Nat.reduceAdd, Nat.reduceSub, Nat.reduceMul, Nat.reduceLeDiff, reduceCtorEq, ↓reduceIte, eGEntry, eGFile, c11, c13, c15, c17]; rfl)) rfl (by intro h; first | rfl | cases h)
            · try simp -implicitDefEqProofs only [go_sem, Nat.reduceEqDiff, Nat.reduceAdd, ↓reduceIte, c17]
              obtain rfl := Option.some.inj H18
              exact end_pure (by first | (simp -implicitDefEqProofs only [go_sem, ↓reduceIte, Tryd.f24] <;> rfl) | rfl) (by first | rfl | (simp -implicitDefEqProofs only [go_sem, Bool.false_and, Int.reduceToNat, Int.reduceLT, Int.reduceLE, Int.reduceBEq, Int.reduceBNe, Nat.reduceLT, Nat.reduceBEq, Int.reduceEq, Nat.reduceEqDiff, Nat.reduceAdd, Nat.reduceSub, Nat.reduceMul, Nat.reduceLeDiff, reduceCtorEq, ↓reduceIte, eGEntry, eGFile, c11, c13, c15, c17]; done) | (simp -implicitDefEqProofs only [go_sem, Bool.false_and, Int.reduceToNat, Int.reduceLT, Int.reduceLE, Int.reduceBEq, Int.reduceBNe, Nat.reduceLT, Nat.reduceBEq, Int.reduceEq, Nat.reduceEqDiff, Nat.reduceAdd, Nat.reduceSub, Nat.reduceMul, Nat.reduceLeDiff, reduceCtorEq, ↓reduceIte, eGEntry, eGFile, c11, c13, c15, c17]; rfl)) rfl (by intro h; first | rfl | cases h)
          · try simp -implicitDefEqProofs only [go_sem, Nat.reduceEqDiff, Nat.reduceAdd, ↓reduceIte, c15]
            obtain rfl := Option.some.inj H16
            exact end_pure (by first | (simp -implicitDefEqProofs only [go_sem, ↓reduceIte, Tryd.f24] <;> rfl) | rfl) (by first | rfl | (simp -implicitDefEqProofs only [go_sem, Bool.false_and, Int.reduceToNat, Int.reduceLT, Int.reduceLE, Int.reduceBEq, Int.reduceBNe, Nat.reduceLT, Nat.reduceBEq, Int.reduceEq, Nat.reduceEqDiff, Nat.reduceAdd, Nat.reduceSub, Nat.reduceMul, Nat.reduceLeDiff, reduceCtorEq, ↓reduceIte, eGEntry, eGFile, c11, c13, c15]; done) | (simp -implicitDefEqProofs only [go_sem, Bool.false_and, Int.reduceToNat, Int.reduceLT, Int.reduceLE, Int.reduceBEq, Int.reduceBNe, Nat.reduceLT, Nat.reduceBEq, Int.reduceEq, Nat.reduceEqDiff, Nat.reduceAdd, Nat.reduceSub, Nat.reduceMul, Nat.reduceLeDiff, reduceCtorEq, ↓reduceIte, eGEntry, eGFile, c11, c13, c15]; rfl)) rfl (by intro h; first | rfl | cases h)
        · try simp -implicitDefEqProofs only [go_sem, Nat.reduceEqDiff, Nat.reduceAdd, ↓reduceIte, c13]
          obtain rfl := Option.some.inj H14
          exact end_pure (by first | (simp -implicitDefEqProofs only [go_sem, ↓reduceIte, Tryd.f24] <;> rfl) | rfl) (by first | rfl | (simp -implicitDefEqProofs only [go_sem, Bool.false_and, Int.reduceToNat, Int.reduceLT, Int.reduceLE, Int.reduceBEq, Int.reduceBNe, Nat.reduceLT, Nat.reduceBEq, Int.reduceEq, Nat.reduceEqDiff, Nat.reduceAdd, Nat.reduceSub, Nat.reduceMul, Nat.reduceLeDiff, reduceCtorEq, ↓reduceIte, eGEntry, eGFile, c11, c13]; done) | (simp -implicitDefEqProofs only [go_sem, Bool.false_and, Int.reduceToNat, Int.reduceLT, Int.reduceLE, Int.reduceBEq, Int.reduceBNe, Nat.reduceLT, Nat.reduceBEq, Int.reduceEq, Nat.reduceEqDiff, Nat.reduceAdd, Nat.reduceSub, Nat.reduceMul, Nat.reduceLeDiff, reduceCtorEq, ↓reduceIte, eGEntry, eGFile, c11, c13]; rfl)) rfl (by intro h; first | rfl | cases h)
      · try simp -implicitDefEqProofs only [go_sem, Nat.reduceEqDiff, Nat.reduceAdd, ↓reduceIte, c11]
        obtain rfl := Option.some.inj H12
        exact end_pure (by first | (simp -implicitDefEqProofs only [go_sem, ↓reduceIte, Tryd.f24] <;> rfl) | rfl) (by first | rfl | (simp -implicitDefEqProofs only [go_sem, Bool.false_and, Int.reduceToNat, Int.reduceLT, Int.reduceLE, Int.reduceBEq, Int.reduceBNe, Nat.reduceLT, Nat.reduceBEq, Int.reduceEq, Nat.reduceEqDiff, Nat.reduceAdd, Nat.reduceSub, Nat.reduceMul, Nat.reduceLeDiff, reduceCtorEq, ↓reduceIte, eGEntry, eGFile, c11]; done) | (simp -implicitDefEqProofs only [go_sem, Bool.false_and, Int.reduceToNat, Int.reduceLT, Int.reduceLE, Int.reduceBEq, Int.reduceBNe, Nat.reduceLT, Nat.reduceBEq, Int.reduceEq, Nat.reduceEqDiff, Nat.reduceAdd, Nat.reduceSub, Nat.reduceMul, Nat.reduceLeDiff, reduceCtorEq, ↓reduceIte, eGEntry, eGFile, c11]; rfl)) rfl (by intro h; first | rfl | cases h)
def mask_Find_L1 (n : Nat) (l : List GEntry) (byDefault : Bool) (kind : Int) (name : ByteArray) : Nat → Int → Option ((Unit) ⊕ (GEntry × Bool))
  | 0, _ => none
  | c + 1, t14 =>
    (if (decide (t14 < (l.length : Int))) then
      (idx l t14).bind fun x2 =>
      (if (x2.default == byDefault) then
        (if (x2.kind == kind) then
          (if (x2.name.toList == name.toList) then
            some (.inr (x2, true))
          else
            mask_Find_L1 n l byDefault kind name c (IntKind.i64.wrap (t14 + 1)))
        else
          mask_Find_L1 n l byDefault kind name c (IntKind.i64.wrap (t14 + 1)))
      else
        mask_Find_L1 n l byDefault kind name c (IntKind.i64.wrap (t14 + 1)))
    else
      some (.inl ()))
def mask_Find_L1_f (_ : Nat) (_ : List GEntry) (byDefault : Bool) (kind : Int) (name : ByteArray) (st : Unit) (x2 : GEntry) (k : Unit → Option ((Unit) ⊕ (GEntry × Bool))) : Option ((Unit) ⊕ (GEntry × Bool)) :=
  match st with
  | _ =>
    (if (x2.default == byDefault) then
      (if (x2.kind == kind) then
        (if (x2.name.toList == name.toList) then
          some (.inr (x2, true))
        else
          k ())
      else
        k ())
    else
      k ())
def mask_Find_L1_e (_ : Nat) (_ : List GEntry) (_ : Bool) (_ : Int) (_ : ByteArray) (st : Unit) : Option ((Unit) ⊕ (GEntry × Bool)) :=
  match st with
  | _ => some (.inl ())
theorem mask_Find_L1_list (n : Nat) (l : List GEntry) (byDefault : Bool) (kind : Int) (name : ByteArray) (hx : l.length < 4611686018427387904) (c : Nat) (st : Unit) (ix : Nat) (hi : ix ≤ l.length) (hc : l.length - ix < c) : mask_Find_L1 n l byDefault kind name c (match st, (ix : Int) with | _, ix => ix) = foldK (mask_Find_L1_f n l byDefault kind name) (mask_Find_L1_e n l byDefault kind name) (l.drop ix) st :=
  loop_list (fun c st ix => mask_Find_L1 n l byDefault kind name c (match st, ix with | _, ix => ix)) l (mask_Find_L1_f n l byDefault kind name) (mask_Find_L1_e n l byDefault kind name) (fun _ _ _ => rfl) hx c st ix hi hc

def mask_Find (n : Nat) (l : List GEntry) (byDefault : Bool) (kind : Int) (name : ByteArray) : Option (GEntry × Bool) :=
  (
    mask_Find_L1 n l byDefault kind name n 0 : Option ((Unit) ⊕ (GEntry × Bool))).bind fun
    | .inl _ =>
      some ((⟨0, false, ByteArray.empty, 0⟩ : GEntry), false)
    | .inr r => some r
theorem mask_Find_ok {n : Nat} {l : List GEntry} {byDefault : Bool} {kind : Int} {name : ByteArray} {r : GEntry × Bool} (H : mask_Find n l byDefault kind name = some r) : PureOK Tryd.prog 12 [D.sl (List.map eGEntry l), D.v (.bool byDefault), D.v (.int .i64 kind), D.v (.string name)] (D.tu [D.ag (eGEntry r.1), D.v (.bool r.2)]) true := by
  unfold mask_Find at H
  refine pure_runR (tab := tab) tab_ok Tryd.func12 rfl (by kernel_rfl) (by kernel_rfl) (by simp [Tryd.f12]) ?_
  refine runR_seq ?_
  refine runR_take tab_ok fol 1 ?_
  try simp -implicitDefEqProofs only [go_sem, Nat.reduceAdd, ↓reduceIte, eGEntry]
  refine runR_seq ?_
  refine runR_seq ?_
  refine runR_take tab_ok fol 1 ?_
  try simp -implicitDefEqProofs only [go_sem, Nat.reduceAdd, reduceCtorEq, ↓reduceIte]
  obtain ⟨e_, E1, H2⟩ := bind_inv H
  refine runR_join (α := { y : Unit // e_ = .inl y }) (fun | ⟨_, _⟩ => ⟨upd 8 (.pt 0 0) noFr, upd 0 (some (.bx [.v (.int .i64 0), .v (.bool false), .v (.string ByteArray.empty), .v (.int .i64 0)])) noHp, 1⟩) ?_ ?_
  · refine runR_block ?_
    refine runR_loop (α := { q : Nat × Int // mask_Find_L1 n l byDefault kind name q.1 q.2 = some e_ }) (fun | ⟨⟨c, t14⟩, _⟩ => ⟨upd 1 (.v (.bool byDefault)) (upd 2 (.v (.int .i64 kind)) (upd 3 (.v (.string name)) (upd 8 (.pt 0 0) (upd 12 (.d (.sl (List.map eGEntry l)) true) (upd 13 (.v (.int .i64 (l.length : Int))) (upd 14 (.v (.int .i64 t14)) noFr)))))), upd 0 (some (.bx [.v (.int .i64 0), .v (.bool false), .v (.string ByteArray.empty), .v (.int .i64 0)])) noHp, 1⟩) (fun q => q.1.1) ⟨(n, 0), E1⟩ ?_ ?_
    · exact ren_mk [(0, 0)] (by rfl) (rf_upd (by rfl) (rf_upd (by rfl) (rf_upd (by rfl) (rf_upd (by rfl) (rf_upd (by rfl) (rf_upd (by rfl) (rf_upd (by rfl) (rf_no _)))))))) (rh_upd (rh_one (by rfl) (by rfl) (by rfl)) (rh_no _))
    · rintro ⟨⟨c, t14⟩, L3⟩
      rcases c with _ | c
      · exact nomatch (show none = some _ from L3)
      · unfold mask_Find_L1 at L3
        try dsimp only at L3
        refine runR_take tab_ok fol 1 ?_
        try simp -implicitDefEqProofs only [go_sem, Nat.reduceEqDiff, Nat.reduceAdd, ↓reduceIte]
        rcases ite_inv L3 with ⟨c18, H19⟩ | ⟨c18, H19⟩
        · obtain ⟨x2, b20, H21⟩ := bind_inv H19
          obtain ⟨h22, h23⟩ := idx_inv b20
          try simp only [Int.reduceToNat, Int.toNat_natCast] at h23
          have h24 := map_at eGEntry h23
          try simp -implicitDefEqProofs only [go_sem, Nat.reduceEqDiff, Nat.reduceAdd, reduceCtorEq, ↓reduceIte, eGEntry, c18, nat_of .i64 h22, h24]
          rcases ite_inv H21 with ⟨c26, H27⟩ | ⟨c26, H27⟩
          · try simp -implicitDefEqProofs only [go_sem, Nat.reduceEqDiff, Nat.reduceAdd, reduceCtorEq, ↓reduceIte, c26]
            rcases ite_inv H27 with ⟨c28, H29⟩ | ⟨c28, H29⟩
            · try simp -implicitDefEqProofs only [go_sem, Nat.reduceEqDiff, Nat.reduceAdd, reduceCtorEq, ↓reduceIte, c28]
              rcases ite_inv H29 with ⟨c30, H31⟩ | ⟨c30, H31⟩
              · try simp -implicitDefEqProofs only [go_sem, Nat.reduceEqDiff, Nat.reduceAdd, reduceCtorEq, ↓reduceIte, c30]
                obtain rfl := Option.some.inj H31
                obtain rfl := Option.some.inj H2
                exact end_pure (by first | (simp -implicitDefEqProofs only [go_sem, Nat.reduceEqDiff, Nat.reduceAdd, ↓reduceIte, Tryd.f12] <;> rfl) | rfl) (by first | rfl | (simp -implicitDefEqProofs only [go_sem, Bool.false_and, Int.reduceToNat, Int.reduceLT, Int.reduceLE, Int.reduceBEq, Int.reduceBNe, Nat.reduceLT, Nat.reduceBEq, Int.reduceEq, Nat.reduceEqDiff, Nat.reduceAdd, Nat.reduceSub, Nat.reduceMul, Nat.reduceLeDiff, reduceCtorEq, ↓reduceIte, eGEntry, eGFile, c18, nat_of .i64 h22, h24, c26, c28, c30]; done) | (simp -implicitDefEqProofs only [go_sem, Bool.false_and, Int.reduceToNat, Int.reduceLT, Int.reduceLE, Int.reduceBEq, Int.reduceBNe, Nat.reduceLT, Nat.reduceBEq, Int.reduceEq, Nat.reduceEqDiff, Nat.reduceAdd, Nat.reduceSub, Nat.reduceMul, Nat.reduceLeDiff, reduceCtorEq, ↓reduceIte, eGEntry, eGFile, c18, nat_of .i64 h22, h24, c26, c28, c30]; rfl)) rfl (by intro h; first | rfl | cases h)
              · try simp -implicitDefEqProofs only [go_sem, Nat.reduceEqDiff, Nat.reduceAdd, ↓reduceIte, c30]
                exact ⟨⟨(c, (IntKind.i64.wrap (t14 + 1))), H31⟩, ren_mk [(0, 0)] (by rfl) (rf_upd (by rfl) (rf_upd (by rfl) (rf_upd (by rfl) (rf_upd (by rfl) (rf_upd (by rfl) (rf_upd (by rfl) (rf_upd (by rfl) (rf_no _)))))))) (rh_upd (rh_one (by rfl) (by rfl) (by rfl)) (rh_no _)), Nat.lt_succ_self _⟩
            · try simp -implicitDefEqProofs only [go_sem, Nat.reduceEqDiff, Nat.reduceAdd, ↓reduceIte, c28]
              exact ⟨⟨(c, (IntKind.i64.wrap (t14 + 1))), H29⟩, ren_mk [(0, 0)] (by rfl) (rf_upd (by rfl) (rf_upd (by rfl) (rf_upd (by rfl) (rf_upd (by rfl) (rf_upd (by rfl) (rf_upd (by rfl) (rf_upd (by rfl) (rf_no _)))))))) (rh_upd (rh_one (by rfl) (by rfl) (by rfl)) (rh_no _)), Nat.lt_succ_self _⟩
          · try simp -implicitDefEqProofs only [go_sem, Nat.reduceEqDiff, Nat.reduceAdd, ↓reduceIte, c26]
            exact ⟨⟨(c, (IntKind.i64.wrap (t14 + 1))), H27⟩, ren_mk [(0, 0)] (by rfl) (rf_upd (by rfl) (rf_upd (by rfl) (rf_upd (by rfl) (rf_upd (by rfl) (rf_upd (by rfl) (rf_upd (by rfl) (rf_upd (by rfl) (rf_no _)))))))) (rh_upd (rh_one (by rfl) (by rfl) (by rfl)) (rh_no _)), Nat.lt_succ_self _⟩
        · try simp -implicitDefEqProofs only [go_sem, ↓reduceIte, c18]
          obtain rfl := Option.some.inj H19
          exact ⟨⟨(), rfl⟩, ren_mk [(0, 0)] (by rfl) (rf_upd (by rfl) (rf_no _)) (rh_upd (rh_one (by rfl) (by rfl) (by rfl)) (rh_no _))⟩
  · rintro ⟨_, he32⟩
    replace he32 := he32.symm
    subst he32
    try dsimp only at H2
    refine runR_take tab_ok fol 1 ?_
    try simp -implicitDefEqProofs only [go_sem, Nat.reduceEqDiff, Nat.reduceAdd, ↓reduceIte]
    obtain rfl := Option.some.inj H2
    exact end_pure (by first | (simp -implicitDefEqProofs only [go_sem, Nat.reduceEqDiff, Nat.reduceAdd, ↓reduceIte, Tryd.f12] <;> rfl) | rfl) (by first | rfl | (simp -implicitDefEqProofs only [go_sem, Bool.false_and, Int.reduceToNat, Int.reduceLT, Int.reduceLE, Int.reduceBEq, Int.reduceBNe, Nat.reduceLT, Nat.reduceBEq, Int.reduceEq, Nat.reduceEqDiff, Nat.reduceAdd, Nat.reduceSub, Nat.reduceMul, Nat.reduceLeDiff, reduceCtorEq, ↓reduceIte, eGEntry, eGFile]; done) | (simp -implicitDefEqProofs only [go_sem, Bool.false_and, Int.reduceToNat, Int.reduceLT, Int.reduceLE, Int.reduceBEq, Int.reduceBNe, Nat.reduceLT, Nat.reduceBEq, Int.reduceEq, Nat.reduceEqDiff, Nat.reduceAdd, Nat.reduceSub, Nat.reduceMul, Nat.reduceLeDiff, reduceCtorEq, ↓reduceIte, eGEntry, eGFile]; rfl)) rfl (by intro h; first | rfl | cases h)
def mask_whole_L1 (n : Nat) (l : List GEntry) (byDefault : Bool) : Nat → Int → Option ((Unit) ⊕ Bool)
  | 0, _ => none
  | c + 1, t11 =>
    (if (decide (t11 < 3)) then
      (idx [1, 3, 6] t11).bind fun x =>
      (mask_Find n l byDefault x ({ data := #[] })).bind fun t192 =>
      (if t192.2 then
        mask_whole_L1 n l byDefault c (IntKind.i64.wrap (t11 + 1))
      else
        some (.inr false))
    else
      some (.inl ()))

def mask_whole (n : Nat) (l : List GEntry) (byDefault : Bool) : Option Bool :=
  (
    mask_whole_L1 n l byDefault n 0 : Option ((Unit) ⊕ Bool)).bind fun
    | .inl _ =>
      some true
    | .inr r => some r
theorem mask_whole_ok {n : Nat} {l : List GEntry} {byDefault : Bool} {r : Bool} (H : mask_whole n l byDefault = some r) : PureOK Tryd.prog 25 [D.sl (List.map eGEntry l), D.v (.bool byDefault)] (D.v (.bool r)) true := by
  unfold mask_whole at H
  refine pure_runR (tab := tab) tab_ok Tryd.func25 rfl (by kernel_rfl) (by kernel_rfl) (by simp [Tryd.f25]) ?_
  refine runR_seq ?_
  refine runR_take tab_ok fol 1 ?_
  try simp -implicitDefEqProofs only [go_sem]
  refine runR_seq ?_
  refine runR_seq ?_
  refine runR_take tab_ok fol 1 ?_
  try simp -implicitDefEqProofs only [go_sem, Nat.reduceLT, Nat.reduceAdd, Nat.reduceLeDiff, ↓reduceIte]
  obtain ⟨e_, E1, H2⟩ := bind_inv H
  refine runR_join (α := { y : Unit // e_ = .inl y }) (fun | ⟨_, _⟩ => ⟨noFr, noHp, 0⟩) ?_ ?_
  · refine runR_block ?_
    refine runR_loop (α := { q : Nat × Int // mask_whole_L1 n l byDefault q.1 q.2 = some e_ }) (fun | ⟨⟨c, t11⟩, _⟩ => ⟨upd 0 (.d (.sl (List.map eGEntry l)) true) (upd 1 (.v (.bool byDefault)) (upd 9 (.so 0 0 0 3) (upd 10 (.v (.int .i64 3)) (upd 11 (.v (.int .i64 t11)) noFr)))), upd 0 (some (.rw [[.v (.int .i64 1)], [.v (.int .i64 3)], [.v (.int .i64 6)]] 1 0 false false)) noHp, 1⟩) (fun q => q.1.1) ⟨(n, 0), E1⟩ ?_ ?_
    · exact ren_mk [(0, 1)] (by rfl) (rf_upd (by rfl) (rf_upd (by rfl) (rf_upd (by rfl) (rf_upd (by rfl) (rf_upd (by rfl) (rf_no _)))))) (rh_upd (rh_one (by rfl) (by rfl) (by rfl)) (rh_no _))
    · rintro ⟨⟨c, t11⟩, L3⟩
      rcases c with _ | c
      · exact nomatch (show none = some _ from L3)
      · unfold mask_whole_L1 at L3
        try dsimp only at L3
        refine runR_take tab_ok fol 1 ?_
        try simp -implicitDefEqProofs only [go_sem, Nat.reduceEqDiff, Nat.reduceAdd, reduceCtorEq, ↓reduceIte]
        rcases ite_inv L3 with ⟨c8, H9⟩ | ⟨c8, H9⟩
        · obtain ⟨x, b10, H11⟩ := bind_inv H9
          obtain ⟨h12, h13⟩ := idx_inv b10
          try simp only [Int.reduceToNat, Int.toNat_natCast] at h13
          have h14 := map_at eI h13
          simp only [List.map_cons, List.map_nil, eI] at h14
          have h15 := at_lt h13
          simp only [List.length_cons, List.length_nil, Nat.reduceAdd] at h15
          obtain ⟨t192, b16, H17⟩ := bind_inv H11
          try simp -implicitDefEqProofs only [go_sem, Nat.reduceEqDiff, Nat.reduceAdd, reduceCtorEq, ↓reduceIte, c8, nat_of .i64 h12, h14, h15]
          refine onCall_pure (by first | rfl | (simp -implicitDefEqProofs only [go_sem, Bool.false_and, Int.reduceToNat, Int.reduceLT, Int.reduceLE, Int.reduceBEq, Int.reduceBNe, Nat.reduceLT, Nat.reduceBEq, Int.reduceEq, Nat.reduceEqDiff, Nat.reduceAdd, Nat.reduceSub, Nat.reduceMul, Nat.reduceLeDiff, reduceCtorEq, ↓reduceIte, eGEntry, eGFile, c8, nat_of .i64 h12, h14, h15]; done) | (simp -implicitDefEqProofs only [go_sem, Bool.false_and, Int.reduceToNat, Int.reduceLT, Int.reduceLE, Int.reduceBEq, Int.reduceBNe, Nat.reduceLT, Nat.reduceBEq, Int.reduceEq, Nat.reduceEqDiff, Nat.reduceAdd, Nat.reduceSub, Nat.reduceMul, Nat.reduceLeDiff, reduceCtorEq, ↓reduceIte, eGEntry, eGFile, c8, nat_of .i64 h12, h14, h15]; rfl)) (mask_Find_ok b16) (by first | exact .inr rfl | exact .inl rfl) ?_
          try simp -implicitDefEqProofs only [go_sem, Bool.false_and, Nat.reduceEqDiff, Nat.reduceAdd, ↓reduceIte, eGEntry]
          rcases ite_inv H17 with ⟨c18, H19⟩ | ⟨c18, H19⟩
          · try simp -implicitDefEqProofs only [go_sem, Nat.reduceEqDiff, Nat.reduceAdd, reduceCtorEq, ↓reduceIte, c18]
            exact ⟨⟨(c, (IntKind.i64.wrap (t11 + 1))), H19⟩, ren_mk [(0, 0)] (by rfl) (rf_upd (by rfl) (rf_upd (by rfl) (rf_upd (by rfl) (rf_upd (by rfl) (rf_upd (by rfl) (rf_no _)))))) (rh_upd (rh_one (by rfl) (by rfl) (by rfl)) (rh_no _)), Nat.lt_succ_self _⟩
          · try simp -implicitDefEqProofs only [go_sem, Nat.reduceAdd, c18]
            obtain rfl := Option.some.inj H19
            obtain rfl := Option.some.inj H2
            exact end_pure (by first | (simp -implicitDefEqProofs only [go_sem, ↓reduceIte, Tryd.f25] <;> rfl) | rfl) (by first | rfl | (simp -implicitDefEqProofs only [go_sem, Bool.false_and, Int.reduceToNat, Int.reduceLT, Int.reduceLE, Int.reduceBEq, Int.reduceBNe, Nat.reduceLT, Nat.reduceBEq, Int.reduceEq, Nat.reduceEqDiff, Nat.reduceAdd, Nat.reduceSub, Nat.reduceMul, Nat.reduceLeDiff, reduceCtorEq, ↓reduceIte, eGEntry, eGFile, c8, nat_of .i64 h12, h14, h15, c18]; done) | (simp -implicitDefEqProofs only [go_sem, Bool.false_and, Int.reduceToNat, Int.reduceLT, Int.reduceLE, Int.reduceBEq, Int.reduceBNe, Nat.reduceLT, Nat.reduceBEq, Int.reduceEq, Nat.reduceEqDiff, Nat.reduceAdd, Nat.reduceSub, Nat.reduceMul, Nat.reduceLeDiff, reduceCtorEq, ↓reduceIte, eGEntry, eGFile, c8, nat_of .i64 h12, h14, h15, c18]; rfl)) rfl (by intro h; first | rfl | cases h)
        · try simp -implicitDefEqProofs only [go_sem, ↓reduceIte, c8]
          obtain rfl := Option.some.inj H9
          exact ⟨⟨(), rfl⟩, ren_mk [] (by rfl) (rf_no _) (rh_no _)⟩
  · rintro ⟨_, he20⟩
    replace he20 := he20.symm
    subst he20
    try dsimp only at H2
    refine runR_take tab_ok fol 1 ?_
    try simp -implicitDefEqProofs only [go_sem]
    obtain rfl := Option.some.inj H2
    exact end_pure (by first | (simp -implicitDefEqProofs only [go_sem, ↓reduceIte, Tryd.f25] <;> rfl) | rfl) (by first | rfl | (simp -implicitDefEqProofs only [go_sem, Bool.false_and, Int.reduceToNat, Int.reduceLT, Int.reduceLE, Int.reduceBEq, Int.reduceBNe, Nat.reduceLT, Nat.reduceBEq, Int.reduceEq, Nat.reduceEqDiff, Nat.reduceAdd, Nat.reduceSub, Nat.reduceMul, Nat.reduceLeDiff, reduceCtorEq, ↓reduceIte, eGEntry, eGFile]; done) | (simp -implicitDefEqProofs only [go_sem, Bool.false_and, Int.reduceToNat, Int.reduceLT, Int.reduceLE, Int.reduceBEq, Int.reduceBNe, Nat.reduceLT, Nat.reduceBEq, Int.reduceEq, Nat.reduceEqDiff, Nat.reduceAdd, Nat.reduceSub, Nat.reduceMul, Nat.reduceLeDiff, reduceCtorEq, ↓reduceIte, eGEntry, eGFile]; rfl)) rfl (by intro h; first | rfl | cases h)
theorem cl21_0 (xs : List GEntry) (h : decide (xs.length = 0) = true) : PureOK Tryd.prog 21 [.sl (List.map eGEntry xs)] (.sl []) true := by
  rw [List.eq_nil_of_length_eq_zero (of_decide_eq_true h)]
  exact clone_nil tab_ok fol Tryd.func21 (T := 26) (B := 4) rfl (by kernel_rfl) (by kernel_rfl) (by decide) rfl (by simp only [go_sem]) (by simp only [go_sem]) (by simp only [go_sem]; decide) (by simp only [go_sem]; decide)
theorem cl21_in (xs : List GEntry) (h0 : 0 < xs.length) (hn : xs.length ≤ 4294967296) {b : Bool} {hp : Hp} {nx : Nat} : InlOK Tryd.prog 21 [.d (.sl (List.map eGEntry xs)) b] hp nx fun v hp2 nx2 => v = .so (nx + 3) 1 0 xs.length ∧ hp2 = upd (nx + 3) (some (.rw (List.map eGEntry xs) 4 1 false false)) hp ∧ nx2 = nx + 7 := by
  have h := clone_map (e := eGEntry) (k := 4) (b := b) (hp := hp) (nx := nx) tab_ok fol Tryd.func21 (T := 26) (B := 4) rfl (by kernel_rfl) (by kernel_rfl) (by decide) rfl (by simp only [go_sem]) (by simp only [go_sem]) (by simp only [go_sem]) (by decide) (by simp only [go_sem]; decide) (fun _ => rfl) xs h0 hn
  rw [plainR_map (f := eGEntry) (fun _ => rfl), Bool.not_true, Bool.and_false] at h
  exact h
end Go.Proofs.YthnejfmbglbpgaaDoor.Ab
