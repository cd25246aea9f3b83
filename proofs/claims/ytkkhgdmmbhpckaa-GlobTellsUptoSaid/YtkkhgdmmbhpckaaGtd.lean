/-
  Functions, read off the code.
-/
import Derived.Test.YtkkhgdmmbhpckaaGtc
namespace Go.Proofs.Ytkkhgdmmbhpckaa.Ab
open Go.RowKit
def ref22_Match (_ : Nat) (p : ByteArray) (name : ByteArray) : Option Bool :=
  (
    (if (decide (0 < (p.size : Int))) then
      (bidx p (IntKind.i64.wrap ((p.size : Int) - 1))).bind fun ch =>
      some (ch == 42)
    else
      some false) : Option (Bool)).bind fun t16 =>
  (if t16 then
    (if (decide ((IntKind.i64.wrap ((p.size : Int) - 1)) ≤ (name.size : Int))) then
      (bslc name 0 (IntKind.i64.wrap ((p.size : Int) - 1))).bind fun s =>
      (bslc p 0 (IntKind.i64.wrap ((p.size : Int) - 1))).bind fun s2 =>
      some (s.toList == s2.toList)
    else
      some false)
  else
    some (p.toList == name.toList))
theorem ref22_Match_ok {n : Nat} {p : ByteArray} {name : ByteArray} {r : Bool} (H : ref22_Match n p name = some r) : PureOK Try.prog 18 [D.v (.string p), D.v (.string name)] (D.v (.bool r)) true := by
  unfold ref22_Match at H
  refine pure_runR (tab := tab) tab_ok Try.func18 rfl (by kernel_rfl) (by kernel_rfl) (by simp [Try.f18]) ?_
  refine runR_seq ?_
  refine runR_take tab_ok fol 1 ?_
  try simp -implicitDefEqProofs only [go_sem]
  refine runR_seq ?_
  refine runR_take tab_ok fol 1 ?_
  try simp -implicitDefEqProofs only [go_sem, Nat.reduceAdd, reduceCtorEq, ↓reduceIte]
  refine runR_seq ?_
  refine runR_seq ?_
  obtain ⟨e_, E1, H2⟩ := bind_inv H
  refine runR_join (α := { y : Bool // e_ = y }) (fun | ⟨t16, _⟩ => ⟨upd 0 (.v (.string p)) (upd 1 (.v (.string name)) (upd 5 (.v (.int .i64 (p.size : Int))) (upd 16 (.v (.bool t16)) noFr))), noHp, 0⟩) ?_ ?_
  · refine runR_take tab_ok fol 1 ?_
    try simp -implicitDefEqProofs only [go_sem, Nat.reduceAdd, ↓reduceIte]
    rcases ite_inv E1 with ⟨c3, H4⟩ | ⟨c3, H4⟩
    · obtain ⟨ch, b5, H6⟩ := bind_inv H4
      obtain ⟨h7, by_, h8, h9⟩ := bidx_inv b5
      try simp only [Int.reduceToNat, Int.toNat_natCast] at h8
      try simp -implicitDefEqProofs only [go_sem, Nat.reduceEqDiff, Nat.reduceAdd, reduceCtorEq, ↓reduceIte, c3, nat_of .i64 h7, h8, h9.symm]
      obtain rfl := Option.some.inj H6
      exact ⟨⟨(ch == 42), rfl⟩, ren_mk [] (by rfl) (rf_upd (by rfl) (rf_upd (by rfl) (rf_upd (by rfl) (rf_upd (by rfl) (rf_no _))))) (rh_no _)⟩
    · try simp -implicitDefEqProofs only [go_sem, Nat.reduceEqDiff, Nat.reduceAdd, ↓reduceIte, c3]
      obtain rfl := Option.some.inj H4
      exact ⟨⟨false, rfl⟩, ren_mk [] (by rfl) (rf_upd (by rfl) (rf_upd (by rfl) (rf_upd (by rfl) (rf_upd (by rfl) (rf_no _))))) (rh_no _)⟩
  · rintro ⟨t16, he32⟩
    replace he32 := he32.symm
    subst he32
    try dsimp only at H2
    refine runR_take tab_ok fol 2 ?_
    try simp -implicitDefEqProofs only [go_sem, Nat.reduceEqDiff, reduceCtorEq, ↓reduceIte]
    rcases ite_inv H2 with ⟨c10, H11⟩ | ⟨c10, H11⟩
    · try simp -implicitDefEqProofs only [go_sem, Nat.reduceEqDiff, Nat.reduceAdd, reduceCtorEq, ↓reduceIte, c10]
      rcases ite_inv H11 with ⟨c12, H13⟩ | ⟨c12, H13⟩
      · obtain ⟨s, b14, H15⟩ := bind_inv H13
        obtain ⟨h16, h17, h18, h19⟩ := bslc_inv b14
        have h20 : 0 ≤ Int.toNat (IntKind.i64.wrap ((p.size : Int) - 1)) := by omega
        have h21 : Int.toNat (IntKind.i64.wrap ((p.size : Int) - 1)) ≤ name.size := by omega
        have h22 : ByteArray.extract name (0) (Int.toNat (IntKind.i64.wrap ((p.size : Int) - 1))) = s := h19.symm
        try simp only [Int.toNat_natCast] at h20 h21 h22
        obtain ⟨s2, b23, H24⟩ := bind_inv H15
        obtain ⟨h25, h26, h27, h28⟩ := bslc_inv b23
        have h29 : 0 ≤ Int.toNat (IntKind.i64.wrap ((p.size : Int) - 1)) := by omega
        have h30 : Int.toNat (IntKind.i64.wrap ((p.size : Int) - 1)) ≤ p.size := by omega
        have h31 : ByteArray.extract p (0) (Int.toNat (IntKind.i64.wrap ((p.size : Int) - 1))) = s2 := h28.symm
        try simp only [Int.toNat_natCast] at h29 h30 h31
        try simp -implicitDefEqProofs only [go_sem, Nat.reduceEqDiff, Nat.reduceAdd, reduceCtorEq, ↓reduceIte, c12, nat_of .i64 (Int.le_trans h16 h17), h20, h21, h22, h30, h31]
        refine Rd_endF (by rfl) ?_
        try simp -implicitDefEqProofs only [go_sem]
        obtain rfl := Option.some.inj H24
        exact end_pure (by first | (simp -implicitDefEqProofs only [go_sem, ↓reduceIte, Try.f18] <;> rfl) | rfl) (by first | rfl | (simp -implicitDefEqProofs only [go_sem, Int.reduceToNat, Int.reduceLT, Int.reduceLE, Int.reduceBEq, Int.reduceBNe, Nat.reduceLT, Nat.reduceBEq, Int.reduceEq, Nat.reduceEqDiff, Nat.reduceAdd, Nat.reduceSub, Nat.reduceMul, Nat.reduceLeDiff, reduceCtorEq, ↓reduceIte, eGPolicy, eGGroup, eGBound, eGStmt, eGAsk, c10, c12, nat_of .i64 (Int.le_trans h16 h17), h20, h21, h22, nat_of .i64 (Int.le_trans h25 h26), h29, h30, h31]; done) | (simp -implicitDefEqProofs only [go_sem, Int.reduceToNat, Int.reduceLT, Int.reduceLE, Int.reduceBEq, Int.reduceBNe, Nat.reduceLT, Nat.reduceBEq, Int.reduceEq, Nat.reduceEqDiff, Nat.reduceAdd, Nat.reduceSub, Nat.reduceMul, Nat.reduceLeDiff, reduceCtorEq, ↓reduceIte, eGPolicy, eGGroup, eGBound, eGStmt, eGAsk, c10, c12, nat_of .i64 (Int.le_trans h16 h17), h20, h21, h22, nat_of .i64 (Int.le_trans h25 h26), h29, h30, h31]; rfl)) rfl (by intro h; first | rfl | cases h)
      · try simp -implicitDefEqProofs only [go_sem, Nat.reduceEqDiff, Nat.reduceAdd, ↓reduceIte, c12]
        refine Rd_endF (by rfl) ?_
        try simp -implicitDefEqProofs only [go_sem]
        obtain rfl := Option.some.inj H13
        exact end_pure (by first | (simp -implicitDefEqProofs only [go_sem, ↓reduceIte, Try.f18] <;> rfl) | rfl) (by first | rfl | (simp -implicitDefEqProofs only [go_sem, Int.reduceToNat, Int.reduceLT, Int.reduceLE, Int.reduceBEq, Int.reduceBNe, Nat.reduceLT, Nat.reduceBEq, Int.reduceEq, Nat.reduceEqDiff, Nat.reduceAdd, Nat.reduceSub, Nat.reduceMul, Nat.reduceLeDiff, reduceCtorEq, ↓reduceIte, eGPolicy, eGGroup, eGBound, eGStmt, eGAsk, c10, c12]; done) | (simp -implicitDefEqProofs only [go_sem, Int.reduceToNat, Int.reduceLT, Int.reduceLE, Int.reduceBEq, Int.reduceBNe, Nat.reduceLT, Nat.reduceBEq, Int.reduceEq, Nat.reduceEqDiff, Nat.reduceAdd, Nat.reduceSub, Nat.reduceMul, Nat.reduceLeDiff, reduceCtorEq, ↓reduceIte, eGPolicy, eGGroup, eGBound, eGStmt, eGAsk, c10, c12]; rfl)) rfl (by intro h; first | rfl | cases h)
    · try simp -implicitDefEqProofs only [go_sem, Nat.reduceEqDiff, Nat.reduceAdd, reduceCtorEq, ↓reduceIte, c10]
      obtain rfl := Option.some.inj H11
      exact end_pure (by first | (simp -implicitDefEqProofs only [go_sem, ↓reduceIte, Try.f18] <;> rfl) | rfl) (by first | rfl | (simp -implicitDefEqProofs only [go_sem, Int.reduceToNat, Int.reduceLT, Int.reduceLE, Int.reduceBEq, Int.reduceBNe, Nat.reduceLT, Nat.reduceBEq, Int.reduceEq, Nat.reduceEqDiff, Nat.reduceAdd, Nat.reduceSub, Nat.reduceMul, Nat.reduceLeDiff, reduceCtorEq, ↓reduceIte, eGPolicy, eGGroup, eGBound, eGStmt, eGAsk, c10]; done) | (simp -implicitDefEqProofs only [go_sem, Int.reduceToNat, Int.reduceLT, Int.reduceLE, Int.reduceBEq, Int.reduceBNe, Nat.reduceLT, Nat.reduceBEq, Int.reduceEq, Nat.reduceEqDiff, Nat.reduceAdd, Nat.reduceSub, Nat.reduceMul, Nat.reduceLeDiff, reduceCtorEq, ↓reduceIte, eGPolicy, eGGroup, eGBound, eGStmt, eGAsk, c10]; rfl)) rfl (by intro h; first | rfl | cases h)
def ref1_SameTexts_L1 (n : Nat) (a : List ByteArray) (b : List ByteArray) : Nat → Int → Option ((Unit) ⊕ Bool)
  | 0, _ => none
  | c + 1, i =>
    (if (decide (i < (a.length : Int))) then
      (idx a i).bind fun x3 =>
      (idx b i).bind fun x4 =>
      (if (x3.toList == x4.toList) then
        ref1_SameTexts_L1 n a b c (IntKind.i64.wrap (i + 1))
      else
        some (.inr false))
    else
      some (.inl ()))

def ref1_SameTexts (n : Nat) (a : List ByteArray) (b : List ByteArray) : Option Bool :=
  (if ((a.length : Int) != (b.length : Int)) then
    some false
  else
    (
      ref1_SameTexts_L1 n a b n 0 : Option ((Unit) ⊕ Bool)).bind fun
      | .inl _ =>
        some true
      | .inr r => some r)
theorem ref1_SameTexts_ok {n : Nat} {a : List ByteArray} {b : List ByteArray} {r : Bool} (H : ref1_SameTexts n a b = some r) : PureOK Try.prog 19 [D.sl (List.map eS a), D.sl (List.map eS b)] (D.v (.bool r)) true := by
  unfold ref1_SameTexts at H
  refine pure_runR (tab := tab) tab_ok Try.func19 rfl (by kernel_rfl) (by kernel_rfl) (by simp [Try.f19]) ?_
  refine runR_seq ?_
  refine runR_take tab_ok fol 1 ?_
  try simp -implicitDefEqProofs only [go_sem]
  refine runR_seq ?_
  refine runR_take tab_ok fol 1 ?_
  try simp -implicitDefEqProofs only [go_sem, Nat.reduceEqDiff, Nat.reduceAdd, reduceCtorEq, ↓reduceIte]
  rcases ite_inv H with ⟨c1, H2⟩ | ⟨c1, H2⟩
  · try simp -implicitDefEqProofs only [go_sem, Nat.reduceAdd, c1]
    obtain rfl := Option.some.inj H2
    exact end_pure (by first | (simp -implicitDefEqProofs only [go_sem, ↓reduceIte, Try.f19] <;> rfl) | rfl) (by first | rfl | (simp -implicitDefEqProofs only [go_sem, Int.reduceToNat, Int.reduceLT, Int.reduceLE, Int.reduceBEq, Int.reduceBNe, Nat.reduceLT, Nat.reduceBEq, Int.reduceEq, Nat.reduceEqDiff, Nat.reduceAdd, Nat.reduceSub, Nat.reduceMul, Nat.reduceLeDiff, reduceCtorEq, ↓reduceIte, eGPolicy, eGGroup, eGBound, eGStmt, eGAsk, c1]; done) | (simp -implicitDefEqProofs only [go_sem, Int.reduceToNat, Int.reduceLT, Int.reduceLE, Int.reduceBEq, Int.reduceBNe, Nat.reduceLT, Nat.reduceBEq, Int.reduceEq, Nat.reduceEqDiff, Nat.reduceAdd, Nat.reduceSub, Nat.reduceMul, Nat.reduceLeDiff, reduceCtorEq, ↓reduceIte, eGPolicy, eGGroup, eGBound, eGStmt, eGAsk, c1]; rfl)) rfl (by intro h; first | rfl | cases h)
  · try simp -implicitDefEqProofs only [go_sem, c1]
    refine runR_seq ?_
    refine runR_seq ?_
    refine runR_take tab_ok fol 1 ?_
    try simp -implicitDefEqProofs only [go_sem, Nat.reduceAdd]
    obtain ⟨e_, E3, H4⟩ := bind_inv H2
    refine runR_join (α := { y : Unit // e_ = .inl y }) (fun | ⟨_, _⟩ => ⟨noFr, noHp, 0⟩) ?_ ?_
    · refine runR_block ?_
      refine runR_loop (α := { q : Nat × Int // ref1_SameTexts_L1 n a b q.1 q.2 = some e_ }) (fun | ⟨⟨c, i⟩, _⟩ => ⟨upd 0 (.d (.sl (List.map eS a)) true) (upd 1 (.d (.sl (List.map eS b)) true) (upd 5 (.v (.int .i64 i)) noFr)), noHp, 0⟩) (fun q => q.1.1) ⟨(n, 0), E3⟩ ?_ ?_
      · exact ren_mk [] (by rfl) (rf_upd (by rfl) (rf_upd (by rfl) (rf_upd (by rfl) (rf_no _)))) (rh_no _)
      · rintro ⟨⟨c, i⟩, L5⟩
        rcases c with _ | c
        · exact nomatch (show none = some _ from L5)
        · unfold ref1_SameTexts_L1 at L5
          try dsimp only at L5
          refine runR_take tab_ok fol 1 ?_
          try simp -implicitDefEqProofs only [go_sem, Nat.reduceEqDiff, Nat.reduceAdd, reduceCtorEq, ↓reduceIte]
          rcases ite_inv L5 with ⟨c22, H23⟩ | ⟨c22, H23⟩
          · obtain ⟨x3, b24, H25⟩ := bind_inv H23
            obtain ⟨h26, h27⟩ := idx_inv b24
            try simp only [Int.reduceToNat, Int.toNat_natCast] at h27
            have h28 := map_at eS h27
            obtain ⟨x4, b30, H31⟩ := bind_inv H25
            obtain ⟨h32, h33⟩ := idx_inv b30
            try simp only [Int.reduceToNat, Int.toNat_natCast] at h33
            have h34 := map_at eS h33
            try simp -implicitDefEqProofs only [go_sem, Nat.reduceEqDiff, Nat.reduceAdd, reduceCtorEq, ↓reduceIte, c22, nat_of .i64 h26, h28, h34]
            refine Rd_endF (by rfl) ?_
            try simp -implicitDefEqProofs only [go_sem, ↓reduceIte]
            rcases ite_inv H31 with ⟨c36, H37⟩ | ⟨c36, H37⟩
            · try simp -implicitDefEqProofs only [go_sem, Nat.reduceEqDiff, Nat.reduceAdd, reduceCtorEq, ↓reduceIte, c36]
              exact ⟨⟨(c, (IntKind.i64.wrap (i + 1))), H37⟩, ren_mk [] (by rfl) (rf_upd (by rfl) (rf_upd (by rfl) (rf_upd (by rfl) (rf_no _)))) (rh_no _), Nat.lt_succ_self _⟩
            · try simp -implicitDefEqProofs only [go_sem, Nat.reduceAdd, c36]
              obtain rfl := Option.some.inj H37
              obtain rfl := Option.some.inj H4
              exact end_pure (by first | (simp -implicitDefEqProofs only [go_sem, ↓reduceIte, Try.f19] <;> rfl) | rfl) (by first | rfl | (simp -implicitDefEqProofs only [go_sem, Int.reduceToNat, Int.reduceLT, Int.reduceLE, Int.reduceBEq, Int.reduceBNe, Nat.reduceLT, Nat.reduceBEq, Int.reduceEq, Nat.reduceEqDiff, Nat.reduceAdd, Nat.reduceSub, Nat.reduceMul, Nat.reduceLeDiff, reduceCtorEq, ↓reduceIte, eGPolicy, eGGroup, eGBound, eGStmt, eGAsk, c22, nat_of .i64 h26, h28, nat_of .i64 h32, h34, c36]; done) | (simp -implicitDefEqProofs only [go_sem, Int.reduceToNat, Int.reduceLT, Int.reduceLE, Int.reduceBEq, Int.reduceBNe, Nat.reduceLT, Nat.reduceBEq, Int.reduceEq, Nat.reduceEqDiff, Nat.reduceAdd, Nat.reduceSub, Nat.reduceMul, Nat.reduceLeDiff, reduceCtorEq, ↓reduceIte, eGPolicy, eGGroup, eGBound, eGStmt, eGAsk, c22, nat_of .i64 h26, h28, nat_of .i64 h32, h34, c36]; rfl)) rfl (by intro h; first | rfl | cases h)
          · try simp -implicitDefEqProofs only [go_sem, ↓reduceIte, c22]
            obtain rfl := Option.some.inj H23
            exact ⟨⟨(), rfl⟩, ren_mk [] (by rfl) (rf_no _) (rh_no _)⟩
    · rintro ⟨_, he38⟩
      replace he38 := he38.symm
      subst he38
      try dsimp only at H4
      refine runR_take tab_ok fol 1 ?_
      try simp -implicitDefEqProofs only [go_sem]
      obtain rfl := Option.some.inj H4
      exact end_pure (by first | (simp -implicitDefEqProofs only [go_sem, ↓reduceIte, Try.f19] <;> rfl) | rfl) (by first | rfl | (simp -implicitDefEqProofs only [go_sem, Int.reduceToNat, Int.reduceLT, Int.reduceLE, Int.reduceBEq, Int.reduceBNe, Nat.reduceLT, Nat.reduceBEq, Int.reduceEq, Nat.reduceEqDiff, Nat.reduceAdd, Nat.reduceSub, Nat.reduceMul, Nat.reduceLeDiff, reduceCtorEq, ↓reduceIte, eGPolicy, eGGroup, eGBound, eGStmt, eGAsk]; done) | (simp -implicitDefEqProofs only [go_sem, Int.reduceToNat, Int.reduceLT, Int.reduceLE, Int.reduceBEq, Int.reduceBNe, Nat.reduceLT, Nat.reduceBEq, Int.reduceEq, Nat.reduceEqDiff, Nat.reduceAdd, Nat.reduceSub, Nat.reduceMul, Nat.reduceLeDiff, reduceCtorEq, ↓reduceIte, eGPolicy, eGGroup, eGBound, eGStmt, eGAsk]; rfl)) rfl (by intro h; first | rfl | cases h)
def glob_Over_L1 (n : Nat) (patterns : List ByteArray) (names : List ByteArray) : Nat → (List ByteArray × Int) → Option (List ByteArray)
  | 0, _ => none
  | c + 1, (out, t10) =>
    (if (decide (t10 < (names.length : Int))) then
      (idx names t10).bind fun x2 =>
      (glob_matches n patterns x2).bind fun t162 =>
      (if t162 then
        (app out [x2]).bind fun l =>
        glob_Over_L1 n patterns names c (l, (IntKind.i64.wrap (t10 + 1)))
      else
        glob_Over_L1 n patterns names c (out, (IntKind.i64.wrap (t10 + 1))))
    else
      some out)
def glob_Over_L1_f (n : Nat) (patterns : List ByteArray) (_ : List ByteArray) (st : List ByteArray) (x2 : ByteArray) (k : List ByteArray → Option (List ByteArray)) : Option (List ByteArray) :=
  match st with
  | out =>
    (glob_matches n patterns x2).bind fun t162 =>
    (if t162 then
      (app out [x2]).bind fun l =>
      k l
    else
      k out)
def glob_Over_L1_e (_ : Nat) (_ : List ByteArray) (_ : List ByteArray) (st : List ByteArray) : Option (List ByteArray) :=
  match st with
  | out => some out
theorem glob_Over_L1_list (n : Nat) (patterns : List ByteArray) (names : List ByteArray) (hx : names.length < 4611686018427387904) (c : Nat) (st : List ByteArray) (ix : Nat) (hi : ix ≤ names.length) (hc : names.length - ix < c) : glob_Over_L1 n patterns names c (match st, (ix : Int) with | out, ix => (out, ix)) = foldK (glob_Over_L1_f n patterns names) (glob_Over_L1_e n patterns names) (names.drop ix) st :=
  loop_list (fun c st ix => glob_Over_L1 n patterns names c (match st, ix with | out, ix => (out, ix))) names (glob_Over_L1_f n patterns names) (glob_Over_L1_e n patterns names) (fun _ _ _ => rfl) hx c st ix hi hc

def glob_Over (n : Nat) (patterns : List ByteArray) (names : List ByteArray) : Option (List ByteArray) :=
  (
    glob_Over_L1 n patterns names n ([], 0) : Option (List ByteArray)).bind fun out3 =>
  (norm_Once n out3).bind fun t23 =>
  some t23
theorem glob_Over_ok {n : Nat} {patterns : List ByteArray} {names : List ByteArray} {r : List ByteArray} (H : glob_Over n patterns names = some r) : PureOK Try.prog 20 [D.sl (List.map eS patterns), D.sl (List.map eS names)] (D.sl (List.map eS r)) true := by
  unfold glob_Over at H
  refine pure_runR (tab := tab) tab_ok Try.func20 rfl (by kernel_rfl) (by kernel_rfl) (by simp [Try.f20]) ?_
  refine runR_seq ?_
  refine runR_take tab_ok fol 1 ?_
  try simp -implicitDefEqProofs only [go_sem]
  refine runR_seq ?_
  refine runR_take tab_ok fol 1 ?_
  try simp -implicitDefEqProofs only [go_sem, Nat.reduceAdd]
  refine runR_seq ?_
  refine runR_seq ?_
  refine runR_take tab_ok fol 1 ?_
  try simp -implicitDefEqProofs only [go_sem, Nat.reduceEqDiff, Nat.reduceAdd, ↓reduceIte]
  obtain ⟨e_, E1, H2⟩ := bind_inv H
  refine runR_join (α := { y : List ByteArray // e_ = y } × Nat) (fun | ⟨⟨out3, _⟩, g3⟩ => ⟨upd 5 (accV 0 g3 (List.map eS out3)) noFr, upd 0 (accO 1 g3 false (List.map eS out3)) noHp, 1⟩) ?_ ?_
  · refine runR_block ?_
    refine runR_loop (α := { q : (Nat × (List ByteArray × Int)) × Nat // glob_Over_L1 n patterns names q.1.1 q.1.2 = some e_ }) (fun | ⟨⟨⟨c, ⟨out, t10⟩⟩, g⟩, _⟩ => ⟨upd 0 (.d (.sl (List.map eS patterns)) true) (upd 5 (accV 0 g (List.map eS out)) (upd 8 (.d (.sl (List.map eS names)) true) (upd 9 (.v (.int .i64 (names.length : Int))) (upd 10 (.v (.int .i64 t10)) noFr)))), upd 0 (accO 1 g false (List.map eS out)) noHp, 1⟩) (fun q => q.1.1.1) ⟨((n, ([], 0)), 0), E1⟩ ?_ ?_
    · exact ren_mk [] (by rfl) (rf_upd (by rfl) (rf_upd (by rfl) (rf_upd (by rfl) (rf_upd (by rfl) (rf_upd (by rfl) (rf_no _)))))) (rh_upd rh_accN (rh_no _))
    · rintro ⟨⟨⟨c, ⟨out, t10⟩⟩, g⟩, L3⟩
      rcases c with _ | c
      · exact nomatch (show none = some _ from L3)
      · unfold glob_Over_L1 at L3
        try dsimp only at L3
        refine runR_take tab_ok fol 1 ?_
        try simp -implicitDefEqProofs only [go_sem, Nat.reduceEqDiff, Nat.reduceAdd, reduceCtorEq, ↓reduceIte]
        rcases ite_inv L3 with ⟨c16, H17⟩ | ⟨c16, H17⟩
        · obtain ⟨x2, b18, H19⟩ := bind_inv H17
          obtain ⟨h20, h21⟩ := idx_inv b18
          try simp only [Int.reduceToNat, Int.toNat_natCast] at h21
          have h22 := map_at eS h21
          obtain ⟨t162, b24, H25⟩ := bind_inv H19
          try simp -implicitDefEqProofs only [go_sem, Nat.reduceEqDiff, Nat.reduceAdd, reduceCtorEq, ↓reduceIte, c16, nat_of .i64 h20, h22]
          refine onCall_pure (by first | rfl | (simp -implicitDefEqProofs only [go_sem, Int.reduceToNat, Int.reduceLT, Int.reduceLE, Int.reduceBEq, Int.reduceBNe, Nat.reduceLT, Nat.reduceBEq, Int.reduceEq, Nat.reduceEqDiff, Nat.reduceAdd, Nat.reduceSub, Nat.reduceMul, Nat.reduceLeDiff, reduceCtorEq, ↓reduceIte, eGPolicy, eGGroup, eGBound, eGStmt, eGAsk, c16, nat_of .i64 h20, h22]; done) | (simp -implicitDefEqProofs only [go_sem, Int.reduceToNat, Int.reduceLT, Int.reduceLE, Int.reduceBEq, Int.reduceBNe, Nat.reduceLT, Nat.reduceBEq, Int.reduceEq, Nat.reduceEqDiff, Nat.reduceAdd, Nat.reduceSub, Nat.reduceMul, Nat.reduceLeDiff, reduceCtorEq, ↓reduceIte, eGPolicy, eGGroup, eGBound, eGStmt, eGAsk, c16, nat_of .i64 h20, h22]; rfl)) (glob_matches_ok b24) (by first | exact .inr rfl | exact .inl rfl) ?_
          try simp -implicitDefEqProofs only [go_sem, ↓reduceIte]
          rcases ite_inv H25 with ⟨c26, H27⟩ | ⟨c26, H27⟩
          · obtain ⟨l, b28, H29⟩ := bind_inv H27
            obtain ⟨h30, h31⟩ := app_inv b28
            have h30 : out.length + 1 ≤ 4294967296 := h30
            have h32 : List.map eS out ++ [[.v (.string x2)]] = List.map eS l := app_map eS h31
            have h33 : out.length + 1 = l.length := app_len h31
            have h34 : l.length ≤ 4294967296 := by omega
            have q35 : 0 < l.length := by omega
            try simp -implicitDefEqProofs only [go_sem, Nat.reduceLT, Nat.reduceEqDiff, Nat.reduceAdd, Nat.reduceLeDiff, reduceCtorEq, ↓reduceIte, c26, h32, h33, h34]
            rcases out with _ | ⟨q0, q1⟩
            · try simp only [List.map_nil, accI, accN]
              exact ⟨⟨((c, (l, (IntKind.i64.wrap (t10 + 1)))), 0), H29⟩, ren_mk [(0, 11)] (by rfl) (rf_upd (by rfl) (rf_upd (ren_accP (by rfl) q35) (rf_upd (by rfl) (rf_upd (by rfl) (rf_upd (by rfl) (rf_no _)))))) (rh_upd (rh_accP (by rfl) q35 (by rfl)) (rh_no _)), Nat.lt_succ_self _⟩
            · try simp only [List.map_cons, accI, accN]
              exact ⟨⟨((c, (l, (IntKind.i64.wrap (t10 + 1)))), (g + 1)), H29⟩, ren_mk [(0, 0)] (by rfl) (rf_upd (by rfl) (rf_upd (ren_accP (by rfl) q35) (rf_upd (by rfl) (rf_upd (by rfl) (rf_upd (by rfl) (rf_no _)))))) (rh_upd (rh_accP (by rfl) q35 (by rfl)) (rh_no _)), Nat.lt_succ_self _⟩
          · try simp -implicitDefEqProofs only [go_sem, Nat.reduceEqDiff, Nat.reduceAdd, reduceCtorEq, ↓reduceIte, c26]
            exact ⟨⟨((c, (out, (IntKind.i64.wrap (t10 + 1)))), g), H27⟩, ren_mk [(0, 0)] (by rfl) (rf_upd (by rfl) (rf_upd (ren_acc (by rfl)) (rf_upd (by rfl) (rf_upd (by rfl) (rf_upd (by rfl) (rf_no _)))))) (rh_upd (rh_acc (by rfl) (by rfl)) (rh_no _)), Nat.lt_succ_self _⟩
        · try simp -implicitDefEqProofs only [go_sem, ↓reduceIte, c16]
          obtain rfl := Option.some.inj H17
          exact ⟨⟨⟨out, rfl⟩, g⟩, ren_mk [(0, 0)] (by rfl) (rf_upd (ren_acc (by rfl)) (rf_no _)) (rh_upd (rh_acc (by rfl) (by rfl)) (rh_no _))⟩
  · rintro ⟨⟨out3, he38⟩, g3⟩
    replace he38 := he38.symm
    subst he38
    try dsimp only at H2
    refine runR_take tab_ok fol 1 ?_
    obtain ⟨t23, b36, H37⟩ := bind_inv H2
    try simp -implicitDefEqProofs only [go_sem, Nat.reduceAdd, ↓reduceIte]
    refine onCall_pure (by first | rfl | (simp -implicitDefEqProofs only [go_sem, ↓reduceIte]; done) | (simp -implicitDefEqProofs only [go_sem, ↓reduceIte]; rfl)) (norm_Once_ok b36) (by first | exact .inr rfl | exact .inl rfl) ?_
    try simp -implicitDefEqProofs only [go_sem, Nat.reduceAdd, ↓reduceIte]
    obtain rfl := Option.some.inj H37
    exact end_pure (by first | (simp -implicitDefEqProofs only [go_sem, ↓reduceIte, Try.f20] <;> rfl) | rfl) (by first | rfl | (simp -implicitDefEqProofs only [go_sem, Int.reduceToNat, Int.reduceLT, Int.reduceLE, Int.reduceBEq, Int.reduceBNe, Nat.reduceLT, Nat.reduceBEq, Int.reduceEq, Nat.reduceEqDiff, Nat.reduceAdd, Nat.reduceSub, Nat.reduceMul, Nat.reduceLeDiff, reduceCtorEq, ↓reduceIte, eGPolicy, eGGroup, eGBound, eGStmt, eGAsk]; done) | (simp -implicitDefEqProofs only [go_sem, Int.reduceToNat, Int.reduceLT, Int.reduceLE, Int.reduceBEq, Int.reduceBNe, Nat.reduceLT, Nat.reduceBEq, Int.reduceEq, Nat.reduceEqDiff, Nat.reduceAdd, Nat.reduceSub, Nat.reduceMul, Nat.reduceLeDiff, reduceCtorEq, ↓reduceIte, eGPolicy, eGGroup, eGBound, eGStmt, eGAsk]; rfl)) rfl (by intro h; first | rfl | cases h)
def ref1_Texts_L1 (n : Nat) (t19 : List ByteArray) (t25 : List ByteArray) : Nat → (List ByteArray × Int × Int) → Option (List ByteArray)
  | 0, _ => none
  | c + 1, (t5, t6, t7) =>
    (
      (if (decide (t6 < (t19.length : Int))) then
        some (t5, true)
      else
        some (t5, (decide (t7 < (t25.length : Int))))) : Option (List ByteArray × Bool)).bind fun (t52, t352) =>
    (if t352 then
      (
        (if (t7 == (t25.length : Int)) then
          some (t52, true)
        else
          (if (decide (t6 < (t19.length : Int))) then
            (idx t19 t6).bind fun x7 =>
            (idx t25 t7).bind fun x8 =>
            some (t52, (Op.bytesLess x7.toList x8.toList))
          else
            some (t52, false))) : Option (List ByteArray × Bool)).bind fun (t53, t382) =>
      (if t382 then
        (idx t19 t6).bind fun x9 =>
        (app t53 [x9]).bind fun l4 =>
        ref1_Texts_L1 n t19 t25 c (l4, (IntKind.i64.wrap (t6 + 1)), t7)
      else
        (if (t6 == (t19.length : Int)) then
          (idx t25 t7).bind fun x10 =>
          (app t53 [x10]).bind fun l5 =>
          ref1_Texts_L1 n t19 t25 c (l5, t6, (IntKind.i64.wrap (t7 + 1)))
        else
          (idx t25 t7).bind fun x11 =>
          (idx t19 t6).bind fun x12 =>
          (if (Op.bytesLess x11.toList x12.toList) then
            (app t53 [x11]).bind fun l6 =>
            ref1_Texts_L1 n t19 t25 c (l6, t6, (IntKind.i64.wrap (t7 + 1)))
          else
            ref1_Texts_L1 n t19 t25 c (t53, (IntKind.i64.wrap (t6 + 1)), t7))))
    else
      some t52)

def ref1_Texts : Nat → (List ByteArray) → Option (List ByteArray)
  | 0, _ => none
  | n + 1, t0 =>
    (if (decide ((t0.length : Int) < 2)) then
      (app [] t0).bind fun _ =>
      some t0
    else
      (slc t0 0 (IntKind.i64.wrap (Int.tdiv (t0.length : Int) 2))).bind fun l2 =>
      ((ref1_Texts n) l2).bind fun t19 =>
      (slc t0 (IntKind.i64.wrap (Int.tdiv (t0.length : Int) 2)) ((List.length t0) : Int)).bind fun l3 =>
      ((ref1_Texts n) l3).bind fun t25 =>
      (
        ref1_Texts_L1 n t19 t25 n ([], 0, 0) : Option (List ByteArray)).bind fun t55 =>
      some t55)
set_option maxHeartbeats 8000000 in
theorem ref1_Texts_ok : ∀ {n : Nat} {t0 : List ByteArray} {r : List ByteArray}, ref1_Texts n t0 = some r → PureOK Try.prog 25 [D.sl (List.map eS t0)] (D.sl (List.map eS r)) true := by
  intro n
  induction n with
  | zero => intro t0 r H; exact nomatch (show none = some _ from H)
  | succ n ih =>
    intro t0 r H
    unfold ref1_Texts at H
    refine pure_runR (tab := tab) tab_ok Try.func25 rfl (by kernel_rfl) (by kernel_rfl) (by simp [Try.f25]) ?_
    refine runR_seq ?_
    refine runR_take tab_ok fol 1 ?_
    try simp -implicitDefEqProofs only [go_sem]
    refine runR_seq ?_
    refine runR_take tab_ok fol 1 ?_
    try simp -implicitDefEqProofs only [go_sem, Nat.reduceAdd, reduceCtorEq, ↓reduceIte]
    rcases ite_inv H with ⟨c1, H2⟩ | ⟨c1, H2⟩
    · obtain ⟨l, b3, H4⟩ := bind_inv H2
      obtain ⟨h5, h6⟩ := app_inv b3
      have h6 : t0 = l := h6
      subst h6
      have h5 : t0.length ≤ 4294967296 := by have := h5; simpa using this
      try simp -implicitDefEqProofs only [go_sem, Nat.reduceLT, Nat.reduceEqDiff, Nat.reduceAdd, Nat.reduceLeDiff, reduceCtorEq, ↓reduceIte, c1, plainR_map (f := eS) (fun _ => rfl) t0, chk_map (n := 1) (f := eS) (fun _ => rfl) t0, h5, List.take_zero]
      obtain rfl := Option.some.inj H4
      exact end_pure (by first | (simp -implicitDefEqProofs only [go_sem, ↓reduceIte, Try.f25] <;> rfl) | rfl) (by first | rfl | (simp -implicitDefEqProofs only [go_sem, ↓reduceIte]; done) | (simp -implicitDefEqProofs only [go_sem, ↓reduceIte]; rfl)) rfl (by intro h; first | rfl | cases h)
    · try simp -implicitDefEqProofs only [go_sem, c1]
      refine runR_seq ?_
      refine runR_take tab_ok fol 1 ?_
      obtain ⟨l2, b9, H10⟩ := bind_inv H2
      obtain ⟨h11, h12, h13, h14⟩ := slc_inv b9
      have h15 : 0 ≤ Int.toNat (IntKind.i64.wrap (Int.tdiv (t0.length : Int) 2)) := by omega
      have h16 : Int.toNat (IntKind.i64.wrap (Int.tdiv (t0.length : Int) 2)) ≤ (List.length t0) := by omega
      have h17 : List.take (Int.toNat (IntKind.i64.wrap (Int.tdiv (t0.length : Int) 2))) (List.map eS t0) = List.map eS l2 := by rw [h14]; simp [List.map_take]
      try simp only [Int.toNat_natCast] at h15 h16 h17
      obtain ⟨t19, b18, H19⟩ := bind_inv H10
      try simp -implicitDefEqProofs only [go_sem, Int.reduceEq, Nat.reduceEqDiff, Nat.reduceAdd, reduceCtorEq, ↓reduceIte, nat_of .i64 (Int.le_trans h11 h12), h15, h16, h17, chk_map (n := 1) (f := eS) (fun _ => rfl) t0]
      refine onCallD_pure (by first | rfl | (simp -implicitDefEqProofs only [go_sem, Int.reduceToNat, Int.reduceLT, Int.reduceLE, Int.reduceBEq, Int.reduceBNe, Nat.reduceLT, Nat.reduceBEq, Int.reduceEq, Nat.reduceEqDiff, Nat.reduceAdd, Nat.reduceSub, Nat.reduceMul, Nat.reduceLeDiff, reduceCtorEq, ↓reduceIte, eGPolicy, eGGroup, eGBound, eGStmt, eGAsk, c1, nat_of .i64 (Int.le_trans h11 h12), h15, h16, h17, chk_map (n := 1) (f := eS) (fun _ => rfl) t0]; done) | (simp -implicitDefEqProofs only [go_sem, Int.reduceToNat, Int.reduceLT, Int.reduceLE, Int.reduceBEq, Int.reduceBNe, Nat.reduceLT, Nat.reduceBEq, Int.reduceEq, Nat.reduceEqDiff, Nat.reduceAdd, Nat.reduceSub, Nat.reduceMul, Nat.reduceLeDiff, reduceCtorEq, ↓reduceIte, eGPolicy, eGGroup, eGBound, eGStmt, eGAsk, c1, nat_of .i64 (Int.le_trans h11 h12), h15, h16, h17, chk_map (n := 1) (f := eS) (fun _ => rfl) t0]; rfl)) (ih b18) (by first | exact .inr rfl | exact .inl rfl) ?_
      obtain ⟨l3, b20, H21⟩ := bind_inv H19
      obtain ⟨h22, h23, h24, h25⟩ := slc_inv b20
      have h26 : Int.toNat (IntKind.i64.wrap (Int.tdiv (t0.length : Int) 2)) ≤ (List.length t0) := by omega
      have h27 : (List.length t0) ≤ (List.length t0) := by omega
      have h28 : List.drop (Int.toNat (IntKind.i64.wrap (Int.tdiv (t0.length : Int) 2))) (List.map eS t0) = List.map eS l3 := by rw [h25]; simp [List.map_drop]
      try simp only [Int.toNat_natCast] at h26 h27 h28
      obtain ⟨t25, b29, H30⟩ := bind_inv H21
      try simp -implicitDefEqProofs only [go_sem, Int.reduceEq, Nat.reduceEqDiff, Nat.reduceAdd, reduceCtorEq, ↓reduceIte, nat_of .i64 (Int.le_trans h11 h12), h16, h27, h28, chk_map (n := 1) (f := eS) (fun _ => rfl) t0]
      refine onCallD_pure (by first | rfl | (simp -implicitDefEqProofs only [go_sem, Int.reduceToNat, Int.reduceLT, Int.reduceLE, Int.reduceBEq, Int.reduceBNe, Nat.reduceLT, Nat.reduceBEq, Int.reduceEq, Nat.reduceEqDiff, Nat.reduceAdd, Nat.reduceSub, Nat.reduceMul, Nat.reduceLeDiff, reduceCtorEq, ↓reduceIte, eGPolicy, eGGroup, eGBound, eGStmt, eGAsk, c1, nat_of .i64 (Int.le_trans h11 h12), h15, h16, h17, chk_map (n := 1) (f := eS) (fun _ => rfl) t0, nat_of .i64 h22, h26, h27, h28, chk_map (n := 1) (f := eS) (fun _ => rfl) t0]; done) | (simp -implicitDefEqProofs only [go_sem, Int.reduceToNat, Int.reduceLT, Int.reduceLE, Int.reduceBEq, Int.reduceBNe, Nat.reduceLT, Nat.reduceBEq, Int.reduceEq, Nat.reduceEqDiff, Nat.reduceAdd, Nat.reduceSub, Nat.reduceMul, Nat.reduceLeDiff, reduceCtorEq, ↓reduceIte, eGPolicy, eGGroup, eGBound, eGStmt, eGAsk, c1, nat_of .i64 (Int.le_trans h11 h12), h15, h16, h17, chk_map (n := 1) (f := eS) (fun _ => rfl) t0, nat_of .i64 h22, h26, h27, h28, chk_map (n := 1) (f := eS) (fun _ => rfl) t0]; rfl)) (ih b29) (by first | exact .inr rfl | exact .inl rfl) ?_
      try simp -implicitDefEqProofs only [go_sem, Nat.reduceEqDiff, Nat.reduceAdd, ↓reduceIte]
      refine Rd_endF (by rfl) ?_
      try simp -implicitDefEqProofs only [go_sem]
      refine runR_seq ?_
      refine runR_take tab_ok fol 1 ?_
      try simp -implicitDefEqProofs only [go_sem, Nat.reduceAdd]
      refine runR_seq ?_
      refine runR_take tab_ok fol 1 ?_
      try simp -implicitDefEqProofs only [go_sem, Nat.reduceAdd]
      refine runR_seq ?_
      obtain ⟨e_, E31, H32⟩ := bind_inv H30
      refine runR_join (α := { y : List ByteArray // e_ = y } × Nat) (fun | ⟨⟨t55, _⟩, g5⟩ => ⟨upd 5 (accV 0 g5 (List.map eS t55)) noFr, upd 0 (accO 1 g5 false (List.map eS t55)) noHp, 1⟩) ?_ ?_
      · refine runR_block ?_
        refine runR_loop (α := { q : (Nat × (List ByteArray × Int × Int)) × Nat // ref1_Texts_L1 n t19 t25 q.1.1 q.1.2 = some e_ }) (fun | ⟨⟨⟨c, ⟨t5, t6, t7⟩⟩, g⟩, _⟩ => ⟨upd 3 (.d (.sl (List.map eS t19)) false) (upd 4 (.d (.sl (List.map eS t25)) false) (upd 5 (accV 0 g (List.map eS t5)) (upd 6 (.v (.int .i64 t6)) (upd 7 (.v (.int .i64 t7)) noFr)))), upd 0 (accO 1 g false (List.map eS t5)) noHp, 1⟩) (fun q => q.1.1.1) ⟨((n, ([], 0, 0)), 0), E31⟩ ?_ ?_
        · exact ren_mk [] (by rfl) (rf_upd (by rfl) (rf_upd (by rfl) (rf_upd (by rfl) (rf_upd (by rfl) (rf_upd (by rfl) (rf_no _)))))) (rh_upd rh_accN (rh_no _))
        · rintro ⟨⟨⟨c, ⟨t5, t6, t7⟩⟩, g⟩, L33⟩
          rcases c with _ | c
          · exact nomatch (show none = some _ from L33)
          · unfold ref1_Texts_L1 at L33
            try dsimp only at L33
            refine runR_seq ?_
            refine runR_seq ?_
            obtain ⟨e_4, E90, H91⟩ := bind_inv L33
            refine runR_join (α := { y : List ByteArray × Bool // e_4 = y } × Nat) (fun | ⟨⟨⟨t52, t352⟩, _⟩, g2⟩ => ⟨upd 3 (.d (.sl (List.map eS t19)) false) (upd 4 (.d (.sl (List.map eS t25)) false) (upd 5 (accV 0 g2 (List.map eS t52)) (upd 6 (.v (.int .i64 t6)) (upd 7 (.v (.int .i64 t7)) (upd 35 (.v (.bool t352)) noFr))))), upd 0 (accO 1 g2 false (List.map eS t52)) noHp, 1⟩) ?_ ?_
            · refine runR_take tab_ok fol 1 ?_
              try simp -implicitDefEqProofs only [go_sem, Nat.reduceEqDiff, Nat.reduceAdd, ↓reduceIte]
              rcases ite_inv E90 with ⟨c92, H93⟩ | ⟨c92, H93⟩
              · try simp -implicitDefEqProofs only [go_sem, Nat.reduceEqDiff, Nat.reduceAdd, ↓reduceIte, c92]
                obtain rfl := Option.some.inj H93
                exact ⟨⟨⟨(t5, true), rfl⟩, g⟩, ren_mk [(0, 0)] (by rfl) (rf_upd (by rfl) (rf_upd (by rfl) (rf_upd (ren_acc (by rfl)) (rf_upd (by rfl) (rf_upd (by rfl) (rf_upd (by rfl) (rf_no _))))))) (rh_upd (rh_acc (by rfl) (by rfl)) (rh_no _))⟩
              · try simp -implicitDefEqProofs only [go_sem, Nat.reduceEqDiff, Nat.reduceAdd, ↓reduceIte, c92]
                obtain rfl := Option.some.inj H93
                exact ⟨⟨⟨(t5, (decide (t7 < (t25.length : Int)))), rfl⟩, g⟩, ren_mk [(0, 0)] (by rfl) (rf_upd (by rfl) (rf_upd (by rfl) (rf_upd (ren_acc (by rfl)) (rf_upd (by rfl) (rf_upd (by rfl) (rf_upd (by rfl) (rf_no _))))))) (rh_upd (rh_acc (by rfl) (by rfl)) (rh_no _))⟩
            · rintro ⟨⟨⟨t52, t352⟩, he169⟩, g2⟩
              replace he169 := he169.symm
              subst he169
              try dsimp only at H91
              refine runR_take tab_ok fol 1 ?_
              try simp -implicitDefEqProofs only [go_sem, Nat.reduceEqDiff, ↓reduceIte]
              rcases ite_inv H91 with ⟨c94, H95⟩ | ⟨c94, H95⟩
              · try simp -implicitDefEqProofs only [go_sem, c94]
                refine runR_block ?_
                refine runR_block ?_
                refine runR_seq ?_
                obtain ⟨e_5, E96, H97⟩ := bind_inv H95
                refine runR_join (α := { y : List ByteArray × Bool // e_5 = y } × Nat) (fun | ⟨⟨⟨t53, t382⟩, _⟩, g3⟩ => ⟨upd 3 (.d (.sl (List.map eS t19)) false) (upd 4 (.d (.sl (List.map eS t25)) false) (upd 5 (accV 0 g3 (List.map eS t53)) (upd 6 (.v (.int .i64 t6)) (upd 7 (.v (.int .i64 t7)) (upd 38 (.v (.bool t382)) noFr))))), upd 0 (accO 1 g3 false (List.map eS t53)) noHp, 1⟩) ?_ ?_
                · refine runR_take tab_ok fol 1 ?_
                  try simp -implicitDefEqProofs only [go_sem, Nat.reduceEqDiff, Nat.reduceAdd, ↓reduceIte]
                  rcases ite_inv E96 with ⟨c98, H99⟩ | ⟨c98, H99⟩
                  · try simp -implicitDefEqProofs only [go_sem, Nat.reduceEqDiff, Nat.reduceAdd, ↓reduceIte, c98]
                    refine Rd_endF (by rfl) ?_
                    try simp -implicitDefEqProofs only [go_sem]
                    obtain rfl := Option.some.inj H99
                    exact ⟨⟨⟨(t52, true), rfl⟩, g2⟩, ren_mk [(0, 0)] (by rfl) (rf_upd (by rfl) (rf_upd (by rfl) (rf_upd (ren_acc (by rfl)) (rf_upd (by rfl) (rf_upd (by rfl) (rf_upd (by rfl) (rf_no _))))))) (rh_upd (rh_acc (by rfl) (by rfl)) (rh_no _))⟩
                  · try simp -implicitDefEqProofs only [go_sem, Nat.reduceEqDiff, Nat.reduceAdd, ↓reduceIte, c98]
                    rcases ite_inv H99 with ⟨c100, H101⟩ | ⟨c100, H101⟩
                    · obtain ⟨x7, b102, H103⟩ := bind_inv H101
                      obtain ⟨h104, h105⟩ := idx_inv b102
                      try simp only [Int.reduceToNat, Int.toNat_natCast] at h105
                      have h106 := map_at eS h105
                      obtain ⟨x8, b108, H109⟩ := bind_inv H103
                      obtain ⟨h110, h111⟩ := idx_inv b108
                      try simp only [Int.reduceToNat, Int.toNat_natCast] at h111
                      have h112 := map_at eS h111
                      try simp -implicitDefEqProofs only [go_sem, Nat.reduceEqDiff, Nat.reduceAdd, ↓reduceIte, c100, nat_of .i64 h104, h106, nat_of .i64 h110, h112]
                      refine Rd_endF (by rfl) ?_
                      try simp -implicitDefEqProofs only [go_sem]
                      obtain rfl := Option.some.inj H109
                      exact ⟨⟨⟨(t52, (Op.bytesLess x7.toList x8.toList)), rfl⟩, g2⟩, ren_mk [(0, 0)] (by rfl) (rf_upd (by rfl) (rf_upd (by rfl) (rf_upd (ren_acc (by rfl)) (rf_upd (by rfl) (rf_upd (by rfl) (rf_upd (by rfl) (rf_no _))))))) (rh_upd (rh_acc (by rfl) (by rfl)) (rh_no _))⟩
                    · try simp -implicitDefEqProofs only [go_sem, Nat.reduceEqDiff, Nat.reduceAdd, ↓reduceIte, c100]
                      refine Rd_endF (by rfl) ?_
                      try simp -implicitDefEqProofs only [go_sem]
                      obtain rfl := Option.some.inj H101
                      exact ⟨⟨⟨(t52, false), rfl⟩, g2⟩, ren_mk [(0, 0)] (by rfl) (rf_upd (by rfl) (rf_upd (by rfl) (rf_upd (ren_acc (by rfl)) (rf_upd (by rfl) (rf_upd (by rfl) (rf_upd (by rfl) (rf_no _))))))) (rh_upd (rh_acc (by rfl) (by rfl)) (rh_no _))⟩
                · rintro ⟨⟨⟨t53, t382⟩, he168⟩, g3⟩
                  replace he168 := he168.symm
                  subst he168
                  try dsimp only at H97
                  refine runR_take tab_ok fol 3 ?_
                  try simp -implicitDefEqProofs only [go_sem, Nat.reduceEqDiff, ↓reduceIte]
                  rcases ite_inv H97 with ⟨c114, H115⟩ | ⟨c114, H115⟩
                  · obtain ⟨x9, b116, H117⟩ := bind_inv H115
                    obtain ⟨h118, h119⟩ := idx_inv b116
                    try simp only [Int.reduceToNat, Int.toNat_natCast] at h119
                    have h120 := map_at eS h119
                    obtain ⟨l4, b122, H123⟩ := bind_inv H117
                    obtain ⟨h124, h125⟩ := app_inv b122
                    have h124 : t53.length + 1 ≤ 4294967296 := h124
                    have h126 : List.map eS t53 ++ [[.v (.string x9)]] = List.map eS l4 := app_map eS h125
                    have h127 : t53.length + 1 = l4.length := app_len h125
                    have h128 : l4.length ≤ 4294967296 := by omega
                    have q129 : 0 < l4.length := by omega
                    try simp -implicitDefEqProofs only [go_sem, Nat.reduceLT, Nat.reduceEqDiff, Nat.reduceAdd, Nat.reduceLeDiff, reduceCtorEq, ↓reduceIte, c114, nat_of .i64 h118, h120, h126, h127, h128]
                    rcases t53 with _ | ⟨q0, q1⟩
                    · try simp only [List.map_nil, accI, accN]
                      exact ⟨⟨((c, (l4, (IntKind.i64.wrap (t6 + 1)), t7)), 0), H123⟩, ren_mk [(0, 7)] (by rfl) (rf_upd (by rfl) (rf_upd (by rfl) (rf_upd (ren_accP (by rfl) q129) (rf_upd (by rfl) (rf_upd (by rfl) (rf_no _)))))) (rh_upd (rh_accP (by rfl) q129 (by rfl)) (rh_no _)), Nat.lt_succ_self _⟩
                    · try simp only [List.map_cons, accI, accN]
                      exact ⟨⟨((c, (l4, (IntKind.i64.wrap (t6 + 1)), t7)), (g3 + 1)), H123⟩, ren_mk [(0, 0)] (by rfl) (rf_upd (by rfl) (rf_upd (by rfl) (rf_upd (ren_accP (by rfl) q129) (rf_upd (by rfl) (rf_upd (by rfl) (rf_no _)))))) (rh_upd (rh_accP (by rfl) q129 (by rfl)) (rh_no _)), Nat.lt_succ_self _⟩
                  · try simp -implicitDefEqProofs only [go_sem, Nat.reduceEqDiff, Nat.reduceAdd, ↓reduceIte, c114]
                    rcases ite_inv H115 with ⟨c130, H131⟩ | ⟨c130, H131⟩
                    · try simp -implicitDefEqProofs only [go_sem, Nat.reduceEqDiff, Nat.reduceAdd, ↓reduceIte, c130]
                      refine Rd_endF (by rfl) ?_
                      obtain ⟨x10, b132, H133⟩ := bind_inv H131
                      obtain ⟨h134, h135⟩ := idx_inv b132
                      try simp only [Int.reduceToNat, Int.toNat_natCast] at h135
                      have h136 := map_at eS h135
                      obtain ⟨l5, b138, H139⟩ := bind_inv H133
                      obtain ⟨h140, h141⟩ := app_inv b138
                      have h140 : t53.length + 1 ≤ 4294967296 := h140
                      have h142 : List.map eS t53 ++ [[.v (.string x10)]] = List.map eS l5 := app_map eS h141
                      have h143 : t53.length + 1 = l5.length := app_len h141
                      have h144 : l5.length ≤ 4294967296 := by omega
                      have q145 : 0 < l5.length := by omega
                      try simp -implicitDefEqProofs only [go_sem, Nat.reduceLT, Nat.reduceEqDiff, Nat.reduceAdd, Nat.reduceLeDiff, reduceCtorEq, ↓reduceIte, nat_of .i64 h134, h136, h142, h143, h144]
                      rcases t53 with _ | ⟨q0, q1⟩
                      · try simp only [List.map_nil, accI, accN]
                        exact ⟨⟨((c, (l5, t6, (IntKind.i64.wrap (t7 + 1)))), 0), H139⟩, ren_mk [(0, 23)] (by rfl) (rf_upd (by rfl) (rf_upd (by rfl) (rf_upd (ren_accP (by rfl) q145) (rf_upd (by rfl) (rf_upd (by rfl) (rf_no _)))))) (rh_upd (rh_accP (by rfl) q145 (by rfl)) (rh_no _)), Nat.lt_succ_self _⟩
                      · try simp only [List.map_cons, accI, accN]
                        exact ⟨⟨((c, (l5, t6, (IntKind.i64.wrap (t7 + 1)))), (g3 + 1)), H139⟩, ren_mk [(0, 0)] (by rfl) (rf_upd (by rfl) (rf_upd (by rfl) (rf_upd (ren_accP (by rfl) q145) (rf_upd (by rfl) (rf_upd (by rfl) (rf_no _)))))) (rh_upd (rh_accP (by rfl) q145 (by rfl)) (rh_no _)), Nat.lt_succ_self _⟩
                    · obtain ⟨x11, b146, H147⟩ := bind_inv H131
                      obtain ⟨h148, h149⟩ := idx_inv b146
                      try simp only [Int.reduceToNat, Int.toNat_natCast] at h149
                      have h150 := map_at eS h149
                      obtain ⟨x12, b152, H153⟩ := bind_inv H147
                      obtain ⟨h154, h155⟩ := idx_inv b152
                      try simp only [Int.reduceToNat, Int.toNat_natCast] at h155
                      have h156 := map_at eS h155
                      try simp -implicitDefEqProofs only [go_sem, Nat.reduceEqDiff, Nat.reduceAdd, ↓reduceIte, c130, nat_of .i64 h148, h150, nat_of .i64 h154, h156]
                      refine Rd_endF (by rfl) ?_
                      try simp -implicitDefEqProofs only [go_sem, ↓reduceIte]
                      rcases ite_inv H153 with ⟨c158, H159⟩ | ⟨c158, H159⟩
                      · obtain ⟨l6, b160, H161⟩ := bind_inv H159
                        obtain ⟨h162, h163⟩ := app_inv b160
                        have h162 : t53.length + 1 ≤ 4294967296 := h162
                        have h164 : List.map eS t53 ++ [[.v (.string x11)]] = List.map eS l6 := app_map eS h163
                        have h165 : t53.length + 1 = l6.length := app_len h163
                        have h166 : l6.length ≤ 4294967296 := by omega
                        have q167 : 0 < l6.length := by omega
                        try simp -implicitDefEqProofs only [go_sem, Nat.reduceLT, Nat.reduceEqDiff, Nat.reduceAdd, Nat.reduceLeDiff, reduceCtorEq, ↓reduceIte, nat_of .i64 h148, h150, c158, h164, h165, h166]
                        rcases t53 with _ | ⟨q0, q1⟩
                        · try simp only [List.map_nil, accI, accN]
                          exact ⟨⟨((c, (l6, t6, (IntKind.i64.wrap (t7 + 1)))), 0), H161⟩, ren_mk [(0, 23)] (by rfl) (rf_upd (by rfl) (rf_upd (by rfl) (rf_upd (ren_accP (by rfl) q167) (rf_upd (by rfl) (rf_upd (by rfl) (rf_no _)))))) (rh_upd (rh_accP (by rfl) q167 (by rfl)) (rh_no _)), Nat.lt_succ_self _⟩
                        · try simp only [List.map_cons, accI, accN]
                          exact ⟨⟨((c, (l6, t6, (IntKind.i64.wrap (t7 + 1)))), (g3 + 1)), H161⟩, ren_mk [(0, 0)] (by rfl) (rf_upd (by rfl) (rf_upd (by rfl) (rf_upd (ren_accP (by rfl) q167) (rf_upd (by rfl) (rf_upd (by rfl) (rf_no _)))))) (rh_upd (rh_accP (by rfl) q167 (by rfl)) (rh_no _)), Nat.lt_succ_self _⟩
                      · try simp -implicitDefEqProofs only [go_sem, Nat.reduceEqDiff, Nat.reduceAdd, ↓reduceIte, c158]
                        exact ⟨⟨((c, (t53, (IntKind.i64.wrap (t6 + 1)), t7)), g3), H159⟩, ren_mk [(0, 0)] (by rfl) (rf_upd (by rfl) (rf_upd (by rfl) (rf_upd (ren_acc (by rfl)) (rf_upd (by rfl) (rf_upd (by rfl) (rf_no _)))))) (rh_upd (rh_acc (by rfl) (by rfl)) (rh_no _)), Nat.lt_succ_self _⟩
              · try simp -implicitDefEqProofs only [go_sem, ↓reduceIte, c94]
                obtain rfl := Option.some.inj H95
                exact ⟨⟨⟨t52, rfl⟩, g2⟩, ren_mk [(0, 0)] (by rfl) (rf_upd (ren_acc (by rfl)) (rf_no _)) (rh_upd (rh_acc (by rfl) (by rfl)) (rh_no _))⟩
      · rintro ⟨⟨t55, he170⟩, g5⟩
        replace he170 := he170.symm
        subst he170
        try dsimp only at H32
        refine runR_take tab_ok fol 1 ?_
        try simp -implicitDefEqProofs only [go_sem, Nat.reduceAdd, ↓reduceIte]
        obtain rfl := Option.some.inj H32
        exact end_pure (by first | (simp -implicitDefEqProofs only [go_sem, ↓reduceIte, Try.f25] <;> rfl) | rfl) (by first | rfl | (simp -implicitDefEqProofs only [go_sem, ↓reduceIte]; done) | (simp -implicitDefEqProofs only [go_sem, ↓reduceIte]; rfl)) rfl (by intro h; first | rfl | cases h)
def ref22_matches_L1 (n : Nat) (l : List ByteArray) (name : ByteArray) : Nat → Int → Option ((Unit) ⊕ Bool)
  | 0, _ => none
  | c + 1, i =>
    (if (decide (i < (l.length : Int))) then
      (idx l i).bind fun x2 =>
      (ref22_Match n x2 name).bind fun t172 =>
      (if t172 then
        some (.inr true)
      else
        ref22_matches_L1 n l name c (IntKind.i64.wrap (i + 1)))
    else
      some (.inl ()))
def ref22_matches_L1_f (n : Nat) (_ : List ByteArray) (name : ByteArray) (st : Unit) (x2 : ByteArray) (k : Unit → Option ((Unit) ⊕ Bool)) : Option ((Unit) ⊕ Bool) :=
  match st with
  | _ =>
    (ref22_Match n x2 name).bind fun t172 =>
    (if t172 then
      some (.inr true)
    else
      k ())
def ref22_matches_L1_e (_ : Nat) (_ : List ByteArray) (_ : ByteArray) (st : Unit) : Option ((Unit) ⊕ Bool) :=
  match st with
  | _ => some (.inl ())
theorem ref22_matches_L1_list (n : Nat) (l : List ByteArray) (name : ByteArray) (hx : l.length < 4611686018427387904) (c : Nat) (st : Unit) (ix : Nat) (hi : ix ≤ l.length) (hc : l.length - ix < c) : ref22_matches_L1 n l name c (match st, (ix : Int) with | _, ix => ix) = foldK (ref22_matches_L1_f n l name) (ref22_matches_L1_e n l name) (l.drop ix) st :=
  loop_list (fun c st ix => ref22_matches_L1 n l name c (match st, ix with | _, ix => ix)) l (ref22_matches_L1_f n l name) (ref22_matches_L1_e n l name) (fun _ _ _ => rfl) hx c st ix hi hc

def ref22_matches (n : Nat) (l : List ByteArray) (name : ByteArray) : Option Bool :=
  (
    ref22_matches_L1 n l name n 0 : Option ((Unit) ⊕ Bool)).bind fun
    | .inl _ =>
      some false
    | .inr r => some r
theorem ref22_matches_ok {n : Nat} {l : List ByteArray} {name : ByteArray} {r : Bool} (H : ref22_matches n l name = some r) : PureOK Try.prog 50 [D.sl (List.map eS l), D.v (.string name)] (D.v (.bool r)) true := by
  unfold ref22_matches at H
  refine pure_runR (tab := tab) tab_ok Try.func50 rfl (by kernel_rfl) (by kernel_rfl) (by simp [Try.f50]) ?_
  refine runR_seq ?_
  refine runR_take tab_ok fol 1 ?_
  try simp -implicitDefEqProofs only [go_sem]
  refine runR_seq ?_
  refine runR_seq ?_
  refine runR_take tab_ok fol 1 ?_
  try simp -implicitDefEqProofs only [go_sem, Nat.reduceAdd]
  obtain ⟨e_, E1, H2⟩ := bind_inv H
  refine runR_join (α := { y : Unit // e_ = .inl y }) (fun | ⟨_, _⟩ => ⟨noFr, noHp, 0⟩) ?_ ?_
  · refine runR_block ?_
    refine runR_loop (α := { q : Nat × Int // ref22_matches_L1 n l name q.1 q.2 = some e_ }) (fun | ⟨⟨c, i⟩, _⟩ => ⟨upd 0 (.d (.sl (List.map eS l)) true) (upd 1 (.v (.string name)) (upd 5 (.v (.int .i64 i)) noFr)), noHp, 0⟩) (fun q => q.1.1) ⟨(n, 0), E1⟩ ?_ ?_
    · exact ren_mk [] (by rfl) (rf_upd (by rfl) (rf_upd (by rfl) (rf_upd (by rfl) (rf_no _)))) (rh_no _)
    · rintro ⟨⟨c, i⟩, L3⟩
      rcases c with _ | c
      · exact nomatch (show none = some _ from L3)
      · unfold ref22_matches_L1 at L3
        try dsimp only at L3
        refine runR_take tab_ok fol 1 ?_
        try simp -implicitDefEqProofs only [go_sem, Nat.reduceEqDiff, Nat.reduceAdd, reduceCtorEq, ↓reduceIte]
        rcases ite_inv L3 with ⟨c16, H17⟩ | ⟨c16, H17⟩
        · obtain ⟨x2, b18, H19⟩ := bind_inv H17
          obtain ⟨h20, h21⟩ := idx_inv b18
          try simp only [Int.reduceToNat, Int.toNat_natCast] at h21
          have h22 := map_at eS h21
          obtain ⟨t172, b24, H25⟩ := bind_inv H19
          try simp -implicitDefEqProofs only [go_sem, Nat.reduceEqDiff, Nat.reduceAdd, reduceCtorEq, ↓reduceIte, c16, nat_of .i64 h20, h22]
          refine onCall_pure (by first | rfl | (simp -implicitDefEqProofs only [go_sem, Int.reduceToNat, Int.reduceLT, Int.reduceLE, Int.reduceBEq, Int.reduceBNe, Nat.reduceLT, Nat.reduceBEq, Int.reduceEq, Nat.reduceEqDiff, Nat.reduceAdd, Nat.reduceSub, Nat.reduceMul, Nat.reduceLeDiff, reduceCtorEq, ↓reduceIte, eGPolicy, eGGroup, eGBound, eGStmt, eGAsk, c16, nat_of .i64 h20, h22]; done) | (simp -implicitDefEqProofs only [go_sem, Int.reduceToNat, Int.reduceLT, Int.reduceLE, Int.reduceBEq, Int.reduceBNe, Nat.reduceLT, Nat.reduceBEq, Int.reduceEq, Nat.reduceEqDiff, Nat.reduceAdd, Nat.reduceSub, Nat.reduceMul, Nat.reduceLeDiff, reduceCtorEq, ↓reduceIte, eGPolicy, eGGroup, eGBound, eGStmt, eGAsk, c16, nat_of .i64 h20, h22]; rfl)) (ref22_Match_ok b24) (by first | exact .inr rfl | exact .inl rfl) ?_
          try simp -implicitDefEqProofs only [go_sem, ↓reduceIte]
          rcases ite_inv H25 with ⟨c26, H27⟩ | ⟨c26, H27⟩
          · try simp -implicitDefEqProofs only [go_sem, Nat.reduceAdd, c26]
            obtain rfl := Option.some.inj H27
            obtain rfl := Option.some.inj H2
            exact end_pure (by first | (simp -implicitDefEqProofs only [go_sem, ↓reduceIte, Try.f50] <;> rfl) | rfl) (by first | rfl | (simp -implicitDefEqProofs only [go_sem, Int.reduceToNat, Int.reduceLT, Int.reduceLE, Int.reduceBEq, Int.reduceBNe, Nat.reduceLT, Nat.reduceBEq, Int.reduceEq, Nat.reduceEqDiff, Nat.reduceAdd, Nat.reduceSub, Nat.reduceMul, Nat.reduceLeDiff, reduceCtorEq, ↓reduceIte, eGPolicy, eGGroup, eGBound, eGStmt, eGAsk, c16, nat_of .i64 h20, h22, c26]; done) | (simp -implicitDefEqProofs only [go_sem, Int.reduceToNat, Int.reduceLT, Int.reduceLE, Int.reduceBEq, Int.reduceBNe, Nat.reduceLT, Nat.reduceBEq, Int.reduceEq, Nat.reduceEqDiff, Nat.reduceAdd, Nat.reduceSub, Nat.reduceMul, Nat.reduceLeDiff, reduceCtorEq, ↓reduceIte, eGPolicy, eGGroup, eGBound, eGStmt, eGAsk, c16, nat_of .i64 h20, h22, c26]; rfl)) rfl (by intro h; first | rfl | cases h)
          · try simp -implicitDefEqProofs only [go_sem, Nat.reduceEqDiff, Nat.reduceAdd, reduceCtorEq, ↓reduceIte, c26]
            exact ⟨⟨(c, (IntKind.i64.wrap (i + 1))), H27⟩, ren_mk [] (by rfl) (rf_upd (by rfl) (rf_upd (by rfl) (rf_upd (by rfl) (rf_no _)))) (rh_no _), Nat.lt_succ_self _⟩
        · try simp -implicitDefEqProofs only [go_sem, ↓reduceIte, c16]
          obtain rfl := Option.some.inj H17
          exact ⟨⟨(), rfl⟩, ren_mk [] (by rfl) (rf_no _) (rh_no _)⟩
  · rintro ⟨_, he28⟩
    replace he28 := he28.symm
    subst he28
    try dsimp only at H2
    refine runR_take tab_ok fol 1 ?_
    try simp -implicitDefEqProofs only [go_sem]
    obtain rfl := Option.some.inj H2
    exact end_pure (by first | (simp -implicitDefEqProofs only [go_sem, ↓reduceIte, Try.f50] <;> rfl) | rfl) (by first | rfl | (simp -implicitDefEqProofs only [go_sem, Int.reduceToNat, Int.reduceLT, Int.reduceLE, Int.reduceBEq, Int.reduceBNe, Nat.reduceLT, Nat.reduceBEq, Int.reduceEq, Nat.reduceEqDiff, Nat.reduceAdd, Nat.reduceSub, Nat.reduceMul, Nat.reduceLeDiff, reduceCtorEq, ↓reduceIte, eGPolicy, eGGroup, eGBound, eGStmt, eGAsk]; done) | (simp -implicitDefEqProofs only [go_sem, Int.reduceToNat, Int.reduceLT, Int.reduceLE, Int.reduceBEq, Int.reduceBNe, Nat.reduceLT, Nat.reduceBEq, Int.reduceEq, Nat.reduceEqDiff, Nat.reduceAdd, Nat.reduceSub, Nat.reduceMul, Nat.reduceLeDiff, reduceCtorEq, ↓reduceIte, eGPolicy, eGGroup, eGBound, eGStmt, eGAsk]; rfl)) rfl (by intro h; first | rfl | cases h)
def ref22_Over_L1 (n : Nat) (l : List ByteArray) (names : List ByteArray) : Nat → (List ByteArray × Int) → Option (List ByteArray)
  | 0, _ => none
  | c + 1, (out, i) =>
    (if (decide (i < (names.length : Int))) then
      (idx names i).bind fun x2 =>
      (ref22_matches n l x2).bind fun t182 =>
      (if t182 then
        (app out [x2]).bind fun l2 =>
        ref22_Over_L1 n l names c (l2, (IntKind.i64.wrap (i + 1)))
      else
        ref22_Over_L1 n l names c (out, (IntKind.i64.wrap (i + 1))))
    else
      some out)
def ref22_Over_L1_f (n : Nat) (l : List ByteArray) (_ : List ByteArray) (st : List ByteArray) (x2 : ByteArray) (k : List ByteArray → Option (List ByteArray)) : Option (List ByteArray) :=
  match st with
  | out =>
    (ref22_matches n l x2).bind fun t182 =>
    (if t182 then
      (app out [x2]).bind fun l2 =>
      k l2
    else
      k out)
def ref22_Over_L1_e (_ : Nat) (_ : List ByteArray) (_ : List ByteArray) (st : List ByteArray) : Option (List ByteArray) :=
  match st with
  | out => some out
theorem ref22_Over_L1_list (n : Nat) (l : List ByteArray) (names : List ByteArray) (hx : names.length < 4611686018427387904) (c : Nat) (st : List ByteArray) (ix : Nat) (hi : ix ≤ names.length) (hc : names.length - ix < c) : ref22_Over_L1 n l names c (match st, (ix : Int) with | out, ix => (out, ix)) = foldK (ref22_Over_L1_f n l names) (ref22_Over_L1_e n l names) (names.drop ix) st :=
  loop_list (fun c st ix => ref22_Over_L1 n l names c (match st, ix with | out, ix => (out, ix))) names (ref22_Over_L1_f n l names) (ref22_Over_L1_e n l names) (fun _ _ _ => rfl) hx c st ix hi hc

def ref22_Over (n : Nat) (l : List ByteArray) (names : List ByteArray) : Option (List ByteArray) :=
  (
    ref22_Over_L1 n l names n ([], 0) : Option (List ByteArray)).bind fun out3 =>
  (ref1_Texts n out3).bind fun t27 =>
  some t27
theorem ref22_Over_ok {n : Nat} {l : List ByteArray} {names : List ByteArray} {r : List ByteArray} (H : ref22_Over n l names = some r) : PureOK Try.prog 21 [D.sl (List.map eS l), D.sl (List.map eS names)] (D.sl (List.map eS r)) true := by
  unfold ref22_Over at H
  refine pure_runR (tab := tab) tab_ok Try.func21 rfl (by kernel_rfl) (by kernel_rfl) (by simp [Try.f21]) ?_
  refine runR_seq ?_
  refine runR_take tab_ok fol 1 ?_
  try simp -implicitDefEqProofs only [go_sem]
  refine runR_seq ?_
  refine runR_take tab_ok fol 1 ?_
  try simp -implicitDefEqProofs only [go_sem, Nat.reduceAdd]
  refine runR_seq ?_
  refine runR_seq ?_
  refine runR_take tab_ok fol 1 ?_
  try simp -implicitDefEqProofs only [go_sem, Nat.reduceAdd]
  obtain ⟨e_, E1, H2⟩ := bind_inv H
  refine runR_join (α := { y : List ByteArray // e_ = y } × Nat) (fun | ⟨⟨out3, _⟩, g3⟩ => ⟨upd 5 (accV 0 g3 (List.map eS out3)) noFr, upd 0 (accO 1 g3 false (List.map eS out3)) noHp, 1⟩) ?_ ?_
  · refine runR_block ?_
    refine runR_loop (α := { q : (Nat × (List ByteArray × Int)) × Nat // ref22_Over_L1 n l names q.1.1 q.1.2 = some e_ }) (fun | ⟨⟨⟨c, ⟨out, i⟩⟩, g⟩, _⟩ => ⟨upd 0 (.d (.sl (List.map eS l)) true) (upd 1 (.d (.sl (List.map eS names)) true) (upd 5 (accV 0 g (List.map eS out)) (upd 6 (.v (.int .i64 i)) noFr))), upd 0 (accO 1 g false (List.map eS out)) noHp, 1⟩) (fun q => q.1.1.1) ⟨((n, ([], 0)), 0), E1⟩ ?_ ?_
    · exact ren_mk [] (by rfl) (rf_upd (by rfl) (rf_upd (by rfl) (rf_upd (by rfl) (rf_upd (by rfl) (rf_no _))))) (rh_upd rh_accN (rh_no _))
    · rintro ⟨⟨⟨c, ⟨out, i⟩⟩, g⟩, L3⟩
      rcases c with _ | c
      · exact nomatch (show none = some _ from L3)
      · unfold ref22_Over_L1 at L3
        try dsimp only at L3
        refine runR_take tab_ok fol 1 ?_
        try simp -implicitDefEqProofs only [go_sem, Nat.reduceEqDiff, Nat.reduceAdd, reduceCtorEq, ↓reduceIte]
        rcases ite_inv L3 with ⟨c16, H17⟩ | ⟨c16, H17⟩
        · obtain ⟨x2, b18, H19⟩ := bind_inv H17
          obtain ⟨h20, h21⟩ := idx_inv b18
          try simp only [Int.reduceToNat, Int.toNat_natCast] at h21
          have h22 := map_at eS h21
          obtain ⟨t182, b24, H25⟩ := bind_inv H19
          try simp -implicitDefEqProofs only [go_sem, Nat.reduceEqDiff, Nat.reduceAdd, reduceCtorEq, ↓reduceIte, c16, nat_of .i64 h20, h22]
          refine onCall_pure (by first | rfl | (simp -implicitDefEqProofs only [go_sem, Int.reduceToNat, Int.reduceLT, Int.reduceLE, Int.reduceBEq, Int.reduceBNe, Nat.reduceLT, Nat.reduceBEq, Int.reduceEq, Nat.reduceEqDiff, Nat.reduceAdd, Nat.reduceSub, Nat.reduceMul, Nat.reduceLeDiff, reduceCtorEq, ↓reduceIte, eGPolicy, eGGroup, eGBound, eGStmt, eGAsk, c16, nat_of .i64 h20, h22]; done) | (simp -implicitDefEqProofs only [go_sem, Int.reduceToNat, Int.reduceLT, Int.reduceLE, Int.reduceBEq, Int.reduceBNe, Nat.reduceLT, Nat.reduceBEq, Int.reduceEq, Nat.reduceEqDiff, Nat.reduceAdd, Nat.reduceSub, Nat.reduceMul, Nat.reduceLeDiff, reduceCtorEq, ↓reduceIte, eGPolicy, eGGroup, eGBound, eGStmt, eGAsk, c16, nat_of .i64 h20, h22]; rfl)) (ref22_matches_ok b24) (by first | exact .inr rfl | exact .inl rfl) ?_
          try simp -implicitDefEqProofs only [go_sem, ↓reduceIte]
          rcases ite_inv H25 with ⟨c26, H27⟩ | ⟨c26, H27⟩
          · obtain ⟨l2, b28, H29⟩ := bind_inv H27
            obtain ⟨h30, h31⟩ := app_inv b28
            have h30 : out.length + 1 ≤ 4294967296 := h30
            have h32 : List.map eS out ++ [[.v (.string x2)]] = List.map eS l2 := app_map eS h31
            have h33 : out.length + 1 = l2.length := app_len h31
            have h34 : l2.length ≤ 4294967296 := by omega
            have q35 : 0 < l2.length := by omega
            try simp -implicitDefEqProofs only [go_sem, Nat.reduceLT, Nat.reduceEqDiff, Nat.reduceAdd, Nat.reduceLeDiff, reduceCtorEq, ↓reduceIte, nat_of .i64 h20, h22, c26, h32, h33, h34]
            rcases out with _ | ⟨q0, q1⟩
            · try simp only [List.map_nil, accI, accN]
              exact ⟨⟨((c, (l2, (IntKind.i64.wrap (i + 1)))), 0), H29⟩, ren_mk [(0, 17)] (by rfl) (rf_upd (by rfl) (rf_upd (by rfl) (rf_upd (ren_accP (by rfl) q35) (rf_upd (by rfl) (rf_no _))))) (rh_upd (rh_accP (by rfl) q35 (by rfl)) (rh_no _)), Nat.lt_succ_self _⟩
            · try simp only [List.map_cons, accI, accN]
              exact ⟨⟨((c, (l2, (IntKind.i64.wrap (i + 1)))), (g + 1)), H29⟩, ren_mk [(0, 0)] (by rfl) (rf_upd (by rfl) (rf_upd (by rfl) (rf_upd (ren_accP (by rfl) q35) (rf_upd (by rfl) (rf_no _))))) (rh_upd (rh_accP (by rfl) q35 (by rfl)) (rh_no _)), Nat.lt_succ_self _⟩
          · try simp -implicitDefEqProofs only [go_sem, Nat.reduceEqDiff, Nat.reduceAdd, reduceCtorEq, ↓reduceIte, c26]
            exact ⟨⟨((c, (out, (IntKind.i64.wrap (i + 1)))), g), H27⟩, ren_mk [(0, 0)] (by rfl) (rf_upd (by rfl) (rf_upd (by rfl) (rf_upd (ren_acc (by rfl)) (rf_upd (by rfl) (rf_no _))))) (rh_upd (rh_acc (by rfl) (by rfl)) (rh_no _)), Nat.lt_succ_self _⟩
        · try simp -implicitDefEqProofs only [go_sem, ↓reduceIte, c16]
          obtain rfl := Option.some.inj H17
          exact ⟨⟨⟨out, rfl⟩, g⟩, ren_mk [(0, 0)] (by rfl) (rf_upd (ren_acc (by rfl)) (rf_no _)) (rh_upd (rh_acc (by rfl) (by rfl)) (rh_no _))⟩
  · rintro ⟨⟨out3, he38⟩, g3⟩
    replace he38 := he38.symm
    subst he38
    try dsimp only at H2
    refine runR_take tab_ok fol 1 ?_
    obtain ⟨t27, b36, H37⟩ := bind_inv H2
    try simp -implicitDefEqProofs only [go_sem, Nat.reduceAdd, ↓reduceIte]
    refine onCall_pure (by first | rfl | (simp -implicitDefEqProofs only [go_sem, ↓reduceIte]; done) | (simp -implicitDefEqProofs only [go_sem, ↓reduceIte]; rfl)) (ref1_Texts_ok b36) (by first | exact .inr rfl | exact .inl rfl) ?_
    try simp -implicitDefEqProofs only [go_sem, Nat.reduceAdd, ↓reduceIte]
    obtain rfl := Option.some.inj H37
    exact end_pure (by first | (simp -implicitDefEqProofs only [go_sem, ↓reduceIte, Try.f21] <;> rfl) | rfl) (by first | rfl | (simp -implicitDefEqProofs only [go_sem, Int.reduceToNat, Int.reduceLT, Int.reduceLE, Int.reduceBEq, Int.reduceBNe, Nat.reduceLT, Nat.reduceBEq, Int.reduceEq, Nat.reduceEqDiff, Nat.reduceAdd, Nat.reduceSub, Nat.reduceMul, Nat.reduceLeDiff, reduceCtorEq, ↓reduceIte, eGPolicy, eGGroup, eGBound, eGStmt, eGAsk]; done) | (simp -implicitDefEqProofs only [go_sem, Int.reduceToNat, Int.reduceLT, Int.reduceLE, Int.reduceBEq, Int.reduceBNe, Nat.reduceLT, Nat.reduceBEq, Int.reduceEq, Nat.reduceEqDiff, Nat.reduceAdd, Nat.reduceSub, Nat.reduceMul, Nat.reduceLeDiff, reduceCtorEq, ↓reduceIte, eGPolicy, eGGroup, eGBound, eGStmt, eGAsk]; rfl)) rfl (by intro h; first | rfl | cases h)
def ref22_In_L1 (n : Nat) (l : List ByteArray) (s : ByteArray) : Nat → Int → Option ((Unit) ⊕ Bool)
  | 0, _ => none
  | c + 1, i =>
    (if (decide (i < (l.length : Int))) then
      (idx l i).bind fun x2 =>
      (if (x2.toList == s.toList) then
        some (.inr true)
      else
        ref22_In_L1 n l s c (IntKind.i64.wrap (i + 1)))
    else
      some (.inl ()))
def ref22_In_L1_f (_ : Nat) (_ : List ByteArray) (s : ByteArray) (st : Unit) (x2 : ByteArray) (k : Unit → Option ((Unit) ⊕ Bool)) : Option ((Unit) ⊕ Bool) :=
  match st with
  | _ =>
    (if (x2.toList == s.toList) then
      some (.inr true)
    else
      k ())
def ref22_In_L1_e (_ : Nat) (_ : List ByteArray) (_ : ByteArray) (st : Unit) : Option ((Unit) ⊕ Bool) :=
  match st with
  | _ => some (.inl ())
theorem ref22_In_L1_list (n : Nat) (l : List ByteArray) (s : ByteArray) (hx : l.length < 4611686018427387904) (c : Nat) (st : Unit) (ix : Nat) (hi : ix ≤ l.length) (hc : l.length - ix < c) : ref22_In_L1 n l s c (match st, (ix : Int) with | _, ix => ix) = foldK (ref22_In_L1_f n l s) (ref22_In_L1_e n l s) (l.drop ix) st :=
  loop_list (fun c st ix => ref22_In_L1 n l s c (match st, ix with | _, ix => ix)) l (ref22_In_L1_f n l s) (ref22_In_L1_e n l s) (fun _ _ _ => rfl) hx c st ix hi hc

def ref22_In (n : Nat) (l : List ByteArray) (s : ByteArray) : Option Bool :=
  (
    ref22_In_L1 n l s n 0 : Option ((Unit) ⊕ Bool)).bind fun
    | .inl _ =>
      some false
    | .inr r => some r
theorem ref22_In_ok {n : Nat} {l : List ByteArray} {s : ByteArray} {r : Bool} (H : ref22_In n l s = some r) : PureOK Try.prog 51 [D.sl (List.map eS l), D.v (.string s)] (D.v (.bool r)) true := by
  unfold ref22_In at H
  refine pure_runR (tab := tab) tab_ok Try.func51 rfl (by kernel_rfl) (by kernel_rfl) (by simp [Try.f51]) ?_
  refine runR_seq ?_
  refine runR_take tab_ok fol 1 ?_
  try simp -implicitDefEqProofs only [go_sem]
  refine runR_seq ?_
  refine runR_seq ?_
  refine runR_take tab_ok fol 1 ?_
  try simp -implicitDefEqProofs only [go_sem, Nat.reduceAdd]
  obtain ⟨e_, E1, H2⟩ := bind_inv H
  refine runR_join (α := { y : Unit // e_ = .inl y }) (fun | ⟨_, _⟩ => ⟨noFr, noHp, 0⟩) ?_ ?_
  · refine runR_block ?_
    refine runR_loop (α := { q : Nat × Int // ref22_In_L1 n l s q.1 q.2 = some e_ }) (fun | ⟨⟨c, i⟩, _⟩ => ⟨upd 0 (.d (.sl (List.map eS l)) true) (upd 1 (.v (.string s)) (upd 5 (.v (.int .i64 i)) noFr)), noHp, 0⟩) (fun q => q.1.1) ⟨(n, 0), E1⟩ ?_ ?_
    · exact ren_mk [] (by rfl) (rf_upd (by rfl) (rf_upd (by rfl) (rf_upd (by rfl) (rf_no _)))) (rh_no _)
    · rintro ⟨⟨c, i⟩, L3⟩
      rcases c with _ | c
      · exact nomatch (show none = some _ from L3)
      · unfold ref22_In_L1 at L3
        try dsimp only at L3
        refine runR_take tab_ok fol 1 ?_
        try simp -implicitDefEqProofs only [go_sem, Nat.reduceEqDiff, Nat.reduceAdd, reduceCtorEq, ↓reduceIte]
        rcases ite_inv L3 with ⟨c14, H15⟩ | ⟨c14, H15⟩
        · obtain ⟨x2, b16, H17⟩ := bind_inv H15
          obtain ⟨h18, h19⟩ := idx_inv b16
          try simp only [Int.reduceToNat, Int.toNat_natCast] at h19
          have h20 := map_at eS h19
          try simp -implicitDefEqProofs only [go_sem, Nat.reduceEqDiff, Nat.reduceAdd, reduceCtorEq, ↓reduceIte, c14, nat_of .i64 h18, h20]
          rcases ite_inv H17 with ⟨c22, H23⟩ | ⟨c22, H23⟩
          · try simp -implicitDefEqProofs only [go_sem, Nat.reduceAdd, c22]
            obtain rfl := Option.some.inj H23
            obtain rfl := Option.some.inj H2
            exact end_pure (by first | (simp -implicitDefEqProofs only [go_sem, ↓reduceIte, Try.f51] <;> rfl) | rfl) (by first | rfl | (simp -implicitDefEqProofs only [go_sem, Int.reduceToNat, Int.reduceLT, Int.reduceLE, Int.reduceBEq, Int.reduceBNe, Nat.reduceLT, Nat.reduceBEq, Int.reduceEq, Nat.reduceEqDiff, Nat.reduceAdd, Nat.reduceSub, Nat.reduceMul, Nat.reduceLeDiff, reduceCtorEq, ↓reduceIte, eGPolicy, eGGroup, eGBound, eGStmt, eGAsk, c14, nat_of .i64 h18, h20, c22]; done) | (simp -implicitDefEqProofs only [go_sem, Int.reduceToNat, Int.reduceLT, Int.reduceLE, Int.reduceBEq, Int.reduceBNe, Nat.reduceLT, Nat.reduceBEq, Int.reduceEq, Nat.reduceEqDiff, Nat.reduceAdd, Nat.reduceSub, Nat.reduceMul, Nat.reduceLeDiff, reduceCtorEq, ↓reduceIte, eGPolicy, eGGroup, eGBound, eGStmt, eGAsk, c14, nat_of .i64 h18, h20, c22]; rfl)) rfl (by intro h; first | rfl | cases h)
          · try simp -implicitDefEqProofs only [go_sem, Nat.reduceEqDiff, Nat.reduceAdd, reduceCtorEq, ↓reduceIte, c22]
            exact ⟨⟨(c, (IntKind.i64.wrap (i + 1))), H23⟩, ren_mk [] (by rfl) (rf_upd (by rfl) (rf_upd (by rfl) (rf_upd (by rfl) (rf_no _)))) (rh_no _), Nat.lt_succ_self _⟩
        · try simp -implicitDefEqProofs only [go_sem, ↓reduceIte, c14]
          obtain rfl := Option.some.inj H15
          exact ⟨⟨(), rfl⟩, ren_mk [] (by rfl) (rf_no _) (rh_no _)⟩
  · rintro ⟨_, he24⟩
    replace he24 := he24.symm
    subst he24
    try dsimp only at H2
    refine runR_take tab_ok fol 1 ?_
    try simp -implicitDefEqProofs only [go_sem]
    obtain rfl := Option.some.inj H2
    exact end_pure (by first | (simp -implicitDefEqProofs only [go_sem, ↓reduceIte, Try.f51] <;> rfl) | rfl) (by first | rfl | (simp -implicitDefEqProofs only [go_sem, Int.reduceToNat, Int.reduceLT, Int.reduceLE, Int.reduceBEq, Int.reduceBNe, Nat.reduceLT, Nat.reduceBEq, Int.reduceEq, Nat.reduceEqDiff, Nat.reduceAdd, Nat.reduceSub, Nat.reduceMul, Nat.reduceLeDiff, reduceCtorEq, ↓reduceIte, eGPolicy, eGGroup, eGBound, eGStmt, eGAsk]; done) | (simp -implicitDefEqProofs only [go_sem, Int.reduceToNat, Int.reduceLT, Int.reduceLE, Int.reduceBEq, Int.reduceBNe, Nat.reduceLT, Nat.reduceBEq, Int.reduceEq, Nat.reduceEqDiff, Nat.reduceAdd, Nat.reduceSub, Nat.reduceMul, Nat.reduceLeDiff, reduceCtorEq, ↓reduceIte, eGPolicy, eGGroup, eGBound, eGStmt, eGAsk]; rfl)) rfl (by intro h; first | rfl | cases h)
def ref22_Inside_L1 (n : Nat) (p : GPolicy) (user : ByteArray) (group : ByteArray) : Nat → Int → Option ((Unit) ⊕ Bool)
  | 0, _ => none
  | c + 1, i =>
    (if (decide (i < (p.groups.length : Int))) then
      (idx p.groups i).bind fun x2 =>
      (if (x2.name.toList == group.toList) then
        (ref22_In n x2.users user).bind fun t312 =>
        (if t312 then
          some (.inr true)
        else
          ref22_Inside_L1 n p user group c (IntKind.i64.wrap (i + 1)))
      else
        ref22_Inside_L1 n p user group c (IntKind.i64.wrap (i + 1)))
    else
      some (.inl ()))
def ref22_Inside_L1_f (n : Nat) (_ : GPolicy) (user : ByteArray) (group : ByteArray) (st : Unit) (x2 : GGroup) (k : Unit → Option ((Unit) ⊕ Bool)) : Option ((Unit) ⊕ Bool) :=
  match st with
  | _ =>
    (if (x2.name.toList == group.toList) then
      (ref22_In n x2.users user).bind fun t312 =>
      (if t312 then
        some (.inr true)
      else
        k ())
    else
      k ())
def ref22_Inside_L1_e (_ : Nat) (_ : GPolicy) (_ : ByteArray) (_ : ByteArray) (st : Unit) : Option ((Unit) ⊕ Bool) :=
  match st with
  | _ => some (.inl ())
theorem ref22_Inside_L1_list (n : Nat) (p : GPolicy) (user : ByteArray) (group : ByteArray) (hx : p.groups.length < 4611686018427387904) (c : Nat) (st : Unit) (ix : Nat) (hi : ix ≤ p.groups.length) (hc : p.groups.length - ix < c) : ref22_Inside_L1 n p user group c (match st, (ix : Int) with | _, ix => ix) = foldK (ref22_Inside_L1_f n p user group) (ref22_Inside_L1_e n p user group) (p.groups.drop ix) st :=
  loop_list (fun c st ix => ref22_Inside_L1 n p user group c (match st, ix with | _, ix => ix)) p.groups (ref22_Inside_L1_f n p user group) (ref22_Inside_L1_e n p user group) (fun _ _ _ => rfl) hx c st ix hi hc

def ref22_Inside (n : Nat) (p : GPolicy) (user : ByteArray) (group : ByteArray) : Option Bool :=
  (
    ref22_Inside_L1 n p user group n 0 : Option ((Unit) ⊕ Bool)).bind fun
    | .inl _ =>
      some false
    | .inr r => some r
theorem ref22_Inside_ok {n : Nat} {p : GPolicy} {user : ByteArray} {group : ByteArray} {r : Bool} (H : ref22_Inside n p user group = some r) : PureOK Try.prog 23 [D.ag (eGPolicy p), D.v (.string user), D.v (.string group)] (D.v (.bool r)) true := by
  unfold ref22_Inside at H
  refine pure_runR (tab := tab) tab_ok Try.func23 rfl (by kernel_rfl) (by kernel_rfl) (by simp [Try.f23]) ?_
  refine runR_seq ?_
  refine runR_take tab_ok fol 1 ?_
  try simp -implicitDefEqProofs only [go_sem, Nat.reduceAdd, eGPolicy]
  refine runR_seq ?_
  refine runR_seq ?_
  refine runR_take tab_ok fol 1 ?_
  try simp -implicitDefEqProofs only [go_sem, Nat.reduceAdd]
  obtain ⟨e_, E1, H2⟩ := bind_inv H
  refine runR_join (α := { y : Unit // e_ = .inl y }) (fun | ⟨_, _⟩ => ⟨noFr, noHp, 0⟩) ?_ ?_
  · refine runR_block ?_
    refine runR_loop (α := { q : Nat × Int // ref22_Inside_L1 n p user group q.1 q.2 = some e_ }) (fun | ⟨⟨c, i⟩, _⟩ => ⟨upd 1 (.v (.string user)) (upd 2 (.v (.string group)) (upd 3 (.pt 0 0) (upd 7 (.v (.int .i64 i)) noFr))), upd 0 (some (.bx [.d (.sl (List.map eS p.users)) true, .d (.sl (List.map eS p.actions)) true, .d (.sl (List.map eS p.resources)) true, .d (.sl (List.map eGGroup p.groups)) true, .d (.sl (List.map eGStmt p.stmts)) true, .d (.sl (List.map eGBound p.bounds)) true])) noHp, 1⟩) (fun q => q.1.1) ⟨(n, 0), E1⟩ ?_ ?_
    · exact ren_mk [(0, 0)] (by rfl) (rf_upd (by rfl) (rf_upd (by rfl) (rf_upd (by rfl) (rf_upd (by rfl) (rf_no _))))) (rh_upd (rh_one (by rfl) (by rfl) (by rfl)) (rh_no _))
    · rintro ⟨⟨c, i⟩, L3⟩
      rcases c with _ | c
      · exact nomatch (show none = some _ from L3)
      · unfold ref22_Inside_L1 at L3
        try dsimp only at L3
        refine runR_take tab_ok fol 1 ?_
        try simp -implicitDefEqProofs only [go_sem, Nat.reduceEqDiff, Nat.reduceAdd, reduceCtorEq, ↓reduceIte]
        rcases ite_inv L3 with ⟨c18, H19⟩ | ⟨c18, H19⟩
        · obtain ⟨x2, b20, H21⟩ := bind_inv H19
          obtain ⟨h22, h23⟩ := idx_inv b20
          try simp only [Int.reduceToNat, Int.toNat_natCast] at h23
          have h24 := map_at eGGroup h23
          try simp -implicitDefEqProofs only [go_sem, Nat.reduceEqDiff, Nat.reduceAdd, reduceCtorEq, ↓reduceIte, eGGroup, c18, nat_of .i64 h22, h24]
          rcases ite_inv H21 with ⟨c26, H27⟩ | ⟨c26, H27⟩
          · obtain ⟨t312, b28, H29⟩ := bind_inv H27
            try simp -implicitDefEqProofs only [go_sem, Nat.reduceEqDiff, Nat.reduceAdd, reduceCtorEq, ↓reduceIte, eGGroup, nat_of .i64 h22, h24, c26]
            refine onCall_pure (by first | rfl | (simp -implicitDefEqProofs only [go_sem, Int.reduceToNat, Int.reduceLT, Int.reduceLE, Int.reduceBEq, Int.reduceBNe, Nat.reduceLT, Nat.reduceBEq, Int.reduceEq, Nat.reduceEqDiff, Nat.reduceAdd, Nat.reduceSub, Nat.reduceMul, Nat.reduceLeDiff, reduceCtorEq, ↓reduceIte, eGPolicy, eGGroup, eGBound, eGStmt, eGAsk, c18, nat_of .i64 h22, h24, c26]; done) | (simp -implicitDefEqProofs only [go_sem, Int.reduceToNat, Int.reduceLT, Int.reduceLE, Int.reduceBEq, Int.reduceBNe, Nat.reduceLT, Nat.reduceBEq, Int.reduceEq, Nat.reduceEqDiff, Nat.reduceAdd, Nat.reduceSub, Nat.reduceMul, Nat.reduceLeDiff, reduceCtorEq, ↓reduceIte, eGPolicy, eGGroup, eGBound, eGStmt, eGAsk, c18, nat_of .i64 h22, h24, c26]; rfl)) (ref22_In_ok b28) (by first | exact .inr rfl | exact .inl rfl) ?_
            try simp -implicitDefEqProofs only [go_sem, Nat.reduceEqDiff, Nat.reduceAdd, ↓reduceIte]
            rcases ite_inv H29 with ⟨c30, H31⟩ | ⟨c30, H31⟩
            · try simp -implicitDefEqProofs only [go_sem, Nat.reduceAdd, c30]
              obtain rfl := Option.some.inj H31
              obtain rfl := Option.some.inj H2
              exact end_pure (by first | (simp -implicitDefEqProofs only [go_sem, ↓reduceIte, Try.f23] <;> rfl) | rfl) (by first | rfl | (simp -implicitDefEqProofs only [go_sem, Int.reduceToNat, Int.reduceLT, Int.reduceLE, Int.reduceBEq, Int.reduceBNe, Nat.reduceLT, Nat.reduceBEq, Int.reduceEq, Nat.reduceEqDiff, Nat.reduceAdd, Nat.reduceSub, Nat.reduceMul, Nat.reduceLeDiff, reduceCtorEq, ↓reduceIte, eGPolicy, eGGroup, eGBound, eGStmt, eGAsk, c18, nat_of .i64 h22, h24, c26, c30]; done) | (simp -implicitDefEqProofs only [go_sem, Int.reduceToNat, Int.reduceLT, Int.reduceLE, Int.reduceBEq, Int.reduceBNe, Nat.reduceLT, Nat.reduceBEq, Int.reduceEq, Nat.reduceEqDiff, Nat.reduceAdd, Nat.reduceSub, Nat.reduceMul, Nat.reduceLeDiff, reduceCtorEq, ↓reduceIte, eGPolicy, eGGroup, eGBound, eGStmt, eGAsk, c18, nat_of .i64 h22, h24, c26, c30]; rfl)) rfl (by intro h; first | rfl | cases h)
            · try simp -implicitDefEqProofs only [go_sem, Nat.reduceEqDiff, Nat.reduceAdd, ↓reduceIte, c30]
              exact ⟨⟨(c, (IntKind.i64.wrap (i + 1))), H31⟩, ren_mk [(0, 0)] (by rfl) (rf_upd (by rfl) (rf_upd (by rfl) (rf_upd (by rfl) (rf_upd (by rfl) (rf_no _))))) (rh_upd (rh_one (by rfl) (by rfl) (by rfl)) (rh_no _)), Nat.lt_succ_self _⟩
          · try simp -implicitDefEqProofs only [go_sem, Nat.reduceEqDiff, Nat.reduceAdd, ↓reduceIte, c26]
            exact ⟨⟨(c, (IntKind.i64.wrap (i + 1))), H27⟩, ren_mk [(0, 0)] (by rfl) (rf_upd (by rfl) (rf_upd (by rfl) (rf_upd (by rfl) (rf_upd (by rfl) (rf_no _))))) (rh_upd (rh_one (by rfl) (by rfl) (by rfl)) (rh_no _)), Nat.lt_succ_self _⟩
        · try simp -implicitDefEqProofs only [go_sem, ↓reduceIte, c18]
          obtain rfl := Option.some.inj H19
          exact ⟨⟨(), rfl⟩, ren_mk [] (by rfl) (rf_no _) (rh_no _)⟩
  · rintro ⟨_, he32⟩
    replace he32 := he32.symm
    subst he32
    try dsimp only at H2
    refine runR_take tab_ok fol 1 ?_
    try simp -implicitDefEqProofs only [go_sem]
    obtain rfl := Option.some.inj H2
    exact end_pure (by first | (simp -implicitDefEqProofs only [go_sem, ↓reduceIte, Try.f23] <;> rfl) | rfl) (by first | rfl | (simp -implicitDefEqProofs only [go_sem, Int.reduceToNat, Int.reduceLT, Int.reduceLE, Int.reduceBEq, Int.reduceBNe, Nat.reduceLT, Nat.reduceBEq, Int.reduceEq, Nat.reduceEqDiff, Nat.reduceAdd, Nat.reduceSub, Nat.reduceMul, Nat.reduceLeDiff, reduceCtorEq, ↓reduceIte, eGPolicy, eGGroup, eGBound, eGStmt, eGAsk]; done) | (simp -implicitDefEqProofs only [go_sem, Int.reduceToNat, Int.reduceLT, Int.reduceLE, Int.reduceBEq, Int.reduceBNe, Nat.reduceLT, Nat.reduceBEq, Int.reduceEq, Nat.reduceEqDiff, Nat.reduceAdd, Nat.reduceSub, Nat.reduceMul, Nat.reduceLeDiff, reduceCtorEq, ↓reduceIte, eGPolicy, eGGroup, eGBound, eGStmt, eGAsk]; rfl)) rfl (by intro h; first | rfl | cases h)
end Go.Proofs.Ytkkhgdmmbhpckaa.Ab
