/-
  Functions, read off the code.
-/
import Derived.Test.YtkkhgdmmbhpckaaLrs
import Derived.Test.YtkkhgdmmbhpckaaGna
import Derived.Test.YtkkhgdmmbhpckaaOnm
namespace Go.Proofs.Ytkkhgdmmbhpckaa.Ab
open Go.RowKit
def law23_Made_c1_L1 (n : Nat) (n_ : Int) (all_ : List ByteArray) : Nat → (List ByteArray × Int) → Option (List ByteArray)
  | 0, _ => none
  | c + 1, (out, i) =>
    (if (decide (i < (all_.length : Int))) then
      grd (decide (0 ≤ (IntKind.u64.wrap i))) <|
      (if ((IntKind.i64.wrap (an (sh n_ (Int.toNat (IntKind.u64.wrap i))) 1 : Int)) == 1) then
        (idx all_ i).bind fun x2 =>
        (app out [x2]).bind fun l =>
        law23_Made_c1_L1 n n_ all_ c (l, (IntKind.i64.wrap (i + 1)))
      else
        law23_Made_c1_L1 n n_ all_ c (out, (IntKind.i64.wrap (i + 1))))
    else
      some out)

def law23_Made_c1 (n : Nat) (n_ : Int) (all_ : List ByteArray) : Option (List ByteArray) :=
  (
    law23_Made_c1_L1 n n_ all_ n ([], 0) : Option (List ByteArray)).bind fun out3 =>
  some out3
theorem law23_Made_c1_ok {n : Nat} {n_ : Int} {all_ : List ByteArray} {r : List ByteArray} (H : law23_Made_c1 n n_ all_ = some r) : PureOK Try.prog 39 [D.v (.int .i64 n_), D.sl (List.map eS all_)] (D.sl (List.map eS r)) true := by
  unfold law23_Made_c1 at H
  refine pure_runR (tab := tab) tab_ok Try.func39 rfl (by kernel_rfl) (by kernel_rfl) (by simp [Try.f39]) ?_
  refine runR_seq ?_
  refine runR_take tab_ok fol 1 ?_
  try simp -implicitDefEqProofs only [go_sem]
  refine runR_seq ?_
  refine runR_take tab_ok fol 1 ?_
  try simp -implicitDefEqProofs only [go_sem, Nat.reduceAdd]
  refine runR_seq ?_
  refine runR_seq ?_
  refine runR_take tab_ok fol 1 ?_
  try simp -implicitDefEqProofs only [go_sem, Nat.reduceAdd]
  obtain ⟨e_, E1, H2⟩ := bind_inv H
  refine runR_join (α := { y : List ByteArray // e_ = y } × Nat) (fun | ⟨⟨out3, _⟩, g3⟩ => ⟨upd 5 (accV 0 g3 (List.map eS out3)) noFr, upd 0 (accO 1 g3 false (List.map eS out3)) noHp, 1⟩) ?_ ?_
  · refine runR_block ?_
    refine runR_loop (α := { q : (Nat × (List ByteArray × Int)) × Nat // law23_Made_c1_L1 n n_ all_ q.1.1 q.1.2 = some e_ }) (fun | ⟨⟨⟨c, ⟨out, i⟩⟩, g⟩, _⟩ => ⟨upd 0 (.v (.int .i64 n_)) (upd 1 (.d (.sl (List.map eS all_)) true) (upd 5 (accV 0 g (List.map eS out)) (upd 6 (.v (.int .i64 i)) noFr))), upd 0 (accO 1 g false (List.map eS out)) noHp, 1⟩) (fun q => q.1.1.1) ⟨((n, ([], 0)), 0), E1⟩ ?_ ?_
    · exact ren_mk [] (by rfl) (rf_upd (by rfl) (rf_upd (by rfl) (rf_upd (by rfl) (rf_upd (by rfl) (rf_no _))))) (rh_upd rh_accN (rh_no _))
    · rintro ⟨⟨⟨c, ⟨out, i⟩⟩, g⟩, L3⟩
      rcases c with _ | c
      · exact nomatch (show none = some _ from L3)
      · unfold law23_Made_c1_L1 at L3
        try dsimp only at L3
        refine runR_take tab_ok fol 1 ?_
        try simp -implicitDefEqProofs only [go_sem, Nat.reduceEqDiff, Nat.reduceAdd, reduceCtorEq, ↓reduceIte]
        rcases ite_inv L3 with ⟨c14, H15⟩ | ⟨c14, H15⟩
        · obtain ⟨g16, H17⟩ := grd_inv H15
          have g16 : ¬ (IntKind.u64.wrap i) < 0 := by have := of_decide_eq_true g16; omega
          try simp -implicitDefEqProofs only [go_sem, Nat.reduceEqDiff, Nat.reduceAdd, reduceCtorEq, ↓reduceIte, c14, g16]
          rcases ite_inv H17 with ⟨c18, H19⟩ | ⟨c18, H19⟩
          · obtain ⟨x2, b20, H21⟩ := bind_inv H19
            obtain ⟨h22, h23⟩ := idx_inv b20
            try simp only [Int.reduceToNat, Int.toNat_natCast] at h23
            have h24 := map_at eS h23
            obtain ⟨l, b26, H27⟩ := bind_inv H21
            obtain ⟨h28, h29⟩ := app_inv b26
            have h28 : out.length + 1 ≤ 4294967296 := h28
            have h30 : List.map eS out ++ [[.v (.string x2)]] = List.map eS l := app_map eS h29
            have h31 : out.length + 1 = l.length := app_len h29
            have h32 : l.length ≤ 4294967296 := by omega
            have q33 : 0 < l.length := by omega
            try simp -implicitDefEqProofs only [go_sem, Nat.reduceLT, Nat.reduceEqDiff, Nat.reduceAdd, Nat.reduceLeDiff, reduceCtorEq, ↓reduceIte, c18, nat_of .i64 h22, h24, h30, h31, h32]
            rcases out with _ | ⟨q0, q1⟩
            · try simp only [List.map_nil, accI, accN]
              exact ⟨⟨((c, (l, (IntKind.i64.wrap (i + 1)))), 0), H27⟩, ren_mk [(0, 17)] (by rfl) (rf_upd (by rfl) (rf_upd (by rfl) (rf_upd (ren_accP (by rfl) q33) (rf_upd (by rfl) (rf_no _))))) (rh_upd (rh_accP (by rfl) q33 (by rfl)) (rh_no _)), Nat.lt_succ_self _⟩
            · try simp only [List.map_cons, accI, accN]
              exact ⟨⟨((c, (l, (IntKind.i64.wrap (i + 1)))), (g + 1)), H27⟩, ren_mk [(0, 0)] (by rfl) (rf_upd (by rfl) (rf_upd (by rfl) (rf_upd (ren_accP (by rfl) q33) (rf_upd (by rfl) (rf_no _))))) (rh_upd (rh_accP (by rfl) q33 (by rfl)) (rh_no _)), Nat.lt_succ_self _⟩
          · try simp -implicitDefEqProofs only [go_sem, Nat.reduceEqDiff, Nat.reduceAdd, reduceCtorEq, ↓reduceIte, c18]
            exact ⟨⟨((c, (out, (IntKind.i64.wrap (i + 1)))), g), H19⟩, ren_mk [(0, 0)] (by rfl) (rf_upd (by rfl) (rf_upd (by rfl) (rf_upd (ren_acc (by rfl)) (rf_upd (by rfl) (rf_no _))))) (rh_upd (rh_acc (by rfl) (by rfl)) (rh_no _)), Nat.lt_succ_self _⟩
        · try simp -implicitDefEqProofs only [go_sem, ↓reduceIte, c14]
          obtain rfl := Option.some.inj H15
          exact ⟨⟨⟨out, rfl⟩, g⟩, ren_mk [(0, 0)] (by rfl) (rf_upd (ren_acc (by rfl)) (rf_no _)) (rh_upd (rh_acc (by rfl) (by rfl)) (rh_no _))⟩
  · rintro ⟨⟨out3, he34⟩, g3⟩
    replace he34 := he34.symm
    subst he34
    try dsimp only at H2
    refine runR_take tab_ok fol 1 ?_
    try simp -implicitDefEqProofs only [go_sem, Nat.reduceAdd, ↓reduceIte]
    obtain rfl := Option.some.inj H2
    exact end_pure (by first | (simp -implicitDefEqProofs only [go_sem, ↓reduceIte, Try.f39] <;> rfl) | rfl) (by first | rfl | (simp -implicitDefEqProofs only [go_sem, ↓reduceIte]; done) | (simp -implicitDefEqProofs only [go_sem, ↓reduceIte]; rfl)) rfl (by intro h; first | rfl | cases h)
def law23_Made_L1 (n : Nat) (t0 : List Int) : Nat → (List GStmt × List GBound × Int) → Option (List GStmt × List GBound)
  | 0, _ => none
  | c + 1, (t343, t353, t52) =>
    (
      (if (decide (t52 < (t0.length : Int))) then
        some (t343, t353, (decide (t52 < 8)))
      else
        some (t343, t353, false)) : Option (List GStmt × List GBound × Bool)).bind fun (t344, t354, t253) =>
    (if t253 then
      (idx t0 t52).bind fun x7 =>
      (law23_Made_c1 n (sh x7 16) [{ data := #[42] }, { data := #[103, 101, 116, 42] }, { data := #[103, 101, 116] }, { data := #[112, 117, 116] }, { data := #[108, 42] }, { data := #[122, 42] }]).bind fun t363 =>
      (law23_Made_c1 n (sh x7 24) [{ data := #[42] }, { data := #[97, 42] }, { data := #[98] }, { data := #[97, 98] }, { data := #[97] }]).bind fun t413 =>
      (if ((Int.tmod (IntKind.i64.wrap (an x7 255 : Int)) 4) == 3) then
        (idx [{ data := #[117] }, { data := #[118] }, { data := #[119] }] (Int.tmod (IntKind.i64.wrap (an (sh x7 8) 255 : Int)) 3)).bind fun x8 =>
        (app t354 [(⟨x8, t363, t413⟩ : GBound)]).bind fun l3 =>
        law23_Made_L1 n t0 c (t344, l3, (IntKind.i64.wrap (t52 + 1)))
      else
        (idx [{ data := #[115, 48] }, { data := #[115, 49] }, { data := #[115, 50] }, { data := #[115, 51] }, { data := #[115, 52] }, { data := #[115, 53] }, { data := #[115, 54] }, { data := #[115, 55] }] (IntKind.i64.wrap (an (sh x7 40) 7 : Int))).bind fun x9 =>
        (law23_Made_c1 n (sh x7 32) [{ data := #[117] }, { data := #[118] }, { data := #[119] }]).bind fun t773 =>
        (law23_Made_c1 n (sh x7 36) [{ data := #[103] }, { data := #[104] }]).bind fun t823 =>
        (app t344 [(⟨x9, ((Int.tmod (IntKind.i64.wrap (an x7 255 : Int)) 4) == 2), t773, t823, t363, t413⟩ : GStmt)]).bind fun l4 =>
        law23_Made_L1 n t0 c (l4, t354, (IntKind.i64.wrap (t52 + 1))))
    else
      some (t344, t354))

def law23_Made (n : Nat) (t0 : List Int) : Option GPolicy :=
  (
    law23_Made_L1 n t0 n ([], [], 0) : Option (List GStmt × List GBound)).bind fun (t346, t356) =>
  some (⟨[{ data := #[117] }, { data := #[118] }, { data := #[119] }, { data := #[117] }], [{ data := #[103, 101, 116] }, { data := #[103, 101, 116, 97, 108, 108] }, { data := #[112, 117, 116] }, { data := #[108, 105, 115, 116] }], [{ data := #[97] }, { data := #[97, 98] }, { data := #[98] }], [(⟨{ data := #[103] }, [{ data := #[117] }, { data := #[118] }, { data := #[117] }]⟩ : GGroup), (⟨{ data := #[104] }, [{ data := #[119] }]⟩ : GGroup)], t346, t356⟩ : GPolicy)
theorem law23_Made_ok {n : Nat} {t0 : List Int} {r : GPolicy} (H : law23_Made n t0 = some r) : PureOK Try.prog 11 [D.sl (List.map eI t0)] (D.ag (eGPolicy r)) true := by
  unfold law23_Made at H
  refine pure_runR (tab := tab) tab_ok Try.func11 rfl (by kernel_rfl) (by kernel_rfl) (by simp [Try.f11]) ?_
  refine runR_seq ?_
  refine runR_take tab_ok fol 1 ?_
  try simp -implicitDefEqProofs only [go_sem, ↓reduceIte, eGPolicy]
  refine runR_seq ?_
  refine runR_take tab_ok fol 1 ?_
  try simp -implicitDefEqProofs only [go_sem, Nat.reduceLT, Nat.reduceEqDiff, Nat.reduceAdd, Nat.reduceMul, Nat.reduceLeDiff, ↓reduceIte]
  refine runR_seq ?_
  refine runR_take tab_ok fol 1 ?_
  try simp -implicitDefEqProofs only [go_sem, Nat.reduceAdd]
  refine runR_seq ?_
  refine runR_seq ?_
  refine runR_take tab_ok fol 1 ?_
  try simp -implicitDefEqProofs only [go_sem, Nat.reduceAdd]
  obtain ⟨e_, E1, H2⟩ := bind_inv H
  refine runR_join (α := { y : List GStmt × List GBound // e_ = y } × Nat × Nat) (fun | ⟨⟨⟨t346, t356⟩, _⟩, ⟨g11, g12⟩⟩ => ⟨upd 2 (.pt 0 0) (upd 3 (.pt 1 0) noFr), upd 0 (some (.bx [.v (.slice none 0 0), .v (.slice none 0 0), .v (.slice none 0 0), .v (.slice none 0 0), .v (.slice none 0 0), .v (.slice none 0 0)])) (upd 1 (some (.bx [.so 2 0 0 4, .so 3 0 0 4, .so 4 0 0 3, .so 5 0 0 2, accV 6 g11 (List.map eGStmt t346), accV 7 g12 (List.map eGBound t356)])) (upd 2 (some (.rw [[.v (.string { data := #[117] })], [.v (.string { data := #[118] })], [.v (.string { data := #[119] })], [.v (.string { data := #[117] })]] 1 0 false false)) (upd 3 (some (.rw [[.v (.string { data := #[103, 101, 116] })], [.v (.string { data := #[103, 101, 116, 97, 108, 108] })], [.v (.string { data := #[112, 117, 116] })], [.v (.string { data := #[108, 105, 115, 116] })]] 1 0 false false)) (upd 4 (some (.rw [[.v (.string { data := #[97] })], [.v (.string { data := #[97, 98] })], [.v (.string { data := #[98] })]] 1 0 false false)) (upd 5 (some (.rw [[.v (.string { data := #[103] }), .sl (List.map eS [{ data := #[117] }, { data := #[118] }, { data := #[117] }])], [.v (.string { data := #[104] }), .sl (List.map eS [{ data := #[119] }])]] 2 0 false false)) (upd 6 (accO 6 g11 false (List.map eGStmt t346)) (upd 7 (accO 3 g12 false (List.map eGBound t356)) noHp))))))), 8⟩) ?_ ?_
  · refine runR_block ?_
    refine runR_loop (α := { q : (Nat × (List GStmt × List GBound × Int)) × Nat × Nat // law23_Made_L1 n t0 q.1.1 q.1.2 = some e_ }) (fun | ⟨⟨⟨c, ⟨t343, t353, t52⟩⟩, ⟨g5, g6⟩⟩, _⟩ => ⟨upd 0 (.d (.sl (List.map eI t0)) true) (upd 2 (.pt 0 0) (upd 3 (.pt 1 0) (upd 4 (.fn 39 []) (upd 5 (.v (.int .i64 t52)) noFr)))), upd 0 (some (.bx [.v (.slice none 0 0), .v (.slice none 0 0), .v (.slice none 0 0), .v (.slice none 0 0), .v (.slice none 0 0), .v (.slice none 0 0)])) (upd 1 (some (.bx [.so 2 0 0 4, .so 3 0 0 4, .so 4 0 0 3, .so 5 0 0 2, accV 6 g5 (List.map eGStmt t343), accV 7 g6 (List.map eGBound t353)])) (upd 2 (some (.rw [[.v (.string { data := #[117] })], [.v (.string { data := #[118] })], [.v (.string { data := #[119] })], [.v (.string { data := #[117] })]] 1 0 false false)) (upd 3 (some (.rw [[.v (.string { data := #[103, 101, 116] })], [.v (.string { data := #[103, 101, 116, 97, 108, 108] })], [.v (.string { data := #[112, 117, 116] })], [.v (.string { data := #[108, 105, 115, 116] })]] 1 0 false false)) (upd 4 (some (.rw [[.v (.string { data := #[97] })], [.v (.string { data := #[97, 98] })], [.v (.string { data := #[98] })]] 1 0 false false)) (upd 5 (some (.rw [[.v (.string { data := #[103] }), .sl (List.map eS [{ data := #[117] }, { data := #[118] }, { data := #[117] }])], [.v (.string { data := #[104] }), .sl (List.map eS [{ data := #[119] }])]] 2 0 false false)) (upd 6 (accO 6 g5 false (List.map eGStmt t343)) (upd 7 (accO 3 g6 false (List.map eGBound t353)) noHp))))))), 8⟩) (fun q => q.1.1.1) ⟨((n, ([], [], 0)), (0, 0)), E1⟩ ?_ ?_
    · exact ren_mk [(0, 0), (1, 10), (2, 1), (3, 2), (4, 3), (5, 8)] (by rfl) (rf_upd (by rfl) (rf_upd (by rfl) (rf_upd (by rfl) (rf_upd (by rfl) (rf_upd (by rfl) (rf_no _)))))) (rh_upd (rh_one (by rfl) (by rfl) (by rfl)) (rh_upd (rh_one (by rfl) (renO_bx (renL_cons (by rfl) (renL_cons (by rfl) (renL_cons (by rfl) (renL_cons (by rfl) (renL_cons (by rfl) (renL_cons (by rfl) (renL_nil _)))))))) (by rfl)) (rh_upd (rh_one (by rfl) (by rfl) (by rfl)) (rh_upd (rh_one (by rfl) (by rfl) (by rfl)) (rh_upd (rh_one (by rfl) (by rfl) (by rfl)) (rh_upd (rh_one (by rfl) (by rfl) (by rfl)) (rh_upd rh_accN (rh_upd rh_accN (rh_no _)))))))))
    · rintro ⟨⟨⟨c, ⟨t343, t353, t52⟩⟩, ⟨g5, g6⟩⟩, L3⟩
      rcases c with _ | c
      · exact nomatch (show none = some _ from L3)
      · unfold law23_Made_L1 at L3
        try dsimp only at L3
        refine runR_seq ?_
        refine runR_seq ?_
        obtain ⟨e_4, E90, H91⟩ := bind_inv L3
        refine runR_join (α := { y : List GStmt × List GBound × Bool // e_4 = y } × Nat × Nat) (fun | ⟨⟨⟨t344, t354, t253⟩, _⟩, ⟨g7, g8⟩⟩ => ⟨upd 0 (.d (.sl (List.map eI t0)) true) (upd 2 (.pt 0 0) (upd 3 (.pt 1 0) (upd 4 (.fn 39 []) (upd 5 (.v (.int .i64 t52)) (upd 25 (.v (.bool t253)) noFr))))), upd 0 (some (.bx [.v (.slice none 0 0), .v (.slice none 0 0), .v (.slice none 0 0), .v (.slice none 0 0), .v (.slice none 0 0), .v (.slice none 0 0)])) (upd 1 (some (.bx [.so 2 0 0 4, .so 3 0 0 4, .so 4 0 0 3, .so 5 0 0 2, accV 6 g7 (List.map eGStmt t344), accV 7 g8 (List.map eGBound t354)])) (upd 2 (some (.rw [[.v (.string { data := #[117] })], [.v (.string { data := #[118] })], [.v (.string { data := #[119] })], [.v (.string { data := #[117] })]] 1 0 false false)) (upd 3 (some (.rw [[.v (.string { data := #[103, 101, 116] })], [.v (.string { data := #[103, 101, 116, 97, 108, 108] })], [.v (.string { data := #[112, 117, 116] })], [.v (.string { data := #[108, 105, 115, 116] })]] 1 0 false false)) (upd 4 (some (.rw [[.v (.string { data := #[97] })], [.v (.string { data := #[97, 98] })], [.v (.string { data := #[98] })]] 1 0 false false)) (upd 5 (some (.rw [[.v (.string { data := #[103] }), .sl (List.map eS [{ data := #[117] }, { data := #[118] }, { data := #[117] }])], [.v (.string { data := #[104] }), .sl (List.map eS [{ data := #[119] }])]] 2 0 false false)) (upd 6 (accO 6 g7 false (List.map eGStmt t344)) (upd 7 (accO 3 g8 false (List.map eGBound t354)) noHp))))))), 8⟩) ?_ ?_
        · refine runR_take tab_ok fol 1 ?_
          try simp -implicitDefEqProofs only [go_sem, Nat.reduceEqDiff, Nat.reduceAdd, reduceCtorEq, ↓reduceIte]
          rcases ite_inv E90 with ⟨c92, H93⟩ | ⟨c92, H93⟩
          · try simp -implicitDefEqProofs only [go_sem, Nat.reduceEqDiff, Nat.reduceAdd, reduceCtorEq, ↓reduceIte, c92]
            obtain rfl := Option.some.inj H93
            exact ⟨⟨⟨(t343, t353, (decide (t52 < 8))), rfl⟩, (g5, g6)⟩, ren_mk [(0, 0), (1, 1), (2, 2), (3, 3), (4, 4), (5, 5), (6, 6), (7, 7)] (by rfl) (rf_upd (by rfl) (rf_upd (by rfl) (rf_upd (by rfl) (rf_upd (by rfl) (rf_upd (by rfl) (rf_upd (by rfl) (rf_no _))))))) (rh_upd (rh_one (by rfl) (by rfl) (by rfl)) (rh_upd (rh_one (by rfl) (renO_bx (renL_cons (by rfl) (renL_cons (by rfl) (renL_cons (by rfl) (renL_cons (by rfl) (renL_cons (ren_acc (by rfl)) (renL_cons (ren_acc (by rfl)) (renL_nil _)))))))) (by rfl)) (rh_upd (rh_one (by rfl) (by rfl) (by rfl)) (rh_upd (rh_one (by rfl) (by rfl) (by rfl)) (rh_upd (rh_one (by rfl) (by rfl) (by rfl)) (rh_upd (rh_one (by rfl) (by rfl) (by rfl)) (rh_upd (rh_acc (by rfl) (by rfl)) (rh_upd (rh_acc (by rfl) (by rfl)) (rh_no _)))))))))⟩
          · try simp -implicitDefEqProofs only [go_sem, Nat.reduceEqDiff, Nat.reduceAdd, ↓reduceIte, c92]
            obtain rfl := Option.some.inj H93
            exact ⟨⟨⟨(t343, t353, false), rfl⟩, (g5, g6)⟩, ren_mk [(0, 0), (1, 1), (2, 2), (3, 3), (4, 4), (5, 5), (6, 6), (7, 7)] (by rfl) (rf_upd (by rfl) (rf_upd (by rfl) (rf_upd (by rfl) (rf_upd (by rfl) (rf_upd (by rfl) (rf_upd (by rfl) (rf_no _))))))) (rh_upd (rh_one (by rfl) (by rfl) (by rfl)) (rh_upd (rh_one (by rfl) (renO_bx (renL_cons (by rfl) (renL_cons (by rfl) (renL_cons (by rfl) (renL_cons (by rfl) (renL_cons (ren_acc (by rfl)) (renL_cons (ren_acc (by rfl)) (renL_nil _)))))))) (by rfl)) (rh_upd (rh_one (by rfl) (by rfl) (by rfl)) (rh_upd (rh_one (by rfl) (by rfl) (by rfl)) (rh_upd (rh_one (by rfl) (by rfl) (by rfl)) (rh_upd (rh_one (by rfl) (by rfl) (by rfl)) (rh_upd (rh_acc (by rfl) (by rfl)) (rh_upd (rh_acc (by rfl) (by rfl)) (rh_no _)))))))))⟩
        · rintro ⟨⟨⟨t344, t354, t253⟩, he140⟩, ⟨g7, g8⟩⟩
          replace he140 := he140.symm
          subst he140
          try dsimp only at H91
          refine runR_take tab_ok fol 2 ?_
          try simp -implicitDefEqProofs only [go_sem, Nat.reduceEqDiff, reduceCtorEq, ↓reduceIte]
          rcases ite_inv H91 with ⟨c94, H95⟩ | ⟨c94, H95⟩
          · obtain ⟨x7, b96, H97⟩ := bind_inv H95
            obtain ⟨h98, h99⟩ := idx_inv b96
            try simp only [Int.reduceToNat, Int.toNat_natCast] at h99
            have h100 := map_at eI h99
            obtain ⟨t363, b102, H103⟩ := bind_inv H97
            try simp -implicitDefEqProofs only [go_sem, Int.reduceToNat, Int.reduceLT, Nat.reduceLT, Nat.reduceEqDiff, Nat.reduceAdd, Nat.reduceLeDiff, reduceCtorEq, ↓reduceIte, c94, nat_of .i64 h98, h100]
            refine onCall_pure (by first | rfl | (simp -implicitDefEqProofs only [go_sem, Int.reduceToNat, Int.reduceLT, Int.reduceLE, Int.reduceBEq, Int.reduceBNe, Nat.reduceLT, Nat.reduceBEq, Int.reduceEq, Nat.reduceEqDiff, Nat.reduceAdd, Nat.reduceSub, Nat.reduceMul, Nat.reduceLeDiff, reduceCtorEq, ↓reduceIte, eGPolicy, eGGroup, eGBound, eGStmt, c94, nat_of .i64 h98, h100]; done) | (simp -implicitDefEqProofs only [go_sem, Int.reduceToNat, Int.reduceLT, Int.reduceLE, Int.reduceBEq, Int.reduceBNe, Nat.reduceLT, Nat.reduceBEq, Int.reduceEq, Nat.reduceEqDiff, Nat.reduceAdd, Nat.reduceSub, Nat.reduceMul, Nat.reduceLeDiff, reduceCtorEq, ↓reduceIte, eGPolicy, eGGroup, eGBound, eGStmt, c94, nat_of .i64 h98, h100]; rfl)) (law23_Made_c1_ok b102) (by first | exact .inr rfl | exact .inl rfl) ?_
            obtain ⟨t413, b104, H105⟩ := bind_inv H103
            try simp -implicitDefEqProofs only [go_sem, Int.reduceToNat, Int.reduceLT, Nat.reduceLT, Nat.reduceEqDiff, Nat.reduceAdd, Nat.reduceLeDiff, reduceCtorEq, ↓reduceIte]
            refine onCall_pure (by first | rfl | (simp -implicitDefEqProofs only [go_sem, Int.reduceToNat, Int.reduceLT, Int.reduceLE, Int.reduceBEq, Int.reduceBNe, Nat.reduceLT, Nat.reduceBEq, Int.reduceEq, Nat.reduceEqDiff, Nat.reduceAdd, Nat.reduceSub, Nat.reduceMul, Nat.reduceLeDiff, reduceCtorEq, ↓reduceIte, eGPolicy, eGGroup, eGBound, eGStmt, c94, nat_of .i64 h98, h100]; done) | (simp -implicitDefEqProofs only [go_sem, Int.reduceToNat, Int.reduceLT, Int.reduceLE, Int.reduceBEq, Int.reduceBNe, Nat.reduceLT, Nat.reduceBEq, Int.reduceEq, Nat.reduceEqDiff, Nat.reduceAdd, Nat.reduceSub, Nat.reduceMul, Nat.reduceLeDiff, reduceCtorEq, ↓reduceIte, eGPolicy, eGGroup, eGBound, eGStmt, c94, nat_of .i64 h98, h100]; rfl)) (law23_Made_c1_ok b104) (by first | exact .inr rfl | exact .inl rfl) ?_
            try simp -implicitDefEqProofs only [go_sem, Int.reduceEq, Nat.reduceEqDiff, Nat.reduceAdd, ↓reduceIte]
            rcases ite_inv H105 with ⟨c106, H107⟩ | ⟨c106, H107⟩
            · obtain ⟨x8, b108, H109⟩ := bind_inv H107
              obtain ⟨h110, h111⟩ := idx_inv b108
              try simp only [Int.reduceToNat, Int.toNat_natCast] at h111
              have h112 := map_at eS h111
              simp only [List.map_cons, List.map_nil, eS] at h112
              have h113 := at_lt h111
              simp only [List.length_cons, List.length_nil, Nat.reduceAdd] at h113
              obtain ⟨l3, b114, H115⟩ := bind_inv H109
              obtain ⟨h116, h117⟩ := app_inv b114
              have h116 : t354.length + 1 ≤ 4294967296 := h116
              have h118 : List.map eGBound t354 ++ [[.v (.string x8), .sl (List.map eS t363), .sl (List.map eS t413)]] = List.map eGBound l3 := app_map eGBound h117
              have h119 : t354.length + 1 = l3.length := app_len h117
              have h120 : l3.length ≤ 4294967296 := by omega
              have q121 : 0 < l3.length := by omega
              try simp -implicitDefEqProofs only [go_sem, Int.reduceToNat, Int.reduceLT, Nat.reduceLT, Int.reduceEq, Nat.reduceEqDiff, Nat.reduceAdd, Nat.reduceMul, Nat.reduceLeDiff, reduceCtorEq, ↓reduceIte, c106, nat_of .i64 h110, h112, h113, h118, h119, h120, accI_ne]
              refine Rd_endF (by (cases t354 <;> rfl)) ?_
              try simp -implicitDefEqProofs only [go_sem, Nat.reduceEqDiff, Nat.reduceAdd, reduceCtorEq, ↓reduceIte]
              rcases t354 with _ | ⟨q0, q1⟩
              · try simp only [List.map_nil, accI, accN]
                exact ⟨⟨((c, (t344, l3, (IntKind.i64.wrap (t52 + 1)))), (g7, 0)), H115⟩, ren_mk [(0, 0), (1, 1), (2, 2), (3, 3), (4, 4), (5, 5), (6, 6), (7, 42)] (by rfl) (rf_upd (by rfl) (rf_upd (by rfl) (rf_upd (by rfl) (rf_upd (by rfl) (rf_upd (by rfl) (rf_no _)))))) (rh_upd (rh_one (by rfl) (by rfl) (by rfl)) (rh_upd (rh_one (by rfl) (renO_bx (renL_cons (by rfl) (renL_cons (by rfl) (renL_cons (by rfl) (renL_cons (by rfl) (renL_cons (ren_acc (by rfl)) (renL_cons (ren_accP (by rfl) q121) (renL_nil _)))))))) (by rfl)) (rh_upd (rh_one (by rfl) (by rfl) (by rfl)) (rh_upd (rh_one (by rfl) (by rfl) (by rfl)) (rh_upd (rh_one (by rfl) (by rfl) (by rfl)) (rh_upd (rh_one (by rfl) (by rfl) (by rfl)) (rh_upd (rh_acc (by rfl) (by rfl)) (rh_upd (rh_accP (by rfl) q121 (by rfl)) (rh_no _))))))))), Nat.lt_succ_self _⟩
              · try simp only [List.map_cons, accI, accN]
                exact ⟨⟨((c, (t344, l3, (IntKind.i64.wrap (t52 + 1)))), (g7, (g8 + 1))), H115⟩, ren_mk [(0, 0), (1, 1), (2, 2), (3, 3), (4, 4), (5, 5), (6, 6), (7, 7)] (by rfl) (rf_upd (by rfl) (rf_upd (by rfl) (rf_upd (by rfl) (rf_upd (by rfl) (rf_upd (by rfl) (rf_no _)))))) (rh_upd (rh_one (by rfl) (by rfl) (by rfl)) (rh_upd (rh_one (by rfl) (renO_bx (renL_cons (by rfl) (renL_cons (by rfl) (renL_cons (by rfl) (renL_cons (by rfl) (renL_cons (ren_acc (by rfl)) (renL_cons (ren_accP (by rfl) q121) (renL_nil _)))))))) (by rfl)) (rh_upd (rh_one (by rfl) (by rfl) (by rfl)) (rh_upd (rh_one (by rfl) (by rfl) (by rfl)) (rh_upd (rh_one (by rfl) (by rfl) (by rfl)) (rh_upd (rh_one (by rfl) (by rfl) (by rfl)) (rh_upd (rh_acc (by rfl) (by rfl)) (rh_upd (rh_accP (by rfl) q121 (by rfl)) (rh_no _))))))))), Nat.lt_succ_self _⟩
            · obtain ⟨x9, b122, H123⟩ := bind_inv H107
              obtain ⟨h124, h125⟩ := idx_inv b122
              try simp only [Int.reduceToNat, Int.toNat_natCast] at h125
              have h126 := map_at eS h125
              simp only [List.map_cons, List.map_nil, eS] at h126
              have h127 := at_lt h125
              simp only [List.length_cons, List.length_nil, Nat.reduceAdd] at h127
              obtain ⟨t773, b128, H129⟩ := bind_inv H123
              try simp -implicitDefEqProofs only [go_sem, Int.reduceToNat, Int.reduceLT, Nat.reduceLT, Int.reduceEq, Nat.reduceEqDiff, Nat.reduceAdd, Nat.reduceLeDiff, reduceCtorEq, ↓reduceIte, c106, nat_of .i64 h124, h126, h127]
              refine onCallD_pure (by first | rfl | (simp -implicitDefEqProofs only [go_sem, Int.reduceToNat, Int.reduceLT, Int.reduceLE, Int.reduceBEq, Int.reduceBNe, Nat.reduceLT, Nat.reduceBEq, Int.reduceEq, Nat.reduceEqDiff, Nat.reduceAdd, Nat.reduceSub, Nat.reduceMul, Nat.reduceLeDiff, reduceCtorEq, ↓reduceIte, eGPolicy, eGGroup, eGBound, eGStmt, c94, nat_of .i64 h98, h100, c106, nat_of .i64 h124, h126, h127]; done) | (simp -implicitDefEqProofs only [go_sem, Int.reduceToNat, Int.reduceLT, Int.reduceLE, Int.reduceBEq, Int.reduceBNe, Nat.reduceLT, Nat.reduceBEq, Int.reduceEq, Nat.reduceEqDiff, Nat.reduceAdd, Nat.reduceSub, Nat.reduceMul, Nat.reduceLeDiff, reduceCtorEq, ↓reduceIte, eGPolicy, eGGroup, eGBound, eGStmt, c94, nat_of .i64 h98, h100, c106, nat_of .i64 h124, h126, h127]; rfl)) (law23_Made_c1_ok b128) (by first | exact .inr rfl | exact .inl rfl) ?_
              obtain ⟨t823, b130, H131⟩ := bind_inv H129
              try simp -implicitDefEqProofs only [go_sem, Int.reduceToNat, Int.reduceLT, Nat.reduceLT, Nat.reduceEqDiff, Nat.reduceAdd, Nat.reduceLeDiff, reduceCtorEq, ↓reduceIte]
              refine onCallD_pure (by first | rfl | (simp -implicitDefEqProofs only [go_sem, Int.reduceToNat, Int.reduceLT, Int.reduceLE, Int.reduceBEq, Int.reduceBNe, Nat.reduceLT, Nat.reduceBEq, Int.reduceEq, Nat.reduceEqDiff, Nat.reduceAdd, Nat.reduceSub, Nat.reduceMul, Nat.reduceLeDiff, reduceCtorEq, ↓reduceIte, eGPolicy, eGGroup, eGBound, eGStmt, c94, nat_of .i64 h98, h100, c106, nat_of .i64 h124, h126, h127]; done) | (simp -implicitDefEqProofs only [go_sem, Int.reduceToNat, Int.reduceLT, Int.reduceLE, Int.reduceBEq, Int.reduceBNe, Nat.reduceLT, Nat.reduceBEq, Int.reduceEq, Nat.reduceEqDiff, Nat.reduceAdd, Nat.reduceSub, Nat.reduceMul, Nat.reduceLeDiff, reduceCtorEq, ↓reduceIte, eGPolicy, eGGroup, eGBound, eGStmt, c94, nat_of .i64 h98, h100, c106, nat_of .i64 h124, h126, h127]; rfl)) (law23_Made_c1_ok b130) (by first | exact .inr rfl | exact .inl rfl) ?_
              obtain ⟨l4, b132, H133⟩ := bind_inv H131
              obtain ⟨h134, h135⟩ := app_inv b132
              have h134 : t344.length + 1 ≤ 4294967296 := h134
              have h136 : List.map eGStmt t344 ++ [[.v (.string x9), .v (.bool ((Int.tmod (IntKind.i64.wrap (an x7 255 : Int)) 4) == 2)), .sl (List.map eS t773), .sl (List.map eS t823), .sl (List.map eS t363), .sl (List.map eS t413)]] = List.map eGStmt l4 := app_map eGStmt h135
              have h137 : t344.length + 1 = l4.length := app_len h135
              have h138 : l4.length ≤ 4294967296 := by omega
              have q139 : 0 < l4.length := by omega
              try simp -implicitDefEqProofs only [go_sem, Nat.reduceLT, Nat.reduceEqDiff, Nat.reduceAdd, Nat.reduceMul, Nat.reduceLeDiff, reduceCtorEq, ↓reduceIte, h136, h137, h138, accI_ne]
              refine Rd_endF (by (cases t344 <;> rfl)) ?_
              try simp -implicitDefEqProofs only [go_sem, Nat.reduceEqDiff, Nat.reduceAdd, reduceCtorEq, ↓reduceIte]
              rcases t344 with _ | ⟨q0, q1⟩
              · try simp only [List.map_nil, accI, accN]
                exact ⟨⟨((c, (l4, t354, (IntKind.i64.wrap (t52 + 1)))), (0, g8)), H133⟩, ren_mk [(0, 0), (1, 1), (2, 2), (3, 3), (4, 4), (5, 5), (6, 55), (7, 7)] (by rfl) (rf_upd (by rfl) (rf_upd (by rfl) (rf_upd (by rfl) (rf_upd (by rfl) (rf_upd (by rfl) (rf_no _)))))) (rh_upd (rh_one (by rfl) (by rfl) (by rfl)) (rh_upd (rh_one (by rfl) (renO_bx (renL_cons (by rfl) (renL_cons (by rfl) (renL_cons (by rfl) (renL_cons (by rfl) (renL_cons (ren_accP (by rfl) q139) (renL_cons (ren_acc (by rfl)) (renL_nil _)))))))) (by rfl)) (rh_upd (rh_one (by rfl) (by rfl) (by rfl)) (rh_upd (rh_one (by rfl) (by rfl) (by rfl)) (rh_upd (rh_one (by rfl) (by rfl) (by rfl)) (rh_upd (rh_one (by rfl) (by rfl) (by rfl)) (rh_upd (rh_accP (by rfl) q139 (by rfl)) (rh_upd (rh_acc (by rfl) (by rfl)) (rh_no _))))))))), Nat.lt_succ_self _⟩
              · try simp only [List.map_cons, accI, accN]
                exact ⟨⟨((c, (l4, t354, (IntKind.i64.wrap (t52 + 1)))), ((g7 + 1), g8)), H133⟩, ren_mk [(0, 0), (1, 1), (2, 2), (3, 3), (4, 4), (5, 5), (6, 6), (7, 7)] (by rfl) (rf_upd (by rfl) (rf_upd (by rfl) (rf_upd (by rfl) (rf_upd (by rfl) (rf_upd (by rfl) (rf_no _)))))) (rh_upd (rh_one (by rfl) (by rfl) (by rfl)) (rh_upd (rh_one (by rfl) (renO_bx (renL_cons (by rfl) (renL_cons (by rfl) (renL_cons (by rfl) (renL_cons (by rfl) (renL_cons (ren_accP (by rfl) q139) (renL_cons (ren_acc (by rfl)) (renL_nil _)))))))) (by rfl)) (rh_upd (rh_one (by rfl) (by rfl) (by rfl)) (rh_upd (rh_one (by rfl) (by rfl) (by rfl)) (rh_upd (rh_one (by rfl) (by rfl) (by rfl)) (rh_upd (rh_one (by rfl) (by rfl) (by rfl)) (rh_upd (rh_accP (by rfl) q139 (by rfl)) (rh_upd (rh_acc (by rfl) (by rfl)) (rh_no _))))))))), Nat.lt_succ_self _⟩
          · try simp -implicitDefEqProofs only [go_sem, ↓reduceIte, c94]
            obtain rfl := Option.some.inj H95
            exact ⟨⟨⟨(t344, t354), rfl⟩, (g7, g8)⟩, ren_mk [(0, 0), (1, 1), (2, 2), (3, 3), (4, 4), (5, 5), (6, 6), (7, 7)] (by rfl) (rf_upd (by rfl) (rf_upd (by rfl) (rf_no _))) (rh_upd (rh_one (by rfl) (by rfl) (by rfl)) (rh_upd (rh_one (by rfl) (renO_bx (renL_cons (by rfl) (renL_cons (by rfl) (renL_cons (by rfl) (renL_cons (by rfl) (renL_cons (ren_acc (by rfl)) (renL_cons (ren_acc (by rfl)) (renL_nil _)))))))) (by rfl)) (rh_upd (rh_one (by rfl) (by rfl) (by rfl)) (rh_upd (rh_one (by rfl) (by rfl) (by rfl)) (rh_upd (rh_one (by rfl) (by rfl) (by rfl)) (rh_upd (rh_one (by rfl) (by rfl) (by rfl)) (rh_upd (rh_acc (by rfl) (by rfl)) (rh_upd (rh_acc (by rfl) (by rfl)) (rh_no _)))))))))⟩
  · rintro ⟨⟨⟨t346, t356⟩, he141⟩, ⟨g11, g12⟩⟩
    replace he141 := he141.symm
    subst he141
    try dsimp only at H2
    refine runR_take tab_ok fol 1 ?_
    try simp -implicitDefEqProofs only [go_sem, Nat.reduceEqDiff, Nat.reduceAdd, reduceCtorEq, ↓reduceIte]
    obtain rfl := Option.some.inj H2
    exact end_pure (by first | (simp -implicitDefEqProofs only [go_sem, Nat.reduceEqDiff, Nat.reduceAdd, ↓reduceIte, Try.f11] <;> rfl) | rfl) (by first | rfl | (simp -implicitDefEqProofs only [go_sem, Nat.reduceEqDiff, reduceCtorEq, ↓reduceIte, eGGroup]; done) | (simp -implicitDefEqProofs only [go_sem, Nat.reduceEqDiff, reduceCtorEq, ↓reduceIte, eGGroup]; rfl)) rfl (by intro h; first | rfl | cases h)
def law24_Ask (_ : Nat) (n_ : Int) : Option GAsk :=
  (idx [{ data := #[117] }, { data := #[118] }, { data := #[119] }, { data := #[120] }] (IntKind.i64.wrap (an n_ 3 : Int))).bind fun x =>
  (idx [{ data := #[103, 101, 116] }, { data := #[103, 101, 116, 97, 108, 108] }, { data := #[112, 117, 116] }, { data := #[108, 105, 115, 116] }, { data := #[122] }] (Int.tmod (IntKind.i64.wrap (an (sh n_ 2) 255 : Int)) 5)).bind fun x2 =>
  (idx [{ data := #[97] }, { data := #[97, 98] }, { data := #[98] }, { data := #[99] }] (IntKind.i64.wrap (an (sh n_ 10) 3 : Int))).bind fun x3 =>
  some (⟨false, x, x2, x3⟩ : GAsk)
theorem law24_Ask_ok {n : Nat} {n_ : Int} {r : GAsk} (H : law24_Ask n n_ = some r) : PureOK Try.prog 12 [D.v (.int .i64 n_)] (D.ag (eGAsk r)) true := by
  unfold law24_Ask at H
  refine pure_runR (tab := tab) tab_ok Try.func12 rfl (by kernel_rfl) (by kernel_rfl) (by simp [Try.f12]) ?_
  refine runR_take tab_ok fol 1 ?_
  obtain ⟨x, b1, H2⟩ := bind_inv H
  obtain ⟨h3, h4⟩ := idx_inv b1
  try simp only [Int.reduceToNat, Int.toNat_natCast] at h4
  have h5 := map_at eS h4
  simp only [List.map_cons, List.map_nil, eS] at h5
  have h6 := at_lt h4
  simp only [List.length_cons, List.length_nil, Nat.reduceAdd] at h6
  obtain ⟨x2, b7, H8⟩ := bind_inv H2
  obtain ⟨h9, h10⟩ := idx_inv b7
  try simp only [Int.reduceToNat, Int.toNat_natCast] at h10
  have h11 := map_at eS h10
  simp only [List.map_cons, List.map_nil, eS] at h11
  have h12 := at_lt h10
  simp only [List.length_cons, List.length_nil, Nat.reduceAdd] at h12
  obtain ⟨x3, b13, H14⟩ := bind_inv H8
  obtain ⟨h15, h16⟩ := idx_inv b13
  try simp only [Int.reduceToNat, Int.toNat_natCast] at h16
  have h17 := map_at eS h16
  simp only [List.map_cons, List.map_nil, eS] at h17
  have h18 := at_lt h16
  simp only [List.length_cons, List.length_nil, Nat.reduceAdd] at h18
  try simp -implicitDefEqProofs only [go_sem, Int.reduceToNat, Int.reduceLT, Nat.reduceLT, Int.reduceEq, Nat.reduceEqDiff, Nat.reduceAdd, Nat.reduceLeDiff, reduceCtorEq, ↓reduceIte, eGAsk, nat_of .i64 h3, h5, h6, nat_of .i64 h9, h11, h12, nat_of .i64 h15, h17, h18]
  refine Rd_endF (by rfl) ?_
  try simp -implicitDefEqProofs only [go_sem]
  obtain rfl := Option.some.inj H14
  exact end_pure (by first | (simp -implicitDefEqProofs only [go_sem, Nat.reduceEqDiff, Nat.reduceAdd, ↓reduceIte, Try.f12] <;> rfl) | rfl) (by first | rfl | (simp -implicitDefEqProofs only [go_sem, Int.reduceToNat, Int.reduceLT, Int.reduceLE, Int.reduceBEq, Int.reduceBNe, Nat.reduceLT, Nat.reduceBEq, Int.reduceEq, Nat.reduceEqDiff, Nat.reduceAdd, Nat.reduceSub, Nat.reduceMul, Nat.reduceLeDiff, reduceCtorEq, ↓reduceIte, eGPolicy, eGGroup, eGBound, eGStmt, eGAsk, nat_of .i64 h3, h5, h6, nat_of .i64 h9, h11, h12, nat_of .i64 h15, h17, h18]; done) | (simp -implicitDefEqProofs only [go_sem, Int.reduceToNat, Int.reduceLT, Int.reduceLE, Int.reduceBEq, Int.reduceBNe, Nat.reduceLT, Nat.reduceBEq, Int.reduceEq, Nat.reduceEqDiff, Nat.reduceAdd, Nat.reduceSub, Nat.reduceMul, Nat.reduceLeDiff, reduceCtorEq, ↓reduceIte, eGPolicy, eGGroup, eGBound, eGStmt, eGAsk, nat_of .i64 h3, h5, h6, nat_of .i64 h9, h11, h12, nat_of .i64 h15, h17, h18]; rfl)) rfl (by intro h; first | rfl | cases h)
def slices_Index_string_L1 (n : Nat) (s : List ByteArray) (v : ByteArray) : Nat → Int → Option ((Unit) ⊕ Int)
  | 0, _ => none
  | c + 1, t8 =>
    (if (decide (t8 < (s.length : Int))) then
      (idx s t8).bind fun x2 =>
      (if (v.toList == x2.toList) then
        some (.inr t8)
      else
        slices_Index_string_L1 n s v c (IntKind.i64.wrap (t8 + 1)))
    else
      some (.inl ()))

def slices_Index_string (n : Nat) (s : List ByteArray) (v : ByteArray) : Option Int :=
  (
    slices_Index_string_L1 n s v n 0 : Option ((Unit) ⊕ Int)).bind fun
    | .inl _ =>
      some (-1)
    | .inr r => some r
theorem slices_Index_string_ok {n : Nat} {s : List ByteArray} {v : ByteArray} {r : Int} (H : slices_Index_string n s v = some r) : PureOK Try.prog 67 [D.sl (List.map eS s), D.v (.string v)] (D.v (.int .i64 r)) true := by
  unfold slices_Index_string at H
  refine pure_runR (tab := tab) tab_ok Try.func67 rfl (by kernel_rfl) (by kernel_rfl) (by simp [Try.f67]) ?_
  refine runR_seq ?_
  refine runR_take tab_ok fol 1 ?_
  try simp -implicitDefEqProofs only [go_sem]
  refine runR_seq ?_
  refine runR_seq ?_
  refine runR_take tab_ok fol 1 ?_
  try simp -implicitDefEqProofs only [go_sem, Nat.reduceAdd, reduceCtorEq, ↓reduceIte]
  obtain ⟨e_, E1, H2⟩ := bind_inv H
  refine runR_join (α := { y : Unit // e_ = .inl y }) (fun | ⟨_, _⟩ => ⟨noFr, noHp, 0⟩) ?_ ?_
  · refine runR_block ?_
    refine runR_loop (α := { q : Nat × Int // slices_Index_string_L1 n s v q.1 q.2 = some e_ }) (fun | ⟨⟨c, t8⟩, _⟩ => ⟨upd 0 (.d (.sl (List.map eS s)) true) (upd 1 (.v (.string v)) (upd 7 (.v (.int .i64 (s.length : Int))) (upd 8 (.v (.int .i64 t8)) noFr))), noHp, 0⟩) (fun q => q.1.1) ⟨(n, 0), E1⟩ ?_ ?_
    · exact ren_mk [] (by rfl) (rf_upd (by rfl) (rf_upd (by rfl) (rf_upd (by rfl) (rf_upd (by rfl) (rf_no _))))) (rh_no _)
    · rintro ⟨⟨c, t8⟩, L3⟩
      rcases c with _ | c
      · exact nomatch (show none = some _ from L3)
      · unfold slices_Index_string_L1 at L3
        try dsimp only at L3
        refine runR_take tab_ok fol 1 ?_
        try simp -implicitDefEqProofs only [go_sem, Nat.reduceEqDiff, reduceCtorEq, ↓reduceIte]
        rcases ite_inv L3 with ⟨c14, H15⟩ | ⟨c14, H15⟩
        · obtain ⟨x2, b16, H17⟩ := bind_inv H15
          obtain ⟨h18, h19⟩ := idx_inv b16
          try simp only [Int.reduceToNat, Int.toNat_natCast] at h19
          have h20 := map_at eS h19
          try simp -implicitDefEqProofs only [go_sem, Nat.reduceEqDiff, Nat.reduceAdd, reduceCtorEq, ↓reduceIte, c14, nat_of .i64 h18, h20]
          rcases ite_inv H17 with ⟨c22, H23⟩ | ⟨c22, H23⟩
          · try simp -implicitDefEqProofs only [go_sem, Nat.reduceEqDiff, Nat.reduceAdd, ↓reduceIte, c22]
            obtain rfl := Option.some.inj H23
            obtain rfl := Option.some.inj H2
            exact end_pure (by first | (simp -implicitDefEqProofs only [go_sem, ↓reduceIte, Try.f67] <;> rfl) | rfl) (by first | rfl | (simp -implicitDefEqProofs only [go_sem, Int.reduceToNat, Int.reduceLT, Int.reduceLE, Int.reduceBEq, Int.reduceBNe, Nat.reduceLT, Nat.reduceBEq, Int.reduceEq, Nat.reduceEqDiff, Nat.reduceAdd, Nat.reduceSub, Nat.reduceMul, Nat.reduceLeDiff, reduceCtorEq, ↓reduceIte, eGPolicy, eGGroup, eGBound, eGStmt, eGAsk, c14, nat_of .i64 h18, h20, c22]; done) | (simp -implicitDefEqProofs only [go_sem, Int.reduceToNat, Int.reduceLT, Int.reduceLE, Int.reduceBEq, Int.reduceBNe, Nat.reduceLT, Nat.reduceBEq, Int.reduceEq, Nat.reduceEqDiff, Nat.reduceAdd, Nat.reduceSub, Nat.reduceMul, Nat.reduceLeDiff, reduceCtorEq, ↓reduceIte, eGPolicy, eGGroup, eGBound, eGStmt, eGAsk, c14, nat_of .i64 h18, h20, c22]; rfl)) rfl (by intro h; first | rfl | cases h)
          · try simp -implicitDefEqProofs only [go_sem, Nat.reduceEqDiff, Nat.reduceAdd, reduceCtorEq, ↓reduceIte, c22]
            exact ⟨⟨(c, (IntKind.i64.wrap (t8 + 1))), H23⟩, ren_mk [] (by rfl) (rf_upd (by rfl) (rf_upd (by rfl) (rf_upd (by rfl) (rf_upd (by rfl) (rf_no _))))) (rh_no _), Nat.lt_succ_self _⟩
        · try simp -implicitDefEqProofs only [go_sem, ↓reduceIte, c14]
          obtain rfl := Option.some.inj H15
          exact ⟨⟨(), rfl⟩, ren_mk [] (by rfl) (rf_no _) (rh_no _)⟩
  · rintro ⟨_, he24⟩
    replace he24 := he24.symm
    subst he24
    try dsimp only at H2
    refine runR_take tab_ok fol 1 ?_
    try simp -implicitDefEqProofs only [go_sem]
    obtain rfl := Option.some.inj H2
    exact end_pure (by first | (simp -implicitDefEqProofs only [go_sem, ↓reduceIte, Try.f67] <;> rfl) | rfl) (by first | rfl | (simp -implicitDefEqProofs only [go_sem, Int.reduceToNat, Int.reduceLT, Int.reduceLE, Int.reduceBEq, Int.reduceBNe, Nat.reduceLT, Nat.reduceBEq, Int.reduceEq, Nat.reduceEqDiff, Nat.reduceAdd, Nat.reduceSub, Nat.reduceMul, Nat.reduceLeDiff, reduceCtorEq, ↓reduceIte, eGPolicy, eGGroup, eGBound, eGStmt, eGAsk]; done) | (simp -implicitDefEqProofs only [go_sem, Int.reduceToNat, Int.reduceLT, Int.reduceLE, Int.reduceBEq, Int.reduceBNe, Nat.reduceLT, Nat.reduceBEq, Int.reduceEq, Nat.reduceEqDiff, Nat.reduceAdd, Nat.reduceSub, Nat.reduceMul, Nat.reduceLeDiff, reduceCtorEq, ↓reduceIte, eGPolicy, eGGroup, eGBound, eGStmt, eGAsk]; rfl)) rfl (by intro h; first | rfl | cases h)
def slices_Contains_string (n : Nat) (s : List ByteArray) (v : ByteArray) : Option Bool :=
  (slices_Index_string n s v).bind fun t7 =>
  some (decide (0 ≤ t7))
theorem slices_Contains_string_ok {n : Nat} {s : List ByteArray} {v : ByteArray} {r : Bool} (H : slices_Contains_string n s v = some r) : PureOK Try.prog 40 [D.sl (List.map eS s), D.v (.string v)] (D.v (.bool r)) true := by
  unfold slices_Contains_string at H
  refine pure_runR (tab := tab) tab_ok Try.func40 rfl (by kernel_rfl) (by kernel_rfl) (by simp [Try.f40]) ?_
  refine runR_take tab_ok fol 1 ?_
  obtain ⟨t7, b1, H2⟩ := bind_inv H
  try simp -implicitDefEqProofs only [go_sem, Nat.reduceEqDiff, Nat.reduceAdd, reduceCtorEq, ↓reduceIte]
  refine onCall_pure (by first | rfl | (simp -implicitDefEqProofs only [go_sem, Int.reduceToNat, Int.reduceLT, Int.reduceLE, Int.reduceBEq, Int.reduceBNe, Nat.reduceLT, Nat.reduceBEq, Int.reduceEq, Nat.reduceEqDiff, Nat.reduceAdd, Nat.reduceSub, Nat.reduceMul, Nat.reduceLeDiff, reduceCtorEq, ↓reduceIte, eGPolicy, eGGroup, eGBound, eGStmt, eGAsk]; done) | (simp -implicitDefEqProofs only [go_sem, Int.reduceToNat, Int.reduceLT, Int.reduceLE, Int.reduceBEq, Int.reduceBNe, Nat.reduceLT, Nat.reduceBEq, Int.reduceEq, Nat.reduceEqDiff, Nat.reduceAdd, Nat.reduceSub, Nat.reduceMul, Nat.reduceLeDiff, reduceCtorEq, ↓reduceIte, eGPolicy, eGGroup, eGBound, eGStmt, eGAsk]; rfl)) (slices_Index_string_ok b1) (by first | exact .inr rfl | exact .inl rfl) ?_
  try simp -implicitDefEqProofs only [go_sem, Nat.reduceAdd, ↓reduceIte]
  obtain rfl := Option.some.inj H2
  exact end_pure (by first | (simp -implicitDefEqProofs only [go_sem, ↓reduceIte, Try.f40] <;> rfl) | rfl) (by first | rfl | (simp -implicitDefEqProofs only [go_sem, Int.reduceToNat, Int.reduceLT, Int.reduceLE, Int.reduceBEq, Int.reduceBNe, Nat.reduceLT, Nat.reduceBEq, Int.reduceEq, Nat.reduceEqDiff, Nat.reduceAdd, Nat.reduceSub, Nat.reduceMul, Nat.reduceLeDiff, reduceCtorEq, ↓reduceIte, eGPolicy, eGGroup, eGBound, eGStmt, eGAsk]; done) | (simp -implicitDefEqProofs only [go_sem, Int.reduceToNat, Int.reduceLT, Int.reduceLE, Int.reduceBEq, Int.reduceBNe, Nat.reduceLT, Nat.reduceBEq, Int.reduceEq, Nat.reduceEqDiff, Nat.reduceAdd, Nat.reduceSub, Nat.reduceMul, Nat.reduceLeDiff, reduceCtorEq, ↓reduceIte, eGPolicy, eGGroup, eGBound, eGStmt, eGAsk]; rfl)) rfl (by intro h; first | rfl | cases h)
def stringslite_HasSuffix (_ : Nat) (s : ByteArray) (suffix : ByteArray) : Option Bool :=
  (if (decide ((suffix.size : Int) ≤ (s.size : Int))) then
    (bslc s (IntKind.i64.wrap ((s.size : Int) - (suffix.size : Int))) (s.size : Int)).bind fun s2 =>
    some (s2.toList == suffix.toList)
  else
    some false)
theorem stringslite_HasSuffix_ok {n : Nat} {s : ByteArray} {suffix : ByteArray} {r : Bool} (H : stringslite_HasSuffix n s suffix = some r) : PureOK Try.prog 94 [D.v (.string s), D.v (.string suffix)] (D.v (.bool r)) true := by
  unfold stringslite_HasSuffix at H
  refine pure_runR (tab := tab) tab_ok Try.func94 rfl (by kernel_rfl) (by kernel_rfl) (by simp [Try.f94]) ?_
  refine runR_take tab_ok fol 1 ?_
  try simp -implicitDefEqProofs only [go_sem, Nat.reduceEqDiff, Nat.reduceAdd, reduceCtorEq, ↓reduceIte]
  rcases ite_inv H with ⟨c1, H2⟩ | ⟨c1, H2⟩
  · obtain ⟨s2, b3, H4⟩ := bind_inv H2
    obtain ⟨h5, h6, h7, h8⟩ := bslc_inv b3
    have h9 : Int.toNat (IntKind.i64.wrap ((s.size : Int) - (suffix.size : Int))) ≤ s.size := by omega
    have h10 : s.size ≤ s.size := by omega
    have h11 : ByteArray.extract s (Int.toNat (IntKind.i64.wrap ((s.size : Int) - (suffix.size : Int)))) (s.size) = s2 := h8.symm
    try simp only [Int.toNat_natCast] at h9 h10 h11
    try simp -implicitDefEqProofs only [go_sem, Nat.reduceEqDiff, Nat.reduceAdd, reduceCtorEq, ↓reduceIte, c1, nat_of .i64 h5, h9, h10, h11]
    obtain rfl := Option.some.inj H4
    exact end_pure (by first | (simp -implicitDefEqProofs only [go_sem, ↓reduceIte, Try.f94] <;> rfl) | rfl) (by first | rfl | (simp -implicitDefEqProofs only [go_sem, Int.reduceToNat, Int.reduceLT, Int.reduceLE, Int.reduceBEq, Int.reduceBNe, Nat.reduceLT, Nat.reduceBEq, Int.reduceEq, Nat.reduceEqDiff, Nat.reduceAdd, Nat.reduceSub, Nat.reduceMul, Nat.reduceLeDiff, reduceCtorEq, ↓reduceIte, eGPolicy, eGGroup, eGBound, eGStmt, eGAsk, c1, nat_of .i64 h5, h9, h10, h11]; done) | (simp -implicitDefEqProofs only [go_sem, Int.reduceToNat, Int.reduceLT, Int.reduceLE, Int.reduceBEq, Int.reduceBNe, Nat.reduceLT, Nat.reduceBEq, Int.reduceEq, Nat.reduceEqDiff, Nat.reduceAdd, Nat.reduceSub, Nat.reduceMul, Nat.reduceLeDiff, reduceCtorEq, ↓reduceIte, eGPolicy, eGGroup, eGBound, eGStmt, eGAsk, c1, nat_of .i64 h5, h9, h10, h11]; rfl)) rfl (by intro h; first | rfl | cases h)
  · try simp -implicitDefEqProofs only [go_sem, Nat.reduceEqDiff, Nat.reduceAdd, ↓reduceIte, c1]
    obtain rfl := Option.some.inj H2
    exact end_pure (by first | (simp -implicitDefEqProofs only [go_sem, ↓reduceIte, Try.f94] <;> rfl) | rfl) (by first | rfl | (simp -implicitDefEqProofs only [go_sem, Int.reduceToNat, Int.reduceLT, Int.reduceLE, Int.reduceBEq, Int.reduceBNe, Nat.reduceLT, Nat.reduceBEq, Int.reduceEq, Nat.reduceEqDiff, Nat.reduceAdd, Nat.reduceSub, Nat.reduceMul, Nat.reduceLeDiff, reduceCtorEq, ↓reduceIte, eGPolicy, eGGroup, eGBound, eGStmt, eGAsk, c1]; done) | (simp -implicitDefEqProofs only [go_sem, Int.reduceToNat, Int.reduceLT, Int.reduceLE, Int.reduceBEq, Int.reduceBNe, Nat.reduceLT, Nat.reduceBEq, Int.reduceEq, Nat.reduceEqDiff, Nat.reduceAdd, Nat.reduceSub, Nat.reduceMul, Nat.reduceLeDiff, reduceCtorEq, ↓reduceIte, eGPolicy, eGGroup, eGBound, eGStmt, eGAsk, c1]; rfl)) rfl (by intro h; first | rfl | cases h)
def stringslite_CutSuffix (n : Nat) (s : ByteArray) (suffix : ByteArray) : Option (ByteArray × Bool) :=
  (stringslite_HasSuffix n s suffix).bind fun t8 =>
  (if t8 then
    (bslc s 0 (IntKind.i64.wrap ((s.size : Int) - (suffix.size : Int)))).bind fun s2 =>
    some (s2, true)
  else
    some (s, false))
theorem stringslite_CutSuffix_ok {n : Nat} {s : ByteArray} {suffix : ByteArray} {r : ByteArray × Bool} (H : stringslite_CutSuffix n s suffix = some r) : PureOK Try.prog 71 [D.v (.string s), D.v (.string suffix)] (D.tu [D.v (.string r.1), D.v (.bool r.2)]) true := by
  unfold stringslite_CutSuffix at H
  refine pure_runR (tab := tab) tab_ok Try.func71 rfl (by kernel_rfl) (by kernel_rfl) (by simp [Try.f71]) ?_
  refine runR_take tab_ok fol 1 ?_
  obtain ⟨t8, b1, H2⟩ := bind_inv H
  try simp -implicitDefEqProofs only [go_sem, Nat.reduceEqDiff, Nat.reduceAdd, reduceCtorEq, ↓reduceIte]
  refine onCall_pure (by first | rfl | (simp -implicitDefEqProofs only [go_sem, Int.reduceToNat, Int.reduceLT, Int.reduceLE, Int.reduceBEq, Int.reduceBNe, Nat.reduceLT, Nat.reduceBEq, Int.reduceEq, Nat.reduceEqDiff, Nat.reduceAdd, Nat.reduceSub, Nat.reduceMul, Nat.reduceLeDiff, reduceCtorEq, ↓reduceIte, eGPolicy, eGGroup, eGBound, eGStmt, eGAsk]; done) | (simp -implicitDefEqProofs only [go_sem, Int.reduceToNat, Int.reduceLT, Int.reduceLE, Int.reduceBEq, Int.reduceBNe, Nat.reduceLT, Nat.reduceBEq, Int.reduceEq, Nat.reduceEqDiff, Nat.reduceAdd, Nat.reduceSub, Nat.reduceMul, Nat.reduceLeDiff, reduceCtorEq, ↓reduceIte, eGPolicy, eGGroup, eGBound, eGStmt, eGAsk]; rfl)) (stringslite_HasSuffix_ok b1) (by first | exact .inr rfl | exact .inl rfl) ?_
  try simp -implicitDefEqProofs only [go_sem, Nat.reduceAdd, ↓reduceIte]
  rcases ite_inv H2 with ⟨c3, H4⟩ | ⟨c3, H4⟩
  · obtain ⟨s2, b5, H6⟩ := bind_inv H4
    obtain ⟨h7, h8, h9, h10⟩ := bslc_inv b5
    have h11 : 0 ≤ Int.toNat (IntKind.i64.wrap ((s.size : Int) - (suffix.size : Int))) := by omega
    have h12 : Int.toNat (IntKind.i64.wrap ((s.size : Int) - (suffix.size : Int))) ≤ s.size := by omega
    have h13 : ByteArray.extract s (0) (Int.toNat (IntKind.i64.wrap ((s.size : Int) - (suffix.size : Int)))) = s2 := h10.symm
    try simp only [Int.toNat_natCast] at h11 h12 h13
    try simp -implicitDefEqProofs only [go_sem, Nat.reduceEqDiff, Nat.reduceAdd, reduceCtorEq, ↓reduceIte, c3, nat_of .i64 (Int.le_trans h7 h8), h11, h12, h13]
    obtain rfl := Option.some.inj H6
    exact end_pure (by first | (simp -implicitDefEqProofs only [go_sem, Nat.reduceEqDiff, ↓reduceIte, Try.f71] <;> rfl) | rfl) (by first | rfl | (simp -implicitDefEqProofs only [go_sem, Int.reduceToNat, Int.reduceLT, Int.reduceLE, Int.reduceBEq, Int.reduceBNe, Nat.reduceLT, Nat.reduceBEq, Int.reduceEq, Nat.reduceEqDiff, Nat.reduceAdd, Nat.reduceSub, Nat.reduceMul, Nat.reduceLeDiff, reduceCtorEq, ↓reduceIte, eGPolicy, eGGroup, eGBound, eGStmt, eGAsk, c3, nat_of .i64 (Int.le_trans h7 h8), h11, h12, h13]; done) | (simp -implicitDefEqProofs only [go_sem, Int.reduceToNat, Int.reduceLT, Int.reduceLE, Int.reduceBEq, Int.reduceBNe, Nat.reduceLT, Nat.reduceBEq, Int.reduceEq, Nat.reduceEqDiff, Nat.reduceAdd, Nat.reduceSub, Nat.reduceMul, Nat.reduceLeDiff, reduceCtorEq, ↓reduceIte, eGPolicy, eGGroup, eGBound, eGStmt, eGAsk, c3, nat_of .i64 (Int.le_trans h7 h8), h11, h12, h13]; rfl)) rfl (by intro h; first | rfl | cases h)
  · try simp -implicitDefEqProofs only [go_sem, Nat.reduceAdd, reduceCtorEq, ↓reduceIte, c3]
    obtain rfl := Option.some.inj H4
    exact end_pure (by first | (simp -implicitDefEqProofs only [go_sem, Nat.reduceEqDiff, ↓reduceIte, Try.f71] <;> rfl) | rfl) (by first | rfl | (simp -implicitDefEqProofs only [go_sem, Int.reduceToNat, Int.reduceLT, Int.reduceLE, Int.reduceBEq, Int.reduceBNe, Nat.reduceLT, Nat.reduceBEq, Int.reduceEq, Nat.reduceEqDiff, Nat.reduceAdd, Nat.reduceSub, Nat.reduceMul, Nat.reduceLeDiff, reduceCtorEq, ↓reduceIte, eGPolicy, eGGroup, eGBound, eGStmt, eGAsk, c3]; done) | (simp -implicitDefEqProofs only [go_sem, Int.reduceToNat, Int.reduceLT, Int.reduceLE, Int.reduceBEq, Int.reduceBNe, Nat.reduceLT, Nat.reduceBEq, Int.reduceEq, Nat.reduceEqDiff, Nat.reduceAdd, Nat.reduceSub, Nat.reduceMul, Nat.reduceLeDiff, reduceCtorEq, ↓reduceIte, eGPolicy, eGGroup, eGBound, eGStmt, eGAsk, c3]; rfl)) rfl (by intro h; first | rfl | cases h)
def strings_CutSuffix (n : Nat) (s : ByteArray) (suffix : ByteArray) : Option (ByteArray × Bool) :=
  (stringslite_CutSuffix n s suffix).bind fun t8 =>
  some (t8.1, t8.2)
theorem strings_CutSuffix_ok {n : Nat} {s : ByteArray} {suffix : ByteArray} {r : ByteArray × Bool} (H : strings_CutSuffix n s suffix = some r) : PureOK Try.prog 46 [D.v (.string s), D.v (.string suffix)] (D.tu [D.v (.string r.1), D.v (.bool r.2)]) true := by
  unfold strings_CutSuffix at H
  refine pure_runR (tab := tab) tab_ok Try.func46 rfl (by kernel_rfl) (by kernel_rfl) (by simp [Try.f46]) ?_
  refine runR_take tab_ok fol 1 ?_
  obtain ⟨t8, b1, H2⟩ := bind_inv H
  try simp -implicitDefEqProofs only [go_sem, Nat.reduceEqDiff, Nat.reduceAdd, reduceCtorEq, ↓reduceIte]
  refine onCall_pure (by first | rfl | (simp -implicitDefEqProofs only [go_sem, Int.reduceToNat, Int.reduceLT, Int.reduceLE, Int.reduceBEq, Int.reduceBNe, Nat.reduceLT, Nat.reduceBEq, Int.reduceEq, Nat.reduceEqDiff, Nat.reduceAdd, Nat.reduceSub, Nat.reduceMul, Nat.reduceLeDiff, reduceCtorEq, ↓reduceIte, eGPolicy, eGGroup, eGBound, eGStmt, eGAsk]; done) | (simp -implicitDefEqProofs only [go_sem, Int.reduceToNat, Int.reduceLT, Int.reduceLE, Int.reduceBEq, Int.reduceBNe, Nat.reduceLT, Nat.reduceBEq, Int.reduceEq, Nat.reduceEqDiff, Nat.reduceAdd, Nat.reduceSub, Nat.reduceMul, Nat.reduceLeDiff, reduceCtorEq, ↓reduceIte, eGPolicy, eGGroup, eGBound, eGStmt, eGAsk]; rfl)) (stringslite_CutSuffix_ok b1) (by first | exact .inr rfl | exact .inl rfl) ?_
  try simp -implicitDefEqProofs only [go_sem, Nat.reduceEqDiff, Nat.reduceAdd, ↓reduceIte]
  obtain rfl := Option.some.inj H2
  exact end_pure (by first | (simp -implicitDefEqProofs only [go_sem, Nat.reduceEqDiff, ↓reduceIte, Try.f46] <;> rfl) | rfl) (by first | rfl | (simp -implicitDefEqProofs only [go_sem, Int.reduceToNat, Int.reduceLT, Int.reduceLE, Int.reduceBEq, Int.reduceBNe, Nat.reduceLT, Nat.reduceBEq, Int.reduceEq, Nat.reduceEqDiff, Nat.reduceAdd, Nat.reduceSub, Nat.reduceMul, Nat.reduceLeDiff, reduceCtorEq, ↓reduceIte, eGPolicy, eGGroup, eGBound, eGStmt, eGAsk]; done) | (simp -implicitDefEqProofs only [go_sem, Int.reduceToNat, Int.reduceLT, Int.reduceLE, Int.reduceBEq, Int.reduceBNe, Nat.reduceLT, Nat.reduceBEq, Int.reduceEq, Nat.reduceEqDiff, Nat.reduceAdd, Nat.reduceSub, Nat.reduceMul, Nat.reduceLeDiff, reduceCtorEq, ↓reduceIte, eGPolicy, eGGroup, eGBound, eGStmt, eGAsk]; rfl)) rfl (by intro h; first | rfl | cases h)
def stringslite_HasPrefix (_ : Nat) (s : ByteArray) (prefix_ : ByteArray) : Option Bool :=
  (if (decide ((prefix_.size : Int) ≤ (s.size : Int))) then
    (bslc s 0 (prefix_.size : Int)).bind fun s2 =>
    some (s2.toList == prefix_.toList)
  else
    some false)
theorem stringslite_HasPrefix_ok {n : Nat} {s : ByteArray} {prefix_ : ByteArray} {r : Bool} (H : stringslite_HasPrefix n s prefix_ = some r) : PureOK Try.prog 72 [D.v (.string s), D.v (.string prefix_)] (D.v (.bool r)) true := by
  unfold stringslite_HasPrefix at H
  refine pure_runR (tab := tab) tab_ok Try.func72 rfl (by kernel_rfl) (by kernel_rfl) (by simp [Try.f72]) ?_
  refine runR_take tab_ok fol 1 ?_
  try simp -implicitDefEqProofs only [go_sem, Nat.reduceEqDiff, Nat.reduceAdd, reduceCtorEq, ↓reduceIte]
  rcases ite_inv H with ⟨c1, H2⟩ | ⟨c1, H2⟩
  · obtain ⟨s2, b3, H4⟩ := bind_inv H2
    obtain ⟨h5, h6, h7, h8⟩ := bslc_inv b3
    have h9 : 0 ≤ Int.toNat (prefix_.size : Int) := by omega
    have h10 : Int.toNat (prefix_.size : Int) ≤ s.size := by omega
    have h11 : ByteArray.extract s (0) (Int.toNat (prefix_.size : Int)) = s2 := h8.symm
    try simp only [Int.toNat_natCast] at h9 h10 h11
    try simp -implicitDefEqProofs only [go_sem, Nat.reduceEqDiff, Nat.reduceAdd, reduceCtorEq, ↓reduceIte, c1, nat_of .i64 (Int.le_trans h5 h6), h9, h10, h11]
    obtain rfl := Option.some.inj H4
    exact end_pure (by first | (simp -implicitDefEqProofs only [go_sem, ↓reduceIte, Try.f72] <;> rfl) | rfl) (by first | rfl | (simp -implicitDefEqProofs only [go_sem, Int.reduceToNat, Int.reduceLT, Int.reduceLE, Int.reduceBEq, Int.reduceBNe, Nat.reduceLT, Nat.reduceBEq, Int.reduceEq, Nat.reduceEqDiff, Nat.reduceAdd, Nat.reduceSub, Nat.reduceMul, Nat.reduceLeDiff, reduceCtorEq, ↓reduceIte, eGPolicy, eGGroup, eGBound, eGStmt, eGAsk, c1, nat_of .i64 (Int.le_trans h5 h6), h9, h10, h11]; done) | (simp -implicitDefEqProofs only [go_sem, Int.reduceToNat, Int.reduceLT, Int.reduceLE, Int.reduceBEq, Int.reduceBNe, Nat.reduceLT, Nat.reduceBEq, Int.reduceEq, Nat.reduceEqDiff, Nat.reduceAdd, Nat.reduceSub, Nat.reduceMul, Nat.reduceLeDiff, reduceCtorEq, ↓reduceIte, eGPolicy, eGGroup, eGBound, eGStmt, eGAsk, c1, nat_of .i64 (Int.le_trans h5 h6), h9, h10, h11]; rfl)) rfl (by intro h; first | rfl | cases h)
  · try simp -implicitDefEqProofs only [go_sem, Nat.reduceEqDiff, Nat.reduceAdd, ↓reduceIte, c1]
    obtain rfl := Option.some.inj H2
    exact end_pure (by first | (simp -implicitDefEqProofs only [go_sem, ↓reduceIte, Try.f72] <;> rfl) | rfl) (by first | rfl | (simp -implicitDefEqProofs only [go_sem, Int.reduceToNat, Int.reduceLT, Int.reduceLE, Int.reduceBEq, Int.reduceBNe, Nat.reduceLT, Nat.reduceBEq, Int.reduceEq, Nat.reduceEqDiff, Nat.reduceAdd, Nat.reduceSub, Nat.reduceMul, Nat.reduceLeDiff, reduceCtorEq, ↓reduceIte, eGPolicy, eGGroup, eGBound, eGStmt, eGAsk, c1]; done) | (simp -implicitDefEqProofs only [go_sem, Int.reduceToNat, Int.reduceLT, Int.reduceLE, Int.reduceBEq, Int.reduceBNe, Nat.reduceLT, Nat.reduceBEq, Int.reduceEq, Nat.reduceEqDiff, Nat.reduceAdd, Nat.reduceSub, Nat.reduceMul, Nat.reduceLeDiff, reduceCtorEq, ↓reduceIte, eGPolicy, eGGroup, eGBound, eGStmt, eGAsk, c1]; rfl)) rfl (by intro h; first | rfl | cases h)
def strings_HasPrefix (n : Nat) (s : ByteArray) (prefix_ : ByteArray) : Option Bool :=
  (stringslite_HasPrefix n s prefix_).bind fun t7 =>
  some t7
theorem strings_HasPrefix_ok {n : Nat} {s : ByteArray} {prefix_ : ByteArray} {r : Bool} (H : strings_HasPrefix n s prefix_ = some r) : PureOK Try.prog 47 [D.v (.string s), D.v (.string prefix_)] (D.v (.bool r)) true := by
  unfold strings_HasPrefix at H
  refine pure_runR (tab := tab) tab_ok Try.func47 rfl (by kernel_rfl) (by kernel_rfl) (by simp [Try.f47]) ?_
  refine runR_take tab_ok fol 1 ?_
  obtain ⟨t7, b1, H2⟩ := bind_inv H
  try simp -implicitDefEqProofs only [go_sem, Nat.reduceEqDiff, Nat.reduceAdd, reduceCtorEq, ↓reduceIte]
  refine onCall_pure (by first | rfl | (simp -implicitDefEqProofs only [go_sem, Int.reduceToNat, Int.reduceLT, Int.reduceLE, Int.reduceBEq, Int.reduceBNe, Nat.reduceLT, Nat.reduceBEq, Int.reduceEq, Nat.reduceEqDiff, Nat.reduceAdd, Nat.reduceSub, Nat.reduceMul, Nat.reduceLeDiff, reduceCtorEq, ↓reduceIte, eGPolicy, eGGroup, eGBound, eGStmt, eGAsk]; done) | (simp -implicitDefEqProofs only [go_sem, Int.reduceToNat, Int.reduceLT, Int.reduceLE, Int.reduceBEq, Int.reduceBNe, Nat.reduceLT, Nat.reduceBEq, Int.reduceEq, Nat.reduceEqDiff, Nat.reduceAdd, Nat.reduceSub, Nat.reduceMul, Nat.reduceLeDiff, reduceCtorEq, ↓reduceIte, eGPolicy, eGGroup, eGBound, eGStmt, eGAsk]; rfl)) (stringslite_HasPrefix_ok b1) (by first | exact .inr rfl | exact .inl rfl) ?_
  try simp -implicitDefEqProofs only [go_sem, Nat.reduceAdd, ↓reduceIte]
  obtain rfl := Option.some.inj H2
  exact end_pure (by first | (simp -implicitDefEqProofs only [go_sem, ↓reduceIte, Try.f47] <;> rfl) | rfl) (by first | rfl | (simp -implicitDefEqProofs only [go_sem, Int.reduceToNat, Int.reduceLT, Int.reduceLE, Int.reduceBEq, Int.reduceBNe, Nat.reduceLT, Nat.reduceBEq, Int.reduceEq, Nat.reduceEqDiff, Nat.reduceAdd, Nat.reduceSub, Nat.reduceMul, Nat.reduceLeDiff, reduceCtorEq, ↓reduceIte, eGPolicy, eGGroup, eGBound, eGStmt, eGAsk]; done) | (simp -implicitDefEqProofs only [go_sem, Int.reduceToNat, Int.reduceLT, Int.reduceLE, Int.reduceBEq, Int.reduceBNe, Nat.reduceLT, Nat.reduceBEq, Int.reduceEq, Nat.reduceEqDiff, Nat.reduceAdd, Nat.reduceSub, Nat.reduceMul, Nat.reduceLeDiff, reduceCtorEq, ↓reduceIte, eGPolicy, eGGroup, eGBound, eGStmt, eGAsk]; rfl)) rfl (by intro h; first | rfl | cases h)
def glob_Match (n : Nat) (pattern : ByteArray) (name : ByteArray) : Option Bool :=
  (strings_CutSuffix n pattern ({ data := #[42] })).bind fun t9 =>
  (if t9.2 then
    (strings_HasPrefix n name t9.1).bind fun t19 =>
    some t19
  else
    some (pattern.toList == name.toList))
theorem glob_Match_ok {n : Nat} {pattern : ByteArray} {name : ByteArray} {r : Bool} (H : glob_Match n pattern name = some r) : PureOK Try.prog 17 [D.v (.string pattern), D.v (.string name)] (D.v (.bool r)) true := by
  unfold glob_Match at H
  refine pure_runR (tab := tab) tab_ok Try.func17 rfl (by kernel_rfl) (by kernel_rfl) (by simp [Try.f17]) ?_
  refine runR_take tab_ok fol 1 ?_
  obtain ⟨t9, b1, H2⟩ := bind_inv H
  try simp -implicitDefEqProofs only [go_sem, Nat.reduceAdd, reduceCtorEq, ↓reduceIte]
  refine onCall_pure (by first | rfl | (simp -implicitDefEqProofs only [go_sem, Int.reduceToNat, Int.reduceLT, Int.reduceLE, Int.reduceBEq, Int.reduceBNe, Nat.reduceLT, Nat.reduceBEq, Int.reduceEq, Nat.reduceEqDiff, Nat.reduceAdd, Nat.reduceSub, Nat.reduceMul, Nat.reduceLeDiff, reduceCtorEq, ↓reduceIte, eGPolicy, eGGroup, eGBound, eGStmt, eGAsk]; done) | (simp -implicitDefEqProofs only [go_sem, Int.reduceToNat, Int.reduceLT, Int.reduceLE, Int.reduceBEq, Int.reduceBNe, Nat.reduceLT, Nat.reduceBEq, Int.reduceEq, Nat.reduceEqDiff, Nat.reduceAdd, Nat.reduceSub, Nat.reduceMul, Nat.reduceLeDiff, reduceCtorEq, ↓reduceIte, eGPolicy, eGGroup, eGBound, eGStmt, eGAsk]; rfl)) (strings_CutSuffix_ok b1) (by first | exact .inr rfl | exact .inl rfl) ?_
  try simp -implicitDefEqProofs only [go_sem, Nat.reduceEqDiff, Nat.reduceAdd, ↓reduceIte]
  rcases ite_inv H2 with ⟨c3, H4⟩ | ⟨c3, H4⟩
  · obtain ⟨t19, b5, H6⟩ := bind_inv H4
    try simp -implicitDefEqProofs only [go_sem, Nat.reduceEqDiff, Nat.reduceAdd, ↓reduceIte, c3]
    refine onCall_pure (by first | rfl | (simp -implicitDefEqProofs only [go_sem, Int.reduceToNat, Int.reduceLT, Int.reduceLE, Int.reduceBEq, Int.reduceBNe, Nat.reduceLT, Nat.reduceBEq, Int.reduceEq, Nat.reduceEqDiff, Nat.reduceAdd, Nat.reduceSub, Nat.reduceMul, Nat.reduceLeDiff, reduceCtorEq, ↓reduceIte, eGPolicy, eGGroup, eGBound, eGStmt, eGAsk, c3]; done) | (simp -implicitDefEqProofs only [go_sem, Int.reduceToNat, Int.reduceLT, Int.reduceLE, Int.reduceBEq, Int.reduceBNe, Nat.reduceLT, Nat.reduceBEq, Int.reduceEq, Nat.reduceEqDiff, Nat.reduceAdd, Nat.reduceSub, Nat.reduceMul, Nat.reduceLeDiff, reduceCtorEq, ↓reduceIte, eGPolicy, eGGroup, eGBound, eGStmt, eGAsk, c3]; rfl)) (strings_HasPrefix_ok b5) (by first | exact .inr rfl | exact .inl rfl) ?_
    try simp -implicitDefEqProofs only [go_sem, Nat.reduceAdd, ↓reduceIte]
    obtain rfl := Option.some.inj H6
    exact end_pure (by first | (simp -implicitDefEqProofs only [go_sem, ↓reduceIte, Try.f17] <;> rfl) | rfl) (by first | rfl | (simp -implicitDefEqProofs only [go_sem, Int.reduceToNat, Int.reduceLT, Int.reduceLE, Int.reduceBEq, Int.reduceBNe, Nat.reduceLT, Nat.reduceBEq, Int.reduceEq, Nat.reduceEqDiff, Nat.reduceAdd, Nat.reduceSub, Nat.reduceMul, Nat.reduceLeDiff, reduceCtorEq, ↓reduceIte, eGPolicy, eGGroup, eGBound, eGStmt, eGAsk, c3]; done) | (simp -implicitDefEqProofs only [go_sem, Int.reduceToNat, Int.reduceLT, Int.reduceLE, Int.reduceBEq, Int.reduceBNe, Nat.reduceLT, Nat.reduceBEq, Int.reduceEq, Nat.reduceEqDiff, Nat.reduceAdd, Nat.reduceSub, Nat.reduceMul, Nat.reduceLeDiff, reduceCtorEq, ↓reduceIte, eGPolicy, eGGroup, eGBound, eGStmt, eGAsk, c3]; rfl)) rfl (by intro h; first | rfl | cases h)
  · try simp -implicitDefEqProofs only [go_sem, Nat.reduceEqDiff, Nat.reduceAdd, reduceCtorEq, ↓reduceIte, c3]
    obtain rfl := Option.some.inj H4
    exact end_pure (by first | (simp -implicitDefEqProofs only [go_sem, ↓reduceIte, Try.f17] <;> rfl) | rfl) (by first | rfl | (simp -implicitDefEqProofs only [go_sem, Int.reduceToNat, Int.reduceLT, Int.reduceLE, Int.reduceBEq, Int.reduceBNe, Nat.reduceLT, Nat.reduceBEq, Int.reduceEq, Nat.reduceEqDiff, Nat.reduceAdd, Nat.reduceSub, Nat.reduceMul, Nat.reduceLeDiff, reduceCtorEq, ↓reduceIte, eGPolicy, eGGroup, eGBound, eGStmt, eGAsk, c3]; done) | (simp -implicitDefEqProofs only [go_sem, Int.reduceToNat, Int.reduceLT, Int.reduceLE, Int.reduceBEq, Int.reduceBNe, Nat.reduceLT, Nat.reduceBEq, Int.reduceEq, Nat.reduceEqDiff, Nat.reduceAdd, Nat.reduceSub, Nat.reduceMul, Nat.reduceLeDiff, reduceCtorEq, ↓reduceIte, eGPolicy, eGGroup, eGBound, eGStmt, eGAsk, c3]; rfl)) rfl (by intro h; first | rfl | cases h)
def glob_matches_c1 (n : Nat) (p : ByteArray) (c2 : ByteArray) : Option Bool :=
  (glob_Match n p c2).bind fun t6 =>
  some t6
theorem glob_matches_c1_ok {n : Nat} {p : ByteArray} {c2 : ByteArray} {r : Bool} (H : glob_matches_c1 n p c2 = some r) : PureOK Try.prog 73 [D.v (.string p), D.pt [D.v (.string c2)] 0] (D.v (.bool r)) true := by
  unfold glob_matches_c1 at H
  refine pure_runR (tab := tab) tab_ok Try.func73 rfl (by kernel_rfl) (by kernel_rfl) (by simp [Try.f73]) ?_
  refine runR_take tab_ok fol 1 ?_
  obtain ⟨t6, b1, H2⟩ := bind_inv H
  try simp -implicitDefEqProofs only [go_sem, Nat.reduceEqDiff, Nat.reduceAdd, reduceCtorEq, ↓reduceIte]
  refine onCall_pure (by first | rfl | (simp -implicitDefEqProofs only [go_sem, Int.reduceToNat, Int.reduceLT, Int.reduceLE, Int.reduceBEq, Int.reduceBNe, Nat.reduceLT, Nat.reduceBEq, Int.reduceEq, Nat.reduceEqDiff, Nat.reduceAdd, Nat.reduceSub, Nat.reduceMul, Nat.reduceLeDiff, reduceCtorEq, ↓reduceIte, eGPolicy, eGGroup, eGBound, eGStmt, eGAsk]; done) | (simp -implicitDefEqProofs only [go_sem, Int.reduceToNat, Int.reduceLT, Int.reduceLE, Int.reduceBEq, Int.reduceBNe, Nat.reduceLT, Nat.reduceBEq, Int.reduceEq, Nat.reduceEqDiff, Nat.reduceAdd, Nat.reduceSub, Nat.reduceMul, Nat.reduceLeDiff, reduceCtorEq, ↓reduceIte, eGPolicy, eGGroup, eGBound, eGStmt, eGAsk]; rfl)) (glob_Match_ok b1) (by first | exact .inr rfl | exact .inl rfl) ?_
  try simp -implicitDefEqProofs only [go_sem, Nat.reduceAdd, ↓reduceIte]
  obtain rfl := Option.some.inj H2
  exact end_pure (by first | (simp -implicitDefEqProofs only [go_sem, ↓reduceIte, Try.f73] <;> rfl) | rfl) (by first | rfl | (simp -implicitDefEqProofs only [go_sem, Int.reduceToNat, Int.reduceLT, Int.reduceLE, Int.reduceBEq, Int.reduceBNe, Nat.reduceLT, Nat.reduceBEq, Int.reduceEq, Nat.reduceEqDiff, Nat.reduceAdd, Nat.reduceSub, Nat.reduceMul, Nat.reduceLeDiff, reduceCtorEq, ↓reduceIte, eGPolicy, eGGroup, eGBound, eGStmt, eGAsk]; done) | (simp -implicitDefEqProofs only [go_sem, Int.reduceToNat, Int.reduceLT, Int.reduceLE, Int.reduceBEq, Int.reduceBNe, Nat.reduceLT, Nat.reduceBEq, Int.reduceEq, Nat.reduceEqDiff, Nat.reduceAdd, Nat.reduceSub, Nat.reduceMul, Nat.reduceLeDiff, reduceCtorEq, ↓reduceIte, eGPolicy, eGGroup, eGBound, eGStmt, eGAsk]; rfl)) rfl (by intro h; first | rfl | cases h)
def slices_IndexFunc_string__glob_matches_c1_L1 (n : Nat) (s : List ByteArray) (c2 : ByteArray) : Nat → Int → Option ((Unit) ⊕ Int)
  | 0, _ => none
  | c + 1, t8 =>
    (if (decide (t8 < (s.length : Int))) then
      (idx s t8).bind fun x2 =>
      (glob_matches_c1 n x2 c2).bind fun t162 =>
      (if t162 then
        some (.inr t8)
      else
        slices_IndexFunc_string__glob_matches_c1_L1 n s c2 c (IntKind.i64.wrap (t8 + 1)))
    else
      some (.inl ()))

def slices_IndexFunc_string__glob_matches_c1 (n : Nat) (s : List ByteArray) (c2 : ByteArray) : Option Int :=
  (
    slices_IndexFunc_string__glob_matches_c1_L1 n s c2 n 0 : Option ((Unit) ⊕ Int)).bind fun
    | .inl _ =>
      some (-1)
    | .inr r => some r
theorem slices_IndexFunc_string__glob_matches_c1_ok {n : Nat} {s : List ByteArray} {c2 : ByteArray} {r : Int} (H : slices_IndexFunc_string__glob_matches_c1 n s c2 = some r) : PureA Try.prog 93 [.d (D.sl (List.map eS s)), .fn 73 [D.pt [D.v (.string c2)] 0]] (D.v (.int .i64 r)) true := by
  unfold slices_IndexFunc_string__glob_matches_c1 at H
  refine pureA_runR (tab := tab) tab_ok Try.func93 rfl (by kernel_rfl) (by kernel_rfl) (by simp [Try.f93]) ?_
  refine runR_seq ?_
  refine runR_take tab_ok fol 1 ?_
  try simp -implicitDefEqProofs only [go_sem]
  refine runR_seq ?_
  refine runR_seq ?_
  refine runR_take tab_ok fol 1 ?_
  try simp -implicitDefEqProofs only [go_sem, Nat.reduceAdd, reduceCtorEq, ↓reduceIte]
  obtain ⟨e_, E1, H2⟩ := bind_inv H
  refine runR_join (α := { y : Unit // e_ = .inl y }) (fun | ⟨_, _⟩ => ⟨noFr, noHp, 0⟩) ?_ ?_
  · refine runR_block ?_
    refine runR_loop (α := { q : Nat × Int // slices_IndexFunc_string__glob_matches_c1_L1 n s c2 q.1 q.2 = some e_ }) (fun | ⟨⟨c, t8⟩, _⟩ => ⟨upd 0 (.d (.sl (List.map eS s)) true) (upd 1 (.fn 73 [.d (.pt [.v (.string c2)] 0) true]) (upd 7 (.v (.int .i64 (s.length : Int))) (upd 8 (.v (.int .i64 t8)) noFr))), noHp, 0⟩) (fun q => q.1.1) ⟨(n, 0), E1⟩ ?_ ?_
    · exact ren_mk [] (by rfl) (rf_upd (by rfl) (rf_upd (by rfl) (rf_upd (by rfl) (rf_upd (by rfl) (rf_no _))))) (rh_no _)
    · rintro ⟨⟨c, t8⟩, L3⟩
      rcases c with _ | c
      · exact nomatch (show none = some _ from L3)
      · unfold slices_IndexFunc_string__glob_matches_c1_L1 at L3
        try dsimp only at L3
        refine runR_take tab_ok fol 1 ?_
        try simp -implicitDefEqProofs only [go_sem, Nat.reduceEqDiff, reduceCtorEq, ↓reduceIte]
        rcases ite_inv L3 with ⟨c16, H17⟩ | ⟨c16, H17⟩
        · obtain ⟨x2, b18, H19⟩ := bind_inv H17
          obtain ⟨h20, h21⟩ := idx_inv b18
          try simp only [Int.reduceToNat, Int.toNat_natCast] at h21
          have h22 := map_at eS h21
          obtain ⟨t162, b24, H25⟩ := bind_inv H19
          try simp -implicitDefEqProofs only [go_sem, Nat.reduceEqDiff, Nat.reduceAdd, reduceCtorEq, ↓reduceIte, c16, nat_of .i64 h20, h22]
          refine onCall_pure (by first | rfl | (simp -implicitDefEqProofs only [go_sem, Int.reduceToNat, Int.reduceLT, Int.reduceLE, Int.reduceBEq, Int.reduceBNe, Nat.reduceLT, Nat.reduceBEq, Int.reduceEq, Nat.reduceEqDiff, Nat.reduceAdd, Nat.reduceSub, Nat.reduceMul, Nat.reduceLeDiff, reduceCtorEq, ↓reduceIte, eGPolicy, eGGroup, eGBound, eGStmt, eGAsk, c16, nat_of .i64 h20, h22]; done) | (simp -implicitDefEqProofs only [go_sem, Int.reduceToNat, Int.reduceLT, Int.reduceLE, Int.reduceBEq, Int.reduceBNe, Nat.reduceLT, Nat.reduceBEq, Int.reduceEq, Nat.reduceEqDiff, Nat.reduceAdd, Nat.reduceSub, Nat.reduceMul, Nat.reduceLeDiff, reduceCtorEq, ↓reduceIte, eGPolicy, eGGroup, eGBound, eGStmt, eGAsk, c16, nat_of .i64 h20, h22]; rfl)) (glob_matches_c1_ok b24) (by first | exact .inr rfl | exact .inl rfl) ?_
          try simp -implicitDefEqProofs only [go_sem, ↓reduceIte]
          rcases ite_inv H25 with ⟨c26, H27⟩ | ⟨c26, H27⟩
          · try simp -implicitDefEqProofs only [go_sem, Nat.reduceEqDiff, Nat.reduceAdd, ↓reduceIte, c26]
            obtain rfl := Option.some.inj H27
            obtain rfl := Option.some.inj H2
            exact end_pure (by first | (simp -implicitDefEqProofs only [go_sem, ↓reduceIte, Try.f93] <;> rfl) | rfl) (by first | rfl | (simp -implicitDefEqProofs only [go_sem, Int.reduceToNat, Int.reduceLT, Int.reduceLE, Int.reduceBEq, Int.reduceBNe, Nat.reduceLT, Nat.reduceBEq, Int.reduceEq, Nat.reduceEqDiff, Nat.reduceAdd, Nat.reduceSub, Nat.reduceMul, Nat.reduceLeDiff, reduceCtorEq, ↓reduceIte, eGPolicy, eGGroup, eGBound, eGStmt, eGAsk, c16, nat_of .i64 h20, h22, c26]; done) | (simp -implicitDefEqProofs only [go_sem, Int.reduceToNat, Int.reduceLT, Int.reduceLE, Int.reduceBEq, Int.reduceBNe, Nat.reduceLT, Nat.reduceBEq, Int.reduceEq, Nat.reduceEqDiff, Nat.reduceAdd, Nat.reduceSub, Nat.reduceMul, Nat.reduceLeDiff, reduceCtorEq, ↓reduceIte, eGPolicy, eGGroup, eGBound, eGStmt, eGAsk, c16, nat_of .i64 h20, h22, c26]; rfl)) rfl (by intro h; first | rfl | cases h)
          · try simp -implicitDefEqProofs only [go_sem, Nat.reduceEqDiff, Nat.reduceAdd, reduceCtorEq, ↓reduceIte, c26]
            exact ⟨⟨(c, (IntKind.i64.wrap (t8 + 1))), H27⟩, ren_mk [] (by rfl) (rf_upd (by rfl) (rf_upd (by rfl) (rf_upd (by rfl) (rf_upd (by rfl) (rf_no _))))) (rh_no _), Nat.lt_succ_self _⟩
        · try simp -implicitDefEqProofs only [go_sem, ↓reduceIte, c16]
          obtain rfl := Option.some.inj H17
          exact ⟨⟨(), rfl⟩, ren_mk [] (by rfl) (rf_no _) (rh_no _)⟩
  · rintro ⟨_, he28⟩
    replace he28 := he28.symm
    subst he28
    try dsimp only at H2
    refine runR_take tab_ok fol 1 ?_
    try simp -implicitDefEqProofs only [go_sem]
    obtain rfl := Option.some.inj H2
    exact end_pure (by first | (simp -implicitDefEqProofs only [go_sem, ↓reduceIte, Try.f93] <;> rfl) | rfl) (by first | rfl | (simp -implicitDefEqProofs only [go_sem, Int.reduceToNat, Int.reduceLT, Int.reduceLE, Int.reduceBEq, Int.reduceBNe, Nat.reduceLT, Nat.reduceBEq, Int.reduceEq, Nat.reduceEqDiff, Nat.reduceAdd, Nat.reduceSub, Nat.reduceMul, Nat.reduceLeDiff, reduceCtorEq, ↓reduceIte, eGPolicy, eGGroup, eGBound, eGStmt, eGAsk]; done) | (simp -implicitDefEqProofs only [go_sem, Int.reduceToNat, Int.reduceLT, Int.reduceLE, Int.reduceBEq, Int.reduceBNe, Nat.reduceLT, Nat.reduceBEq, Int.reduceEq, Nat.reduceEqDiff, Nat.reduceAdd, Nat.reduceSub, Nat.reduceMul, Nat.reduceLeDiff, reduceCtorEq, ↓reduceIte, eGPolicy, eGGroup, eGBound, eGStmt, eGAsk]; rfl)) rfl (by intro h; first | rfl | cases h)
def slices_ContainsFunc_string__glob_matches_c1 (n : Nat) (s : List ByteArray) (c2 : ByteArray) : Option Bool :=
  (slices_IndexFunc_string__glob_matches_c1 n s c2).bind fun t7 =>
  some (decide (0 ≤ t7))
theorem slices_ContainsFunc_string__glob_matches_c1_ok {n : Nat} {s : List ByteArray} {c2 : ByteArray} {r : Bool} (H : slices_ContainsFunc_string__glob_matches_c1 n s c2 = some r) : PureA Try.prog 68 [.d (D.sl (List.map eS s)), .fn 73 [D.pt [D.v (.string c2)] 0]] (D.v (.bool r)) true := by
  unfold slices_ContainsFunc_string__glob_matches_c1 at H
  refine pureA_runR (tab := tab) tab_ok Try.func68 rfl (by kernel_rfl) (by kernel_rfl) (by simp [Try.f68]) ?_
  refine runR_take tab_ok fol 1 ?_
  obtain ⟨t7, b1, H2⟩ := bind_inv H
  try simp -implicitDefEqProofs only [go_sem, Nat.reduceEqDiff, Nat.reduceAdd, reduceCtorEq, ↓reduceIte]
  refine onCall_pureA (by first | rfl | (simp -implicitDefEqProofs only [go_sem, Int.reduceToNat, Int.reduceLT, Int.reduceLE, Int.reduceBEq, Int.reduceBNe, Nat.reduceLT, Nat.reduceBEq, Int.reduceEq, Nat.reduceEqDiff, Nat.reduceAdd, Nat.reduceSub, Nat.reduceMul, Nat.reduceLeDiff, reduceCtorEq, ↓reduceIte, eGPolicy, eGGroup, eGBound, eGStmt, eGAsk]; done) | (simp -implicitDefEqProofs only [go_sem, Int.reduceToNat, Int.reduceLT, Int.reduceLE, Int.reduceBEq, Int.reduceBNe, Nat.reduceLT, Nat.reduceBEq, Int.reduceEq, Nat.reduceEqDiff, Nat.reduceAdd, Nat.reduceSub, Nat.reduceMul, Nat.reduceLeDiff, reduceCtorEq, ↓reduceIte, eGPolicy, eGGroup, eGBound, eGStmt, eGAsk]; rfl)) (slices_IndexFunc_string__glob_matches_c1_ok b1) (by first | exact .inr rfl | exact .inl rfl) ?_
  try simp -implicitDefEqProofs only [go_sem, Nat.reduceAdd, ↓reduceIte]
  obtain rfl := Option.some.inj H2
  exact end_pure (by first | (simp -implicitDefEqProofs only [go_sem, ↓reduceIte, Try.f68] <;> rfl) | rfl) (by first | rfl | (simp -implicitDefEqProofs only [go_sem, Int.reduceToNat, Int.reduceLT, Int.reduceLE, Int.reduceBEq, Int.reduceBNe, Nat.reduceLT, Nat.reduceBEq, Int.reduceEq, Nat.reduceEqDiff, Nat.reduceAdd, Nat.reduceSub, Nat.reduceMul, Nat.reduceLeDiff, reduceCtorEq, ↓reduceIte, eGPolicy, eGGroup, eGBound, eGStmt, eGAsk]; done) | (simp -implicitDefEqProofs only [go_sem, Int.reduceToNat, Int.reduceLT, Int.reduceLE, Int.reduceBEq, Int.reduceBNe, Nat.reduceLT, Nat.reduceBEq, Int.reduceEq, Nat.reduceEqDiff, Nat.reduceAdd, Nat.reduceSub, Nat.reduceMul, Nat.reduceLeDiff, reduceCtorEq, ↓reduceIte, eGPolicy, eGGroup, eGBound, eGStmt, eGAsk]; rfl)) rfl (by intro h; first | rfl | cases h)
def glob_matches (n : Nat) (patterns : List ByteArray) (name : ByteArray) : Option Bool :=
  (slices_ContainsFunc_string__glob_matches_c1 n patterns name).bind fun t7 =>
  some t7
theorem glob_matches_ok {n : Nat} {patterns : List ByteArray} {name : ByteArray} {r : Bool} (H : glob_matches n patterns name = some r) : PureOK Try.prog 48 [D.sl (List.map eS patterns), D.v (.string name)] (D.v (.bool r)) true := by
  unfold glob_matches at H
  refine pure_runR (tab := tab) tab_ok Try.func48 rfl (by kernel_rfl) (by kernel_rfl) (by simp [Try.f48]) ?_
  refine runR_take tab_ok fol 1 ?_
  obtain ⟨t7, b1, H2⟩ := bind_inv H
  try simp -implicitDefEqProofs only [go_sem, Nat.reduceEqDiff, Nat.reduceAdd, reduceCtorEq, ↓reduceIte]
  refine onCall_pureA (by first | rfl | (simp -implicitDefEqProofs only [go_sem, Int.reduceToNat, Int.reduceLT, Int.reduceLE, Int.reduceBEq, Int.reduceBNe, Nat.reduceLT, Nat.reduceBEq, Int.reduceEq, Nat.reduceEqDiff, Nat.reduceAdd, Nat.reduceSub, Nat.reduceMul, Nat.reduceLeDiff, reduceCtorEq, ↓reduceIte, eGPolicy, eGGroup, eGBound, eGStmt, eGAsk]; done) | (simp -implicitDefEqProofs only [go_sem, Int.reduceToNat, Int.reduceLT, Int.reduceLE, Int.reduceBEq, Int.reduceBNe, Nat.reduceLT, Nat.reduceBEq, Int.reduceEq, Nat.reduceEqDiff, Nat.reduceAdd, Nat.reduceSub, Nat.reduceMul, Nat.reduceLeDiff, reduceCtorEq, ↓reduceIte, eGPolicy, eGGroup, eGBound, eGStmt, eGAsk]; rfl)) (slices_ContainsFunc_string__glob_matches_c1_ok b1) (by first | exact .inr rfl | exact .inl rfl) ?_
  try simp -implicitDefEqProofs only [go_sem, Nat.reduceAdd, ↓reduceIte]
  obtain rfl := Option.some.inj H2
  exact end_pure (by first | (simp -implicitDefEqProofs only [go_sem, ↓reduceIte, Try.f48] <;> rfl) | rfl) (by first | rfl | (simp -implicitDefEqProofs only [go_sem, Int.reduceToNat, Int.reduceLT, Int.reduceLE, Int.reduceBEq, Int.reduceBNe, Nat.reduceLT, Nat.reduceBEq, Int.reduceEq, Nat.reduceEqDiff, Nat.reduceAdd, Nat.reduceSub, Nat.reduceMul, Nat.reduceLeDiff, reduceCtorEq, ↓reduceIte, eGPolicy, eGGroup, eGBound, eGStmt, eGAsk]; done) | (simp -implicitDefEqProofs only [go_sem, Int.reduceToNat, Int.reduceLT, Int.reduceLE, Int.reduceBEq, Int.reduceBNe, Nat.reduceLT, Nat.reduceBEq, Int.reduceEq, Nat.reduceEqDiff, Nat.reduceAdd, Nat.reduceSub, Nat.reduceMul, Nat.reduceLeDiff, reduceCtorEq, ↓reduceIte, eGPolicy, eGGroup, eGBound, eGStmt, eGAsk]; rfl)) rfl (by intro h; first | rfl | cases h)
def glob_In_c1 (n : Nat) (g : GGroup) (c2 : ByteArray) (c3 : ByteArray) : Option Bool :=
  (if (g.name.toList == c2.toList) then
    (slices_Contains_string n g.users c3).bind fun t13 =>
    some t13
  else
    some false)
theorem glob_In_c1_ok {n : Nat} {g : GGroup} {c2 : ByteArray} {c3 : ByteArray} {r : Bool} (H : glob_In_c1 n g c2 c3 = some r) : PureOK Try.prog 44 [D.ag (eGGroup g), D.pt [D.v (.string c2)] 0, D.pt [D.v (.string c3)] 0] (D.v (.bool r)) true := by
  unfold glob_In_c1 at H
  refine pure_runR (tab := tab) tab_ok Try.func44 rfl (by kernel_rfl) (by kernel_rfl) (by simp [Try.f44]) ?_
  refine runR_take tab_ok fol 1 ?_
  try simp -implicitDefEqProofs only [go_sem, Nat.reduceEqDiff, Nat.reduceAdd, reduceCtorEq, ↓reduceIte, eGGroup]
  rcases ite_inv H with ⟨c1, H2⟩ | ⟨c1, H2⟩
  · obtain ⟨t13, b3, H4⟩ := bind_inv H2
    try simp -implicitDefEqProofs only [go_sem, Nat.reduceEqDiff, Nat.reduceAdd, reduceCtorEq, ↓reduceIte, c1]
    refine onCall_pure (by first | rfl | (simp -implicitDefEqProofs only [go_sem, Int.reduceToNat, Int.reduceLT, Int.reduceLE, Int.reduceBEq, Int.reduceBNe, Nat.reduceLT, Nat.reduceBEq, Int.reduceEq, Nat.reduceEqDiff, Nat.reduceAdd, Nat.reduceSub, Nat.reduceMul, Nat.reduceLeDiff, reduceCtorEq, ↓reduceIte, eGPolicy, eGGroup, eGBound, eGStmt, eGAsk, c1]; done) | (simp -implicitDefEqProofs only [go_sem, Int.reduceToNat, Int.reduceLT, Int.reduceLE, Int.reduceBEq, Int.reduceBNe, Nat.reduceLT, Nat.reduceBEq, Int.reduceEq, Nat.reduceEqDiff, Nat.reduceAdd, Nat.reduceSub, Nat.reduceMul, Nat.reduceLeDiff, reduceCtorEq, ↓reduceIte, eGPolicy, eGGroup, eGBound, eGStmt, eGAsk, c1]; rfl)) (slices_Contains_string_ok b3) (by first | exact .inr rfl | exact .inl rfl) ?_
    try simp -implicitDefEqProofs only [go_sem, Nat.reduceEqDiff, Nat.reduceAdd, ↓reduceIte]
    obtain rfl := Option.some.inj H4
    exact end_pure (by first | (simp -implicitDefEqProofs only [go_sem, ↓reduceIte, Try.f44] <;> rfl) | rfl) (by first | rfl | (simp -implicitDefEqProofs only [go_sem, Int.reduceToNat, Int.reduceLT, Int.reduceLE, Int.reduceBEq, Int.reduceBNe, Nat.reduceLT, Nat.reduceBEq, Int.reduceEq, Nat.reduceEqDiff, Nat.reduceAdd, Nat.reduceSub, Nat.reduceMul, Nat.reduceLeDiff, reduceCtorEq, ↓reduceIte, eGPolicy, eGGroup, eGBound, eGStmt, eGAsk, c1]; done) | (simp -implicitDefEqProofs only [go_sem, Int.reduceToNat, Int.reduceLT, Int.reduceLE, Int.reduceBEq, Int.reduceBNe, Nat.reduceLT, Nat.reduceBEq, Int.reduceEq, Nat.reduceEqDiff, Nat.reduceAdd, Nat.reduceSub, Nat.reduceMul, Nat.reduceLeDiff, reduceCtorEq, ↓reduceIte, eGPolicy, eGGroup, eGBound, eGStmt, eGAsk, c1]; rfl)) rfl (by intro h; first | rfl | cases h)
  · try simp -implicitDefEqProofs only [go_sem, Nat.reduceEqDiff, Nat.reduceAdd, ↓reduceIte, c1]
    obtain rfl := Option.some.inj H2
    exact end_pure (by first | (simp -implicitDefEqProofs only [go_sem, ↓reduceIte, Try.f44] <;> rfl) | rfl) (by first | rfl | (simp -implicitDefEqProofs only [go_sem, Int.reduceToNat, Int.reduceLT, Int.reduceLE, Int.reduceBEq, Int.reduceBNe, Nat.reduceLT, Nat.reduceBEq, Int.reduceEq, Nat.reduceEqDiff, Nat.reduceAdd, Nat.reduceSub, Nat.reduceMul, Nat.reduceLeDiff, reduceCtorEq, ↓reduceIte, eGPolicy, eGGroup, eGBound, eGStmt, eGAsk, c1]; done) | (simp -implicitDefEqProofs only [go_sem, Int.reduceToNat, Int.reduceLT, Int.reduceLE, Int.reduceBEq, Int.reduceBNe, Nat.reduceLT, Nat.reduceBEq, Int.reduceEq, Nat.reduceEqDiff, Nat.reduceAdd, Nat.reduceSub, Nat.reduceMul, Nat.reduceLeDiff, reduceCtorEq, ↓reduceIte, eGPolicy, eGGroup, eGBound, eGStmt, eGAsk, c1]; rfl)) rfl (by intro h; first | rfl | cases h)
def slices_IndexFunc_Group__glob_In_c1_L1 (n : Nat) (s : List GGroup) (c2 : ByteArray) (c3 : ByteArray) : Nat → Int → Option ((Unit) ⊕ Int)
  | 0, _ => none
  | c + 1, t8 =>
    (if (decide (t8 < (s.length : Int))) then
      (idx s t8).bind fun x2 =>
      (glob_In_c1 n x2 c2 c3).bind fun t162 =>
      (if t162 then
        some (.inr t8)
      else
        slices_IndexFunc_Group__glob_In_c1_L1 n s c2 c3 c (IntKind.i64.wrap (t8 + 1)))
    else
      some (.inl ()))

def slices_IndexFunc_Group__glob_In_c1 (n : Nat) (s : List GGroup) (c2 : ByteArray) (c3 : ByteArray) : Option Int :=
  (
    slices_IndexFunc_Group__glob_In_c1_L1 n s c2 c3 n 0 : Option ((Unit) ⊕ Int)).bind fun
    | .inl _ =>
      some (-1)
    | .inr r => some r
theorem slices_IndexFunc_Group__glob_In_c1_ok {n : Nat} {s : List GGroup} {c2 : ByteArray} {c3 : ByteArray} {r : Int} (H : slices_IndexFunc_Group__glob_In_c1 n s c2 c3 = some r) : PureA Try.prog 70 [.d (D.sl (List.map eGGroup s)), .fn 44 [D.pt [D.v (.string c2)] 0, D.pt [D.v (.string c3)] 0]] (D.v (.int .i64 r)) true := by
  unfold slices_IndexFunc_Group__glob_In_c1 at H
  refine pureA_runR (tab := tab) tab_ok Try.func70 rfl (by kernel_rfl) (by kernel_rfl) (by simp [Try.f70]) ?_
  refine runR_seq ?_
  refine runR_take tab_ok fol 1 ?_
  try simp -implicitDefEqProofs only [go_sem]
  refine runR_seq ?_
  refine runR_seq ?_
  refine runR_take tab_ok fol 1 ?_
  try simp -implicitDefEqProofs only [go_sem, Nat.reduceAdd, reduceCtorEq, ↓reduceIte]
  obtain ⟨e_, E1, H2⟩ := bind_inv H
  refine runR_join (α := { y : Unit // e_ = .inl y }) (fun | ⟨_, _⟩ => ⟨noFr, noHp, 0⟩) ?_ ?_
  · refine runR_block ?_
    refine runR_loop (α := { q : Nat × Int // slices_IndexFunc_Group__glob_In_c1_L1 n s c2 c3 q.1 q.2 = some e_ }) (fun | ⟨⟨c, t8⟩, _⟩ => ⟨upd 0 (.d (.sl (List.map eGGroup s)) true) (upd 1 (.fn 44 [.d (.pt [.v (.string c2)] 0) true, .d (.pt [.v (.string c3)] 0) true]) (upd 7 (.v (.int .i64 (s.length : Int))) (upd 8 (.v (.int .i64 t8)) noFr))), noHp, 0⟩) (fun q => q.1.1) ⟨(n, 0), E1⟩ ?_ ?_
    · exact ren_mk [] (by rfl) (rf_upd (by rfl) (rf_upd (by rfl) (rf_upd (by rfl) (rf_upd (by rfl) (rf_no _))))) (rh_no _)
    · rintro ⟨⟨c, t8⟩, L3⟩
      rcases c with _ | c
      · exact nomatch (show none = some _ from L3)
      · unfold slices_IndexFunc_Group__glob_In_c1_L1 at L3
        try dsimp only at L3
        refine runR_take tab_ok fol 1 ?_
        try simp -implicitDefEqProofs only [go_sem, Nat.reduceEqDiff, reduceCtorEq, ↓reduceIte]
        rcases ite_inv L3 with ⟨c16, H17⟩ | ⟨c16, H17⟩
        · obtain ⟨x2, b18, H19⟩ := bind_inv H17
          obtain ⟨h20, h21⟩ := idx_inv b18
          try simp only [Int.reduceToNat, Int.toNat_natCast] at h21
          have h22 := map_at eGGroup h21
          obtain ⟨t162, b24, H25⟩ := bind_inv H19
          try simp -implicitDefEqProofs only [go_sem, Nat.reduceEqDiff, Nat.reduceAdd, reduceCtorEq, ↓reduceIte, eGGroup, c16, nat_of .i64 h20, h22]
          refine onCall_pure (by first | rfl | (simp -implicitDefEqProofs only [go_sem, Int.reduceToNat, Int.reduceLT, Int.reduceLE, Int.reduceBEq, Int.reduceBNe, Nat.reduceLT, Nat.reduceBEq, Int.reduceEq, Nat.reduceEqDiff, Nat.reduceAdd, Nat.reduceSub, Nat.reduceMul, Nat.reduceLeDiff, reduceCtorEq, ↓reduceIte, eGPolicy, eGGroup, eGBound, eGStmt, eGAsk, c16, nat_of .i64 h20, h22]; done) | (simp -implicitDefEqProofs only [go_sem, Int.reduceToNat, Int.reduceLT, Int.reduceLE, Int.reduceBEq, Int.reduceBNe, Nat.reduceLT, Nat.reduceBEq, Int.reduceEq, Nat.reduceEqDiff, Nat.reduceAdd, Nat.reduceSub, Nat.reduceMul, Nat.reduceLeDiff, reduceCtorEq, ↓reduceIte, eGPolicy, eGGroup, eGBound, eGStmt, eGAsk, c16, nat_of .i64 h20, h22]; rfl)) (glob_In_c1_ok b24) (by first | exact .inr rfl | exact .inl rfl) ?_
          try simp -implicitDefEqProofs only [go_sem, ↓reduceIte]
          rcases ite_inv H25 with ⟨c26, H27⟩ | ⟨c26, H27⟩
          · try simp -implicitDefEqProofs only [go_sem, Nat.reduceEqDiff, Nat.reduceAdd, ↓reduceIte, c26]
            obtain rfl := Option.some.inj H27
            obtain rfl := Option.some.inj H2
            exact end_pure (by first | (simp -implicitDefEqProofs only [go_sem, ↓reduceIte, Try.f70] <;> rfl) | rfl) (by first | rfl | (simp -implicitDefEqProofs only [go_sem, Int.reduceToNat, Int.reduceLT, Int.reduceLE, Int.reduceBEq, Int.reduceBNe, Nat.reduceLT, Nat.reduceBEq, Int.reduceEq, Nat.reduceEqDiff, Nat.reduceAdd, Nat.reduceSub, Nat.reduceMul, Nat.reduceLeDiff, reduceCtorEq, ↓reduceIte, eGPolicy, eGGroup, eGBound, eGStmt, eGAsk, c16, nat_of .i64 h20, h22, c26]; done) | (simp -implicitDefEqProofs only [go_sem, Int.reduceToNat, Int.reduceLT, Int.reduceLE, Int.reduceBEq, Int.reduceBNe, Nat.reduceLT, Nat.reduceBEq, Int.reduceEq, Nat.reduceEqDiff, Nat.reduceAdd, Nat.reduceSub, Nat.reduceMul, Nat.reduceLeDiff, reduceCtorEq, ↓reduceIte, eGPolicy, eGGroup, eGBound, eGStmt, eGAsk, c16, nat_of .i64 h20, h22, c26]; rfl)) rfl (by intro h; first | rfl | cases h)
          · try simp -implicitDefEqProofs only [go_sem, Nat.reduceEqDiff, Nat.reduceAdd, reduceCtorEq, ↓reduceIte, c26]
            exact ⟨⟨(c, (IntKind.i64.wrap (t8 + 1))), H27⟩, ren_mk [] (by rfl) (rf_upd (by rfl) (rf_upd (by rfl) (rf_upd (by rfl) (rf_upd (by rfl) (rf_no _))))) (rh_no _), Nat.lt_succ_self _⟩
        · try simp -implicitDefEqProofs only [go_sem, ↓reduceIte, c16]
          obtain rfl := Option.some.inj H17
          exact ⟨⟨(), rfl⟩, ren_mk [] (by rfl) (rf_no _) (rh_no _)⟩
  · rintro ⟨_, he28⟩
    replace he28 := he28.symm
    subst he28
    try dsimp only at H2
    refine runR_take tab_ok fol 1 ?_
    try simp -implicitDefEqProofs only [go_sem]
    obtain rfl := Option.some.inj H2
    exact end_pure (by first | (simp -implicitDefEqProofs only [go_sem, ↓reduceIte, Try.f70] <;> rfl) | rfl) (by first | rfl | (simp -implicitDefEqProofs only [go_sem, Int.reduceToNat, Int.reduceLT, Int.reduceLE, Int.reduceBEq, Int.reduceBNe, Nat.reduceLT, Nat.reduceBEq, Int.reduceEq, Nat.reduceEqDiff, Nat.reduceAdd, Nat.reduceSub, Nat.reduceMul, Nat.reduceLeDiff, reduceCtorEq, ↓reduceIte, eGPolicy, eGGroup, eGBound, eGStmt, eGAsk]; done) | (simp -implicitDefEqProofs only [go_sem, Int.reduceToNat, Int.reduceLT, Int.reduceLE, Int.reduceBEq, Int.reduceBNe, Nat.reduceLT, Nat.reduceBEq, Int.reduceEq, Nat.reduceEqDiff, Nat.reduceAdd, Nat.reduceSub, Nat.reduceMul, Nat.reduceLeDiff, reduceCtorEq, ↓reduceIte, eGPolicy, eGGroup, eGBound, eGStmt, eGAsk]; rfl)) rfl (by intro h; first | rfl | cases h)
def slices_ContainsFunc_Group__glob_In_c1 (n : Nat) (s : List GGroup) (c2 : ByteArray) (c3 : ByteArray) : Option Bool :=
  (slices_IndexFunc_Group__glob_In_c1 n s c2 c3).bind fun t7 =>
  some (decide (0 ≤ t7))
theorem slices_ContainsFunc_Group__glob_In_c1_ok {n : Nat} {s : List GGroup} {c2 : ByteArray} {c3 : ByteArray} {r : Bool} (H : slices_ContainsFunc_Group__glob_In_c1 n s c2 c3 = some r) : PureA Try.prog 43 [.d (D.sl (List.map eGGroup s)), .fn 44 [D.pt [D.v (.string c2)] 0, D.pt [D.v (.string c3)] 0]] (D.v (.bool r)) true := by
  unfold slices_ContainsFunc_Group__glob_In_c1 at H
  refine pureA_runR (tab := tab) tab_ok Try.func43 rfl (by kernel_rfl) (by kernel_rfl) (by simp [Try.f43]) ?_
  refine runR_take tab_ok fol 1 ?_
  obtain ⟨t7, b1, H2⟩ := bind_inv H
  try simp -implicitDefEqProofs only [go_sem, Nat.reduceEqDiff, Nat.reduceAdd, reduceCtorEq, ↓reduceIte]
  refine onCall_pureA (by first | rfl | (simp -implicitDefEqProofs only [go_sem, Int.reduceToNat, Int.reduceLT, Int.reduceLE, Int.reduceBEq, Int.reduceBNe, Nat.reduceLT, Nat.reduceBEq, Int.reduceEq, Nat.reduceEqDiff, Nat.reduceAdd, Nat.reduceSub, Nat.reduceMul, Nat.reduceLeDiff, reduceCtorEq, ↓reduceIte, eGPolicy, eGGroup, eGBound, eGStmt, eGAsk]; done) | (simp -implicitDefEqProofs only [go_sem, Int.reduceToNat, Int.reduceLT, Int.reduceLE, Int.reduceBEq, Int.reduceBNe, Nat.reduceLT, Nat.reduceBEq, Int.reduceEq, Nat.reduceEqDiff, Nat.reduceAdd, Nat.reduceSub, Nat.reduceMul, Nat.reduceLeDiff, reduceCtorEq, ↓reduceIte, eGPolicy, eGGroup, eGBound, eGStmt, eGAsk]; rfl)) (slices_IndexFunc_Group__glob_In_c1_ok b1) (by first | exact .inr rfl | exact .inl rfl) ?_
  try simp -implicitDefEqProofs only [go_sem, Nat.reduceAdd, ↓reduceIte]
  obtain rfl := Option.some.inj H2
  exact end_pure (by first | (simp -implicitDefEqProofs only [go_sem, ↓reduceIte, Try.f43] <;> rfl) | rfl) (by first | rfl | (simp -implicitDefEqProofs only [go_sem, Int.reduceToNat, Int.reduceLT, Int.reduceLE, Int.reduceBEq, Int.reduceBNe, Nat.reduceLT, Nat.reduceBEq, Int.reduceEq, Nat.reduceEqDiff, Nat.reduceAdd, Nat.reduceSub, Nat.reduceMul, Nat.reduceLeDiff, reduceCtorEq, ↓reduceIte, eGPolicy, eGGroup, eGBound, eGStmt, eGAsk]; done) | (simp -implicitDefEqProofs only [go_sem, Int.reduceToNat, Int.reduceLT, Int.reduceLE, Int.reduceBEq, Int.reduceBNe, Nat.reduceLT, Nat.reduceBEq, Int.reduceEq, Nat.reduceEqDiff, Nat.reduceAdd, Nat.reduceSub, Nat.reduceMul, Nat.reduceLeDiff, reduceCtorEq, ↓reduceIte, eGPolicy, eGGroup, eGBound, eGStmt, eGAsk]; rfl)) rfl (by intro h; first | rfl | cases h)
def glob_In (n : Nat) (p : GPolicy) (user : ByteArray) (group : ByteArray) : Option Bool :=
  (slices_ContainsFunc_Group__glob_In_c1 n p.groups group user).bind fun t10 =>
  some t10
theorem glob_In_ok {n : Nat} {p : GPolicy} {user : ByteArray} {group : ByteArray} {r : Bool} (H : glob_In n p user group = some r) : PureOK Try.prog 14 [D.ag (eGPolicy p), D.v (.string user), D.v (.string group)] (D.v (.bool r)) true := by
  unfold glob_In at H
  refine pure_runR (tab := tab) tab_ok Try.func14 rfl (by kernel_rfl) (by kernel_rfl) (by simp [Try.f14]) ?_
  refine runR_take tab_ok fol 1 ?_
  obtain ⟨t10, b1, H2⟩ := bind_inv H
  try simp -implicitDefEqProofs only [go_sem, Nat.reduceEqDiff, Nat.reduceAdd, reduceCtorEq, ↓reduceIte, eGPolicy]
  refine onCall_pureA (by first | rfl | (simp -implicitDefEqProofs only [go_sem, Int.reduceToNat, Int.reduceLT, Int.reduceLE, Int.reduceBEq, Int.reduceBNe, Nat.reduceLT, Nat.reduceBEq, Int.reduceEq, Nat.reduceEqDiff, Nat.reduceAdd, Nat.reduceSub, Nat.reduceMul, Nat.reduceLeDiff, reduceCtorEq, ↓reduceIte, eGPolicy, eGGroup, eGBound, eGStmt, eGAsk]; done) | (simp -implicitDefEqProofs only [go_sem, Int.reduceToNat, Int.reduceLT, Int.reduceLE, Int.reduceBEq, Int.reduceBNe, Nat.reduceLT, Nat.reduceBEq, Int.reduceEq, Nat.reduceEqDiff, Nat.reduceAdd, Nat.reduceSub, Nat.reduceMul, Nat.reduceLeDiff, reduceCtorEq, ↓reduceIte, eGPolicy, eGGroup, eGBound, eGStmt, eGAsk]; rfl)) (slices_ContainsFunc_Group__glob_In_c1_ok b1) (by first | exact .inr rfl | exact .inl rfl) ?_
  try simp -implicitDefEqProofs only [go_sem, Nat.reduceAdd, ↓reduceIte]
  obtain rfl := Option.some.inj H2
  exact end_pure (by first | (simp -implicitDefEqProofs only [go_sem, ↓reduceIte, Try.f14] <;> rfl) | rfl) (by first | rfl | (simp -implicitDefEqProofs only [go_sem, Int.reduceToNat, Int.reduceLT, Int.reduceLE, Int.reduceBEq, Int.reduceBNe, Nat.reduceLT, Nat.reduceBEq, Int.reduceEq, Nat.reduceEqDiff, Nat.reduceAdd, Nat.reduceSub, Nat.reduceMul, Nat.reduceLeDiff, reduceCtorEq, ↓reduceIte, eGPolicy, eGGroup, eGBound, eGStmt, eGAsk]; done) | (simp -implicitDefEqProofs only [go_sem, Int.reduceToNat, Int.reduceLT, Int.reduceLE, Int.reduceBEq, Int.reduceBNe, Nat.reduceLT, Nat.reduceBEq, Int.reduceEq, Nat.reduceEqDiff, Nat.reduceAdd, Nat.reduceSub, Nat.reduceMul, Nat.reduceLeDiff, reduceCtorEq, ↓reduceIte, eGPolicy, eGGroup, eGBound, eGStmt, eGAsk]; rfl)) rfl (by intro h; first | rfl | cases h)
def glob_bears_c1 (n : Nat) (g : ByteArray) (c2 : GPolicy) (c3 : ByteArray) : Option Bool :=
  (glob_In n c2 c3 g).bind fun t8 =>
  some t8
theorem glob_bears_c1_ok {n : Nat} {g : ByteArray} {c2 : GPolicy} {c3 : ByteArray} {r : Bool} (H : glob_bears_c1 n g c2 c3 = some r) : PureOK Try.prog 69 [D.v (.string g), D.pt (eGPolicy c2) 0, D.pt [D.v (.string c3)] 0] (D.v (.bool r)) true := by
  unfold glob_bears_c1 at H
  refine pure_runR (tab := tab) tab_ok Try.func69 rfl (by kernel_rfl) (by kernel_rfl) (by simp [Try.f69]) ?_
  refine runR_take tab_ok fol 1 ?_
  obtain ⟨t8, b1, H2⟩ := bind_inv H
  try simp -implicitDefEqProofs only [go_sem, Nat.reduceEqDiff, Nat.reduceAdd, reduceCtorEq, ↓reduceIte, eGPolicy]
  refine onCall_pure (by first | rfl | (simp -implicitDefEqProofs only [go_sem, Int.reduceToNat, Int.reduceLT, Int.reduceLE, Int.reduceBEq, Int.reduceBNe, Nat.reduceLT, Nat.reduceBEq, Int.reduceEq, Nat.reduceEqDiff, Nat.reduceAdd, Nat.reduceSub, Nat.reduceMul, Nat.reduceLeDiff, reduceCtorEq, ↓reduceIte, eGPolicy, eGGroup, eGBound, eGStmt, eGAsk]; done) | (simp -implicitDefEqProofs only [go_sem, Int.reduceToNat, Int.reduceLT, Int.reduceLE, Int.reduceBEq, Int.reduceBNe, Nat.reduceLT, Nat.reduceBEq, Int.reduceEq, Nat.reduceEqDiff, Nat.reduceAdd, Nat.reduceSub, Nat.reduceMul, Nat.reduceLeDiff, reduceCtorEq, ↓reduceIte, eGPolicy, eGGroup, eGBound, eGStmt, eGAsk]; rfl)) (glob_In_ok b1) (by first | exact .inr rfl | exact .inl rfl) ?_
  try simp -implicitDefEqProofs only [go_sem, Nat.reduceAdd, ↓reduceIte]
  obtain rfl := Option.some.inj H2
  exact end_pure (by first | (simp -implicitDefEqProofs only [go_sem, ↓reduceIte, Try.f69] <;> rfl) | rfl) (by first | rfl | (simp -implicitDefEqProofs only [go_sem, Int.reduceToNat, Int.reduceLT, Int.reduceLE, Int.reduceBEq, Int.reduceBNe, Nat.reduceLT, Nat.reduceBEq, Int.reduceEq, Nat.reduceEqDiff, Nat.reduceAdd, Nat.reduceSub, Nat.reduceMul, Nat.reduceLeDiff, reduceCtorEq, ↓reduceIte, eGPolicy, eGGroup, eGBound, eGStmt, eGAsk]; done) | (simp -implicitDefEqProofs only [go_sem, Int.reduceToNat, Int.reduceLT, Int.reduceLE, Int.reduceBEq, Int.reduceBNe, Nat.reduceLT, Nat.reduceBEq, Int.reduceEq, Nat.reduceEqDiff, Nat.reduceAdd, Nat.reduceSub, Nat.reduceMul, Nat.reduceLeDiff, reduceCtorEq, ↓reduceIte, eGPolicy, eGGroup, eGBound, eGStmt, eGAsk]; rfl)) rfl (by intro h; first | rfl | cases h)
def slices_IndexFunc_string__glob_bears_c1_L1 (n : Nat) (s : List ByteArray) (c2 : GPolicy) (c3 : ByteArray) : Nat → Int → Option ((Unit) ⊕ Int)
  | 0, _ => none
  | c + 1, t8 =>
    (if (decide (t8 < (s.length : Int))) then
      (idx s t8).bind fun x2 =>
      (glob_bears_c1 n x2 c2 c3).bind fun t162 =>
      (if t162 then
        some (.inr t8)
      else
        slices_IndexFunc_string__glob_bears_c1_L1 n s c2 c3 c (IntKind.i64.wrap (t8 + 1)))
    else
      some (.inl ()))

def slices_IndexFunc_string__glob_bears_c1 (n : Nat) (s : List ByteArray) (c2 : GPolicy) (c3 : ByteArray) : Option Int :=
  (
    slices_IndexFunc_string__glob_bears_c1_L1 n s c2 c3 n 0 : Option ((Unit) ⊕ Int)).bind fun
    | .inl _ =>
      some (-1)
    | .inr r => some r
theorem slices_IndexFunc_string__glob_bears_c1_ok {n : Nat} {s : List ByteArray} {c2 : GPolicy} {c3 : ByteArray} {r : Int} (H : slices_IndexFunc_string__glob_bears_c1 n s c2 c3 = some r) : PureA Try.prog 93 [.d (D.sl (List.map eS s)), .fn 69 [D.pt (eGPolicy c2) 0, D.pt [D.v (.string c3)] 0]] (D.v (.int .i64 r)) true := by
  unfold slices_IndexFunc_string__glob_bears_c1 at H
  refine pureA_runR (tab := tab) tab_ok Try.func93 rfl (by kernel_rfl) (by kernel_rfl) (by simp [Try.f93]) ?_
  refine runR_seq ?_
  refine runR_take tab_ok fol 1 ?_
  try simp -implicitDefEqProofs only [go_sem, eGPolicy]
  refine runR_seq ?_
  refine runR_seq ?_
  refine runR_take tab_ok fol 1 ?_
  try simp -implicitDefEqProofs only [go_sem, Nat.reduceAdd, reduceCtorEq, ↓reduceIte]
  obtain ⟨e_, E1, H2⟩ := bind_inv H
  refine runR_join (α := { y : Unit // e_ = .inl y }) (fun | ⟨_, _⟩ => ⟨noFr, noHp, 0⟩) ?_ ?_
  · refine runR_block ?_
    refine runR_loop (α := { q : Nat × Int // slices_IndexFunc_string__glob_bears_c1_L1 n s c2 c3 q.1 q.2 = some e_ }) (fun | ⟨⟨c, t8⟩, _⟩ => ⟨upd 0 (.d (.sl (List.map eS s)) true) (upd 1 (.fn 69 [.d (.pt [.sl (List.map eS c2.users), .sl (List.map eS c2.actions), .sl (List.map eS c2.resources), .sl (List.map eGGroup c2.groups), .sl (List.map eGStmt c2.stmts), .sl (List.map eGBound c2.bounds)] 0) true, .d (.pt [.v (.string c3)] 0) true]) (upd 7 (.v (.int .i64 (s.length : Int))) (upd 8 (.v (.int .i64 t8)) noFr))), noHp, 0⟩) (fun q => q.1.1) ⟨(n, 0), E1⟩ ?_ ?_
    · exact ren_mk [] (by rfl) (rf_upd (by rfl) (rf_upd (by rfl) (rf_upd (by rfl) (rf_upd (by rfl) (rf_no _))))) (rh_no _)
    · rintro ⟨⟨c, t8⟩, L3⟩
      rcases c with _ | c
      · exact nomatch (show none = some _ from L3)
      · unfold slices_IndexFunc_string__glob_bears_c1_L1 at L3
        try dsimp only at L3
        refine runR_take tab_ok fol 1 ?_
        try simp -implicitDefEqProofs only [go_sem, Nat.reduceEqDiff, reduceCtorEq, ↓reduceIte]
        rcases ite_inv L3 with ⟨c16, H17⟩ | ⟨c16, H17⟩
        · obtain ⟨x2, b18, H19⟩ := bind_inv H17
          obtain ⟨h20, h21⟩ := idx_inv b18
          try simp only [Int.reduceToNat, Int.toNat_natCast] at h21
          have h22 := map_at eS h21
          obtain ⟨t162, b24, H25⟩ := bind_inv H19
          try simp -implicitDefEqProofs only [go_sem, Nat.reduceEqDiff, Nat.reduceAdd, reduceCtorEq, ↓reduceIte, c16, nat_of .i64 h20, h22]
          refine onCall_pure (by first | rfl | (simp -implicitDefEqProofs only [go_sem, Int.reduceToNat, Int.reduceLT, Int.reduceLE, Int.reduceBEq, Int.reduceBNe, Nat.reduceLT, Nat.reduceBEq, Int.reduceEq, Nat.reduceEqDiff, Nat.reduceAdd, Nat.reduceSub, Nat.reduceMul, Nat.reduceLeDiff, reduceCtorEq, ↓reduceIte, eGPolicy, eGGroup, eGBound, eGStmt, eGAsk, c16, nat_of .i64 h20, h22]; done) | (simp -implicitDefEqProofs only [go_sem, Int.reduceToNat, Int.reduceLT, Int.reduceLE, Int.reduceBEq, Int.reduceBNe, Nat.reduceLT, Nat.reduceBEq, Int.reduceEq, Nat.reduceEqDiff, Nat.reduceAdd, Nat.reduceSub, Nat.reduceMul, Nat.reduceLeDiff, reduceCtorEq, ↓reduceIte, eGPolicy, eGGroup, eGBound, eGStmt, eGAsk, c16, nat_of .i64 h20, h22]; rfl)) (glob_bears_c1_ok b24) (by first | exact .inr rfl | exact .inl rfl) ?_
          try simp -implicitDefEqProofs only [go_sem, ↓reduceIte]
          rcases ite_inv H25 with ⟨c26, H27⟩ | ⟨c26, H27⟩
          · try simp -implicitDefEqProofs only [go_sem, Nat.reduceEqDiff, Nat.reduceAdd, ↓reduceIte, c26]
            obtain rfl := Option.some.inj H27
            obtain rfl := Option.some.inj H2
            exact end_pure (by first | (simp -implicitDefEqProofs only [go_sem, ↓reduceIte, Try.f93] <;> rfl) | rfl) (by first | rfl | (simp -implicitDefEqProofs only [go_sem, Int.reduceToNat, Int.reduceLT, Int.reduceLE, Int.reduceBEq, Int.reduceBNe, Nat.reduceLT, Nat.reduceBEq, Int.reduceEq, Nat.reduceEqDiff, Nat.reduceAdd, Nat.reduceSub, Nat.reduceMul, Nat.reduceLeDiff, reduceCtorEq, ↓reduceIte, eGPolicy, eGGroup, eGBound, eGStmt, eGAsk, c16, nat_of .i64 h20, h22, c26]; done) | (simp -implicitDefEqProofs only [go_sem, Int.reduceToNat, Int.reduceLT, Int.reduceLE, Int.reduceBEq, Int.reduceBNe, Nat.reduceLT, Nat.reduceBEq, Int.reduceEq, Nat.reduceEqDiff, Nat.reduceAdd, Nat.reduceSub, Nat.reduceMul, Nat.reduceLeDiff, reduceCtorEq, ↓reduceIte, eGPolicy, eGGroup, eGBound, eGStmt, eGAsk, c16, nat_of .i64 h20, h22, c26]; rfl)) rfl (by intro h; first | rfl | cases h)
          · try simp -implicitDefEqProofs only [go_sem, Nat.reduceEqDiff, Nat.reduceAdd, reduceCtorEq, ↓reduceIte, c26]
            exact ⟨⟨(c, (IntKind.i64.wrap (t8 + 1))), H27⟩, ren_mk [] (by rfl) (rf_upd (by rfl) (rf_upd (by rfl) (rf_upd (by rfl) (rf_upd (by rfl) (rf_no _))))) (rh_no _), Nat.lt_succ_self _⟩
        · try simp -implicitDefEqProofs only [go_sem, ↓reduceIte, c16]
          obtain rfl := Option.some.inj H17
          exact ⟨⟨(), rfl⟩, ren_mk [] (by rfl) (rf_no _) (rh_no _)⟩
  · rintro ⟨_, he28⟩
    replace he28 := he28.symm
    subst he28
    try dsimp only at H2
    refine runR_take tab_ok fol 1 ?_
    try simp -implicitDefEqProofs only [go_sem]
    obtain rfl := Option.some.inj H2
    exact end_pure (by first | (simp -implicitDefEqProofs only [go_sem, ↓reduceIte, Try.f93] <;> rfl) | rfl) (by first | rfl | (simp -implicitDefEqProofs only [go_sem, Int.reduceToNat, Int.reduceLT, Int.reduceLE, Int.reduceBEq, Int.reduceBNe, Nat.reduceLT, Nat.reduceBEq, Int.reduceEq, Nat.reduceEqDiff, Nat.reduceAdd, Nat.reduceSub, Nat.reduceMul, Nat.reduceLeDiff, reduceCtorEq, ↓reduceIte, eGPolicy, eGGroup, eGBound, eGStmt, eGAsk]; done) | (simp -implicitDefEqProofs only [go_sem, Int.reduceToNat, Int.reduceLT, Int.reduceLE, Int.reduceBEq, Int.reduceBNe, Nat.reduceLT, Nat.reduceBEq, Int.reduceEq, Nat.reduceEqDiff, Nat.reduceAdd, Nat.reduceSub, Nat.reduceMul, Nat.reduceLeDiff, reduceCtorEq, ↓reduceIte, eGPolicy, eGGroup, eGBound, eGStmt, eGAsk]; rfl)) rfl (by intro h; first | rfl | cases h)
def slices_ContainsFunc_string__glob_bears_c1 (n : Nat) (s : List ByteArray) (c2 : GPolicy) (c3 : ByteArray) : Option Bool :=
  (slices_IndexFunc_string__glob_bears_c1 n s c2 c3).bind fun t7 =>
  some (decide (0 ≤ t7))
theorem slices_ContainsFunc_string__glob_bears_c1_ok {n : Nat} {s : List ByteArray} {c2 : GPolicy} {c3 : ByteArray} {r : Bool} (H : slices_ContainsFunc_string__glob_bears_c1 n s c2 c3 = some r) : PureA Try.prog 68 [.d (D.sl (List.map eS s)), .fn 69 [D.pt (eGPolicy c2) 0, D.pt [D.v (.string c3)] 0]] (D.v (.bool r)) true := by
  unfold slices_ContainsFunc_string__glob_bears_c1 at H
  refine pureA_runR (tab := tab) tab_ok Try.func68 rfl (by kernel_rfl) (by kernel_rfl) (by simp [Try.f68]) ?_
  refine runR_take tab_ok fol 1 ?_
  obtain ⟨t7, b1, H2⟩ := bind_inv H
  try simp -implicitDefEqProofs only [go_sem, Nat.reduceEqDiff, Nat.reduceAdd, reduceCtorEq, ↓reduceIte, eGPolicy]
  refine onCall_pureA (by first | rfl | (simp -implicitDefEqProofs only [go_sem, Int.reduceToNat, Int.reduceLT, Int.reduceLE, Int.reduceBEq, Int.reduceBNe, Nat.reduceLT, Nat.reduceBEq, Int.reduceEq, Nat.reduceEqDiff, Nat.reduceAdd, Nat.reduceSub, Nat.reduceMul, Nat.reduceLeDiff, reduceCtorEq, ↓reduceIte, eGPolicy, eGGroup, eGBound, eGStmt, eGAsk]; done) | (simp -implicitDefEqProofs only [go_sem, Int.reduceToNat, Int.reduceLT, Int.reduceLE, Int.reduceBEq, Int.reduceBNe, Nat.reduceLT, Nat.reduceBEq, Int.reduceEq, Nat.reduceEqDiff, Nat.reduceAdd, Nat.reduceSub, Nat.reduceMul, Nat.reduceLeDiff, reduceCtorEq, ↓reduceIte, eGPolicy, eGGroup, eGBound, eGStmt, eGAsk]; rfl)) (slices_IndexFunc_string__glob_bears_c1_ok b1) (by first | exact .inr rfl | exact .inl rfl) ?_
  try simp -implicitDefEqProofs only [go_sem, Nat.reduceAdd, ↓reduceIte]
  obtain rfl := Option.some.inj H2
  exact end_pure (by first | (simp -implicitDefEqProofs only [go_sem, ↓reduceIte, Try.f68] <;> rfl) | rfl) (by first | rfl | (simp -implicitDefEqProofs only [go_sem, Int.reduceToNat, Int.reduceLT, Int.reduceLE, Int.reduceBEq, Int.reduceBNe, Nat.reduceLT, Nat.reduceBEq, Int.reduceEq, Nat.reduceEqDiff, Nat.reduceAdd, Nat.reduceSub, Nat.reduceMul, Nat.reduceLeDiff, reduceCtorEq, ↓reduceIte, eGPolicy, eGGroup, eGBound, eGStmt, eGAsk]; done) | (simp -implicitDefEqProofs only [go_sem, Int.reduceToNat, Int.reduceLT, Int.reduceLE, Int.reduceBEq, Int.reduceBNe, Nat.reduceLT, Nat.reduceBEq, Int.reduceEq, Nat.reduceEqDiff, Nat.reduceAdd, Nat.reduceSub, Nat.reduceMul, Nat.reduceLeDiff, reduceCtorEq, ↓reduceIte, eGPolicy, eGGroup, eGBound, eGStmt, eGAsk]; rfl)) rfl (by intro h; first | rfl | cases h)
def glob_bears (n : Nat) (p : GPolicy) (s : GStmt) (user : ByteArray) (action : ByteArray) (resource : ByteArray) : Option Bool :=
  (
    (slices_Contains_string n s.users user).bind fun t15 =>
    (if t15 then
      some true
    else
      (slices_ContainsFunc_string__glob_bears_c1 n s.groups p user).bind fun t20 =>
      some t20) : Option (Bool)).bind fun who =>
  (if who then
    (glob_matches n s.actions action).bind fun t27 =>
    (if t27 then
      (glob_matches n s.resources resource).bind fun t33 =>
      some t33
    else
      some false)
  else
    some false)
theorem glob_bears_ok {n : Nat} {p : GPolicy} {s : GStmt} {user : ByteArray} {action : ByteArray} {resource : ByteArray} {r : Bool} (H : glob_bears n p s user action resource = some r) : PureOK Try.prog 41 [D.ag (eGPolicy p), D.ag (eGStmt s), D.v (.string user), D.v (.string action), D.v (.string resource)] (D.v (.bool r)) true := by
  unfold glob_bears at H
  refine pure_runR (tab := tab) tab_ok Try.func41 rfl (by kernel_rfl) (by kernel_rfl) (by simp [Try.f41]) ?_
  refine runR_seq ?_
  refine runR_take tab_ok fol 1 ?_
  try simp -implicitDefEqProofs only [go_sem, Nat.reduceEqDiff, Nat.reduceAdd, ↓reduceIte, eGPolicy, eGStmt]
  refine runR_seq ?_
  obtain ⟨e_, E1, H2⟩ := bind_inv H
  refine runR_join (α := { y : Bool // e_ = y }) (fun | ⟨who, _⟩ => ⟨upd 3 (.v (.string action)) (upd 4 (.v (.string resource)) (upd 6 (.pt 0 0) (upd 11 (.v (.bool who)) noFr))), upd 0 (some (.bx [.v (.string s.sid), .v (.bool s.deny), .d (.sl (List.map eS s.users)) true, .d (.sl (List.map eS s.groups)) true, .d (.sl (List.map eS s.actions)) true, .d (.sl (List.map eS s.resources)) true])) noHp, 1⟩) ?_ ?_
  · refine runR_take tab_ok fol 1 ?_
    obtain ⟨t15, b3, H4⟩ := bind_inv E1
    try simp -implicitDefEqProofs only [go_sem, Nat.reduceEqDiff, Nat.reduceAdd, reduceCtorEq, ↓reduceIte]
    refine onCall_pure (by first | rfl | (simp -implicitDefEqProofs only [go_sem, Int.reduceToNat, Int.reduceLT, Int.reduceLE, Int.reduceBEq, Int.reduceBNe, Nat.reduceLT, Nat.reduceBEq, Int.reduceEq, Nat.reduceEqDiff, Nat.reduceAdd, Nat.reduceSub, Nat.reduceMul, Nat.reduceLeDiff, reduceCtorEq, ↓reduceIte, eGPolicy, eGGroup, eGBound, eGStmt, eGAsk]; done) | (simp -implicitDefEqProofs only [go_sem, Int.reduceToNat, Int.reduceLT, Int.reduceLE, Int.reduceBEq, Int.reduceBNe, Nat.reduceLT, Nat.reduceBEq, Int.reduceEq, Nat.reduceEqDiff, Nat.reduceAdd, Nat.reduceSub, Nat.reduceMul, Nat.reduceLeDiff, reduceCtorEq, ↓reduceIte, eGPolicy, eGGroup, eGBound, eGStmt, eGAsk]; rfl)) (slices_Contains_string_ok b3) (by first | exact .inr rfl | exact .inl rfl) ?_
    try simp -implicitDefEqProofs only [go_sem, Nat.reduceAdd, ↓reduceIte]
    rcases ite_inv H4 with ⟨c5, H6⟩ | ⟨c5, H6⟩
    · try simp -implicitDefEqProofs only [go_sem, Nat.reduceEqDiff, Nat.reduceAdd, ↓reduceIte, c5]
      obtain rfl := Option.some.inj H6
      exact ⟨⟨true, rfl⟩, ren_mk [(0, 1)] (by rfl) (rf_upd (by rfl) (rf_upd (by rfl) (rf_upd (by rfl) (rf_upd (by rfl) (rf_no _))))) (rh_upd (rh_one (by rfl) (by rfl) (by rfl)) (rh_no _))⟩
    · obtain ⟨t20, b7, H8⟩ := bind_inv H6
      try simp -implicitDefEqProofs only [go_sem, Nat.reduceEqDiff, Nat.reduceAdd, reduceCtorEq, ↓reduceIte, c5]
      refine onCall_pureA (by first | rfl | (simp -implicitDefEqProofs only [go_sem, Int.reduceToNat, Int.reduceLT, Int.reduceLE, Int.reduceBEq, Int.reduceBNe, Nat.reduceLT, Nat.reduceBEq, Int.reduceEq, Nat.reduceEqDiff, Nat.reduceAdd, Nat.reduceSub, Nat.reduceMul, Nat.reduceLeDiff, reduceCtorEq, ↓reduceIte, eGPolicy, eGGroup, eGBound, eGStmt, eGAsk, c5]; done) | (simp -implicitDefEqProofs only [go_sem, Int.reduceToNat, Int.reduceLT, Int.reduceLE, Int.reduceBEq, Int.reduceBNe, Nat.reduceLT, Nat.reduceBEq, Int.reduceEq, Nat.reduceEqDiff, Nat.reduceAdd, Nat.reduceSub, Nat.reduceMul, Nat.reduceLeDiff, reduceCtorEq, ↓reduceIte, eGPolicy, eGGroup, eGBound, eGStmt, eGAsk, c5]; rfl)) (slices_ContainsFunc_string__glob_bears_c1_ok b7) (by first | exact .inr rfl | exact .inl rfl) ?_
      try simp -implicitDefEqProofs only [go_sem, Nat.reduceEqDiff, Nat.reduceAdd, ↓reduceIte]
      obtain rfl := Option.some.inj H8
      exact ⟨⟨t20, rfl⟩, ren_mk [(0, 1)] (by rfl) (rf_upd (by rfl) (rf_upd (by rfl) (rf_upd (by rfl) (rf_upd (by rfl) (rf_no _))))) (rh_upd (rh_one (by rfl) (by rfl) (by rfl)) (rh_no _))⟩
  · rintro ⟨who, he17⟩
    replace he17 := he17.symm
    subst he17
    try dsimp only at H2
    refine runR_take tab_ok fol 1 ?_
    try simp -implicitDefEqProofs only [go_sem, Nat.reduceEqDiff, Nat.reduceAdd, ↓reduceIte]
    rcases ite_inv H2 with ⟨c9, H10⟩ | ⟨c9, H10⟩
    · obtain ⟨t27, b11, H12⟩ := bind_inv H10
      try simp -implicitDefEqProofs only [go_sem, Nat.reduceEqDiff, Nat.reduceAdd, reduceCtorEq, ↓reduceIte, c9]
      refine onCall_pure (by first | rfl | (simp -implicitDefEqProofs only [go_sem, Int.reduceToNat, Int.reduceLT, Int.reduceLE, Int.reduceBEq, Int.reduceBNe, Nat.reduceLT, Nat.reduceBEq, Int.reduceEq, Nat.reduceEqDiff, Nat.reduceAdd, Nat.reduceSub, Nat.reduceMul, Nat.reduceLeDiff, reduceCtorEq, ↓reduceIte, eGPolicy, eGGroup, eGBound, eGStmt, eGAsk, c9]; done) | (simp -implicitDefEqProofs only [go_sem, Int.reduceToNat, Int.reduceLT, Int.reduceLE, Int.reduceBEq, Int.reduceBNe, Nat.reduceLT, Nat.reduceBEq, Int.reduceEq, Nat.reduceEqDiff, Nat.reduceAdd, Nat.reduceSub, Nat.reduceMul, Nat.reduceLeDiff, reduceCtorEq, ↓reduceIte, eGPolicy, eGGroup, eGBound, eGStmt, eGAsk, c9]; rfl)) (glob_matches_ok b11) (by first | exact .inr rfl | exact .inl rfl) ?_
      try simp -implicitDefEqProofs only [go_sem, Nat.reduceEqDiff, Nat.reduceAdd, ↓reduceIte]
      rcases ite_inv H12 with ⟨c13, H14⟩ | ⟨c13, H14⟩
      · obtain ⟨t33, b15, H16⟩ := bind_inv H14
        try simp -implicitDefEqProofs only [go_sem, Nat.reduceEqDiff, Nat.reduceAdd, reduceCtorEq, ↓reduceIte, c13]
        refine onCall_pure (by first | rfl | (simp -implicitDefEqProofs only [go_sem, Int.reduceToNat, Int.reduceLT, Int.reduceLE, Int.reduceBEq, Int.reduceBNe, Nat.reduceLT, Nat.reduceBEq, Int.reduceEq, Nat.reduceEqDiff, Nat.reduceAdd, Nat.reduceSub, Nat.reduceMul, Nat.reduceLeDiff, reduceCtorEq, ↓reduceIte, eGPolicy, eGGroup, eGBound, eGStmt, eGAsk, c9, c13]; done) | (simp -implicitDefEqProofs only [go_sem, Int.reduceToNat, Int.reduceLT, Int.reduceLE, Int.reduceBEq, Int.reduceBNe, Nat.reduceLT, Nat.reduceBEq, Int.reduceEq, Nat.reduceEqDiff, Nat.reduceAdd, Nat.reduceSub, Nat.reduceMul, Nat.reduceLeDiff, reduceCtorEq, ↓reduceIte, eGPolicy, eGGroup, eGBound, eGStmt, eGAsk, c9, c13]; rfl)) (glob_matches_ok b15) (by first | exact .inr rfl | exact .inl rfl) ?_
        try simp -implicitDefEqProofs only [go_sem, Nat.reduceEqDiff, Nat.reduceAdd, ↓reduceIte]
        obtain rfl := Option.some.inj H16
        exact end_pure (by first | (simp -implicitDefEqProofs only [go_sem, ↓reduceIte, Try.f41] <;> rfl) | rfl) (by first | rfl | (simp -implicitDefEqProofs only [go_sem, Int.reduceToNat, Int.reduceLT, Int.reduceLE, Int.reduceBEq, Int.reduceBNe, Nat.reduceLT, Nat.reduceBEq, Int.reduceEq, Nat.reduceEqDiff, Nat.reduceAdd, Nat.reduceSub, Nat.reduceMul, Nat.reduceLeDiff, reduceCtorEq, ↓reduceIte, eGPolicy, eGGroup, eGBound, eGStmt, eGAsk, c9, c13]; done) | (simp -implicitDefEqProofs only [go_sem, Int.reduceToNat, Int.reduceLT, Int.reduceLE, Int.reduceBEq, Int.reduceBNe, Nat.reduceLT, Nat.reduceBEq, Int.reduceEq, Nat.reduceEqDiff, Nat.reduceAdd, Nat.reduceSub, Nat.reduceMul, Nat.reduceLeDiff, reduceCtorEq, ↓reduceIte, eGPolicy, eGGroup, eGBound, eGStmt, eGAsk, c9, c13]; rfl)) rfl (by intro h; first | rfl | cases h)
      · try simp -implicitDefEqProofs only [go_sem, Nat.reduceEqDiff, Nat.reduceAdd, ↓reduceIte, c13]
        obtain rfl := Option.some.inj H14
        exact end_pure (by first | (simp -implicitDefEqProofs only [go_sem, ↓reduceIte, Try.f41] <;> rfl) | rfl) (by first | rfl | (simp -implicitDefEqProofs only [go_sem, Int.reduceToNat, Int.reduceLT, Int.reduceLE, Int.reduceBEq, Int.reduceBNe, Nat.reduceLT, Nat.reduceBEq, Int.reduceEq, Nat.reduceEqDiff, Nat.reduceAdd, Nat.reduceSub, Nat.reduceMul, Nat.reduceLeDiff, reduceCtorEq, ↓reduceIte, eGPolicy, eGGroup, eGBound, eGStmt, eGAsk, c9, c13]; done) | (simp -implicitDefEqProofs only [go_sem, Int.reduceToNat, Int.reduceLT, Int.reduceLE, Int.reduceBEq, Int.reduceBNe, Nat.reduceLT, Nat.reduceBEq, Int.reduceEq, Nat.reduceEqDiff, Nat.reduceAdd, Nat.reduceSub, Nat.reduceMul, Nat.reduceLeDiff, reduceCtorEq, ↓reduceIte, eGPolicy, eGGroup, eGBound, eGStmt, eGAsk, c9, c13]; rfl)) rfl (by intro h; first | rfl | cases h)
    · try simp -implicitDefEqProofs only [go_sem, Nat.reduceEqDiff, Nat.reduceAdd, ↓reduceIte, c9]
      obtain rfl := Option.some.inj H10
      exact end_pure (by first | (simp -implicitDefEqProofs only [go_sem, ↓reduceIte, Try.f41] <;> rfl) | rfl) (by first | rfl | (simp -implicitDefEqProofs only [go_sem, Int.reduceToNat, Int.reduceLT, Int.reduceLE, Int.reduceBEq, Int.reduceBNe, Nat.reduceLT, Nat.reduceBEq, Int.reduceEq, Nat.reduceEqDiff, Nat.reduceAdd, Nat.reduceSub, Nat.reduceMul, Nat.reduceLeDiff, reduceCtorEq, ↓reduceIte, eGPolicy, eGGroup, eGBound, eGStmt, eGAsk, c9]; done) | (simp -implicitDefEqProofs only [go_sem, Int.reduceToNat, Int.reduceLT, Int.reduceLE, Int.reduceBEq, Int.reduceBNe, Nat.reduceLT, Nat.reduceBEq, Int.reduceEq, Nat.reduceEqDiff, Nat.reduceAdd, Nat.reduceSub, Nat.reduceMul, Nat.reduceLeDiff, reduceCtorEq, ↓reduceIte, eGPolicy, eGGroup, eGBound, eGStmt, eGAsk, c9]; rfl)) rfl (by intro h; first | rfl | cases h)
end Go.Proofs.Ytkkhgdmmbhpckaa.Ab
