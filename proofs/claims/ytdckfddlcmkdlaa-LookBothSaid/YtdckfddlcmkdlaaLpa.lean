/-
  Functions, read off the code.
-/
import Derived.Test.YtdckfddlcmkdlaaLks
import Derived.Test.YtdckfddlcmkdlaaLoa
import Derived.Test.YtdckfddlcmkdlaaOlm
import Derived.Test.YtdckfddlcmkdlaaLka
import Derived.Test.YtdckfddlcmkdlaaRtc
namespace Go.Proofs.Ytdckfddlcmkdlaa.Ab
open Go.RowKit
def law2_Tames_L1 (n : Nat) (l : List Int) : Nat → (List GTuple × Int) → Option (List GTuple)
  | 0, _ => none
  | c + 1, (out, i) =>
    (
      (if (decide (i < (l.length : Int))) then
        some (decide (i < 80))
      else
        some false) : Option (Bool)).bind fun t122 =>
    (if t122 then
      (idx l i).bind fun x2 =>
      (law2_Tame n x2).bind fun t202 =>
      (app out [t202]).bind fun l2 =>
      law2_Tames_L1 n l c (l2, (IntKind.i64.wrap (i + 1)))
    else
      some out)

def law2_Tames (n : Nat) (l : List Int) : Option (List GTuple) :=
  (
    law2_Tames_L1 n l n ([], 0) : Option (List GTuple)).bind fun out3 =>
  some out3
theorem law2_Tames_ok {n : Nat} {l : List Int} {r : List GTuple} (H : law2_Tames n l = some r) : PureOK Try.prog 14 [D.sl (List.map eI l)] (D.sl (List.map eGTuple r)) true := by
  unfold law2_Tames at H
  refine pure_runR (tab := tab) tab_ok Try.func14 rfl (by kernel_rfl) (by kernel_rfl) (by simp [Try.f14]) ?_
  refine runR_seq ?_
  refine runR_take tab_ok fol 1 ?_
  try simp -implicitDefEqProofs only [go_sem]
  refine runR_seq ?_
  refine runR_take tab_ok fol 1 ?_
  try simp -implicitDefEqProofs only [go_sem, Nat.reduceAdd]
  refine runR_seq ?_
  refine runR_seq ?_
  refine runR_take tab_ok fol 1 ?_
  try simp -implicitDefEqProofs only [go_sem, Nat.reduceAdd]
  obtain ⟨e_, E1, H2⟩ := bind_inv H
  refine runR_join (α := { y : List GTuple // e_ = y } × Nat) (fun | ⟨⟨out3, _⟩, g4⟩ => ⟨upd 3 (accV 0 g4 (List.map eGTuple out3)) noFr, upd 0 (accO 6 g4 false (List.map eGTuple out3)) noHp, 1⟩) ?_ ?_
  · refine runR_block ?_
    refine runR_loop (α := { q : (Nat × (List GTuple × Int)) × Nat // law2_Tames_L1 n l q.1.1 q.1.2 = some e_ }) (fun | ⟨⟨⟨c, ⟨out, i⟩⟩, g⟩, _⟩ => ⟨upd 0 (.d (.sl (List.map eI l)) true) (upd 3 (accV 0 g (List.map eGTuple out)) (upd 4 (.v (.int .i64 i)) noFr)), upd 0 (accO 6 g false (List.map eGTuple out)) noHp, 1⟩) (fun q => q.1.1.1) ⟨((n, ([], 0)), 0), E1⟩ ?_ ?_
    · exact ren_mk [] (by rfl) (rf_upd (by rfl) (rf_upd (by rfl) (rf_upd (by rfl) (rf_no _)))) (rh_upd rh_accN (rh_no _))
    · rintro ⟨⟨⟨c, ⟨out, i⟩⟩, g⟩, L3⟩
      rcases c with _ | c
      · exact nomatch (show none = some _ from L3)
      · unfold law2_Tames_L1 at L3
        try dsimp only at L3
        refine runR_seq ?_
        refine runR_seq ?_
        obtain ⟨e_3, E19, H20⟩ := bind_inv L3
        refine runR_join (α := { y : Bool // e_3 = y } × Nat) (fun | ⟨⟨t122, _⟩, g2⟩ => ⟨upd 0 (.d (.sl (List.map eI l)) true) (upd 3 (accV 0 g2 (List.map eGTuple out)) (upd 4 (.v (.int .i64 i)) (upd 12 (.v (.bool t122)) noFr))), upd 0 (accO 6 g2 false (List.map eGTuple out)) noHp, 1⟩) ?_ ?_
        · refine runR_take tab_ok fol 1 ?_
          try simp -implicitDefEqProofs only [go_sem, Nat.reduceEqDiff, Nat.reduceAdd, reduceCtorEq, ↓reduceIte]
          rcases ite_inv E19 with ⟨c21, H22⟩ | ⟨c21, H22⟩
          · try simp -implicitDefEqProofs only [go_sem, Nat.reduceEqDiff, Nat.reduceAdd, reduceCtorEq, ↓reduceIte, c21]
            obtain rfl := Option.some.inj H22
            exact ⟨⟨⟨(decide (i < 80)), rfl⟩, g⟩, ren_mk [(0, 0)] (by rfl) (rf_upd (by rfl) (rf_upd (ren_acc (by rfl)) (rf_upd (by rfl) (rf_upd (by rfl) (rf_no _))))) (rh_upd (rh_acc (by rfl) (by rfl)) (rh_no _))⟩
          · try simp -implicitDefEqProofs only [go_sem, Nat.reduceEqDiff, Nat.reduceAdd, ↓reduceIte, c21]
            obtain rfl := Option.some.inj H22
            exact ⟨⟨⟨false, rfl⟩, g⟩, ren_mk [(0, 0)] (by rfl) (rf_upd (by rfl) (rf_upd (ren_acc (by rfl)) (rf_upd (by rfl) (rf_upd (by rfl) (rf_no _))))) (rh_upd (rh_acc (by rfl) (by rfl)) (rh_no _))⟩
        · rintro ⟨⟨t122, he41⟩, g2⟩
          replace he41 := he41.symm
          subst he41
          try dsimp only at H20
          refine runR_take tab_ok fol 2 ?_
          try simp -implicitDefEqProofs only [go_sem, Nat.reduceEqDiff, reduceCtorEq, ↓reduceIte]
          rcases ite_inv H20 with ⟨c23, H24⟩ | ⟨c23, H24⟩
          · obtain ⟨x2, b25, H26⟩ := bind_inv H24
            obtain ⟨h27, h28⟩ := idx_inv b25
            try simp only [Int.reduceToNat, Int.toNat_natCast] at h28
            have h29 := map_at eI h28
            obtain ⟨t202, b31, H32⟩ := bind_inv H26
            try simp -implicitDefEqProofs only [go_sem, Nat.reduceEqDiff, Nat.reduceAdd, reduceCtorEq, ↓reduceIte, c23, nat_of .i64 h27, h29]
            refine onCall_pure (by first | rfl | (simp -implicitDefEqProofs only [go_sem, Int.reduceToNat, Int.reduceLT, Int.reduceLE, Int.reduceBEq, Int.reduceBNe, Nat.reduceLT, Nat.reduceBEq, Int.reduceEq, Nat.reduceEqDiff, Nat.reduceAdd, Nat.reduceSub, Nat.reduceMul, Nat.reduceLeDiff, reduceCtorEq, ↓reduceIte, eGTuple, eLookIndex, c23, nat_of .i64 h27, h29]; done) | (simp -implicitDefEqProofs only [go_sem, Int.reduceToNat, Int.reduceLT, Int.reduceLE, Int.reduceBEq, Int.reduceBNe, Nat.reduceLT, Nat.reduceBEq, Int.reduceEq, Nat.reduceEqDiff, Nat.reduceAdd, Nat.reduceSub, Nat.reduceMul, Nat.reduceLeDiff, reduceCtorEq, ↓reduceIte, eGTuple, eLookIndex, c23, nat_of .i64 h27, h29]; rfl)) (law2_Tame_ok b31) (by first | exact .inr rfl | exact .inl rfl) ?_
            obtain ⟨l2, b33, H34⟩ := bind_inv H32
            obtain ⟨h35, h36⟩ := app_inv b33
            have h35 : out.length + 1 ≤ 4294967296 := h35
            have h37 : List.map eGTuple out ++ [[.v (.string t202.obj.type_), .v (.string t202.obj.id_), .v (.string t202.rel), .v (.string t202.sub_.type_), .v (.string t202.sub_.id_), .v (.string t202.sub_.rel)]] = List.map eGTuple l2 := app_map eGTuple h36
            have h38 : out.length + 1 = l2.length := app_len h36
            have h39 : l2.length ≤ 4294967296 := by omega
            have q40 : 0 < l2.length := by omega
            try simp -implicitDefEqProofs only [go_sem, Nat.reduceLT, Nat.reduceEqDiff, Nat.reduceAdd, Nat.reduceMul, Nat.reduceLeDiff, reduceCtorEq, ↓reduceIte, eGTuple, h37, h38, h39]
            rcases out with _ | ⟨q0, q1⟩
            · try simp only [List.map_nil, accI, accN]
              exact ⟨⟨((c, (l2, (IntKind.i64.wrap (i + 1)))), 0), H34⟩, ren_mk [(0, 8)] (by rfl) (rf_upd (by rfl) (rf_upd (by first | exact ren_accP (by rfl) q40 | rfl) (rf_upd (by rfl) (rf_no _)))) (rh_upd (by first | exact rh_accP (by rfl) q40 (by rfl) | exact rh_one (by rfl) (by rfl) (by rfl)) (rh_no _)), Nat.lt_succ_self _⟩
            · try simp only [List.map_cons, accI, accN]
              exact ⟨⟨((c, (l2, (IntKind.i64.wrap (i + 1)))), (g2 + 1)), H34⟩, ren_mk [(0, 0)] (by rfl) (rf_upd (by rfl) (rf_upd (by first | exact ren_accP (by rfl) q40 | rfl) (rf_upd (by rfl) (rf_no _)))) (rh_upd (by first | exact rh_accP (by rfl) q40 (by rfl) | exact rh_one (by rfl) (by rfl) (by rfl)) (rh_no _)), Nat.lt_succ_self _⟩
          · try simp -implicitDefEqProofs only [go_sem, ↓reduceIte, c23]
            obtain rfl := Option.some.inj H24
            exact ⟨⟨⟨out, rfl⟩, g2⟩, ren_mk [(0, 0)] (by rfl) (rf_upd (ren_acc (by rfl)) (rf_no _)) (rh_upd (rh_acc (by rfl) (by rfl)) (rh_no _))⟩
  · rintro ⟨⟨out3, he42⟩, g4⟩
    replace he42 := he42.symm
    subst he42
    try dsimp only at H2
    refine runR_take tab_ok fol 1 ?_
    try simp -implicitDefEqProofs only [go_sem, Nat.reduceAdd, ↓reduceIte]
    obtain rfl := Option.some.inj H2
    exact end_pure (by first | (simp -implicitDefEqProofs only [go_sem, ↓reduceIte, Try.f14] <;> rfl) | rfl) (by first | rfl | (simp -implicitDefEqProofs only [go_sem, ↓reduceIte]; done) | (simp -implicitDefEqProofs only [go_sem, ↓reduceIte]; rfl)) rfl (by intro h; first | rfl | cases h)
def look_left_Types (n : Nat) (x : LookLeft) (t : ByteArray) : Option (List ByteArray) :=
  (look_once n (mgetD t [] x.objs)).bind fun t11 =>
  some t11
theorem look_left_Types_ok {n : Nat} {x : LookLeft} {t : ByteArray} {r : List ByteArray} (H : look_left_Types n x t = some r) : PureOK Try.prog 42 [D.pt (eLookLeft x) 0, D.v (.string t)] (D.sl (List.map eS r)) true := by
  unfold look_left_Types at H
  refine pure_runR (tab := tab) tab_ok Try.func42 rfl (by kernel_rfl) (by kernel_rfl) (by simp [Try.f42]) ?_
  refine runR_take tab_ok fol 1 ?_
  have h1 : lookA (false, [.string]) (.string t) (.d (.sl []) true) false (dEnts true (encMp Value.string false (eL eS) x.objs)) = some (.d (.sl (List.map eS (mgetD t [] x.objs))) true, []) := lookD (b := true) (ag := false) (enc := (eL eS)) key_str t ([] : List ByteArray) false x.objs
  obtain ⟨t11, b2, H3⟩ := bind_inv H
  try simp -implicitDefEqProofs only [go_sem, Nat.reduceEqDiff, Nat.reduceAdd, reduceCtorEq, ↓reduceIte, eLookLeft, h1]
  refine onCall_pure (by first | rfl | (simp -implicitDefEqProofs only [go_sem, Int.reduceToNat, Int.reduceLT, Int.reduceLE, Int.reduceBEq, Int.reduceBNe, Nat.reduceLT, Nat.reduceBEq, Int.reduceEq, Nat.reduceEqDiff, Nat.reduceAdd, Nat.reduceSub, Nat.reduceMul, Nat.reduceLeDiff, reduceCtorEq, ↓reduceIte, eGTuple, eLookIndex, eLookLeft, eGRef, eGSub, h1]; done) | (simp -implicitDefEqProofs only [go_sem, Int.reduceToNat, Int.reduceLT, Int.reduceLE, Int.reduceBEq, Int.reduceBNe, Nat.reduceLT, Nat.reduceBEq, Int.reduceEq, Nat.reduceEqDiff, Nat.reduceAdd, Nat.reduceSub, Nat.reduceMul, Nat.reduceLeDiff, reduceCtorEq, ↓reduceIte, eGTuple, eLookIndex, eLookLeft, eGRef, eGSub, h1]; rfl)) (look_once_ok b2) (by first | exact .inr rfl | exact .inl rfl) ?_
  try simp -implicitDefEqProofs only [go_sem, Nat.reduceAdd, ↓reduceIte]
  obtain rfl := Option.some.inj H3
  exact end_pure (by first | (simp -implicitDefEqProofs only [go_sem, ↓reduceIte, Try.f42] <;> rfl) | rfl) (by first | rfl | (simp -implicitDefEqProofs only [go_sem, Int.reduceToNat, Int.reduceLT, Int.reduceLE, Int.reduceBEq, Int.reduceBNe, Nat.reduceLT, Nat.reduceBEq, Int.reduceEq, Nat.reduceEqDiff, Nat.reduceAdd, Nat.reduceSub, Nat.reduceMul, Nat.reduceLeDiff, reduceCtorEq, ↓reduceIte, eGTuple, eLookIndex, eLookLeft, eGRef, eGSub, h1]; done) | (simp -implicitDefEqProofs only [go_sem, Int.reduceToNat, Int.reduceLT, Int.reduceLE, Int.reduceBEq, Int.reduceBNe, Nat.reduceLT, Nat.reduceBEq, Int.reduceEq, Nat.reduceEqDiff, Nat.reduceAdd, Nat.reduceSub, Nat.reduceMul, Nat.reduceLeDiff, reduceCtorEq, ↓reduceIte, eGTuple, eLookIndex, eLookLeft, eGRef, eGSub, h1]; rfl)) rfl (by intro h; first | rfl | cases h)
def look_right_Users (n : Nat) (x : LookRight) (t : ByteArray) : Option (List ByteArray) :=
  (look_once n (mgetD t [] x.users)).bind fun t11 =>
  some t11
theorem look_right_Users_ok {n : Nat} {x : LookRight} {t : ByteArray} {r : List ByteArray} (H : look_right_Users n x t = some r) : PureOK Try.prog 43 [D.pt (eLookRight x) 0, D.v (.string t)] (D.sl (List.map eS r)) true := by
  unfold look_right_Users at H
  refine pure_runR (tab := tab) tab_ok Try.func43 rfl (by kernel_rfl) (by kernel_rfl) (by simp [Try.f43]) ?_
  refine runR_take tab_ok fol 1 ?_
  have h1 : lookA (false, [.string]) (.string t) (.d (.sl []) true) false (dEnts true (encMp Value.string false (eL eS) x.users)) = some (.d (.sl (List.map eS (mgetD t [] x.users))) true, []) := lookD (b := true) (ag := false) (enc := (eL eS)) key_str t ([] : List ByteArray) false x.users
  obtain ⟨t11, b2, H3⟩ := bind_inv H
  try simp -implicitDefEqProofs only [go_sem, Nat.reduceEqDiff, Nat.reduceAdd, reduceCtorEq, ↓reduceIte, eLookRight, h1]
  refine onCall_pure (by first | rfl | (simp -implicitDefEqProofs only [go_sem, Int.reduceToNat, Int.reduceLT, Int.reduceLE, Int.reduceBEq, Int.reduceBNe, Nat.reduceLT, Nat.reduceBEq, Int.reduceEq, Nat.reduceEqDiff, Nat.reduceAdd, Nat.reduceSub, Nat.reduceMul, Nat.reduceLeDiff, reduceCtorEq, ↓reduceIte, eGTuple, eLookIndex, eLookLeft, eGRef, eGSub, eLookRight, h1]; done) | (simp -implicitDefEqProofs only [go_sem, Int.reduceToNat, Int.reduceLT, Int.reduceLE, Int.reduceBEq, Int.reduceBNe, Nat.reduceLT, Nat.reduceBEq, Int.reduceEq, Nat.reduceEqDiff, Nat.reduceAdd, Nat.reduceSub, Nat.reduceMul, Nat.reduceLeDiff, reduceCtorEq, ↓reduceIte, eGTuple, eLookIndex, eLookLeft, eGRef, eGSub, eLookRight, h1]; rfl)) (look_once_ok b2) (by first | exact .inr rfl | exact .inl rfl) ?_
  try simp -implicitDefEqProofs only [go_sem, Nat.reduceAdd, ↓reduceIte]
  obtain rfl := Option.some.inj H3
  exact end_pure (by first | (simp -implicitDefEqProofs only [go_sem, ↓reduceIte, Try.f43] <;> rfl) | rfl) (by first | rfl | (simp -implicitDefEqProofs only [go_sem, Int.reduceToNat, Int.reduceLT, Int.reduceLE, Int.reduceBEq, Int.reduceBNe, Nat.reduceLT, Nat.reduceBEq, Int.reduceEq, Nat.reduceEqDiff, Nat.reduceAdd, Nat.reduceSub, Nat.reduceMul, Nat.reduceLeDiff, reduceCtorEq, ↓reduceIte, eGTuple, eLookIndex, eLookLeft, eGRef, eGSub, eLookRight, h1]; done) | (simp -implicitDefEqProofs only [go_sem, Int.reduceToNat, Int.reduceLT, Int.reduceLE, Int.reduceBEq, Int.reduceBNe, Nat.reduceLT, Nat.reduceBEq, Int.reduceEq, Nat.reduceEqDiff, Nat.reduceAdd, Nat.reduceSub, Nat.reduceMul, Nat.reduceLeDiff, reduceCtorEq, ↓reduceIte, eGTuple, eLookIndex, eLookLeft, eGRef, eGSub, eLookRight, h1]; rfl)) rfl (by intro h; first | rfl | cases h)
theorem cl72_0 (xs : List GSub) (h : decide (xs.length = 0) = true) : PureOK Try.prog 72 [.sl (List.map eGSub xs)] (.sl []) true := by
  rw [List.eq_nil_of_length_eq_zero (of_decide_eq_true h)]
  exact clone_nil tab_ok fol Try.func72 (T := 81) (B := 4) rfl (by kernel_rfl) (by kernel_rfl) (by decide) rfl (by simp only [go_sem]) (by simp only [go_sem]) (by simp only [go_sem]; decide) (by simp only [go_sem]; decide)
theorem cl72_in (xs : List GSub) (h0 : 0 < xs.length) (hn : xs.length ≤ 4294967296) {b : Bool} {hp : Hp} {nx : Nat} : InlOK Try.prog 72 [.d (.sl (List.map eGSub xs)) b] hp nx fun v hp2 nx2 => v = .so (nx + 3) 1 0 xs.length ∧ hp2 = upd (nx + 3) (some (.rw (List.map eGSub xs) 3 1 false false)) hp ∧ nx2 = nx + 7 := by
  have h := clone_map (e := eGSub) (k := 3) (b := b) (hp := hp) (nx := nx) tab_ok fol Try.func72 (T := 81) (B := 4) rfl (by kernel_rfl) (by kernel_rfl) (by decide) rfl (by simp only [go_sem]) (by simp only [go_sem]) (by simp only [go_sem]) (by decide) (by simp only [go_sem]; decide) (fun _ => rfl) xs h0 hn
  rw [plainR_map (f := eGSub) (fun _ => rfl), Bool.not_true, Bool.and_false] at h
  exact h
def look_left_Subs (_ : Nat) (x : LookLeft) (o : GObj) (rel : ByteArray) : Option (List GSub) :=
  (if (decide ((mgetD (⟨o, rel⟩ : GRef) [] x.subs).length = 0)) then
    some []
  else
    grd (decide ((mgetD (⟨o, rel⟩ : GRef) [] x.subs).length ≤ 4294967296)) <|
    some (mgetD (⟨o, rel⟩ : GRef) [] x.subs))
theorem look_left_Subs_ok {n : Nat} {x : LookLeft} {o : GObj} {rel : ByteArray} {r : List GSub} (H : look_left_Subs n x o rel = some r) : PureOK Try.prog 44 [D.pt (eLookLeft x) 0, D.ag (eGObj o), D.v (.string rel)] (D.sl (List.map eGSub r)) true := by
  unfold look_left_Subs at H
  refine pure_runR (tab := tab) tab_ok Try.func44 rfl (by kernel_rfl) (by kernel_rfl) (by simp [Try.f44]) ?_
  refine runR_take tab_ok fol 1 ?_
  have h1 : lookA (true, [.string, .string, .string]) (.agg #[.string o.type_, .string o.id_, .string rel]) (.d (.sl []) true) false (dEnts true (encMp kGRef false (eL eGSub) x.subs)) = some (.d (.sl (List.map eGSub (mgetD (⟨o, rel⟩ : GRef) [] x.subs))) true, []) := lookD (b := true) (ag := false) (enc := (eL eGSub)) key_GRef (⟨o, rel⟩ : GRef) ([] : List GSub) false x.subs
  try simp -implicitDefEqProofs only [go_sem, Nat.reduceEqDiff, Nat.reduceAdd, Nat.reduceLeDiff, reduceCtorEq, ↓reduceIte, eLookLeft, eGObj, h1]
  rcases ite_inv H with ⟨c2, H3⟩ | ⟨c2, H3⟩
  · try simp -implicitDefEqProofs only [go_sem, Int.reduceToNat, Int.reduceLT, Int.reduceLE, Int.reduceBEq, Int.reduceBNe, Nat.reduceLT, Nat.reduceBEq, Int.reduceEq, Nat.reduceEqDiff, Nat.reduceAdd, Nat.reduceSub, Nat.reduceMul, Nat.reduceLeDiff, reduceCtorEq, ↓reduceIte, eGTuple, eLookIndex, eLookLeft, eGRef, eGSub, eLookRight, eGObj, h1, c2]
    refine onCallD_pure (by first | rfl | (simp -implicitDefEqProofs only [go_sem, Int.reduceToNat, Int.reduceLT, Int.reduceLE, Int.reduceBEq, Int.reduceBNe, Nat.reduceLT, Nat.reduceBEq, Int.reduceEq, Nat.reduceEqDiff, Nat.reduceAdd, Nat.reduceSub, Nat.reduceMul, Nat.reduceLeDiff, reduceCtorEq, ↓reduceIte, eGTuple, eLookIndex, eLookLeft, eGRef, eGSub, eLookRight, eGObj, h1, c2]; done) | (simp -implicitDefEqProofs only [go_sem, Int.reduceToNat, Int.reduceLT, Int.reduceLE, Int.reduceBEq, Int.reduceBNe, Nat.reduceLT, Nat.reduceBEq, Int.reduceEq, Nat.reduceEqDiff, Nat.reduceAdd, Nat.reduceSub, Nat.reduceMul, Nat.reduceLeDiff, reduceCtorEq, ↓reduceIte, eGTuple, eLookIndex, eLookLeft, eGRef, eGSub, eLookRight, eGObj, h1, c2]; rfl)) (cl72_0 (mgetD (⟨o, rel⟩ : GRef) [] x.subs) c2) (.inr rfl) ?_
    try simp -implicitDefEqProofs only [go_sem, Nat.reduceAdd, ↓reduceIte]
    refine Rd_endF (by rfl) ?_
    try simp -implicitDefEqProofs only [go_sem]
    obtain rfl := Option.some.inj H3
    exact end_pure (by first | (simp -implicitDefEqProofs only [go_sem, ↓reduceIte, Try.f44] <;> rfl) | rfl) (by first | rfl | (simp -implicitDefEqProofs only [go_sem, Int.reduceToNat, Int.reduceLT, Int.reduceLE, Int.reduceBEq, Int.reduceBNe, Nat.reduceLT, Nat.reduceBEq, Int.reduceEq, Nat.reduceEqDiff, Nat.reduceAdd, Nat.reduceSub, Nat.reduceMul, Nat.reduceLeDiff, reduceCtorEq, ↓reduceIte, eGTuple, eLookIndex, eLookLeft, eGRef, eGSub, eLookRight, eGObj, h1, c2]; done) | (simp -implicitDefEqProofs only [go_sem, Int.reduceToNat, Int.reduceLT, Int.reduceLE, Int.reduceBEq, Int.reduceBNe, Nat.reduceLT, Nat.reduceBEq, Int.reduceEq, Nat.reduceEqDiff, Nat.reduceAdd, Nat.reduceSub, Nat.reduceMul, Nat.reduceLeDiff, reduceCtorEq, ↓reduceIte, eGTuple, eLookIndex, eLookLeft, eGRef, eGSub, eLookRight, eGObj, h1, c2]; rfl)) rfl (by intro h; first | rfl | cases h)
  · obtain ⟨g4, H5⟩ := grd_inv H3
    have h6 : (mgetD (⟨o, rel⟩ : GRef) [] x.subs).length ≤ 4294967296 := of_decide_eq_true g4
    have q7 : 0 < (mgetD (⟨o, rel⟩ : GRef) [] x.subs).length := by have := of_decide_eq_false c2; omega
    try simp -implicitDefEqProofs only [go_sem, Int.reduceToNat, Int.reduceLT, Int.reduceLE, Int.reduceBEq, Int.reduceBNe, Nat.reduceLT, Nat.reduceBEq, Int.reduceEq, Nat.reduceEqDiff, Nat.reduceAdd, Nat.reduceSub, Nat.reduceMul, Nat.reduceLeDiff, reduceCtorEq, ↓reduceIte, eGTuple, eLookIndex, eLookLeft, eGRef, eGSub, eLookRight, eGObj, h1, c2]
    refine onCallD_det (ids' := []) (v := .so 15 1 0 (mgetD (⟨o, rel⟩ : GRef) [] x.subs).length) (δ := [(15, .rw (List.map eGSub (mgetD (⟨o, rel⟩ : GRef) [] x.subs)) 3 1 false false)]) (nx' := 19) (fun hp1 _ => InlOK.mono (cl72_in (mgetD (⟨o, rel⟩ : GRef) [] x.subs) q7 h6) fun v2 hp2 nx2 e => e) ?_
    try simp -implicitDefEqProofs only [go_sem, Nat.reduceAdd, ↓reduceIte]
    refine Rd_endF (by rfl) ?_
    try simp -implicitDefEqProofs only [go_sem]
    obtain rfl := Option.some.inj H5
    exact end_pure (by first | (simp -implicitDefEqProofs only [go_sem, ↓reduceIte, Try.f44] <;> rfl) | rfl) (by first | rfl | (simp -implicitDefEqProofs only [go_sem, ↓reduceIte]; done) | (simp -implicitDefEqProofs only [go_sem, ↓reduceIte]; rfl)) rfl (by intro h; first | rfl | cases h)
def ref1_SameTexts_L1 (n : Nat) (a : List ByteArray) (b : List ByteArray) : Nat → Int → Option ((Unit) ⊕ Bool)
  | 0, _ => none
  | c + 1, i =>
    (if (decide (i < (a.length : Int))) then
      (idx a i).bind fun x3 =>
      (idx b i).bind fun x4 =>
      (if (x3.toList == x4.toList) then
        ref1_SameTexts_L1 n a b c (IntKind.i64.wrap (i + 1))
      else
        some (.inr false))
    else
      some (.inl ()))

def ref1_SameTexts (n : Nat) (a : List ByteArray) (b : List ByteArray) : Option Bool :=
  (if ((a.length : Int) != (b.length : Int)) then
    some false
  else
    (
      ref1_SameTexts_L1 n a b n 0 : Option ((Unit) ⊕ Bool)).bind fun
      | .inl _ =>
        some true
      | .inr r => some r)
theorem ref1_SameTexts_ok {n : Nat} {a : List ByteArray} {b : List ByteArray} {r : Bool} (H : ref1_SameTexts n a b = some r) : PureOK Try.prog 45 [D.sl (List.map eS a), D.sl (List.map eS b)] (D.v (.bool r)) true := by
  unfold ref1_SameTexts at H
  refine pure_runR (tab := tab) tab_ok Try.func45 rfl (by kernel_rfl) (by kernel_rfl) (by simp [Try.f45]) ?_
  refine runR_seq ?_
  refine runR_take tab_ok fol 1 ?_
  try simp -implicitDefEqProofs only [go_sem]
  refine runR_seq ?_
  refine runR_take tab_ok fol 1 ?_
  try simp -implicitDefEqProofs only [go_sem, Nat.reduceEqDiff, Nat.reduceAdd, reduceCtorEq, ↓reduceIte]
  rcases ite_inv H with ⟨c1, H2⟩ | ⟨c1, H2⟩
  · try simp -implicitDefEqProofs only [go_sem, Nat.reduceAdd, c1]
    obtain rfl := Option.some.inj H2
    exact end_pure (by first | (simp -implicitDefEqProofs only [go_sem, ↓reduceIte, Try.f45] <;> rfl) | rfl) (by first | rfl | (simp -implicitDefEqProofs only [go_sem, Int.reduceToNat, Int.reduceLT, Int.reduceLE, Int.reduceBEq, Int.reduceBNe, Nat.reduceLT, Nat.reduceBEq, Int.reduceEq, Nat.reduceEqDiff, Nat.reduceAdd, Nat.reduceSub, Nat.reduceMul, Nat.reduceLeDiff, reduceCtorEq, ↓reduceIte, eGTuple, eLookIndex, eLookLeft, eGRef, eGSub, eLookRight, eGObj, c1]; done) | (simp -implicitDefEqProofs only [go_sem, Int.reduceToNat, Int.reduceLT, Int.reduceLE, Int.reduceBEq, Int.reduceBNe, Nat.reduceLT, Nat.reduceBEq, Int.reduceEq, Nat.reduceEqDiff, Nat.reduceAdd, Nat.reduceSub, Nat.reduceMul, Nat.reduceLeDiff, reduceCtorEq, ↓reduceIte, eGTuple, eLookIndex, eLookLeft, eGRef, eGSub, eLookRight, eGObj, c1]; rfl)) rfl (by intro h; first | rfl | cases h)
  · try simp -implicitDefEqProofs only [go_sem, c1]
    refine runR_seq ?_
    refine runR_seq ?_
    refine runR_take tab_ok fol 1 ?_
    try simp -implicitDefEqProofs only [go_sem, Nat.reduceAdd]
    obtain ⟨e_, E3, H4⟩ := bind_inv H2
    refine runR_join (α := { y : Unit // e_ = .inl y }) (fun | ⟨_, _⟩ => ⟨noFr, noHp, 0⟩) ?_ ?_
    · refine runR_block ?_
      refine runR_loop (α := { q : Nat × Int // ref1_SameTexts_L1 n a b q.1 q.2 = some e_ }) (fun | ⟨⟨c, i⟩, _⟩ => ⟨upd 0 (.d (.sl (List.map eS a)) true) (upd 1 (.d (.sl (List.map eS b)) true) (upd 5 (.v (.int .i64 i)) noFr)), noHp, 0⟩) (fun q => q.1.1) ⟨(n, 0), E3⟩ ?_ ?_
      · exact ren_mk [] (by rfl) (rf_upd (by rfl) (rf_upd (by rfl) (rf_upd (by rfl) (rf_no _)))) (rh_no _)
      · rintro ⟨⟨c, i⟩, L5⟩
        rcases c with _ | c
        · exact nomatch (show none = some _ from L5)
        · unfold ref1_SameTexts_L1 at L5
          try dsimp only at L5
          refine runR_take tab_ok fol 1 ?_
          try simp -implicitDefEqProofs only [go_sem, Nat.reduceEqDiff, Nat.reduceAdd, reduceCtorEq, ↓reduceIte]
          rcases ite_inv L5 with ⟨c22, H23⟩ | ⟨c22, H23⟩
          · obtain ⟨x3, b24, H25⟩ := bind_inv H23
            obtain ⟨h26, h27⟩ := idx_inv b24
            try simp only [Int.reduceToNat, Int.toNat_natCast] at h27
            have h28 := map_at eS h27
            obtain ⟨x4, b30, H31⟩ := bind_inv H25
            obtain ⟨h32, h33⟩ := idx_inv b30
            try simp only [Int.reduceToNat, Int.toNat_natCast] at h33
            have h34 := map_at eS h33
            try simp -implicitDefEqProofs only [go_sem, Nat.reduceEqDiff, Nat.reduceAdd, reduceCtorEq, ↓reduceIte, c22, nat_of .i64 h26, h28, h34]
            refine Rd_endF (by rfl) ?_
            try simp -implicitDefEqProofs only [go_sem, ↓reduceIte]
            rcases ite_inv H31 with ⟨c36, H37⟩ | ⟨c36, H37⟩
            · try simp -implicitDefEqProofs only [go_sem, Nat.reduceEqDiff, Nat.reduceAdd, reduceCtorEq, ↓reduceIte, c36]
              exact ⟨⟨(c, (IntKind.i64.wrap (i + 1))), H37⟩, ren_mk [] (by rfl) (rf_upd (by rfl) (rf_upd (by rfl) (rf_upd (by rfl) (rf_no _)))) (rh_no _), Nat.lt_succ_self _⟩
            · try simp -implicitDefEqProofs only [go_sem, Nat.reduceAdd, c36]
              obtain rfl := Option.some.inj H37
              obtain rfl := Option.some.inj H4
              exact end_pure (by first | (simp -implicitDefEqProofs only [go_sem, ↓reduceIte, Try.f45] <;> rfl) | rfl) (by first | rfl | (simp -implicitDefEqProofs only [go_sem, Int.reduceToNat, Int.reduceLT, Int.reduceLE, Int.reduceBEq, Int.reduceBNe, Nat.reduceLT, Nat.reduceBEq, Int.reduceEq, Nat.reduceEqDiff, Nat.reduceAdd, Nat.reduceSub, Nat.reduceMul, Nat.reduceLeDiff, reduceCtorEq, ↓reduceIte, eGTuple, eLookIndex, eLookLeft, eGRef, eGSub, eLookRight, eGObj, c22, nat_of .i64 h26, h28, nat_of .i64 h32, h34, c36]; done) | (simp -implicitDefEqProofs only [go_sem, Int.reduceToNat, Int.reduceLT, Int.reduceLE, Int.reduceBEq, Int.reduceBNe, Nat.reduceLT, Nat.reduceBEq, Int.reduceEq, Nat.reduceEqDiff, Nat.reduceAdd, Nat.reduceSub, Nat.reduceMul, Nat.reduceLeDiff, reduceCtorEq, ↓reduceIte, eGTuple, eLookIndex, eLookLeft, eGRef, eGSub, eLookRight, eGObj, c22, nat_of .i64 h26, h28, nat_of .i64 h32, h34, c36]; rfl)) rfl (by intro h; first | rfl | cases h)
          · try simp -implicitDefEqProofs only [go_sem, ↓reduceIte, c22]
            obtain rfl := Option.some.inj H23
            exact ⟨⟨(), rfl⟩, ren_mk [] (by rfl) (rf_no _) (rh_no _)⟩
    · rintro ⟨_, he38⟩
      replace he38 := he38.symm
      subst he38
      try dsimp only at H4
      refine runR_take tab_ok fol 1 ?_
      try simp -implicitDefEqProofs only [go_sem]
      obtain rfl := Option.some.inj H4
      exact end_pure (by first | (simp -implicitDefEqProofs only [go_sem, ↓reduceIte, Try.f45] <;> rfl) | rfl) (by first | rfl | (simp -implicitDefEqProofs only [go_sem, Int.reduceToNat, Int.reduceLT, Int.reduceLE, Int.reduceBEq, Int.reduceBNe, Nat.reduceLT, Nat.reduceBEq, Int.reduceEq, Nat.reduceEqDiff, Nat.reduceAdd, Nat.reduceSub, Nat.reduceMul, Nat.reduceLeDiff, reduceCtorEq, ↓reduceIte, eGTuple, eLookIndex, eLookLeft, eGRef, eGSub, eLookRight, eGObj]; done) | (simp -implicitDefEqProofs only [go_sem, Int.reduceToNat, Int.reduceLT, Int.reduceLE, Int.reduceBEq, Int.reduceBNe, Nat.reduceLT, Nat.reduceBEq, Int.reduceEq, Nat.reduceEqDiff, Nat.reduceAdd, Nat.reduceSub, Nat.reduceMul, Nat.reduceLeDiff, reduceCtorEq, ↓reduceIte, eGTuple, eLookIndex, eLookLeft, eGRef, eGSub, eLookRight, eGObj]; rfl)) rfl (by intro h; first | rfl | cases h)
theorem cl73_0 (xs : List GRef) (h : decide (xs.length = 0) = true) : PureOK Try.prog 73 [.sl (List.map eGRef xs)] (.sl []) true := by
  rw [List.eq_nil_of_length_eq_zero (of_decide_eq_true h)]
  exact clone_nil tab_ok fol Try.func73 (T := 84) (B := 4) rfl (by kernel_rfl) (by kernel_rfl) (by decide) rfl (by simp only [go_sem]) (by simp only [go_sem]) (by simp only [go_sem]; decide) (by simp only [go_sem]; decide)
theorem cl73_in (xs : List GRef) (h0 : 0 < xs.length) (hn : xs.length ≤ 4294967296) {b : Bool} {hp : Hp} {nx : Nat} : InlOK Try.prog 73 [.d (.sl (List.map eGRef xs)) b] hp nx fun v hp2 nx2 => v = .so (nx + 3) 1 0 xs.length ∧ hp2 = upd (nx + 3) (some (.rw (List.map eGRef xs) 3 1 false false)) hp ∧ nx2 = nx + 7 := by
  have h := clone_map (e := eGRef) (k := 3) (b := b) (hp := hp) (nx := nx) tab_ok fol Try.func73 (T := 84) (B := 4) rfl (by kernel_rfl) (by kernel_rfl) (by decide) rfl (by simp only [go_sem]) (by simp only [go_sem]) (by simp only [go_sem]) (by decide) (by simp only [go_sem]; decide) (fun _ => rfl) xs h0 hn
  rw [plainR_map (f := eGRef) (fun _ => rfl), Bool.not_true, Bool.and_false] at h
  exact h
def look_right_Objs (_ : Nat) (x : LookRight) (s : GSub) : Option (List GRef) :=
  (if (decide ((mgetD s [] x.refs).length = 0)) then
    some []
  else
    grd (decide ((mgetD s [] x.refs).length ≤ 4294967296)) <|
    some (mgetD s [] x.refs))
theorem look_right_Objs_ok {n : Nat} {x : LookRight} {s : GSub} {r : List GRef} (H : look_right_Objs n x s = some r) : PureOK Try.prog 46 [D.pt (eLookRight x) 0, D.ag (eGSub s)] (D.sl (List.map eGRef r)) true := by
  unfold look_right_Objs at H
  refine pure_runR (tab := tab) tab_ok Try.func46 rfl (by kernel_rfl) (by kernel_rfl) (by simp [Try.f46]) ?_
  refine runR_take tab_ok fol 1 ?_
  have h1 : lookA (true, [.string, .string, .string]) (.agg #[.string s.type_, .string s.id_, .string s.rel]) (.d (.sl []) true) false (dEnts true (encMp kGSub false (eL eGRef) x.refs)) = some (.d (.sl (List.map eGRef (mgetD s [] x.refs))) true, []) := lookD (b := true) (ag := false) (enc := (eL eGRef)) key_GSub s ([] : List GRef) false x.refs
  try simp -implicitDefEqProofs only [go_sem, Nat.reduceEqDiff, Nat.reduceAdd, reduceCtorEq, ↓reduceIte, eGSub, eLookRight, h1]
  rcases ite_inv H with ⟨c2, H3⟩ | ⟨c2, H3⟩
  · try simp -implicitDefEqProofs only [go_sem, Int.reduceToNat, Int.reduceLT, Int.reduceLE, Int.reduceBEq, Int.reduceBNe, Nat.reduceLT, Nat.reduceBEq, Int.reduceEq, Nat.reduceEqDiff, Nat.reduceAdd, Nat.reduceSub, Nat.reduceMul, Nat.reduceLeDiff, reduceCtorEq, ↓reduceIte, eGTuple, eLookIndex, eLookLeft, eGRef, eGSub, eLookRight, eGObj, h1, c2]
    refine onCallD_pure (by first | rfl | (simp -implicitDefEqProofs only [go_sem, Int.reduceToNat, Int.reduceLT, Int.reduceLE, Int.reduceBEq, Int.reduceBNe, Nat.reduceLT, Nat.reduceBEq, Int.reduceEq, Nat.reduceEqDiff, Nat.reduceAdd, Nat.reduceSub, Nat.reduceMul, Nat.reduceLeDiff, reduceCtorEq, ↓reduceIte, eGTuple, eLookIndex, eLookLeft, eGRef, eGSub, eLookRight, eGObj, h1, c2]; done) | (simp -implicitDefEqProofs only [go_sem, Int.reduceToNat, Int.reduceLT, Int.reduceLE, Int.reduceBEq, Int.reduceBNe, Nat.reduceLT, Nat.reduceBEq, Int.reduceEq, Nat.reduceEqDiff, Nat.reduceAdd, Nat.reduceSub, Nat.reduceMul, Nat.reduceLeDiff, reduceCtorEq, ↓reduceIte, eGTuple, eLookIndex, eLookLeft, eGRef, eGSub, eLookRight, eGObj, h1, c2]; rfl)) (cl73_0 (mgetD s [] x.refs) c2) (.inr rfl) ?_
    try simp -implicitDefEqProofs only [go_sem, Nat.reduceAdd, ↓reduceIte]
    refine Rd_endF (by rfl) ?_
    try simp -implicitDefEqProofs only [go_sem]
    obtain rfl := Option.some.inj H3
    exact end_pure (by first | (simp -implicitDefEqProofs only [go_sem, ↓reduceIte, Try.f46] <;> rfl) | rfl) (by first | rfl | (simp -implicitDefEqProofs only [go_sem, Int.reduceToNat, Int.reduceLT, Int.reduceLE, Int.reduceBEq, Int.reduceBNe, Nat.reduceLT, Nat.reduceBEq, Int.reduceEq, Nat.reduceEqDiff, Nat.reduceAdd, Nat.reduceSub, Nat.reduceMul, Nat.reduceLeDiff, reduceCtorEq, ↓reduceIte, eGTuple, eLookIndex, eLookLeft, eGRef, eGSub, eLookRight, eGObj, h1, c2]; done) | (simp -implicitDefEqProofs only [go_sem, Int.reduceToNat, Int.reduceLT, Int.reduceLE, Int.reduceBEq, Int.reduceBNe, Nat.reduceLT, Nat.reduceBEq, Int.reduceEq, Nat.reduceEqDiff, Nat.reduceAdd, Nat.reduceSub, Nat.reduceMul, Nat.reduceLeDiff, reduceCtorEq, ↓reduceIte, eGTuple, eLookIndex, eLookLeft, eGRef, eGSub, eLookRight, eGObj, h1, c2]; rfl)) rfl (by intro h; first | rfl | cases h)
  · obtain ⟨g4, H5⟩ := grd_inv H3
    have h6 : (mgetD s [] x.refs).length ≤ 4294967296 := of_decide_eq_true g4
    have q7 : 0 < (mgetD s [] x.refs).length := by have := of_decide_eq_false c2; omega
    try simp -implicitDefEqProofs only [go_sem, Int.reduceToNat, Int.reduceLT, Int.reduceLE, Int.reduceBEq, Int.reduceBNe, Nat.reduceLT, Nat.reduceBEq, Int.reduceEq, Nat.reduceEqDiff, Nat.reduceAdd, Nat.reduceSub, Nat.reduceMul, Nat.reduceLeDiff, reduceCtorEq, ↓reduceIte, eGTuple, eLookIndex, eLookLeft, eGRef, eGSub, eLookRight, eGObj, h1, c2]
    refine onCallD_det (ids' := []) (v := .so 13 1 0 (mgetD s [] x.refs).length) (δ := [(13, .rw (List.map eGRef (mgetD s [] x.refs)) 3 1 false false)]) (nx' := 17) (fun hp1 _ => InlOK.mono (cl73_in (mgetD s [] x.refs) q7 h6) fun v2 hp2 nx2 e => e) ?_
    try simp -implicitDefEqProofs only [go_sem, Nat.reduceAdd, ↓reduceIte]
    refine Rd_endF (by rfl) ?_
    try simp -implicitDefEqProofs only [go_sem]
    obtain rfl := Option.some.inj H5
    exact end_pure (by first | (simp -implicitDefEqProofs only [go_sem, ↓reduceIte, Try.f46] <;> rfl) | rfl) (by first | rfl | (simp -implicitDefEqProofs only [go_sem, ↓reduceIte]; done) | (simp -implicitDefEqProofs only [go_sem, ↓reduceIte]; rfl)) rfl (by intro h; first | rfl | cases h)
def law5_sameSubs_L1 (n : Nat) (a : List GSub) (b : List GSub) : Nat → Int → Option ((Unit) ⊕ Bool)
  | 0, _ => none
  | c + 1, i =>
    (if (decide (i < (a.length : Int))) then
      (idx a i).bind fun x3 =>
      (idx b i).bind fun x4 =>
      (if ((x3.type_ == x4.type_) && ((x3.id_ == x4.id_) && (x3.rel == x4.rel))) then
        law5_sameSubs_L1 n a b c (IntKind.i64.wrap (i + 1))
      else
        some (.inr false))
    else
      some (.inl ()))

def law5_sameSubs (n : Nat) (a : List GSub) (b : List GSub) : Option Bool :=
  (if ((a.length : Int) != (b.length : Int)) then
    some false
  else
    (
      law5_sameSubs_L1 n a b n 0 : Option ((Unit) ⊕ Bool)).bind fun
      | .inl _ =>
        some true
      | .inr r => some r)
theorem law5_sameSubs_ok {n : Nat} {a : List GSub} {b : List GSub} {r : Bool} (H : law5_sameSubs n a b = some r) : PureOK Try.prog 48 [D.sl (List.map eGSub a), D.sl (List.map eGSub b)] (D.v (.bool r)) true := by
  unfold law5_sameSubs at H
  refine pure_runR (tab := tab) tab_ok Try.func48 rfl (by kernel_rfl) (by kernel_rfl) (by simp [Try.f48]) ?_
  refine runR_seq ?_
  refine runR_take tab_ok fol 1 ?_
  try simp -implicitDefEqProofs only [go_sem]
  refine runR_seq ?_
  refine runR_take tab_ok fol 1 ?_
  try simp -implicitDefEqProofs only [go_sem, Nat.reduceEqDiff, Nat.reduceAdd, reduceCtorEq, ↓reduceIte]
  rcases ite_inv H with ⟨c1, H2⟩ | ⟨c1, H2⟩
  · try simp -implicitDefEqProofs only [go_sem, Nat.reduceAdd, c1]
    obtain rfl := Option.some.inj H2
    exact end_pure (by first | (simp -implicitDefEqProofs only [go_sem, ↓reduceIte, Try.f48] <;> rfl) | rfl) (by first | rfl | (simp -implicitDefEqProofs only [go_sem, Int.reduceToNat, Int.reduceLT, Int.reduceLE, Int.reduceBEq, Int.reduceBNe, Nat.reduceLT, Nat.reduceBEq, Int.reduceEq, Nat.reduceEqDiff, Nat.reduceAdd, Nat.reduceSub, Nat.reduceMul, Nat.reduceLeDiff, reduceCtorEq, ↓reduceIte, eGTuple, eLookIndex, eLookLeft, eGRef, eGSub, eLookRight, eGObj, c1]; done) | (simp -implicitDefEqProofs only [go_sem, Int.reduceToNat, Int.reduceLT, Int.reduceLE, Int.reduceBEq, Int.reduceBNe, Nat.reduceLT, Nat.reduceBEq, Int.reduceEq, Nat.reduceEqDiff, Nat.reduceAdd, Nat.reduceSub, Nat.reduceMul, Nat.reduceLeDiff, reduceCtorEq, ↓reduceIte, eGTuple, eLookIndex, eLookLeft, eGRef, eGSub, eLookRight, eGObj, c1]; rfl)) rfl (by intro h; first | rfl | cases h)
  · try simp -implicitDefEqProofs only [go_sem, c1]
    refine runR_seq ?_
    refine runR_seq ?_
    refine runR_take tab_ok fol 1 ?_
    try simp -implicitDefEqProofs only [go_sem, Nat.reduceAdd]
    obtain ⟨e_, E3, H4⟩ := bind_inv H2
    refine runR_join (α := { y : Unit // e_ = .inl y }) (fun | ⟨_, _⟩ => ⟨noFr, noHp, 0⟩) ?_ ?_
    · refine runR_block ?_
      refine runR_loop (α := { q : Nat × Int // law5_sameSubs_L1 n a b q.1 q.2 = some e_ }) (fun | ⟨⟨c, i⟩, _⟩ => ⟨upd 0 (.d (.sl (List.map eGSub a)) true) (upd 1 (.d (.sl (List.map eGSub b)) true) (upd 5 (.v (.int .i64 i)) noFr)), noHp, 0⟩) (fun q => q.1.1) ⟨(n, 0), E3⟩ ?_ ?_
      · exact ren_mk [] (by rfl) (rf_upd (by rfl) (rf_upd (by rfl) (rf_upd (by rfl) (rf_no _)))) (rh_no _)
      · rintro ⟨⟨c, i⟩, L5⟩
        rcases c with _ | c
        · exact nomatch (show none = some _ from L5)
        · unfold law5_sameSubs_L1 at L5
          try dsimp only at L5
          refine runR_take tab_ok fol 1 ?_
          try simp -implicitDefEqProofs only [go_sem, Nat.reduceEqDiff, Nat.reduceAdd, reduceCtorEq, ↓reduceIte]
          rcases ite_inv L5 with ⟨c22, H23⟩ | ⟨c22, H23⟩
          · obtain ⟨x3, b24, H25⟩ := bind_inv H23
            obtain ⟨h26, h27⟩ := idx_inv b24
            try simp only [Int.reduceToNat, Int.toNat_natCast] at h27
            have h28 := map_at eGSub h27
            obtain ⟨x4, b30, H31⟩ := bind_inv H25
            obtain ⟨h32, h33⟩ := idx_inv b30
            try simp only [Int.reduceToNat, Int.toNat_natCast] at h33
            have h34 := map_at eGSub h33
            try simp -implicitDefEqProofs only [go_sem, Nat.reduceEqDiff, Nat.reduceAdd, reduceCtorEq, ↓reduceIte, eGSub, c22, nat_of .i64 h26, h28, h34]
            refine Rd_endF (by rfl) ?_
            try simp -implicitDefEqProofs only [go_sem, ↓reduceIte]
            rcases ite_inv H31 with ⟨c36, H37⟩ | ⟨c36, H37⟩
            · try simp -implicitDefEqProofs only [go_sem, Nat.reduceEqDiff, Nat.reduceAdd, reduceCtorEq, ↓reduceIte, c36]
              exact ⟨⟨(c, (IntKind.i64.wrap (i + 1))), H37⟩, ren_mk [] (by rfl) (rf_upd (by rfl) (rf_upd (by rfl) (rf_upd (by rfl) (rf_no _)))) (rh_no _), Nat.lt_succ_self _⟩
            · try simp -implicitDefEqProofs only [go_sem, Nat.reduceAdd, c36]
              obtain rfl := Option.some.inj H37
              obtain rfl := Option.some.inj H4
              exact end_pure (by first | (simp -implicitDefEqProofs only [go_sem, ↓reduceIte, Try.f48] <;> rfl) | rfl) (by first | rfl | (simp -implicitDefEqProofs only [go_sem, Int.reduceToNat, Int.reduceLT, Int.reduceLE, Int.reduceBEq, Int.reduceBNe, Nat.reduceLT, Nat.reduceBEq, Int.reduceEq, Nat.reduceEqDiff, Nat.reduceAdd, Nat.reduceSub, Nat.reduceMul, Nat.reduceLeDiff, reduceCtorEq, ↓reduceIte, eGTuple, eLookIndex, eLookLeft, eGRef, eGSub, eLookRight, eGObj, c22, nat_of .i64 h26, h28, nat_of .i64 h32, h34, c36]; done) | (simp -implicitDefEqProofs only [go_sem, Int.reduceToNat, Int.reduceLT, Int.reduceLE, Int.reduceBEq, Int.reduceBNe, Nat.reduceLT, Nat.reduceBEq, Int.reduceEq, Nat.reduceEqDiff, Nat.reduceAdd, Nat.reduceSub, Nat.reduceMul, Nat.reduceLeDiff, reduceCtorEq, ↓reduceIte, eGTuple, eLookIndex, eLookLeft, eGRef, eGSub, eLookRight, eGObj, c22, nat_of .i64 h26, h28, nat_of .i64 h32, h34, c36]; rfl)) rfl (by intro h; first | rfl | cases h)
          · try simp -implicitDefEqProofs only [go_sem, ↓reduceIte, c22]
            obtain rfl := Option.some.inj H23
            exact ⟨⟨(), rfl⟩, ren_mk [] (by rfl) (rf_no _) (rh_no _)⟩
    · rintro ⟨_, he38⟩
      replace he38 := he38.symm
      subst he38
      try dsimp only at H4
      refine runR_take tab_ok fol 1 ?_
      try simp -implicitDefEqProofs only [go_sem]
      obtain rfl := Option.some.inj H4
      exact end_pure (by first | (simp -implicitDefEqProofs only [go_sem, ↓reduceIte, Try.f48] <;> rfl) | rfl) (by first | rfl | (simp -implicitDefEqProofs only [go_sem, Int.reduceToNat, Int.reduceLT, Int.reduceLE, Int.reduceBEq, Int.reduceBNe, Nat.reduceLT, Nat.reduceBEq, Int.reduceEq, Nat.reduceEqDiff, Nat.reduceAdd, Nat.reduceSub, Nat.reduceMul, Nat.reduceLeDiff, reduceCtorEq, ↓reduceIte, eGTuple, eLookIndex, eLookLeft, eGRef, eGSub, eLookRight, eGObj]; done) | (simp -implicitDefEqProofs only [go_sem, Int.reduceToNat, Int.reduceLT, Int.reduceLE, Int.reduceBEq, Int.reduceBNe, Nat.reduceLT, Nat.reduceBEq, Int.reduceEq, Nat.reduceEqDiff, Nat.reduceAdd, Nat.reduceSub, Nat.reduceMul, Nat.reduceLeDiff, reduceCtorEq, ↓reduceIte, eGTuple, eLookIndex, eLookLeft, eGRef, eGSub, eLookRight, eGObj]; rfl)) rfl (by intro h; first | rfl | cases h)
def ref1_Subs_L1 (n : Nat) (l : List GTuple) (o : GObj) (rel : ByteArray) : Nat → (List GSub × Int) → Option (List GSub)
  | 0, _ => none
  | c + 1, (out, i) =>
    (if (decide (i < (l.length : Int))) then
      (idx l i).bind fun x2 =>
      (if ((x2.obj.type_ == o.type_) && (x2.obj.id_ == o.id_)) then
        (if (x2.rel.toList == rel.toList) then
          (app out [x2.sub_]).bind fun l2 =>
          ref1_Subs_L1 n l o rel c (l2, (IntKind.i64.wrap (i + 1)))
        else
          some out)
      else
        some out)
    else
      some out)
def ref1_Subs_L1_f (_ : Nat) (_ : List GTuple) (o : GObj) (rel : ByteArray) (st : List GSub) (x2 : GTuple) (k : List GSub → Option (List GSub)) : Option (List GSub) :=
  match st with
  | out =>
    (if ((x2.obj.type_ == o.type_) && (x2.obj.id_ == o.id_)) then
      (if (x2.rel.toList == rel.toList) then
        (app out [x2.sub_]).bind fun l2 =>
        k l2
      else
        some out)
    else
      some out)
def ref1_Subs_L1_e (_ : Nat) (_ : List GTuple) (_ : GObj) (_ : ByteArray) (st : List GSub) : Option (List GSub) :=
  match st with
  | out => some out
theorem ref1_Subs_L1_list (n : Nat) (l : List GTuple) (o : GObj) (rel : ByteArray) (hx : l.length < 4611686018427387904) (c : Nat) (st : List GSub) (ix : Nat) (hi : ix ≤ l.length) (hc : l.length - ix < c) : ref1_Subs_L1 n l o rel c (match st, (ix : Int) with | out, ix => (out, ix)) = foldK (ref1_Subs_L1_f n l o rel) (ref1_Subs_L1_e n l o rel) (l.drop ix) st :=
  loop_list (fun c st ix => ref1_Subs_L1 n l o rel c (match st, ix with | out, ix => (out, ix))) l (ref1_Subs_L1_f n l o rel) (ref1_Subs_L1_e n l o rel) (fun _ _ _ => rfl) hx c st ix hi hc

def ref1_Subs (n : Nat) (l : List GTuple) (o : GObj) (rel : ByteArray) : Option (List GSub) :=
  (ref1_place n l (⟨o, rel, (⟨ByteArray.empty, ByteArray.empty, ByteArray.empty⟩ : GSub)⟩ : GTuple)).bind fun t13 =>
  (
    ref1_Subs_L1 n l o rel n ([], t13) : Option (List GSub)).bind fun out3 =>
  some out3
theorem ref1_Subs_ok {n : Nat} {l : List GTuple} {o : GObj} {rel : ByteArray} {r : List GSub} (H : ref1_Subs n l o rel = some r) : PureOK Try.prog 49 [D.sl (List.map eGTuple l), D.ag (eGObj o), D.v (.string rel)] (D.sl (List.map eGSub r)) true := by
  unfold ref1_Subs at H
  refine pure_runR (tab := tab) tab_ok Try.func49 rfl (by kernel_rfl) (by kernel_rfl) (by simp [Try.f49]) ?_
  refine runR_seq ?_
  refine runR_take tab_ok fol 1 ?_
  try simp -implicitDefEqProofs only [go_sem, Nat.reduceAdd, eGObj]
  refine runR_seq ?_
  refine runR_take tab_ok fol 1 ?_
  try simp -implicitDefEqProofs only [go_sem, Nat.reduceAdd]
  refine runR_seq ?_
  refine runR_seq ?_
  refine runR_take tab_ok fol 1 ?_
  obtain ⟨t13, b1, H2⟩ := bind_inv H
  try simp -implicitDefEqProofs only [go_sem, Nat.reduceEqDiff, Nat.reduceAdd, Nat.reduceLeDiff, reduceCtorEq, ↓reduceIte]
  refine onCall_pure (by first | rfl | (simp -implicitDefEqProofs only [go_sem, Int.reduceToNat, Int.reduceLT, Int.reduceLE, Int.reduceBEq, Int.reduceBNe, Nat.reduceLT, Nat.reduceBEq, Int.reduceEq, Nat.reduceEqDiff, Nat.reduceAdd, Nat.reduceSub, Nat.reduceMul, Nat.reduceLeDiff, reduceCtorEq, ↓reduceIte, eGTuple, eLookIndex, eLookLeft, eGRef, eGSub, eLookRight, eGObj]; done) | (simp -implicitDefEqProofs only [go_sem, Int.reduceToNat, Int.reduceLT, Int.reduceLE, Int.reduceBEq, Int.reduceBNe, Nat.reduceLT, Nat.reduceBEq, Int.reduceEq, Nat.reduceEqDiff, Nat.reduceAdd, Nat.reduceSub, Nat.reduceMul, Nat.reduceLeDiff, reduceCtorEq, ↓reduceIte, eGTuple, eLookIndex, eLookLeft, eGRef, eGSub, eLookRight, eGObj]; rfl)) (ref1_place_ok b1) (by first | exact .inr rfl | exact .inl rfl) ?_
  try simp -implicitDefEqProofs only [go_sem, Nat.reduceAdd, ↓reduceIte]
  obtain ⟨e_, E3, H4⟩ := bind_inv H2
  refine runR_join (α := { y : List GSub // e_ = y } × Nat) (fun | ⟨⟨out3, _⟩, g3⟩ => ⟨upd 7 (accV 0 g3 (List.map eGSub out3)) noFr, upd 0 (accO 3 g3 false (List.map eGSub out3)) noHp, 1⟩) ?_ ?_
  · refine runR_block ?_
    refine runR_loop (α := { q : (Nat × (List GSub × Int)) × Nat // ref1_Subs_L1 n l o rel q.1.1 q.1.2 = some e_ }) (fun | ⟨⟨⟨c, ⟨out, i⟩⟩, g⟩, _⟩ => ⟨upd 0 (.d (.sl (List.map eGTuple l)) true) (upd 2 (.v (.string rel)) (upd 4 (.pt 0 0) (upd 7 (accV 1 g (List.map eGSub out)) (upd 8 (.v (.int .i64 i)) noFr)))), upd 0 (some (.bx [.v (.string o.type_), .v (.string o.id_)])) (upd 1 (accO 3 g false (List.map eGSub out)) noHp), 2⟩) (fun q => q.1.1.1) ⟨((n, ([], t13)), 0), E3⟩ ?_ ?_
    · exact ren_mk [(0, 0)] (by rfl) (rf_upd (by rfl) (rf_upd (by rfl) (rf_upd (by rfl) (rf_upd (by rfl) (rf_upd (by rfl) (rf_no _)))))) (rh_upd (rh_one (by rfl) (by rfl) (by rfl)) (rh_upd rh_accN (rh_no _)))
    · rintro ⟨⟨⟨c, ⟨out, i⟩⟩, g⟩, L5⟩
      rcases c with _ | c
      · exact nomatch (show none = some _ from L5)
      · unfold ref1_Subs_L1 at L5
        try dsimp only at L5
        refine runR_take tab_ok fol 1 ?_
        try simp -implicitDefEqProofs only [go_sem, Nat.reduceEqDiff, Nat.reduceAdd, reduceCtorEq, ↓reduceIte]
        rcases ite_inv L5 with ⟨c18, H19⟩ | ⟨c18, H19⟩
        · obtain ⟨x2, b20, H21⟩ := bind_inv H19
          obtain ⟨h22, h23⟩ := idx_inv b20
          try simp only [Int.reduceToNat, Int.toNat_natCast] at h23
          have h24 := map_at eGTuple h23
          try simp -implicitDefEqProofs only [go_sem, Nat.reduceEqDiff, Nat.reduceAdd, Nat.reduceLeDiff, reduceCtorEq, ↓reduceIte, eGTuple, c18, nat_of .i64 h22, h24]
          rcases ite_inv H21 with ⟨c26, H27⟩ | ⟨c26, H27⟩
          · try simp -implicitDefEqProofs only [go_sem, Nat.reduceEqDiff, Nat.reduceAdd, reduceCtorEq, ↓reduceIte, eGTuple, nat_of .i64 h22, h24, c26]
            refine Rd_endF (by rfl) ?_
            try simp -implicitDefEqProofs only [go_sem, ↓reduceIte]
            rcases ite_inv H27 with ⟨c28, H29⟩ | ⟨c28, H29⟩
            · obtain ⟨l2, b30, H31⟩ := bind_inv H29
              obtain ⟨h32, h33⟩ := app_inv b30
              have h32 : out.length + 1 ≤ 4294967296 := h32
              have h34 : List.map eGSub out ++ [[.v (.string x2.sub_.type_), .v (.string x2.sub_.id_), .v (.string x2.sub_.rel)]] = List.map eGSub l2 := app_map eGSub h33
              have h35 : out.length + 1 = l2.length := app_len h33
              have h36 : l2.length ≤ 4294967296 := by omega
              have q37 : 0 < l2.length := by omega
              try simp -implicitDefEqProofs only [go_sem, Nat.reduceLT, Nat.reduceEqDiff, Nat.reduceAdd, Nat.reduceMul, Nat.reduceLeDiff, reduceCtorEq, ↓reduceIte, eGTuple, nat_of .i64 h22, h24, c28, h34, h35, h36]
              rcases out with _ | ⟨q0, q1⟩
              · try simp only [List.map_nil, accI, accN]
                exact ⟨⟨((c, (l2, (IntKind.i64.wrap (i + 1)))), 0), H31⟩, ren_mk [(0, 0), (1, 31)] (by rfl) (rf_upd (by rfl) (rf_upd (by rfl) (rf_upd (by rfl) (rf_upd (by first | exact ren_accP (by rfl) q37 | rfl) (rf_upd (by rfl) (rf_no _)))))) (rh_upd (rh_one (by rfl) (by rfl) (by rfl)) (rh_upd (by first | exact rh_accP (by rfl) q37 (by rfl) | exact rh_one (by rfl) (by rfl) (by rfl)) (rh_no _))), Nat.lt_succ_self _⟩
              · try simp only [List.map_cons, accI, accN]
                exact ⟨⟨((c, (l2, (IntKind.i64.wrap (i + 1)))), (g + 1)), H31⟩, ren_mk [(0, 0), (1, 1)] (by rfl) (rf_upd (by rfl) (rf_upd (by rfl) (rf_upd (by rfl) (rf_upd (by first | exact ren_accP (by rfl) q37 | rfl) (rf_upd (by rfl) (rf_no _)))))) (rh_upd (rh_one (by rfl) (by rfl) (by rfl)) (rh_upd (by first | exact rh_accP (by rfl) q37 (by rfl) | exact rh_one (by rfl) (by rfl) (by rfl)) (rh_no _))), Nat.lt_succ_self _⟩
            · try simp -implicitDefEqProofs only [go_sem, ↓reduceIte, c28]
              obtain rfl := Option.some.inj H29
              exact ⟨⟨⟨out, rfl⟩, g⟩, ren_mk [(0, 1)] (by rfl) (rf_upd (ren_acc (by rfl)) (rf_no _)) (rh_upd (rh_acc (by rfl) (by rfl)) (rh_no _))⟩
          · try simp -implicitDefEqProofs only [go_sem, Nat.reduceEqDiff, Nat.reduceAdd, ↓reduceIte, c26]
            refine Rd_endF (by rfl) ?_
            try simp -implicitDefEqProofs only [go_sem, ↓reduceIte]
            obtain rfl := Option.some.inj H27
            exact ⟨⟨⟨out, rfl⟩, g⟩, ren_mk [(0, 1)] (by rfl) (rf_upd (ren_acc (by rfl)) (rf_no _)) (rh_upd (rh_acc (by rfl) (by rfl)) (rh_no _))⟩
        · try simp -implicitDefEqProofs only [go_sem, Nat.reduceEqDiff, Nat.reduceAdd, ↓reduceIte, c18]
          refine Rd_endF (by rfl) ?_
          try simp -implicitDefEqProofs only [go_sem, ↓reduceIte]
          obtain rfl := Option.some.inj H19
          exact ⟨⟨⟨out, rfl⟩, g⟩, ren_mk [(0, 1)] (by rfl) (rf_upd (ren_acc (by rfl)) (rf_no _)) (rh_upd (rh_acc (by rfl) (by rfl)) (rh_no _))⟩
  · rintro ⟨⟨out3, he38⟩, g3⟩
    replace he38 := he38.symm
    subst he38
    try dsimp only at H4
    refine runR_take tab_ok fol 1 ?_
    try simp -implicitDefEqProofs only [go_sem, Nat.reduceAdd, ↓reduceIte]
    obtain rfl := Option.some.inj H4
    exact end_pure (by first | (simp -implicitDefEqProofs only [go_sem, ↓reduceIte, Try.f49] <;> rfl) | rfl) (by first | rfl | (simp -implicitDefEqProofs only [go_sem, ↓reduceIte]; done) | (simp -implicitDefEqProofs only [go_sem, ↓reduceIte]; rfl)) rfl (by intro h; first | rfl | cases h)
def law5_sameRefs_L1 (n : Nat) (a : List GRef) (b : List GRef) : Nat → Int → Option ((Unit) ⊕ Bool)
  | 0, _ => none
  | c + 1, i =>
    (if (decide (i < (a.length : Int))) then
      (idx a i).bind fun x3 =>
      (idx b i).bind fun x4 =>
      (if ((x3.obj.type_ == x4.obj.type_) && ((x3.obj.id_ == x4.obj.id_) && (x3.rel == x4.rel))) then
        law5_sameRefs_L1 n a b c (IntKind.i64.wrap (i + 1))
      else
        some (.inr false))
    else
      some (.inl ()))

def law5_sameRefs (n : Nat) (a : List GRef) (b : List GRef) : Option Bool :=
  (if ((a.length : Int) != (b.length : Int)) then
    some false
  else
    (
      law5_sameRefs_L1 n a b n 0 : Option ((Unit) ⊕ Bool)).bind fun
      | .inl _ =>
        some true
      | .inr r => some r)
theorem law5_sameRefs_ok {n : Nat} {a : List GRef} {b : List GRef} {r : Bool} (H : law5_sameRefs n a b = some r) : PureOK Try.prog 50 [D.sl (List.map eGRef a), D.sl (List.map eGRef b)] (D.v (.bool r)) true := by
  unfold law5_sameRefs at H
  refine pure_runR (tab := tab) tab_ok Try.func50 rfl (by kernel_rfl) (by kernel_rfl) (by simp [Try.f50]) ?_
  refine runR_seq ?_
  refine runR_take tab_ok fol 1 ?_
  try simp -implicitDefEqProofs only [go_sem]
  refine runR_seq ?_
  refine runR_take tab_ok fol 1 ?_
  try simp -implicitDefEqProofs only [go_sem, Nat.reduceEqDiff, Nat.reduceAdd, reduceCtorEq, ↓reduceIte]
  rcases ite_inv H with ⟨c1, H2⟩ | ⟨c1, H2⟩
  · try simp -implicitDefEqProofs only [go_sem, Nat.reduceAdd, c1]
    obtain rfl := Option.some.inj H2
    exact end_pure (by first | (simp -implicitDefEqProofs only [go_sem, ↓reduceIte, Try.f50] <;> rfl) | rfl) (by first | rfl | (simp -implicitDefEqProofs only [go_sem, Int.reduceToNat, Int.reduceLT, Int.reduceLE, Int.reduceBEq, Int.reduceBNe, Nat.reduceLT, Nat.reduceBEq, Int.reduceEq, Nat.reduceEqDiff, Nat.reduceAdd, Nat.reduceSub, Nat.reduceMul, Nat.reduceLeDiff, reduceCtorEq, ↓reduceIte, eGTuple, eLookIndex, eLookLeft, eGRef, eGSub, eLookRight, eGObj, c1]; done) | (simp -implicitDefEqProofs only [go_sem, Int.reduceToNat, Int.reduceLT, Int.reduceLE, Int.reduceBEq, Int.reduceBNe, Nat.reduceLT, Nat.reduceBEq, Int.reduceEq, Nat.reduceEqDiff, Nat.reduceAdd, Nat.reduceSub, Nat.reduceMul, Nat.reduceLeDiff, reduceCtorEq, ↓reduceIte, eGTuple, eLookIndex, eLookLeft, eGRef, eGSub, eLookRight, eGObj, c1]; rfl)) rfl (by intro h; first | rfl | cases h)
  · try simp -implicitDefEqProofs only [go_sem, c1]
    refine runR_seq ?_
    refine runR_seq ?_
    refine runR_take tab_ok fol 1 ?_
    try simp -implicitDefEqProofs only [go_sem, Nat.reduceAdd]
    obtain ⟨e_, E3, H4⟩ := bind_inv H2
    refine runR_join (α := { y : Unit // e_ = .inl y }) (fun | ⟨_, _⟩ => ⟨noFr, noHp, 0⟩) ?_ ?_
    · refine runR_block ?_
      refine runR_loop (α := { q : Nat × Int // law5_sameRefs_L1 n a b q.1 q.2 = some e_ }) (fun | ⟨⟨c, i⟩, _⟩ => ⟨upd 0 (.d (.sl (List.map eGRef a)) true) (upd 1 (.d (.sl (List.map eGRef b)) true) (upd 5 (.v (.int .i64 i)) noFr)), noHp, 0⟩) (fun q => q.1.1) ⟨(n, 0), E3⟩ ?_ ?_
      · exact ren_mk [] (by rfl) (rf_upd (by rfl) (rf_upd (by rfl) (rf_upd (by rfl) (rf_no _)))) (rh_no _)
      · rintro ⟨⟨c, i⟩, L5⟩
        rcases c with _ | c
        · exact nomatch (show none = some _ from L5)
        · unfold law5_sameRefs_L1 at L5
          try dsimp only at L5
          refine runR_take tab_ok fol 1 ?_
          try simp -implicitDefEqProofs only [go_sem, Nat.reduceEqDiff, Nat.reduceAdd, reduceCtorEq, ↓reduceIte]
          rcases ite_inv L5 with ⟨c22, H23⟩ | ⟨c22, H23⟩
          · obtain ⟨x3, b24, H25⟩ := bind_inv H23
            obtain ⟨h26, h27⟩ := idx_inv b24
            try simp only [Int.reduceToNat, Int.toNat_natCast] at h27
            have h28 := map_at eGRef h27
            obtain ⟨x4, b30, H31⟩ := bind_inv H25
            obtain ⟨h32, h33⟩ := idx_inv b30
            try simp only [Int.reduceToNat, Int.toNat_natCast] at h33
            have h34 := map_at eGRef h33
            try simp -implicitDefEqProofs only [go_sem, Nat.reduceEqDiff, Nat.reduceAdd, reduceCtorEq, ↓reduceIte, eGRef, c22, nat_of .i64 h26, h28, h34]
            refine Rd_endF (by rfl) ?_
            try simp -implicitDefEqProofs only [go_sem, ↓reduceIte]
            rcases ite_inv H31 with ⟨c36, H37⟩ | ⟨c36, H37⟩
            · try simp -implicitDefEqProofs only [go_sem, Nat.reduceEqDiff, Nat.reduceAdd, reduceCtorEq, ↓reduceIte, c36]
              exact ⟨⟨(c, (IntKind.i64.wrap (i + 1))), H37⟩, ren_mk [] (by rfl) (rf_upd (by rfl) (rf_upd (by rfl) (rf_upd (by rfl) (rf_no _)))) (rh_no _), Nat.lt_succ_self _⟩
            · try simp -implicitDefEqProofs only [go_sem, Nat.reduceAdd, c36]
              obtain rfl := Option.some.inj H37
              obtain rfl := Option.some.inj H4
              exact end_pure (by first | (simp -implicitDefEqProofs only [go_sem, ↓reduceIte, Try.f50] <;> rfl) | rfl) (by first | rfl | (simp -implicitDefEqProofs only [go_sem, Int.reduceToNat, Int.reduceLT, Int.reduceLE, Int.reduceBEq, Int.reduceBNe, Nat.reduceLT, Nat.reduceBEq, Int.reduceEq, Nat.reduceEqDiff, Nat.reduceAdd, Nat.reduceSub, Nat.reduceMul, Nat.reduceLeDiff, reduceCtorEq, ↓reduceIte, eGTuple, eLookIndex, eLookLeft, eGRef, eGSub, eLookRight, eGObj, c22, nat_of .i64 h26, h28, nat_of .i64 h32, h34, c36]; done) | (simp -implicitDefEqProofs only [go_sem, Int.reduceToNat, Int.reduceLT, Int.reduceLE, Int.reduceBEq, Int.reduceBNe, Nat.reduceLT, Nat.reduceBEq, Int.reduceEq, Nat.reduceEqDiff, Nat.reduceAdd, Nat.reduceSub, Nat.reduceMul, Nat.reduceLeDiff, reduceCtorEq, ↓reduceIte, eGTuple, eLookIndex, eLookLeft, eGRef, eGSub, eLookRight, eGObj, c22, nat_of .i64 h26, h28, nat_of .i64 h32, h34, c36]; rfl)) rfl (by intro h; first | rfl | cases h)
          · try simp -implicitDefEqProofs only [go_sem, ↓reduceIte, c22]
            obtain rfl := Option.some.inj H23
            exact ⟨⟨(), rfl⟩, ren_mk [] (by rfl) (rf_no _) (rh_no _)⟩
    · rintro ⟨_, he38⟩
      replace he38 := he38.symm
      subst he38
      try dsimp only at H4
      refine runR_take tab_ok fol 1 ?_
      try simp -implicitDefEqProofs only [go_sem]
      obtain rfl := Option.some.inj H4
      exact end_pure (by first | (simp -implicitDefEqProofs only [go_sem, ↓reduceIte, Try.f50] <;> rfl) | rfl) (by first | rfl | (simp -implicitDefEqProofs only [go_sem, Int.reduceToNat, Int.reduceLT, Int.reduceLE, Int.reduceBEq, Int.reduceBNe, Nat.reduceLT, Nat.reduceBEq, Int.reduceEq, Nat.reduceEqDiff, Nat.reduceAdd, Nat.reduceSub, Nat.reduceMul, Nat.reduceLeDiff, reduceCtorEq, ↓reduceIte, eGTuple, eLookIndex, eLookLeft, eGRef, eGSub, eLookRight, eGObj]; done) | (simp -implicitDefEqProofs only [go_sem, Int.reduceToNat, Int.reduceLT, Int.reduceLE, Int.reduceBEq, Int.reduceBNe, Nat.reduceLT, Nat.reduceBEq, Int.reduceEq, Nat.reduceEqDiff, Nat.reduceAdd, Nat.reduceSub, Nat.reduceMul, Nat.reduceLeDiff, reduceCtorEq, ↓reduceIte, eGTuple, eLookIndex, eLookLeft, eGRef, eGSub, eLookRight, eGObj]; rfl)) rfl (by intro h; first | rfl | cases h)
def ref1_Objs_L1 (n : Nat) (l : List GTuple) (s : GSub) : Nat → (List GRef × Int) → Option (List GRef)
  | 0, _ => none
  | c + 1, (out, i) =>
    (if (decide (i < (l.length : Int))) then
      (idx l i).bind fun x2 =>
      (if ((x2.sub_.type_ == s.type_) && ((x2.sub_.id_ == s.id_) && (x2.sub_.rel == s.rel))) then
        (app out [(⟨x2.obj, x2.rel⟩ : GRef)]).bind fun l2 =>
        ref1_Objs_L1 n l s c (l2, (IntKind.i64.wrap (i + 1)))
      else
        ref1_Objs_L1 n l s c (out, (IntKind.i64.wrap (i + 1))))
    else
      some out)
def ref1_Objs_L1_f (_ : Nat) (_ : List GTuple) (s : GSub) (st : List GRef) (x2 : GTuple) (k : List GRef → Option (List GRef)) : Option (List GRef) :=
  match st with
  | out =>
    (if ((x2.sub_.type_ == s.type_) && ((x2.sub_.id_ == s.id_) && (x2.sub_.rel == s.rel))) then
      (app out [(⟨x2.obj, x2.rel⟩ : GRef)]).bind fun l2 =>
      k l2
    else
      k out)
def ref1_Objs_L1_e (_ : Nat) (_ : List GTuple) (_ : GSub) (st : List GRef) : Option (List GRef) :=
  match st with
  | out => some out
theorem ref1_Objs_L1_list (n : Nat) (l : List GTuple) (s : GSub) (hx : l.length < 4611686018427387904) (c : Nat) (st : List GRef) (ix : Nat) (hi : ix ≤ l.length) (hc : l.length - ix < c) : ref1_Objs_L1 n l s c (match st, (ix : Int) with | out, ix => (out, ix)) = foldK (ref1_Objs_L1_f n l s) (ref1_Objs_L1_e n l s) (l.drop ix) st :=
  loop_list (fun c st ix => ref1_Objs_L1 n l s c (match st, ix with | out, ix => (out, ix))) l (ref1_Objs_L1_f n l s) (ref1_Objs_L1_e n l s) (fun _ _ _ => rfl) hx c st ix hi hc

def ref1_Objs (n : Nat) (l : List GTuple) (s : GSub) : Option (List GRef) :=
  (
    ref1_Objs_L1 n l s n ([], 0) : Option (List GRef)).bind fun out3 =>
  some out3
theorem ref1_Objs_ok {n : Nat} {l : List GTuple} {s : GSub} {r : List GRef} (H : ref1_Objs n l s = some r) : PureOK Try.prog 51 [D.sl (List.map eGTuple l), D.ag (eGSub s)] (D.sl (List.map eGRef r)) true := by
  unfold ref1_Objs at H
  refine pure_runR (tab := tab) tab_ok Try.func51 rfl (by kernel_rfl) (by kernel_rfl) (by simp [Try.f51]) ?_
  refine runR_seq ?_
  refine runR_take tab_ok fol 1 ?_
  try simp -implicitDefEqProofs only [go_sem, Nat.reduceAdd, eGSub]
  refine runR_seq ?_
  refine runR_take tab_ok fol 1 ?_
  try simp -implicitDefEqProofs only [go_sem, Nat.reduceAdd]
  refine runR_seq ?_
  refine runR_seq ?_
  refine runR_take tab_ok fol 1 ?_
  try simp -implicitDefEqProofs only [go_sem, Nat.reduceAdd]
  obtain ⟨e_, E1, H2⟩ := bind_inv H
  refine runR_join (α := { y : List GRef // e_ = y } × Nat) (fun | ⟨⟨out3, _⟩, g3⟩ => ⟨upd 5 (accV 0 g3 (List.map eGRef out3)) noFr, upd 0 (accO 3 g3 false (List.map eGRef out3)) noHp, 1⟩) ?_ ?_
  · refine runR_block ?_
    refine runR_loop (α := { q : (Nat × (List GRef × Int)) × Nat // ref1_Objs_L1 n l s q.1.1 q.1.2 = some e_ }) (fun | ⟨⟨⟨c, ⟨out, i⟩⟩, g⟩, _⟩ => ⟨upd 0 (.d (.sl (List.map eGTuple l)) true) (upd 3 (.pt 0 0) (upd 5 (accV 1 g (List.map eGRef out)) (upd 6 (.v (.int .i64 i)) noFr))), upd 0 (some (.bx [.v (.string s.type_), .v (.string s.id_), .v (.string s.rel)])) (upd 1 (accO 3 g false (List.map eGRef out)) noHp), 2⟩) (fun q => q.1.1.1) ⟨((n, ([], 0)), 0), E1⟩ ?_ ?_
    · exact ren_mk [(0, 0)] (by rfl) (rf_upd (by rfl) (rf_upd (by rfl) (rf_upd (by rfl) (rf_upd (by rfl) (rf_no _))))) (rh_upd (rh_one (by rfl) (by rfl) (by rfl)) (rh_upd rh_accN (rh_no _)))
    · rintro ⟨⟨⟨c, ⟨out, i⟩⟩, g⟩, L3⟩
      rcases c with _ | c
      · exact nomatch (show none = some _ from L3)
      · unfold ref1_Objs_L1 at L3
        try dsimp only at L3
        refine runR_take tab_ok fol 1 ?_
        try simp -implicitDefEqProofs only [go_sem, Nat.reduceEqDiff, Nat.reduceAdd, reduceCtorEq, ↓reduceIte]
        rcases ite_inv L3 with ⟨c14, H15⟩ | ⟨c14, H15⟩
        · obtain ⟨x2, b16, H17⟩ := bind_inv H15
          obtain ⟨h18, h19⟩ := idx_inv b16
          try simp only [Int.reduceToNat, Int.toNat_natCast] at h19
          have h20 := map_at eGTuple h19
          try simp -implicitDefEqProofs only [go_sem, Nat.reduceEqDiff, Nat.reduceAdd, reduceCtorEq, ↓reduceIte, eGTuple, c14, nat_of .i64 h18, h20]
          refine Rd_endF (by rfl) ?_
          try simp -implicitDefEqProofs only [go_sem, ↓reduceIte]
          rcases ite_inv H17 with ⟨c22, H23⟩ | ⟨c22, H23⟩
          · obtain ⟨l2, b24, H25⟩ := bind_inv H23
            obtain ⟨h26, h27⟩ := app_inv b24
            have h26 : out.length + 1 ≤ 4294967296 := h26
            have h28 : List.map eGRef out ++ [[.v (.string x2.obj.type_), .v (.string x2.obj.id_), .v (.string x2.rel)]] = List.map eGRef l2 := app_map eGRef h27
            have h29 : out.length + 1 = l2.length := app_len h27
            have h30 : l2.length ≤ 4294967296 := by omega
            have q31 : 0 < l2.length := by omega
            try simp -implicitDefEqProofs only [go_sem, Nat.reduceLT, Nat.reduceEqDiff, Nat.reduceAdd, Nat.reduceMul, Nat.reduceLeDiff, reduceCtorEq, ↓reduceIte, eGTuple, nat_of .i64 h18, h20, c22, h28, h29, h30]
            refine Rd_endF (by (cases out <;> rfl)) ?_
            try simp -implicitDefEqProofs only [go_sem, Nat.reduceEqDiff, Nat.reduceAdd, reduceCtorEq, ↓reduceIte]
            rcases out with _ | ⟨q0, q1⟩
            · try simp only [List.map_nil, accI, accN]
              exact ⟨⟨((c, (l2, (IntKind.i64.wrap (i + 1)))), 0), H25⟩, ren_mk [(0, 0), (1, 26)] (by rfl) (rf_upd (by rfl) (rf_upd (by rfl) (rf_upd (by first | exact ren_accP (by rfl) q31 | rfl) (rf_upd (by rfl) (rf_no _))))) (rh_upd (rh_one (by rfl) (by rfl) (by rfl)) (rh_upd (by first | exact rh_accP (by rfl) q31 (by rfl) | exact rh_one (by rfl) (by rfl) (by rfl)) (rh_no _))), Nat.lt_succ_self _⟩
            · try simp only [List.map_cons, accI, accN]
              exact ⟨⟨((c, (l2, (IntKind.i64.wrap (i + 1)))), (g + 1)), H25⟩, ren_mk [(0, 0), (1, 1)] (by rfl) (rf_upd (by rfl) (rf_upd (by rfl) (rf_upd (by first | exact ren_accP (by rfl) q31 | rfl) (rf_upd (by rfl) (rf_no _))))) (rh_upd (rh_one (by rfl) (by rfl) (by rfl)) (rh_upd (by first | exact rh_accP (by rfl) q31 (by rfl) | exact rh_one (by rfl) (by rfl) (by rfl)) (rh_no _))), Nat.lt_succ_self _⟩
          · try simp -implicitDefEqProofs only [go_sem, Nat.reduceEqDiff, Nat.reduceAdd, reduceCtorEq, ↓reduceIte, c22]
            exact ⟨⟨((c, (out, (IntKind.i64.wrap (i + 1)))), g), H23⟩, ren_mk [(0, 0), (1, 1)] (by rfl) (rf_upd (by rfl) (rf_upd (by rfl) (rf_upd (ren_acc (by rfl)) (rf_upd (by rfl) (rf_no _))))) (rh_upd (rh_one (by rfl) (by rfl) (by rfl)) (rh_upd (rh_acc (by rfl) (by rfl)) (rh_no _))), Nat.lt_succ_self _⟩
        · try simp -implicitDefEqProofs only [go_sem, ↓reduceIte, c14]
          obtain rfl := Option.some.inj H15
          exact ⟨⟨⟨out, rfl⟩, g⟩, ren_mk [(0, 1)] (by rfl) (rf_upd (ren_acc (by rfl)) (rf_no _)) (rh_upd (rh_acc (by rfl) (by rfl)) (rh_no _))⟩
  · rintro ⟨⟨out3, he32⟩, g3⟩
    replace he32 := he32.symm
    subst he32
    try dsimp only at H2
    refine runR_take tab_ok fol 1 ?_
    try simp -implicitDefEqProofs only [go_sem, Nat.reduceAdd, ↓reduceIte]
    obtain rfl := Option.some.inj H2
    exact end_pure (by first | (simp -implicitDefEqProofs only [go_sem, ↓reduceIte, Try.f51] <;> rfl) | rfl) (by first | rfl | (simp -implicitDefEqProofs only [go_sem, ↓reduceIte]; done) | (simp -implicitDefEqProofs only [go_sem, ↓reduceIte]; rfl)) rfl (by intro h; first | rfl | cases h)
def ref1_Texts_L1 (n : Nat) (t19 : List ByteArray) (t25 : List ByteArray) : Nat → (List ByteArray × Int × Int) → Option (List ByteArray)
  | 0, _ => none
  | c + 1, (t5, t6, t7) =>
    (
      (if (decide (t6 < (t19.length : Int))) then
        some true
      else
        some (decide (t7 < (t25.length : Int)))) : Option (Bool)).bind fun t352 =>
    (if t352 then
      (
        (if (t7 == (t25.length : Int)) then
          some true
        else
          (if (decide (t6 < (t19.length : Int))) then
            (idx t19 t6).bind fun x7 =>
            (idx t25 t7).bind fun x8 =>
            some (Op.bytesLess x7.toList x8.toList)
          else
            some false)) : Option (Bool)).bind fun t382 =>
      (if t382 then
        (idx t19 t6).bind fun x9 =>
        (app t5 [x9]).bind fun l4 =>
        ref1_Texts_L1 n t19 t25 c (l4, (IntKind.i64.wrap (t6 + 1)), t7)
      else
        (if (t6 == (t19.length : Int)) then
          (idx t25 t7).bind fun x10 =>
          (app t5 [x10]).bind fun l5 =>
          ref1_Texts_L1 n t19 t25 c (l5, t6, (IntKind.i64.wrap (t7 + 1)))
        else
          (idx t25 t7).bind fun x11 =>
          (idx t19 t6).bind fun x12 =>
          (if (Op.bytesLess x11.toList x12.toList) then
            (app t5 [x11]).bind fun l6 =>
            ref1_Texts_L1 n t19 t25 c (l6, t6, (IntKind.i64.wrap (t7 + 1)))
          else
            ref1_Texts_L1 n t19 t25 c (t5, (IntKind.i64.wrap (t6 + 1)), t7))))
    else
      some t5)

def ref1_Texts : Nat → (List ByteArray) → Option (List ByteArray)
  | 0, _ => none
  | n + 1, t0 =>
    (if (decide ((t0.length : Int) < 2)) then
      (app [] t0).bind fun _ =>
      some t0
    else
      (slc t0 0 (IntKind.i64.wrap (Int.tdiv (t0.length : Int) 2))).bind fun l2 =>
      ((ref1_Texts n) l2).bind fun t19 =>
      (slc t0 (IntKind.i64.wrap (Int.tdiv (t0.length : Int) 2)) ((List.length t0) : Int)).bind fun l3 =>
      ((ref1_Texts n) l3).bind fun t25 =>
      (
        ref1_Texts_L1 n t19 t25 n ([], 0, 0) : Option (List ByteArray)).bind fun t53 =>
      some t53)
set_option maxHeartbeats 8000000 in
theorem ref1_Texts_ok : ∀ {n : Nat} {t0 : List ByteArray} {r : List ByteArray}, ref1_Texts n t0 = some r → PureOK Try.prog 41 [D.sl (List.map eS t0)] (D.sl (List.map eS r)) true := by
  intro n
  induction n with
  | zero => intro t0 r H; exact nomatch (show none = some _ from H)
  | succ n ih =>
    intro t0 r H
    unfold ref1_Texts at H
    refine pure_runR (tab := tab) tab_ok Try.func41 rfl (by kernel_rfl) (by kernel_rfl) (by simp [Try.f41]) ?_
    refine runR_seq ?_
    refine runR_take tab_ok fol 1 ?_
    try simp -implicitDefEqProofs only [go_sem]
    refine runR_seq ?_
    refine runR_take tab_ok fol 1 ?_
    try simp -implicitDefEqProofs only [go_sem, Nat.reduceAdd, reduceCtorEq, ↓reduceIte]
    rcases ite_inv H with ⟨c1, H2⟩ | ⟨c1, H2⟩
    · obtain ⟨l, b3, H4⟩ := bind_inv H2
      obtain ⟨h5, h6⟩ := app_inv b3
      have h6 : t0 = l := h6
      subst h6
      have h5 : t0.length ≤ 4294967296 := by have := h5; simpa using this
      try simp -implicitDefEqProofs only [go_sem, Nat.reduceLT, Nat.reduceEqDiff, Nat.reduceAdd, Nat.reduceLeDiff, reduceCtorEq, ↓reduceIte, c1, plainR_map (f := eS) (fun _ => rfl) t0, chk_map (n := 1) (f := eS) (fun _ => rfl) t0, h5, List.take_zero]
      obtain rfl := Option.some.inj H4
      exact end_pure (by first | (simp -implicitDefEqProofs only [go_sem, ↓reduceIte, Try.f41] <;> rfl) | rfl) (by first | rfl | (simp -implicitDefEqProofs only [go_sem, ↓reduceIte]; done) | (simp -implicitDefEqProofs only [go_sem, ↓reduceIte]; rfl)) rfl (by intro h; first | rfl | cases h)
    · try simp -implicitDefEqProofs only [go_sem, c1]
      refine runR_seq ?_
      refine runR_take tab_ok fol 1 ?_
      obtain ⟨l2, b9, H10⟩ := bind_inv H2
      obtain ⟨h11, h12, h13, h14⟩ := slc_inv b9
      have h15 : 0 ≤ Int.toNat (IntKind.i64.wrap (Int.tdiv (t0.length : Int) 2)) := by omega
      have h16 : Int.toNat (IntKind.i64.wrap (Int.tdiv (t0.length : Int) 2)) ≤ (List.length t0) := by omega
      have h17 : List.take (Int.toNat (IntKind.i64.wrap (Int.tdiv (t0.length : Int) 2))) (List.map eS t0) = List.map eS l2 := by rw [h14]; simp [List.map_take]
      try simp only [Int.toNat_natCast] at h15 h16 h17
      obtain ⟨t19, b18, H19⟩ := bind_inv H10
      try simp -implicitDefEqProofs only [go_sem, Int.reduceEq, Nat.reduceEqDiff, Nat.reduceAdd, reduceCtorEq, ↓reduceIte, nat_of .i64 (Int.le_trans h11 h12), h15, h16, h17, chk_map (n := 1) (f := eS) (fun _ => rfl) t0]
      refine onCallD_pure (by first | rfl | (simp -implicitDefEqProofs only [go_sem, Int.reduceToNat, Int.reduceLT, Int.reduceLE, Int.reduceBEq, Int.reduceBNe, Nat.reduceLT, Nat.reduceBEq, Int.reduceEq, Nat.reduceEqDiff, Nat.reduceAdd, Nat.reduceSub, Nat.reduceMul, Nat.reduceLeDiff, reduceCtorEq, ↓reduceIte, eGTuple, eLookIndex, eLookLeft, eGRef, eGSub, eLookRight, eGObj, c1, nat_of .i64 (Int.le_trans h11 h12), h15, h16, h17, chk_map (n := 1) (f := eS) (fun _ => rfl) t0]; done) | (simp -implicitDefEqProofs only [go_sem, Int.reduceToNat, Int.reduceLT, Int.reduceLE, Int.reduceBEq, Int.reduceBNe, Nat.reduceLT, Nat.reduceBEq, Int.reduceEq, Nat.reduceEqDiff, Nat.reduceAdd, Nat.reduceSub, Nat.reduceMul, Nat.reduceLeDiff, reduceCtorEq, ↓reduceIte, eGTuple, eLookIndex, eLookLeft, eGRef, eGSub, eLookRight, eGObj, c1, nat_of .i64 (Int.le_trans h11 h12), h15, h16, h17, chk_map (n := 1) (f := eS) (fun _ => rfl) t0]; rfl)) (ih b18) (by first | exact .inr rfl | exact .inl rfl) ?_
      obtain ⟨l3, b20, H21⟩ := bind_inv H19
      obtain ⟨h22, h23, h24, h25⟩ := slc_inv b20
      have h26 : Int.toNat (IntKind.i64.wrap (Int.tdiv (t0.length : Int) 2)) ≤ (List.length t0) := by omega
      have h27 : (List.length t0) ≤ (List.length t0) := by omega
      have h28 : List.drop (Int.toNat (IntKind.i64.wrap (Int.tdiv (t0.length : Int) 2))) (List.map eS t0) = List.map eS l3 := by rw [h25]; simp [List.map_drop]
      try simp only [Int.toNat_natCast] at h26 h27 h28
      obtain ⟨t25, b29, H30⟩ := bind_inv H21
      try simp -implicitDefEqProofs only [go_sem, Int.reduceEq, Nat.reduceEqDiff, Nat.reduceAdd, reduceCtorEq, ↓reduceIte, nat_of .i64 (Int.le_trans h11 h12), h16, h27, h28, chk_map (n := 1) (f := eS) (fun _ => rfl) t0]
      refine onCallD_pure (by first | rfl | (simp -implicitDefEqProofs only [go_sem, Int.reduceToNat, Int.reduceLT, Int.reduceLE, Int.reduceBEq, Int.reduceBNe, Nat.reduceLT, Nat.reduceBEq, Int.reduceEq, Nat.reduceEqDiff, Nat.reduceAdd, Nat.reduceSub, Nat.reduceMul, Nat.reduceLeDiff, reduceCtorEq, ↓reduceIte, eGTuple, eLookIndex, eLookLeft, eGRef, eGSub, eLookRight, eGObj, c1, nat_of .i64 (Int.le_trans h11 h12), h15, h16, h17, chk_map (n := 1) (f := eS) (fun _ => rfl) t0, nat_of .i64 h22, h26, h27, h28, chk_map (n := 1) (f := eS) (fun _ => rfl) t0]; done) | (simp -implicitDefEqProofs only [go_sem, Int.reduceToNat, Int.reduceLT, Int.reduceLE, Int.reduceBEq, Int.reduceBNe, Nat.reduceLT, Nat.reduceBEq, Int.reduceEq, Nat.reduceEqDiff, Nat.reduceAdd, Nat.reduceSub, Nat.reduceMul, Nat.reduceLeDiff, reduceCtorEq, ↓reduceIte, eGTuple, eLookIndex, eLookLeft, eGRef, eGSub, eLookRight, eGObj, c1, nat_of .i64 (Int.le_trans h11 h12), h15, h16, h17, chk_map (n := 1) (f := eS) (fun _ => rfl) t0, nat_of .i64 h22, h26, h27, h28, chk_map (n := 1) (f := eS) (fun _ => rfl) t0]; rfl)) (ih b29) (by first | exact .inr rfl | exact .inl rfl) ?_
      try simp -implicitDefEqProofs only [go_sem, Nat.reduceEqDiff, Nat.reduceAdd, ↓reduceIte]
      refine Rd_endF (by rfl) ?_
      try simp -implicitDefEqProofs only [go_sem]
      refine runR_seq ?_
      refine runR_take tab_ok fol 1 ?_
      try simp -implicitDefEqProofs only [go_sem, Nat.reduceAdd]
      refine runR_seq ?_
      refine runR_take tab_ok fol 1 ?_
      try simp -implicitDefEqProofs only [go_sem, Nat.reduceAdd]
      refine runR_seq ?_
      obtain ⟨e_, E31, H32⟩ := bind_inv H30
      refine runR_join (α := { y : List ByteArray // e_ = y } × Nat) (fun | ⟨⟨t53, _⟩, g5⟩ => ⟨upd 5 (accV 0 g5 (List.map eS t53)) noFr, upd 0 (accO 1 g5 false (List.map eS t53)) noHp, 1⟩) ?_ ?_
      · refine runR_block ?_
        refine runR_loop (α := { q : (Nat × (List ByteArray × Int × Int)) × Nat // ref1_Texts_L1 n t19 t25 q.1.1 q.1.2 = some e_ }) (fun | ⟨⟨⟨c, ⟨t5, t6, t7⟩⟩, g⟩, _⟩ => ⟨upd 3 (.d (.sl (List.map eS t19)) false) (upd 4 (.d (.sl (List.map eS t25)) false) (upd 5 (accV 0 g (List.map eS t5)) (upd 6 (.v (.int .i64 t6)) (upd 7 (.v (.int .i64 t7)) noFr)))), upd 0 (accO 1 g false (List.map eS t5)) noHp, 1⟩) (fun q => q.1.1.1) ⟨((n, ([], 0, 0)), 0), E31⟩ ?_ ?_
        · exact ren_mk [] (by rfl) (rf_upd (by rfl) (rf_upd (by rfl) (rf_upd (by rfl) (rf_upd (by rfl) (rf_upd (by rfl) (rf_no _)))))) (rh_upd rh_accN (rh_no _))
        · rintro ⟨⟨⟨c, ⟨t5, t6, t7⟩⟩, g⟩, L33⟩
          rcases c with _ | c
          · exact nomatch (show none = some _ from L33)
          · unfold ref1_Texts_L1 at L33
            try dsimp only at L33
            refine runR_seq ?_
            refine runR_seq ?_
            obtain ⟨e_4, E90, H91⟩ := bind_inv L33
            refine runR_join (α := { y : Bool // e_4 = y } × Nat) (fun | ⟨⟨t352, _⟩, g2⟩ => ⟨upd 3 (.d (.sl (List.map eS t19)) false) (upd 4 (.d (.sl (List.map eS t25)) false) (upd 5 (accV 0 g2 (List.map eS t5)) (upd 6 (.v (.int .i64 t6)) (upd 7 (.v (.int .i64 t7)) (upd 35 (.v (.bool t352)) noFr))))), upd 0 (accO 1 g2 false (List.map eS t5)) noHp, 1⟩) ?_ ?_
            · refine runR_take tab_ok fol 1 ?_
              try simp -implicitDefEqProofs only [go_sem, Nat.reduceEqDiff, Nat.reduceAdd, ↓reduceIte]
              rcases ite_inv E90 with ⟨c92, H93⟩ | ⟨c92, H93⟩
              · try simp -implicitDefEqProofs only [go_sem, Nat.reduceEqDiff, Nat.reduceAdd, ↓reduceIte, c92]
                obtain rfl := Option.some.inj H93
                exact ⟨⟨⟨true, rfl⟩, g⟩, ren_mk [(0, 0)] (by rfl) (rf_upd (by rfl) (rf_upd (by rfl) (rf_upd (ren_acc (by rfl)) (rf_upd (by rfl) (rf_upd (by rfl) (rf_upd (by rfl) (rf_no _))))))) (rh_upd (rh_acc (by rfl) (by rfl)) (rh_no _))⟩
              · try simp -implicitDefEqProofs only [go_sem, Nat.reduceEqDiff, Nat.reduceAdd, ↓reduceIte, c92]
                obtain rfl := Option.some.inj H93
                exact ⟨⟨⟨(decide (t7 < (t25.length : Int))), rfl⟩, g⟩, ren_mk [(0, 0)] (by rfl) (rf_upd (by rfl) (rf_upd (by rfl) (rf_upd (ren_acc (by rfl)) (rf_upd (by rfl) (rf_upd (by rfl) (rf_upd (by rfl) (rf_no _))))))) (rh_upd (rh_acc (by rfl) (by rfl)) (rh_no _))⟩
            · rintro ⟨⟨t352, he169⟩, g2⟩
              replace he169 := he169.symm
              subst he169
              try dsimp only at H91
              refine runR_take tab_ok fol 1 ?_
              try simp -implicitDefEqProofs only [go_sem, Nat.reduceEqDiff, ↓reduceIte]
              rcases ite_inv H91 with ⟨c94, H95⟩ | ⟨c94, H95⟩
              · try simp -implicitDefEqProofs only [go_sem, c94]
                refine runR_block ?_
                refine runR_block ?_
                refine runR_seq ?_
                obtain ⟨e_5, E96, H97⟩ := bind_inv H95
                refine runR_join (α := { y : Bool // e_5 = y } × Nat) (fun | ⟨⟨t382, _⟩, g3⟩ => ⟨upd 3 (.d (.sl (List.map eS t19)) false) (upd 4 (.d (.sl (List.map eS t25)) false) (upd 5 (accV 0 g3 (List.map eS t5)) (upd 6 (.v (.int .i64 t6)) (upd 7 (.v (.int .i64 t7)) (upd 38 (.v (.bool t382)) noFr))))), upd 0 (accO 1 g3 false (List.map eS t5)) noHp, 1⟩) ?_ ?_
                · refine runR_take tab_ok fol 1 ?_
                  try simp -implicitDefEqProofs only [go_sem, Nat.reduceEqDiff, Nat.reduceAdd, ↓reduceIte]
                  rcases ite_inv E96 with ⟨c98, H99⟩ | ⟨c98, H99⟩
                  · try simp -implicitDefEqProofs only [go_sem, Nat.reduceEqDiff, Nat.reduceAdd, ↓reduceIte, c98]
                    refine Rd_endF (by rfl) ?_
                    try simp -implicitDefEqProofs only [go_sem]
                    obtain rfl := Option.some.inj H99
                    exact ⟨⟨⟨true, rfl⟩, g2⟩, ren_mk [(0, 0)] (by rfl) (rf_upd (by rfl) (rf_upd (by rfl) (rf_upd (ren_acc (by rfl)) (rf_upd (by rfl) (rf_upd (by rfl) (rf_upd (by rfl) (rf_no _))))))) (rh_upd (rh_acc (by rfl) (by rfl)) (rh_no _))⟩
                  · try simp -implicitDefEqProofs only [go_sem, Nat.reduceEqDiff, Nat.reduceAdd, ↓reduceIte, c98]
                    rcases ite_inv H99 with ⟨c100, H101⟩ | ⟨c100, H101⟩
                    · obtain ⟨x7, b102, H103⟩ := bind_inv H101
                      obtain ⟨h104, h105⟩ := idx_inv b102
                      try simp only [Int.reduceToNat, Int.toNat_natCast] at h105
                      have h106 := map_at eS h105
                      obtain ⟨x8, b108, H109⟩ := bind_inv H103
                      obtain ⟨h110, h111⟩ := idx_inv b108
                      try simp only [Int.reduceToNat, Int.toNat_natCast] at h111
                      have h112 := map_at eS h111
                      try simp -implicitDefEqProofs only [go_sem, Nat.reduceEqDiff, Nat.reduceAdd, ↓reduceIte, c100, nat_of .i64 h104, h106, nat_of .i64 h110, h112]
                      refine Rd_endF (by rfl) ?_
                      try simp -implicitDefEqProofs only [go_sem]
                      obtain rfl := Option.some.inj H109
                      exact ⟨⟨⟨(Op.bytesLess x7.toList x8.toList), rfl⟩, g2⟩, ren_mk [(0, 0)] (by rfl) (rf_upd (by rfl) (rf_upd (by rfl) (rf_upd (ren_acc (by rfl)) (rf_upd (by rfl) (rf_upd (by rfl) (rf_upd (by rfl) (rf_no _))))))) (rh_upd (rh_acc (by rfl) (by rfl)) (rh_no _))⟩
                    · try simp -implicitDefEqProofs only [go_sem, Nat.reduceEqDiff, Nat.reduceAdd, ↓reduceIte, c100]
                      refine Rd_endF (by rfl) ?_
                      try simp -implicitDefEqProofs only [go_sem]
                      obtain rfl := Option.some.inj H101
                      exact ⟨⟨⟨false, rfl⟩, g2⟩, ren_mk [(0, 0)] (by rfl) (rf_upd (by rfl) (rf_upd (by rfl) (rf_upd (ren_acc (by rfl)) (rf_upd (by rfl) (rf_upd (by rfl) (rf_upd (by rfl) (rf_no _))))))) (rh_upd (rh_acc (by rfl) (by rfl)) (rh_no _))⟩
                · rintro ⟨⟨t382, he168⟩, g3⟩
                  replace he168 := he168.symm
                  subst he168
                  try dsimp only at H97
                  refine runR_take tab_ok fol 3 ?_
                  try simp -implicitDefEqProofs only [go_sem, Nat.reduceEqDiff, ↓reduceIte]
                  rcases ite_inv H97 with ⟨c114, H115⟩ | ⟨c114, H115⟩
                  · obtain ⟨x9, b116, H117⟩ := bind_inv H115
                    obtain ⟨h118, h119⟩ := idx_inv b116
                    try simp only [Int.reduceToNat, Int.toNat_natCast] at h119
                    have h120 := map_at eS h119
                    obtain ⟨l4, b122, H123⟩ := bind_inv H117
                    obtain ⟨h124, h125⟩ := app_inv b122
                    have h124 : t5.length + 1 ≤ 4294967296 := h124
                    have h126 : List.map eS t5 ++ [[.v (.string x9)]] = List.map eS l4 := app_map eS h125
                    have h127 : t5.length + 1 = l4.length := app_len h125
                    have h128 : l4.length ≤ 4294967296 := by omega
                    have q129 : 0 < l4.length := by omega
                    try simp -implicitDefEqProofs only [go_sem, Nat.reduceLT, Nat.reduceEqDiff, Nat.reduceAdd, Nat.reduceLeDiff, reduceCtorEq, ↓reduceIte, c114, nat_of .i64 h118, h120, h126, h127, h128]
                    rcases t5 with _ | ⟨q0, q1⟩
                    · try simp only [List.map_nil, accI, accN]
                      exact ⟨⟨((c, (l4, (IntKind.i64.wrap (t6 + 1)), t7)), 0), H123⟩, ren_mk [(0, 7)] (by rfl) (rf_upd (by rfl) (rf_upd (by rfl) (rf_upd (by first | exact ren_accP (by rfl) q129 | rfl) (rf_upd (by rfl) (rf_upd (by rfl) (rf_no _)))))) (rh_upd (by first | exact rh_accP (by rfl) q129 (by rfl) | exact rh_one (by rfl) (by rfl) (by rfl)) (rh_no _)), Nat.lt_succ_self _⟩
                    · try simp only [List.map_cons, accI, accN]
                      exact ⟨⟨((c, (l4, (IntKind.i64.wrap (t6 + 1)), t7)), (g3 + 1)), H123⟩, ren_mk [(0, 0)] (by rfl) (rf_upd (by rfl) (rf_upd (by rfl) (rf_upd (by first | exact ren_accP (by rfl) q129 | rfl) (rf_upd (by rfl) (rf_upd (by rfl) (rf_no _)))))) (rh_upd (by first | exact rh_accP (by rfl) q129 (by rfl) | exact rh_one (by rfl) (by rfl) (by rfl)) (rh_no _)), Nat.lt_succ_self _⟩
                  · try simp -implicitDefEqProofs only [go_sem, Nat.reduceEqDiff, Nat.reduceAdd, ↓reduceIte, c114]
                    rcases ite_inv H115 with ⟨c130, H131⟩ | ⟨c130, H131⟩
                    · try simp -implicitDefEqProofs only [go_sem, Nat.reduceEqDiff, Nat.reduceAdd, ↓reduceIte, c130]
                      refine Rd_endF (by rfl) ?_
                      obtain ⟨x10, b132, H133⟩ := bind_inv H131
                      obtain ⟨h134, h135⟩ := idx_inv b132
                      try simp only [Int.reduceToNat, Int.toNat_natCast] at h135
                      have h136 := map_at eS h135
                      obtain ⟨l5, b138, H139⟩ := bind_inv H133
                      obtain ⟨h140, h141⟩ := app_inv b138
                      have h140 : t5.length + 1 ≤ 4294967296 := h140
                      have h142 : List.map eS t5 ++ [[.v (.string x10)]] = List.map eS l5 := app_map eS h141
                      have h143 : t5.length + 1 = l5.length := app_len h141
                      have h144 : l5.length ≤ 4294967296 := by omega
                      have q145 : 0 < l5.length := by omega
                      try simp -implicitDefEqProofs only [go_sem, Nat.reduceLT, Nat.reduceEqDiff, Nat.reduceAdd, Nat.reduceLeDiff, reduceCtorEq, ↓reduceIte, nat_of .i64 h134, h136, h142, h143, h144]
                      rcases t5 with _ | ⟨q0, q1⟩
                      · try simp only [List.map_nil, accI, accN]
                        exact ⟨⟨((c, (l5, t6, (IntKind.i64.wrap (t7 + 1)))), 0), H139⟩, ren_mk [(0, 23)] (by rfl) (rf_upd (by rfl) (rf_upd (by rfl) (rf_upd (by first | exact ren_accP (by rfl) q145 | rfl) (rf_upd (by rfl) (rf_upd (by rfl) (rf_no _)))))) (rh_upd (by first | exact rh_accP (by rfl) q145 (by rfl) | exact rh_one (by rfl) (by rfl) (by rfl)) (rh_no _)), Nat.lt_succ_self _⟩
                      · try simp only [List.map_cons, accI, accN]
                        exact ⟨⟨((c, (l5, t6, (IntKind.i64.wrap (t7 + 1)))), (g3 + 1)), H139⟩, ren_mk [(0, 0)] (by rfl) (rf_upd (by rfl) (rf_upd (by rfl) (rf_upd (by first | exact ren_accP (by rfl) q145 | rfl) (rf_upd (by rfl) (rf_upd (by rfl) (rf_no _)))))) (rh_upd (by first | exact rh_accP (by rfl) q145 (by rfl) | exact rh_one (by rfl) (by rfl) (by rfl)) (rh_no _)), Nat.lt_succ_self _⟩
                    · obtain ⟨x11, b146, H147⟩ := bind_inv H131
                      obtain ⟨h148, h149⟩ := idx_inv b146
                      try simp only [Int.reduceToNat, Int.toNat_natCast] at h149
                      have h150 := map_at eS h149
                      obtain ⟨x12, b152, H153⟩ := bind_inv H147
                      obtain ⟨h154, h155⟩ := idx_inv b152
                      try simp only [Int.reduceToNat, Int.toNat_natCast] at h155
                      have h156 := map_at eS h155
                      try simp -implicitDefEqProofs only [go_sem, Nat.reduceEqDiff, Nat.reduceAdd, ↓reduceIte, c130, nat_of .i64 h148, h150, nat_of .i64 h154, h156]
                      refine Rd_endF (by rfl) ?_
                      try simp -implicitDefEqProofs only [go_sem, ↓reduceIte]
                      rcases ite_inv H153 with ⟨c158, H159⟩ | ⟨c158, H159⟩
                      · obtain ⟨l6, b160, H161⟩ := bind_inv H159
                        obtain ⟨h162, h163⟩ := app_inv b160
                        have h162 : t5.length + 1 ≤ 4294967296 := h162
                        have h164 : List.map eS t5 ++ [[.v (.string x11)]] = List.map eS l6 := app_map eS h163
                        have h165 : t5.length + 1 = l6.length := app_len h163
                        have h166 : l6.length ≤ 4294967296 := by omega
                        have q167 : 0 < l6.length := by omega
                        try simp -implicitDefEqProofs only [go_sem, Nat.reduceLT, Nat.reduceEqDiff, Nat.reduceAdd, Nat.reduceLeDiff, reduceCtorEq, ↓reduceIte, nat_of .i64 h148, h150, c158, h164, h165, h166]
                        rcases t5 with _ | ⟨q0, q1⟩
                        · try simp only [List.map_nil, accI, accN]
                          exact ⟨⟨((c, (l6, t6, (IntKind.i64.wrap (t7 + 1)))), 0), H161⟩, ren_mk [(0, 23)] (by rfl) (rf_upd (by rfl) (rf_upd (by rfl) (rf_upd (by first | exact ren_accP (by rfl) q167 | rfl) (rf_upd (by rfl) (rf_upd (by rfl) (rf_no _)))))) (rh_upd (by first | exact rh_accP (by rfl) q167 (by rfl) | exact rh_one (by rfl) (by rfl) (by rfl)) (rh_no _)), Nat.lt_succ_self _⟩
                        · try simp only [List.map_cons, accI, accN]
                          exact ⟨⟨((c, (l6, t6, (IntKind.i64.wrap (t7 + 1)))), (g3 + 1)), H161⟩, ren_mk [(0, 0)] (by rfl) (rf_upd (by rfl) (rf_upd (by rfl) (rf_upd (by first | exact ren_accP (by rfl) q167 | rfl) (rf_upd (by rfl) (rf_upd (by rfl) (rf_no _)))))) (rh_upd (by first | exact rh_accP (by rfl) q167 (by rfl) | exact rh_one (by rfl) (by rfl) (by rfl)) (rh_no _)), Nat.lt_succ_self _⟩
                      · try simp -implicitDefEqProofs only [go_sem, Nat.reduceEqDiff, Nat.reduceAdd, ↓reduceIte, c158]
                        exact ⟨⟨((c, (t5, (IntKind.i64.wrap (t6 + 1)), t7)), g3), H159⟩, ren_mk [(0, 0)] (by rfl) (rf_upd (by rfl) (rf_upd (by rfl) (rf_upd (ren_acc (by rfl)) (rf_upd (by rfl) (rf_upd (by rfl) (rf_no _)))))) (rh_upd (rh_acc (by rfl) (by rfl)) (rh_no _)), Nat.lt_succ_self _⟩
              · try simp -implicitDefEqProofs only [go_sem, ↓reduceIte, c94]
                obtain rfl := Option.some.inj H95
                exact ⟨⟨⟨t5, rfl⟩, g2⟩, ren_mk [(0, 0)] (by rfl) (rf_upd (ren_acc (by rfl)) (rf_no _)) (rh_upd (rh_acc (by rfl) (by rfl)) (rh_no _))⟩
      · rintro ⟨⟨t53, he170⟩, g5⟩
        replace he170 := he170.symm
        subst he170
        try dsimp only at H32
        refine runR_take tab_ok fol 1 ?_
        try simp -implicitDefEqProofs only [go_sem, Nat.reduceAdd, ↓reduceIte]
        obtain rfl := Option.some.inj H32
        exact end_pure (by first | (simp -implicitDefEqProofs only [go_sem, ↓reduceIte, Try.f41] <;> rfl) | rfl) (by first | rfl | (simp -implicitDefEqProofs only [go_sem, ↓reduceIte]; done) | (simp -implicitDefEqProofs only [go_sem, ↓reduceIte]; rfl)) rfl (by intro h; first | rfl | cases h)
end Go.Proofs.Ytdckfddlcmkdlaa.Ab
