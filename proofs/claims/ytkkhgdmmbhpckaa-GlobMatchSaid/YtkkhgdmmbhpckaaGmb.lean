/-
  Functions, read off the code.
-/
import Derived.Test.YtkkhgdmmbhpckaaGma
namespace Go.Proofs.Ytkkhgdmmbhpckaa.Ab
open Go.RowKit
def law24_GlobMatch_L1 (n : Nat) (t0 : List ByteArray) : Nat → (List ByteArray × Int) → Option (List ByteArray)
  | 0, _ => none
  | c + 1, (t7, t8) =>
    (
      (if (decide (t8 < (t0.length : Int))) then
        some (t7, (decide (t8 < 12)))
      else
        some (t7, false)) : Option (List ByteArray × Bool)).bind fun (t72, t212) =>
    (if t212 then
      (idx t0 t8).bind fun x2 =>
      (law1_Tame n x2).bind fun t292 =>
      (app t72 [t292]).bind fun l =>
      law24_GlobMatch_L1 n t0 c (l, (IntKind.i64.wrap (t8 + 1)))
    else
      some t72)

def law24_GlobMatch_L2 (n : Nat) (t74 : List ByteArray) (x3 : ByteArray) (s : ByteArray) : Nat → (List ByteArray × Int) → Option ((List ByteArray) ⊕ Bool)
  | 0, _ => none
  | c + 1, (t112, t12) =>
    (if (decide (t12 < (t74.length : Int))) then
      (
        (idx t74 t12).bind fun x7 =>
        (if (decide ((s.size : Int) ≤ (x7.size : Int))) then
          (bslc x7 0 (s.size : Int)).bind fun s4 =>
          some (t112, (s4.toList == s.toList))
        else
          some (t112, false)) : Option (List ByteArray × Bool)).bind fun (t113, t133) =>
      (
        (if t133 then
          (idx t74 t12).bind fun x8 =>
          (app t113 [x8]).bind fun l2 =>
          some (l2, true)
        else
          some (t113, false)) : Option (List ByteArray × Bool)).bind fun (t114, t134) =>
      (cat s ({ data := #[42] })).bind fun s5 =>
      (idx t74 t12).bind fun x9 =>
      (glob_Match n s5 x9).bind fun t972 =>
      (if (t972 == t134) then
        (glob_Match n x3 x9).bind fun t1062 =>
        (if (t1062 == (x3.toList == x9.toList)) then
          (glob_Match n ({ data := #[42] }) x9).bind fun t1202 =>
          (if t1202 then
            law24_GlobMatch_L2 n t74 x3 s c (t114, (IntKind.i64.wrap (t12 + 1)))
          else
            some (.inr false))
        else
          some (.inr false))
      else
        some (.inr false))
    else
      some (.inl t112))

def law24_GlobMatch (n : Nat) (t0 : List ByteArray) (t1 : Int) (t2 : Int) : Option Bool :=
  (
    law24_GlobMatch_L1 n t0 n ([], 0) : Option (List ByteArray)).bind fun t74 =>
  (if ((t74.length : Int) == 0) then
    (
      (glob_Over n [{ data := #[42] }] []).bind fun t36 =>
      (if ((t36.length : Int) == 0) then
        (law24_awake n).bind fun t40 =>
        some t40
      else
        some false) : Option (Bool)).bind fun t6 =>
    some t6
  else
    grd ((t74.length : Int) != 0) <|
    (idx t74 (Int.tmod (IntKind.i64.wrap (an t1 255 : Int)) (t74.length : Int))).bind fun x3 =>
    grd ((IntKind.i64.wrap ((x3.size : Int) + 1)) != 0) <|
    (bslc x3 0 (Int.tmod (IntKind.i64.wrap (an t2 255 : Int)) (IntKind.i64.wrap ((x3.size : Int) + 1)))).bind fun s =>
    (
      law24_GlobMatch_L2 n t74 x3 s n ([], 0) : Option ((List ByteArray) ⊕ Bool)).bind fun
      | .inl t116 =>
        (cat s ({ data := #[42] })).bind fun s6 =>
        (glob_Over n [s6] t74).bind fun t127 =>
        (ref1_Texts n t116).bind fun t129 =>
        (ref1_SameTexts n t127 t129).bind fun t130 =>
        (if t130 then
          (glob_Over n [{ data := #[42] }, x3] t74).bind fun t135 =>
          (ref1_Texts n t74).bind fun t137 =>
          (ref1_SameTexts n t135 t137).bind fun t138 =>
          (if t138 then
            (glob_Over n [] t74).bind fun t142 =>
            (if ((t142.length : Int) == 0) then
              (law24_awake n).bind fun t147 =>
              some t147
            else
              some false)
          else
            some false)
        else
          some false)
      | .inr r => some r)
set_option maxHeartbeats 8000000 in
theorem law24_GlobMatch_ok {n : Nat} {t0 : List ByteArray} {t1 : Int} {t2 : Int} {r : Bool} (H : law24_GlobMatch n t0 t1 t2 = some r) : PureOK Try.prog 5 [D.sl (List.map eS t0), D.v (.int .i64 t1), D.v (.int .i64 t2)] (D.v (.bool r)) true := by
  unfold law24_GlobMatch at H
  refine pure_runR (tab := tab) tab_ok Try.func5 rfl (by kernel_rfl) (by kernel_rfl) (by simp [Try.f5]) ?_
  refine runR_seq ?_
  refine runR_take tab_ok fol 1 ?_
  try simp -implicitDefEqProofs only [go_sem]
  refine runR_seq ?_
  refine runR_take tab_ok fol 1 ?_
  try simp -implicitDefEqProofs only [go_sem, Nat.reduceAdd]
  refine runR_seq ?_
  refine runR_seq ?_
  refine runR_take tab_ok fol 1 ?_
  try simp -implicitDefEqProofs only [go_sem, Nat.reduceAdd]
  obtain ⟨e_, E1, H2⟩ := bind_inv H
  refine runR_join (α := { y : List ByteArray // e_ = y } × Nat) (fun | ⟨⟨t74, _⟩, g4⟩ => ⟨upd 1 (.v (.int .i64 t1)) (upd 2 (.v (.int .i64 t2)) (upd 7 (accV 0 g4 (List.map eS t74)) noFr)), upd 0 (accO 1 g4 false (List.map eS t74)) noHp, 1⟩) ?_ ?_
  · refine runR_block ?_
    refine runR_loop (α := { q : (Nat × (List ByteArray × Int)) × Nat // law24_GlobMatch_L1 n t0 q.1.1 q.1.2 = some e_ }) (fun | ⟨⟨⟨c, ⟨t7, t8⟩⟩, g⟩, _⟩ => ⟨upd 0 (.d (.sl (List.map eS t0)) true) (upd 1 (.v (.int .i64 t1)) (upd 2 (.v (.int .i64 t2)) (upd 7 (accV 0 g (List.map eS t7)) (upd 8 (.v (.int .i64 t8)) noFr)))), upd 0 (accO 1 g false (List.map eS t7)) noHp, 1⟩) (fun q => q.1.1.1) ⟨((n, ([], 0)), 0), E1⟩ ?_ ?_
    · exact ren_mk [] (by rfl) (rf_upd (by rfl) (rf_upd (by rfl) (rf_upd (by rfl) (rf_upd (by rfl) (rf_upd (by rfl) (rf_no _)))))) (rh_upd rh_accN (rh_no _))
    · rintro ⟨⟨⟨c, ⟨t7, t8⟩⟩, g⟩, L3⟩
      rcases c with _ | c
      · exact nomatch (show none = some _ from L3)
      · unfold law24_GlobMatch_L1 at L3
        try dsimp only at L3
        refine runR_seq ?_
        refine runR_seq ?_
        obtain ⟨e_3, E19, H20⟩ := bind_inv L3
        refine runR_join (α := { y : List ByteArray × Bool // e_3 = y } × Nat) (fun | ⟨⟨⟨t72, t212⟩, _⟩, g2⟩ => ⟨upd 0 (.d (.sl (List.map eS t0)) true) (upd 1 (.v (.int .i64 t1)) (upd 2 (.v (.int .i64 t2)) (upd 7 (accV 0 g2 (List.map eS t72)) (upd 8 (.v (.int .i64 t8)) (upd 21 (.v (.bool t212)) noFr))))), upd 0 (accO 1 g2 false (List.map eS t72)) noHp, 1⟩) ?_ ?_
        · refine runR_take tab_ok fol 1 ?_
          try simp -implicitDefEqProofs only [go_sem, Nat.reduceEqDiff, Nat.reduceAdd, reduceCtorEq, ↓reduceIte]
          rcases ite_inv E19 with ⟨c21, H22⟩ | ⟨c21, H22⟩
          · try simp -implicitDefEqProofs only [go_sem, Nat.reduceEqDiff, Nat.reduceAdd, reduceCtorEq, ↓reduceIte, c21]
            obtain rfl := Option.some.inj H22
            exact ⟨⟨⟨(t7, (decide (t8 < 12))), rfl⟩, g⟩, ren_mk [(0, 0)] (by rfl) (rf_upd (by rfl) (rf_upd (by rfl) (rf_upd (by rfl) (rf_upd (ren_acc (by rfl)) (rf_upd (by rfl) (rf_upd (by rfl) (rf_no _))))))) (rh_upd (rh_acc (by rfl) (by rfl)) (rh_no _))⟩
          · try simp -implicitDefEqProofs only [go_sem, Nat.reduceEqDiff, Nat.reduceAdd, ↓reduceIte, c21]
            obtain rfl := Option.some.inj H22
            exact ⟨⟨⟨(t7, false), rfl⟩, g⟩, ren_mk [(0, 0)] (by rfl) (rf_upd (by rfl) (rf_upd (by rfl) (rf_upd (by rfl) (rf_upd (ren_acc (by rfl)) (rf_upd (by rfl) (rf_upd (by rfl) (rf_no _))))))) (rh_upd (rh_acc (by rfl) (by rfl)) (rh_no _))⟩
        · rintro ⟨⟨⟨t72, t212⟩, he41⟩, g2⟩
          replace he41 := he41.symm
          subst he41
          try dsimp only at H20
          refine runR_take tab_ok fol 2 ?_
          try simp -implicitDefEqProofs only [go_sem, Nat.reduceEqDiff, reduceCtorEq, ↓reduceIte]
          rcases ite_inv H20 with ⟨c23, H24⟩ | ⟨c23, H24⟩
          · obtain ⟨x2, b25, H26⟩ := bind_inv H24
            obtain ⟨h27, h28⟩ := idx_inv b25
            try simp only [Int.reduceToNat, Int.toNat_natCast] at h28
            have h29 := map_at eS h28
            obtain ⟨t292, b31, H32⟩ := bind_inv H26
            try simp -implicitDefEqProofs only [go_sem, Nat.reduceEqDiff, Nat.reduceAdd, reduceCtorEq, ↓reduceIte, c23, nat_of .i64 h27, h29]
            refine onCall_pure (by first | rfl | (simp -implicitDefEqProofs only [go_sem, Int.reduceToNat, Int.reduceLT, Int.reduceLE, Int.reduceBEq, Int.reduceBNe, Nat.reduceLT, Nat.reduceBEq, Int.reduceEq, Nat.reduceEqDiff, Nat.reduceAdd, Nat.reduceSub, Nat.reduceMul, Nat.reduceLeDiff, reduceCtorEq, ↓reduceIte, c23, nat_of .i64 h27, h29]; done) | (simp -implicitDefEqProofs only [go_sem, Int.reduceToNat, Int.reduceLT, Int.reduceLE, Int.reduceBEq, Int.reduceBNe, Nat.reduceLT, Nat.reduceBEq, Int.reduceEq, Nat.reduceEqDiff, Nat.reduceAdd, Nat.reduceSub, Nat.reduceMul, Nat.reduceLeDiff, reduceCtorEq, ↓reduceIte, c23, nat_of .i64 h27, h29]; rfl)) (law1_Tame_ok b31) (by first | exact .inr rfl | exact .inl rfl) ?_
            obtain ⟨l, b33, H34⟩ := bind_inv H32
            obtain ⟨h35, h36⟩ := app_inv b33
            have h35 : t72.length + 1 ≤ 4294967296 := h35
            have h37 : List.map eS t72 ++ [[.v (.string t292)]] = List.map eS l := app_map eS h36
            have h38 : t72.length + 1 = l.length := app_len h36
            have h39 : l.length ≤ 4294967296 := by omega
            have q40 : 0 < l.length := by omega
            try simp -implicitDefEqProofs only [go_sem, Nat.reduceLT, Nat.reduceEqDiff, Nat.reduceAdd, Nat.reduceLeDiff, reduceCtorEq, ↓reduceIte, h37, h38, h39]
            rcases t72 with _ | ⟨q0, q1⟩
            · try simp only [List.map_nil, accI, accN]
              exact ⟨⟨((c, (l, (IntKind.i64.wrap (t8 + 1)))), 0), H34⟩, ren_mk [(0, 8)] (by rfl) (rf_upd (by rfl) (rf_upd (by rfl) (rf_upd (by rfl) (rf_upd (ren_accP (by rfl) q40) (rf_upd (by rfl) (rf_no _)))))) (rh_upd (rh_accP (by rfl) q40 (by rfl)) (rh_no _)), Nat.lt_succ_self _⟩
            · try simp only [List.map_cons, accI, accN]
              exact ⟨⟨((c, (l, (IntKind.i64.wrap (t8 + 1)))), (g2 + 1)), H34⟩, ren_mk [(0, 0)] (by rfl) (rf_upd (by rfl) (rf_upd (by rfl) (rf_upd (by rfl) (rf_upd (ren_accP (by rfl) q40) (rf_upd (by rfl) (rf_no _)))))) (rh_upd (rh_accP (by rfl) q40 (by rfl)) (rh_no _)), Nat.lt_succ_self _⟩
          · try simp -implicitDefEqProofs only [go_sem, ↓reduceIte, c23]
            obtain rfl := Option.some.inj H24
            exact ⟨⟨⟨t72, rfl⟩, g2⟩, ren_mk [(0, 0)] (by rfl) (rf_upd (by rfl) (rf_upd (by rfl) (rf_upd (ren_acc (by rfl)) (rf_no _)))) (rh_upd (rh_acc (by rfl) (by rfl)) (rh_no _))⟩
  · rintro ⟨⟨t74, he224⟩, g4⟩
    replace he224 := he224.symm
    subst he224
    try dsimp only at H2
    refine runR_seq ?_
    refine runR_seq ?_
    refine runR_take tab_ok fol 1 ?_
    try simp -implicitDefEqProofs only [go_sem, Nat.reduceEqDiff, Nat.reduceAdd, ↓reduceIte]
    rcases ite_inv H2 with ⟨c42, H43⟩ | ⟨c42, H43⟩
    · refine runR_condT (by rfl) c42 ?_
      try simp -implicitDefEqProofs only [go_sem, c42]
      refine runR_seq ?_
      obtain ⟨e_4, E44, H45⟩ := bind_inv H43
      refine runR_join (α := { y : Bool // e_4 = y }) (fun | ⟨t6, _⟩ => ⟨upd 6 (.v (.bool t6)) noFr, noHp, 0⟩) ?_ ?_
      · refine runR_take tab_ok fol 1 ?_
        obtain ⟨t36, b46, H47⟩ := bind_inv E44
        try simp -implicitDefEqProofs only [go_sem, Nat.reduceLT, Nat.reduceAdd, Nat.reduceLeDiff, ↓reduceIte]
        refine onCall_pure (by first | rfl | (simp -implicitDefEqProofs only [go_sem, Int.reduceToNat, Int.reduceLT, Int.reduceLE, Int.reduceBEq, Int.reduceBNe, Nat.reduceLT, Nat.reduceBEq, Int.reduceEq, Nat.reduceEqDiff, Nat.reduceAdd, Nat.reduceSub, Nat.reduceMul, Nat.reduceLeDiff, reduceCtorEq, ↓reduceIte]; done) | (simp -implicitDefEqProofs only [go_sem, Int.reduceToNat, Int.reduceLT, Int.reduceLE, Int.reduceBEq, Int.reduceBNe, Nat.reduceLT, Nat.reduceBEq, Int.reduceEq, Nat.reduceEqDiff, Nat.reduceAdd, Nat.reduceSub, Nat.reduceMul, Nat.reduceLeDiff, reduceCtorEq, ↓reduceIte]; rfl)) (glob_Over_ok b46) (by first | exact .inr rfl | exact .inl rfl) ?_
        try simp -implicitDefEqProofs only [go_sem, Nat.reduceAdd, ↓reduceIte]
        rcases ite_inv H47 with ⟨c48, H49⟩ | ⟨c48, H49⟩
        · obtain ⟨t40, b50, H51⟩ := bind_inv H49
          try simp -implicitDefEqProofs only [go_sem, Nat.reduceAdd, ↓reduceIte, c48]
          refine onCall_pure (by first | rfl | (simp -implicitDefEqProofs only [go_sem, Int.reduceToNat, Int.reduceLT, Int.reduceLE, Int.reduceBEq, Int.reduceBNe, Nat.reduceLT, Nat.reduceBEq, Int.reduceEq, Nat.reduceEqDiff, Nat.reduceAdd, Nat.reduceSub, Nat.reduceMul, Nat.reduceLeDiff, reduceCtorEq, ↓reduceIte, c48]; done) | (simp -implicitDefEqProofs only [go_sem, Int.reduceToNat, Int.reduceLT, Int.reduceLE, Int.reduceBEq, Int.reduceBNe, Nat.reduceLT, Nat.reduceBEq, Int.reduceEq, Nat.reduceEqDiff, Nat.reduceAdd, Nat.reduceSub, Nat.reduceMul, Nat.reduceLeDiff, reduceCtorEq, ↓reduceIte, c48]; rfl)) (law24_awake_ok b50) (by first | exact .inr rfl | exact .inl rfl) ?_
          try simp -implicitDefEqProofs only [go_sem, Nat.reduceEqDiff, Nat.reduceAdd, ↓reduceIte]
          obtain rfl := Option.some.inj H51
          exact ⟨⟨t40, rfl⟩, ren_mk [] (by rfl) (rf_upd (by rfl) (rf_no _)) (rh_no _)⟩
        · try simp -implicitDefEqProofs only [go_sem, Nat.reduceEqDiff, Nat.reduceAdd, ↓reduceIte, c48]
          obtain rfl := Option.some.inj H49
          exact ⟨⟨false, rfl⟩, ren_mk [] (by rfl) (rf_upd (by rfl) (rf_no _)) (rh_no _)⟩
      · rintro ⟨t6, he52⟩
        replace he52 := he52.symm
        subst he52
        try dsimp only at H45
        refine runR_take tab_ok fol 1 ?_
        try simp -implicitDefEqProofs only [go_sem]
        obtain rfl := Option.some.inj H45
        exact end_pure (by first | (simp -implicitDefEqProofs only [go_sem, ↓reduceIte, Try.f5] <;> rfl) | rfl) (by first | rfl | (simp -implicitDefEqProofs only [go_sem, Int.reduceToNat, Int.reduceLT, Int.reduceLE, Int.reduceBEq, Int.reduceBNe, Nat.reduceLT, Nat.reduceBEq, Int.reduceEq, Nat.reduceEqDiff, Nat.reduceAdd, Nat.reduceSub, Nat.reduceMul, Nat.reduceLeDiff, reduceCtorEq, ↓reduceIte]; done) | (simp -implicitDefEqProofs only [go_sem, Int.reduceToNat, Int.reduceLT, Int.reduceLE, Int.reduceBEq, Int.reduceBNe, Nat.reduceLT, Nat.reduceBEq, Int.reduceEq, Nat.reduceEqDiff, Nat.reduceAdd, Nat.reduceSub, Nat.reduceMul, Nat.reduceLeDiff, reduceCtorEq, ↓reduceIte]; rfl)) rfl (by intro h; first | rfl | cases h)
    · refine runR_condF (by rfl) c42 ?_
      try simp -implicitDefEqProofs only [go_sem, c42]
      refine runR_take tab_ok fol 1 ?_
      try simp -implicitDefEqProofs only [go_sem]
      refine runR_seq ?_
      refine runR_take tab_ok fol 1 ?_
      obtain ⟨g53, H54⟩ := grd_inv H43
      have g53 : ¬ (t74.length : Int) = 0 := by simpa using g53
      obtain ⟨x3, b55, H56⟩ := bind_inv H54
      obtain ⟨h57, h58⟩ := idx_inv b55
      try simp only [Int.reduceToNat, Int.toNat_natCast] at h58
      have h59 := map_at eS h58
      have h60 := at_lt h58
      have q61 : 0 < t74.length := by omega
      try simp -implicitDefEqProofs only [go_sem, Nat.reduceEqDiff, Nat.reduceAdd, ↓reduceIte, g53, nat_of .i64 h57, h59, h60, accV_pos (f := eS) q61, accO_pos (f := eS) q61]
      refine runR_seq ?_
      refine runR_take tab_ok fol 1 ?_
      obtain ⟨g62, H63⟩ := grd_inv H56
      have g62 : ¬ (IntKind.i64.wrap ((x3.size : Int) + 1)) = 0 := by simpa using g62
      obtain ⟨s, b64, H65⟩ := bind_inv H63
      obtain ⟨h66, h67, h68, h69⟩ := bslc_inv b64
      have h70 : 0 ≤ Int.toNat (Int.tmod (IntKind.i64.wrap (an t2 255 : Int)) (IntKind.i64.wrap ((x3.size : Int) + 1))) := by omega
      have h71 : Int.toNat (Int.tmod (IntKind.i64.wrap (an t2 255 : Int)) (IntKind.i64.wrap ((x3.size : Int) + 1))) ≤ x3.size := by omega
      have h72 : ByteArray.extract x3 (0) (Int.toNat (Int.tmod (IntKind.i64.wrap (an t2 255 : Int)) (IntKind.i64.wrap ((x3.size : Int) + 1)))) = s := h69.symm
      try simp only [Int.toNat_natCast] at h70 h71 h72
      try simp -implicitDefEqProofs only [go_sem, Nat.reduceEqDiff, Nat.reduceAdd, ↓reduceIte, g62, nat_of .i64 (Int.le_trans h66 h67), h70, h71, h72]
      refine runR_seq ?_
      refine runR_take tab_ok fol 1 ?_
      try simp -implicitDefEqProofs only [go_sem, Nat.reduceAdd]
      refine runR_seq ?_
      refine runR_seq ?_
      refine runR_take tab_ok fol 1 ?_
      try simp -implicitDefEqProofs only [go_sem, Nat.reduceAdd]
      obtain ⟨e_5, E73, H74⟩ := bind_inv H65
      refine runR_join (α := { y : List ByteArray // e_5 = .inl y } × Nat) (fun | ⟨⟨t116, _⟩, g10⟩ => ⟨upd 7 (.so 0 g4 0 (t74.length)) (upd 9 (.v (.string x3)) (upd 10 (.v (.string s)) (upd 11 (accV 1 g10 (List.map eS t116)) noFr))), upd 0 (some (.rw (List.map eS t74) 1 g4 false false)) (upd 1 (accO 1 g10 false (List.map eS t116)) noHp), 2⟩) ?_ ?_
      · refine runR_block ?_
        refine runR_loop (α := { q : (Nat × (List ByteArray × Int)) × Nat // law24_GlobMatch_L2 n t74 x3 s q.1.1 q.1.2 = some e_5 }) (fun | ⟨⟨⟨c, ⟨t112, t12⟩⟩, g6⟩, _⟩ => ⟨upd 7 (.so 0 g4 0 (t74.length)) (upd 9 (.v (.string x3)) (upd 10 (.v (.string s)) (upd 11 (accV 1 g6 (List.map eS t112)) (upd 12 (.v (.int .i64 t12)) noFr)))), upd 0 (some (.rw (List.map eS t74) 1 g4 false false)) (upd 1 (accO 1 g6 false (List.map eS t112)) noHp), 2⟩) (fun q => q.1.1.1) ⟨((n, ([], 0)), 0), E73⟩ ?_ ?_
        · exact ren_mk [(0, 0)] (by rfl) (rf_upd (by rfl) (rf_upd (by rfl) (rf_upd (by rfl) (rf_upd (by rfl) (rf_upd (by rfl) (rf_no _)))))) (rh_upd (rh_one (by rfl) (by rfl) (by rfl)) (rh_upd rh_accN (rh_no _)))
        · rintro ⟨⟨⟨c, ⟨t112, t12⟩⟩, g6⟩, L75⟩
          rcases c with _ | c
          · exact nomatch (show none = some _ from L75)
          · unfold law24_GlobMatch_L2 at L75
            try dsimp only at L75
            refine runR_seq ?_
            refine runR_take tab_ok fol 1 ?_
            try simp -implicitDefEqProofs only [go_sem, Nat.reduceEqDiff, Nat.reduceAdd, ↓reduceIte]
            rcases ite_inv L75 with ⟨c132, H133⟩ | ⟨c132, H133⟩
            · try simp -implicitDefEqProofs only [go_sem, c132]
              refine runR_seq ?_
              refine runR_block ?_
              refine runR_seq ?_
              obtain ⟨e_8, E134, H135⟩ := bind_inv H133
              refine runR_join (α := { y : List ByteArray × Bool // e_8 = y } × Nat) (fun | ⟨⟨⟨t113, t133⟩, _⟩, g7⟩ => ⟨upd 7 (.so 0 g4 0 (t74.length)) (upd 9 (.v (.string x3)) (upd 10 (.v (.string s)) (upd 11 (accV 1 g7 (List.map eS t113)) (upd 12 (.v (.int .i64 t12)) (upd 13 (.v (.bool t133)) noFr))))), upd 0 (some (.rw (List.map eS t74) 1 g4 false false)) (upd 1 (accO 1 g7 false (List.map eS t113)) noHp), 2⟩) ?_ ?_
              · refine runR_take tab_ok fol 1 ?_
                obtain ⟨x7, b136, H137⟩ := bind_inv E134
                obtain ⟨h138, h139⟩ := idx_inv b136
                try simp only [Int.reduceToNat, Int.toNat_natCast] at h139
                have h140 := map_at eS h139
                have h141 := at_lt h139
                try simp -implicitDefEqProofs only [go_sem, Nat.reduceEqDiff, Nat.reduceAdd, ↓reduceIte, nat_of .i64 h138, h140, h141]
                rcases ite_inv H137 with ⟨c142, H143⟩ | ⟨c142, H143⟩
                · obtain ⟨s4, b144, H145⟩ := bind_inv H143
                  obtain ⟨h146, h147, h148, h149⟩ := bslc_inv b144
                  have h150 : 0 ≤ Int.toNat (s.size : Int) := by omega
                  have h151 : Int.toNat (s.size : Int) ≤ x7.size := by omega
                  have h152 : ByteArray.extract x7 (0) (Int.toNat (s.size : Int)) = s4 := h149.symm
                  try simp only [Int.toNat_natCast] at h150 h151 h152
                  try simp -implicitDefEqProofs only [go_sem, Nat.reduceEqDiff, Nat.reduceAdd, ↓reduceIte, nat_of .i64 h138, h140, h141, c142, nat_of .i64 (Int.le_trans h146 h147), h150, h151, h152]
                  obtain rfl := Option.some.inj H145
                  exact ⟨⟨⟨(t112, (s4.toList == s.toList)), rfl⟩, g6⟩, ren_mk [(0, 0), (1, 1)] (by rfl) (rf_upd (by rfl) (rf_upd (by rfl) (rf_upd (by rfl) (rf_upd (ren_acc (by rfl)) (rf_upd (by rfl) (rf_upd (by rfl) (rf_no _))))))) (rh_upd (rh_one (by rfl) (by rfl) (by rfl)) (rh_upd (rh_acc (by rfl) (by rfl)) (rh_no _)))⟩
                · try simp -implicitDefEqProofs only [go_sem, Nat.reduceEqDiff, Nat.reduceAdd, ↓reduceIte, c142]
                  obtain rfl := Option.some.inj H143
                  exact ⟨⟨⟨(t112, false), rfl⟩, g6⟩, ren_mk [(0, 0), (1, 1)] (by rfl) (rf_upd (by rfl) (rf_upd (by rfl) (rf_upd (by rfl) (rf_upd (ren_acc (by rfl)) (rf_upd (by rfl) (rf_upd (by rfl) (rf_no _))))))) (rh_upd (rh_one (by rfl) (by rfl) (by rfl)) (rh_upd (rh_acc (by rfl) (by rfl)) (rh_no _)))⟩
              · rintro ⟨⟨⟨t113, t133⟩, he195⟩, g7⟩
                replace he195 := he195.symm
                subst he195
                try dsimp only at H135
                refine runR_seq ?_
                refine runR_seq ?_
                refine runR_take tab_ok fol 1 ?_
                try simp -implicitDefEqProofs only [go_sem, Nat.reduceEqDiff, Nat.reduceAdd, ↓reduceIte]
                obtain ⟨e_9, E153, H154⟩ := bind_inv H135
                refine runR_join (α := { y : List ByteArray × Bool // e_9 = y } × Nat) (fun | ⟨⟨⟨t114, t134⟩, _⟩, g8⟩ => ⟨upd 7 (.so 0 g4 0 (t74.length)) (upd 9 (.v (.string x3)) (upd 10 (.v (.string s)) (upd 11 (accV 1 g8 (List.map eS t114)) (upd 12 (.v (.int .i64 t12)) (upd 13 (.v (.bool t134)) noFr))))), upd 0 (some (.rw (List.map eS t74) 1 g4 false false)) (upd 1 (accO 1 g8 false (List.map eS t114)) noHp), 2⟩) ?_ ?_
                · refine runR_take tab_ok fol 1 ?_
                  try simp -implicitDefEqProofs only [go_sem, ↓reduceIte]
                  rcases ite_inv E153 with ⟨c155, H156⟩ | ⟨c155, H156⟩
                  · obtain ⟨x8, b157, H158⟩ := bind_inv H156
                    obtain ⟨h159, h160⟩ := idx_inv b157
                    try simp only [Int.reduceToNat, Int.toNat_natCast] at h160
                    have h161 := map_at eS h160
                    have h162 := at_lt h160
                    obtain ⟨l2, b163, H164⟩ := bind_inv H158
                    obtain ⟨h165, h166⟩ := app_inv b163
                    have h165 : t113.length + 1 ≤ 4294967296 := h165
                    have h167 : List.map eS t113 ++ [[.v (.string x8)]] = List.map eS l2 := app_map eS h166
                    have h168 : t113.length + 1 = l2.length := app_len h166
                    have h169 : l2.length ≤ 4294967296 := by omega
                    have q170 : 0 < l2.length := by omega
                    try simp -implicitDefEqProofs only [go_sem, Nat.reduceLT, Nat.reduceEqDiff, Nat.reduceAdd, Nat.reduceLeDiff, reduceCtorEq, ↓reduceIte, c155, nat_of .i64 h159, h161, h162, h167, h168, h169]
                    obtain rfl := Option.some.inj H164
                    rcases t113 with _ | ⟨q0, q1⟩
                    · try simp only [List.map_nil, accI, accN]
                      exact ⟨⟨⟨(l2, true), rfl⟩, 0⟩, ren_mk [(0, 0), (1, 9)] (by rfl) (rf_upd (by rfl) (rf_upd (by rfl) (rf_upd (by rfl) (rf_upd (ren_accP (by rfl) q170) (rf_upd (by rfl) (rf_upd (by rfl) (rf_no _))))))) (rh_upd (rh_one (by rfl) (by rfl) (by rfl)) (rh_upd (rh_accP (by rfl) q170 (by rfl)) (rh_no _)))⟩
                    · try simp only [List.map_cons, accI, accN]
                      exact ⟨⟨⟨(l2, true), rfl⟩, (g7 + 1)⟩, ren_mk [(0, 0), (1, 1)] (by rfl) (rf_upd (by rfl) (rf_upd (by rfl) (rf_upd (by rfl) (rf_upd (ren_accP (by rfl) q170) (rf_upd (by rfl) (rf_upd (by rfl) (rf_no _))))))) (rh_upd (rh_one (by rfl) (by rfl) (by rfl)) (rh_upd (rh_accP (by rfl) q170 (by rfl)) (rh_no _)))⟩
                  · try simp -implicitDefEqProofs only [go_sem, c155]
                    obtain rfl := Option.some.inj H156
                    exact ⟨⟨⟨(t113, false), rfl⟩, g7⟩, ren_mk [(0, 0), (1, 1)] (by rfl) (rf_upd (by rfl) (rf_upd (by rfl) (rf_upd (by rfl) (rf_upd (ren_acc (by rfl)) (rf_upd (by rfl) (rf_upd (by rfl) (rf_no _))))))) (rh_upd (rh_one (by rfl) (by rfl) (by rfl)) (rh_upd (rh_acc (by rfl) (by rfl)) (rh_no _)))⟩
                · rintro ⟨⟨⟨t114, t134⟩, he194⟩, g8⟩
                  replace he194 := he194.symm
                  subst he194
                  try dsimp only at H154
                  refine runR_take tab_ok fol 3 ?_
                  obtain ⟨s5, b171, H172⟩ := bind_inv H154
                  obtain ⟨h173, h174⟩ := cat_inv b171
                  have h175 : s.size + 1 ≤ maxLen := h173
                  obtain ⟨x9, b176, H177⟩ := bind_inv H172
                  obtain ⟨h178, h179⟩ := idx_inv b176
                  try simp only [Int.reduceToNat, Int.toNat_natCast] at h179
                  have h180 := map_at eS h179
                  have h181 := at_lt h179
                  obtain ⟨t972, b182, H183⟩ := bind_inv H177
                  try simp -implicitDefEqProofs only [go_sem, Nat.reduceEqDiff, Nat.reduceAdd, ↓reduceIte, h174, h175, nat_of .i64 h178, h180, h181]
                  refine onCallD_pure (by first | rfl | (simp -implicitDefEqProofs only [go_sem, Int.reduceToNat, Int.reduceLT, Int.reduceLE, Int.reduceBEq, Int.reduceBNe, Nat.reduceLT, Nat.reduceBEq, Int.reduceEq, Nat.reduceEqDiff, Nat.reduceAdd, Nat.reduceSub, Nat.reduceMul, Nat.reduceLeDiff, reduceCtorEq, ↓reduceIte, h173, h174, h175, nat_of .i64 h178, h180, h181]; done) | (simp -implicitDefEqProofs only [go_sem, Int.reduceToNat, Int.reduceLT, Int.reduceLE, Int.reduceBEq, Int.reduceBNe, Nat.reduceLT, Nat.reduceBEq, Int.reduceEq, Nat.reduceEqDiff, Nat.reduceAdd, Nat.reduceSub, Nat.reduceMul, Nat.reduceLeDiff, reduceCtorEq, ↓reduceIte, h173, h174, h175, nat_of .i64 h178, h180, h181]; rfl)) (glob_Match_ok b182) (by first | exact .inr rfl | exact .inl rfl) ?_
                  try simp -implicitDefEqProofs only [go_sem, Nat.reduceEqDiff, Nat.reduceAdd, ↓reduceIte]
                  rcases ite_inv H183 with ⟨c184, H185⟩ | ⟨c184, H185⟩
                  · obtain ⟨t1062, b186, H187⟩ := bind_inv H185
                    try simp -implicitDefEqProofs only [go_sem, Nat.reduceEqDiff, Nat.reduceAdd, ↓reduceIte, nat_of .i64 h178, h180, h181, c184]
                    refine onCallD_pure (by first | rfl | (simp -implicitDefEqProofs only [go_sem, Int.reduceToNat, Int.reduceLT, Int.reduceLE, Int.reduceBEq, Int.reduceBNe, Nat.reduceLT, Nat.reduceBEq, Int.reduceEq, Nat.reduceEqDiff, Nat.reduceAdd, Nat.reduceSub, Nat.reduceMul, Nat.reduceLeDiff, reduceCtorEq, ↓reduceIte, h173, h174, h175, nat_of .i64 h178, h180, h181, c184]; done) | (simp -implicitDefEqProofs only [go_sem, Int.reduceToNat, Int.reduceLT, Int.reduceLE, Int.reduceBEq, Int.reduceBNe, Nat.reduceLT, Nat.reduceBEq, Int.reduceEq, Nat.reduceEqDiff, Nat.reduceAdd, Nat.reduceSub, Nat.reduceMul, Nat.reduceLeDiff, reduceCtorEq, ↓reduceIte, h173, h174, h175, nat_of .i64 h178, h180, h181, c184]; rfl)) (glob_Match_ok b186) (by first | exact .inr rfl | exact .inl rfl) ?_
                    try simp -implicitDefEqProofs only [go_sem, Nat.reduceEqDiff, Nat.reduceAdd, ↓reduceIte, nat_of .i64 h178, h180, h181]
                    rcases ite_inv H187 with ⟨c188, H189⟩ | ⟨c188, H189⟩
                    · obtain ⟨t1202, b190, H191⟩ := bind_inv H189
                      try simp -implicitDefEqProofs only [go_sem, Nat.reduceEqDiff, Nat.reduceAdd, ↓reduceIte, nat_of .i64 h178, h180, h181, c188]
                      refine onCallD_pure (by first | rfl | (simp -implicitDefEqProofs only [go_sem, Int.reduceToNat, Int.reduceLT, Int.reduceLE, Int.reduceBEq, Int.reduceBNe, Nat.reduceLT, Nat.reduceBEq, Int.reduceEq, Nat.reduceEqDiff, Nat.reduceAdd, Nat.reduceSub, Nat.reduceMul, Nat.reduceLeDiff, reduceCtorEq, ↓reduceIte, h173, h174, h175, nat_of .i64 h178, h180, h181, c184, c188]; done) | (simp -implicitDefEqProofs only [go_sem, Int.reduceToNat, Int.reduceLT, Int.reduceLE, Int.reduceBEq, Int.reduceBNe, Nat.reduceLT, Nat.reduceBEq, Int.reduceEq, Nat.reduceEqDiff, Nat.reduceAdd, Nat.reduceSub, Nat.reduceMul, Nat.reduceLeDiff, reduceCtorEq, ↓reduceIte, h173, h174, h175, nat_of .i64 h178, h180, h181, c184, c188]; rfl)) (glob_Match_ok b190) (by first | exact .inr rfl | exact .inl rfl) ?_
                      try simp -implicitDefEqProofs only [go_sem, Nat.reduceEqDiff, Nat.reduceAdd, ↓reduceIte]
                      refine Rd_endF (by rfl) ?_
                      try simp -implicitDefEqProofs only [go_sem, ↓reduceIte]
                      rcases ite_inv H191 with ⟨c192, H193⟩ | ⟨c192, H193⟩
                      · try simp -implicitDefEqProofs only [go_sem, Nat.reduceEqDiff, Nat.reduceAdd, ↓reduceIte, c192]
                        exact ⟨⟨((c, (t114, (IntKind.i64.wrap (t12 + 1)))), g8), H193⟩, ren_mk [(0, 0), (1, 1)] (by rfl) (rf_upd (by rfl) (rf_upd (by rfl) (rf_upd (by rfl) (rf_upd (ren_acc (by rfl)) (rf_upd (by rfl) (rf_no _)))))) (rh_upd (rh_one (by rfl) (by rfl) (by rfl)) (rh_upd (rh_acc (by rfl) (by rfl)) (rh_no _))), Nat.lt_succ_self _⟩
                      · try simp -implicitDefEqProofs only [go_sem, Nat.reduceAdd, c192]
                        obtain rfl := Option.some.inj H193
                        obtain rfl := Option.some.inj H74
                        exact end_pure (by first | (simp -implicitDefEqProofs only [go_sem, ↓reduceIte, Try.f5] <;> rfl) | rfl) (by first | rfl | (simp -implicitDefEqProofs only [go_sem, Int.reduceToNat, Int.reduceLT, Int.reduceLE, Int.reduceBEq, Int.reduceBNe, Nat.reduceLT, Nat.reduceBEq, Int.reduceEq, Nat.reduceEqDiff, Nat.reduceAdd, Nat.reduceSub, Nat.reduceMul, Nat.reduceLeDiff, reduceCtorEq, ↓reduceIte, h173, h174, h175, nat_of .i64 h178, h180, h181, c184, c188, c192]; done) | (simp -implicitDefEqProofs only [go_sem, Int.reduceToNat, Int.reduceLT, Int.reduceLE, Int.reduceBEq, Int.reduceBNe, Nat.reduceLT, Nat.reduceBEq, Int.reduceEq, Nat.reduceEqDiff, Nat.reduceAdd, Nat.reduceSub, Nat.reduceMul, Nat.reduceLeDiff, reduceCtorEq, ↓reduceIte, h173, h174, h175, nat_of .i64 h178, h180, h181, c184, c188, c192]; rfl)) rfl (by intro h; first | rfl | cases h)
                    · try simp -implicitDefEqProofs only [go_sem, Nat.reduceEqDiff, Nat.reduceAdd, ↓reduceIte, c188]
                      refine Rd_endF (by rfl) ?_
                      try simp -implicitDefEqProofs only [go_sem, Nat.reduceAdd, ↓reduceIte]
                      obtain rfl := Option.some.inj H189
                      obtain rfl := Option.some.inj H74
                      exact end_pure (by first | (simp -implicitDefEqProofs only [go_sem, ↓reduceIte, Try.f5] <;> rfl) | rfl) (by first | rfl | (simp -implicitDefEqProofs only [go_sem, Int.reduceToNat, Int.reduceLT, Int.reduceLE, Int.reduceBEq, Int.reduceBNe, Nat.reduceLT, Nat.reduceBEq, Int.reduceEq, Nat.reduceEqDiff, Nat.reduceAdd, Nat.reduceSub, Nat.reduceMul, Nat.reduceLeDiff, reduceCtorEq, ↓reduceIte, h173, h174, h175, nat_of .i64 h178, h180, h181, c184, c188]; done) | (simp -implicitDefEqProofs only [go_sem, Int.reduceToNat, Int.reduceLT, Int.reduceLE, Int.reduceBEq, Int.reduceBNe, Nat.reduceLT, Nat.reduceBEq, Int.reduceEq, Nat.reduceEqDiff, Nat.reduceAdd, Nat.reduceSub, Nat.reduceMul, Nat.reduceLeDiff, reduceCtorEq, ↓reduceIte, h173, h174, h175, nat_of .i64 h178, h180, h181, c184, c188]; rfl)) rfl (by intro h; first | rfl | cases h)
                  · try simp -implicitDefEqProofs only [go_sem, Nat.reduceEqDiff, Nat.reduceAdd, ↓reduceIte, c184]
                    refine Rd_endF (by rfl) ?_
                    try simp -implicitDefEqProofs only [go_sem, Nat.reduceAdd, ↓reduceIte]
                    obtain rfl := Option.some.inj H185
                    obtain rfl := Option.some.inj H74
                    exact end_pure (by first | (simp -implicitDefEqProofs only [go_sem, ↓reduceIte, Try.f5] <;> rfl) | rfl) (by first | rfl | (simp -implicitDefEqProofs only [go_sem, Int.reduceToNat, Int.reduceLT, Int.reduceLE, Int.reduceBEq, Int.reduceBNe, Nat.reduceLT, Nat.reduceBEq, Int.reduceEq, Nat.reduceEqDiff, Nat.reduceAdd, Nat.reduceSub, Nat.reduceMul, Nat.reduceLeDiff, reduceCtorEq, ↓reduceIte, h173, h174, h175, nat_of .i64 h178, h180, h181, c184]; done) | (simp -implicitDefEqProofs only [go_sem, Int.reduceToNat, Int.reduceLT, Int.reduceLE, Int.reduceBEq, Int.reduceBNe, Nat.reduceLT, Nat.reduceBEq, Int.reduceEq, Nat.reduceEqDiff, Nat.reduceAdd, Nat.reduceSub, Nat.reduceMul, Nat.reduceLeDiff, reduceCtorEq, ↓reduceIte, h173, h174, h175, nat_of .i64 h178, h180, h181, c184]; rfl)) rfl (by intro h; first | rfl | cases h)
            · try simp -implicitDefEqProofs only [go_sem, ↓reduceIte, c132]
              obtain rfl := Option.some.inj H133
              exact ⟨⟨⟨t112, rfl⟩, g6⟩, ren_mk [(0, 0), (1, 1)] (by rfl) (rf_upd (by rfl) (rf_upd (by rfl) (rf_upd (by rfl) (rf_upd (ren_acc (by rfl)) (rf_no _))))) (rh_upd (rh_one (by rfl) (by rfl) (by rfl)) (rh_upd (rh_acc (by rfl) (by rfl)) (rh_no _)))⟩
      · rintro ⟨⟨t116, he223⟩, g10⟩
        replace he223 := he223.symm
        subst he223
        try dsimp only at H74
        refine runR_take tab_ok fol 1 ?_
        obtain ⟨s6, b196, H197⟩ := bind_inv H74
        obtain ⟨h198, h199⟩ := cat_inv b196
        have h200 : s.size + 1 ≤ maxLen := h198
        obtain ⟨t127, b201, H202⟩ := bind_inv H197
        try simp -implicitDefEqProofs only [go_sem, Nat.reduceLT, Nat.reduceEqDiff, Nat.reduceAdd, Nat.reduceLeDiff, ↓reduceIte, h199, h200]
        refine onCall_pure (by first | rfl | (simp -implicitDefEqProofs only [go_sem, reduceCtorEq, ↓reduceIte]; done) | (simp -implicitDefEqProofs only [go_sem, reduceCtorEq, ↓reduceIte]; rfl)) (glob_Over_ok b201) (by first | exact .inr rfl | exact .inl rfl) ?_
        obtain ⟨t129, b203, H204⟩ := bind_inv H202
        try simp -implicitDefEqProofs only [go_sem, Nat.reduceEqDiff, Nat.reduceAdd, ↓reduceIte]
        refine onCall_pure (by first | rfl | (simp -implicitDefEqProofs only [go_sem, Nat.reduceEqDiff, reduceCtorEq, ↓reduceIte]; done) | (simp -implicitDefEqProofs only [go_sem, Nat.reduceEqDiff, reduceCtorEq, ↓reduceIte]; rfl)) (ref1_Texts_ok b203) (by first | exact .inr rfl | exact .inl rfl) ?_
        obtain ⟨t130, b205, H206⟩ := bind_inv H204
        try simp -implicitDefEqProofs only [go_sem, Nat.reduceEqDiff, Nat.reduceAdd, ↓reduceIte]
        refine onCall_pure (by first | rfl | (simp -implicitDefEqProofs only [go_sem, Int.reduceToNat, Int.reduceLT, Int.reduceLE, Int.reduceBEq, Int.reduceBNe, Nat.reduceLT, Nat.reduceBEq, Int.reduceEq, Nat.reduceEqDiff, Nat.reduceAdd, Nat.reduceSub, Nat.reduceMul, Nat.reduceLeDiff, reduceCtorEq, ↓reduceIte, h198, h199, h200]; done) | (simp -implicitDefEqProofs only [go_sem, Int.reduceToNat, Int.reduceLT, Int.reduceLE, Int.reduceBEq, Int.reduceBNe, Nat.reduceLT, Nat.reduceBEq, Int.reduceEq, Nat.reduceEqDiff, Nat.reduceAdd, Nat.reduceSub, Nat.reduceMul, Nat.reduceLeDiff, reduceCtorEq, ↓reduceIte, h198, h199, h200]; rfl)) (ref1_SameTexts_ok b205) (by first | exact .inr rfl | exact .inl rfl) ?_
        try simp -implicitDefEqProofs only [go_sem, Nat.reduceAdd, ↓reduceIte]
        rcases ite_inv H206 with ⟨c207, H208⟩ | ⟨c207, H208⟩
        · obtain ⟨t135, b209, H210⟩ := bind_inv H208
          try simp -implicitDefEqProofs only [go_sem, Nat.reduceLT, Nat.reduceEqDiff, Nat.reduceAdd, Nat.reduceLeDiff, ↓reduceIte, c207]
          refine onCall_pure (by first | rfl | (simp -implicitDefEqProofs only [go_sem, reduceCtorEq, ↓reduceIte]; done) | (simp -implicitDefEqProofs only [go_sem, reduceCtorEq, ↓reduceIte]; rfl)) (glob_Over_ok b209) (by first | exact .inr rfl | exact .inl rfl) ?_
          obtain ⟨t137, b211, H212⟩ := bind_inv H210
          try simp -implicitDefEqProofs only [go_sem, Nat.reduceEqDiff, Nat.reduceAdd, ↓reduceIte]
          refine onCall_pure (by first | rfl | (simp -implicitDefEqProofs only [go_sem, reduceCtorEq, ↓reduceIte]; done) | (simp -implicitDefEqProofs only [go_sem, reduceCtorEq, ↓reduceIte]; rfl)) (ref1_Texts_ok b211) (by first | exact .inr rfl | exact .inl rfl) ?_
          obtain ⟨t138, b213, H214⟩ := bind_inv H212
          try simp -implicitDefEqProofs only [go_sem, Nat.reduceEqDiff, Nat.reduceAdd, ↓reduceIte]
          refine onCall_pure (by first | rfl | (simp -implicitDefEqProofs only [go_sem, Int.reduceToNat, Int.reduceLT, Int.reduceLE, Int.reduceBEq, Int.reduceBNe, Nat.reduceLT, Nat.reduceBEq, Int.reduceEq, Nat.reduceEqDiff, Nat.reduceAdd, Nat.reduceSub, Nat.reduceMul, Nat.reduceLeDiff, reduceCtorEq, ↓reduceIte, h198, h199, h200, c207]; done) | (simp -implicitDefEqProofs only [go_sem, Int.reduceToNat, Int.reduceLT, Int.reduceLE, Int.reduceBEq, Int.reduceBNe, Nat.reduceLT, Nat.reduceBEq, Int.reduceEq, Nat.reduceEqDiff, Nat.reduceAdd, Nat.reduceSub, Nat.reduceMul, Nat.reduceLeDiff, reduceCtorEq, ↓reduceIte, h198, h199, h200, c207]; rfl)) (ref1_SameTexts_ok b213) (by first | exact .inr rfl | exact .inl rfl) ?_
          try simp -implicitDefEqProofs only [go_sem, Nat.reduceEqDiff, Nat.reduceAdd, ↓reduceIte]
          rcases ite_inv H214 with ⟨c215, H216⟩ | ⟨c215, H216⟩
          · obtain ⟨t142, b217, H218⟩ := bind_inv H216
            try simp -implicitDefEqProofs only [go_sem, Nat.reduceEqDiff, Nat.reduceAdd, ↓reduceIte, c215]
            refine onCall_pure (by first | rfl | (simp -implicitDefEqProofs only [go_sem, reduceCtorEq, ↓reduceIte]; done) | (simp -implicitDefEqProofs only [go_sem, reduceCtorEq, ↓reduceIte]; rfl)) (glob_Over_ok b217) (by first | exact .inr rfl | exact .inl rfl) ?_
            try simp -implicitDefEqProofs only [go_sem, Nat.reduceEqDiff, Nat.reduceAdd, ↓reduceIte]
            rcases ite_inv H218 with ⟨c219, H220⟩ | ⟨c219, H220⟩
            · obtain ⟨t147, b221, H222⟩ := bind_inv H220
              try simp -implicitDefEqProofs only [go_sem, Nat.reduceAdd, ↓reduceIte, c219]
              refine onCall_pure (by first | rfl | (simp -implicitDefEqProofs only [go_sem, Int.reduceToNat, Int.reduceLT, Int.reduceLE, Int.reduceBEq, Int.reduceBNe, Nat.reduceLT, Nat.reduceBEq, Int.reduceEq, Nat.reduceEqDiff, Nat.reduceAdd, Nat.reduceSub, Nat.reduceMul, Nat.reduceLeDiff, reduceCtorEq, ↓reduceIte, h198, h199, h200, c207, c215, c219]; done) | (simp -implicitDefEqProofs only [go_sem, Int.reduceToNat, Int.reduceLT, Int.reduceLE, Int.reduceBEq, Int.reduceBNe, Nat.reduceLT, Nat.reduceBEq, Int.reduceEq, Nat.reduceEqDiff, Nat.reduceAdd, Nat.reduceSub, Nat.reduceMul, Nat.reduceLeDiff, reduceCtorEq, ↓reduceIte, h198, h199, h200, c207, c215, c219]; rfl)) (law24_awake_ok b221) (by first | exact .inr rfl | exact .inl rfl) ?_
              try simp -implicitDefEqProofs only [go_sem, Nat.reduceEqDiff, Nat.reduceAdd, ↓reduceIte]
              obtain rfl := Option.some.inj H222
              exact end_pure (by first | (simp -implicitDefEqProofs only [go_sem, ↓reduceIte, Try.f5] <;> rfl) | rfl) (by first | rfl | (simp -implicitDefEqProofs only [go_sem, Int.reduceToNat, Int.reduceLT, Int.reduceLE, Int.reduceBEq, Int.reduceBNe, Nat.reduceLT, Nat.reduceBEq, Int.reduceEq, Nat.reduceEqDiff, Nat.reduceAdd, Nat.reduceSub, Nat.reduceMul, Nat.reduceLeDiff, reduceCtorEq, ↓reduceIte, h198, h199, h200, c207, c215, c219]; done) | (simp -implicitDefEqProofs only [go_sem, Int.reduceToNat, Int.reduceLT, Int.reduceLE, Int.reduceBEq, Int.reduceBNe, Nat.reduceLT, Nat.reduceBEq, Int.reduceEq, Nat.reduceEqDiff, Nat.reduceAdd, Nat.reduceSub, Nat.reduceMul, Nat.reduceLeDiff, reduceCtorEq, ↓reduceIte, h198, h199, h200, c207, c215, c219]; rfl)) rfl (by intro h; first | rfl | cases h)
            · try simp -implicitDefEqProofs only [go_sem, Nat.reduceEqDiff, Nat.reduceAdd, ↓reduceIte, c219]
              obtain rfl := Option.some.inj H220
              exact end_pure (by first | (simp -implicitDefEqProofs only [go_sem, ↓reduceIte, Try.f5] <;> rfl) | rfl) (by first | rfl | (simp -implicitDefEqProofs only [go_sem, Int.reduceToNat, Int.reduceLT, Int.reduceLE, Int.reduceBEq, Int.reduceBNe, Nat.reduceLT, Nat.reduceBEq, Int.reduceEq, Nat.reduceEqDiff, Nat.reduceAdd, Nat.reduceSub, Nat.reduceMul, Nat.reduceLeDiff, reduceCtorEq, ↓reduceIte, h198, h199, h200, c207, c215, c219]; done) | (simp -implicitDefEqProofs only [go_sem, Int.reduceToNat, Int.reduceLT, Int.reduceLE, Int.reduceBEq, Int.reduceBNe, Nat.reduceLT, Nat.reduceBEq, Int.reduceEq, Nat.reduceEqDiff, Nat.reduceAdd, Nat.reduceSub, Nat.reduceMul, Nat.reduceLeDiff, reduceCtorEq, ↓reduceIte, h198, h199, h200, c207, c215, c219]; rfl)) rfl (by intro h; first | rfl | cases h)
          · try simp -implicitDefEqProofs only [go_sem, Nat.reduceEqDiff, Nat.reduceAdd, ↓reduceIte, c215]
            obtain rfl := Option.some.inj H216
            exact end_pure (by first | (simp -implicitDefEqProofs only [go_sem, ↓reduceIte, Try.f5] <;> rfl) | rfl) (by first | rfl | (simp -implicitDefEqProofs only [go_sem, Int.reduceToNat, Int.reduceLT, Int.reduceLE, Int.reduceBEq, Int.reduceBNe, Nat.reduceLT, Nat.reduceBEq, Int.reduceEq, Nat.reduceEqDiff, Nat.reduceAdd, Nat.reduceSub, Nat.reduceMul, Nat.reduceLeDiff, reduceCtorEq, ↓reduceIte, h198, h199, h200, c207, c215]; done) | (simp -implicitDefEqProofs only [go_sem, Int.reduceToNat, Int.reduceLT, Int.reduceLE, Int.reduceBEq, Int.reduceBNe, Nat.reduceLT, Nat.reduceBEq, Int.reduceEq, Nat.reduceEqDiff, Nat.reduceAdd, Nat.reduceSub, Nat.reduceMul, Nat.reduceLeDiff, reduceCtorEq, ↓reduceIte, h198, h199, h200, c207, c215]; rfl)) rfl (by intro h; first | rfl | cases h)
        · try simp -implicitDefEqProofs only [go_sem, Nat.reduceEqDiff, Nat.reduceAdd, ↓reduceIte, c207]
          obtain rfl := Option.some.inj H208
          exact end_pure (by first | (simp -implicitDefEqProofs only [go_sem, ↓reduceIte, Try.f5] <;> rfl) | rfl) (by first | rfl | (simp -implicitDefEqProofs only [go_sem, Int.reduceToNat, Int.reduceLT, Int.reduceLE, Int.reduceBEq, Int.reduceBNe, Nat.reduceLT, Nat.reduceBEq, Int.reduceEq, Nat.reduceEqDiff, Nat.reduceAdd, Nat.reduceSub, Nat.reduceMul, Nat.reduceLeDiff, reduceCtorEq, ↓reduceIte, h198, h199, h200, c207]; done) | (simp -implicitDefEqProofs only [go_sem, Int.reduceToNat, Int.reduceLT, Int.reduceLE, Int.reduceBEq, Int.reduceBNe, Nat.reduceLT, Nat.reduceBEq, Int.reduceEq, Nat.reduceEqDiff, Nat.reduceAdd, Nat.reduceSub, Nat.reduceMul, Nat.reduceLeDiff, reduceCtorEq, ↓reduceIte, h198, h199, h200, c207]; rfl)) rfl (by intro h; first | rfl | cases h)
end Go.Proofs.Ytkkhgdmmbhpckaa.Ab
