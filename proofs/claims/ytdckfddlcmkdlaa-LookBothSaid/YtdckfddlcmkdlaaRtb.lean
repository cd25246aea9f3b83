/-
  Functions, read off the code.
-/
import Derived.Test.YtdckfddlcmkdlaaRta
namespace Go.Proofs.Ytdckfddlcmkdlaa.Ab
open Go.RowKit
def ref1_Of_L1 (n : Nat) (t19 : List GTuple) (t25 : List GTuple) : Nat → (List GTuple × Int × Int) → Option (List GTuple)
  | 0, _ => none
  | c + 1, (t5, t6, t7) =>
    (
      (if (decide (t6 < (t19.length : Int))) then
        some (t5, true)
      else
        some (t5, (decide (t7 < (t25.length : Int))))) : Option (List GTuple × Bool)).bind fun (t52, t352) =>
    (if t352 then
      (
        (if (t7 == (t25.length : Int)) then
          some (t52, true)
        else
          (if (decide (t6 < (t19.length : Int))) then
            (idx t19 t6).bind fun x7 =>
            (idx t25 t7).bind fun x8 =>
            (ref1_Less n x7 x8).bind fun t572 =>
            some (t52, t572)
          else
            some (t52, false))) : Option (List GTuple × Bool)).bind fun (t53, t382) =>
      (if t382 then
        (idx t19 t6).bind fun x9 =>
        (app t53 [x9]).bind fun l4 =>
        ref1_Of_L1 n t19 t25 c (l4, (IntKind.i64.wrap (t6 + 1)), t7)
      else
        (if (t6 == (t19.length : Int)) then
          (idx t25 t7).bind fun x10 =>
          (app t53 [x10]).bind fun l5 =>
          ref1_Of_L1 n t19 t25 c (l5, t6, (IntKind.i64.wrap (t7 + 1)))
        else
          (idx t25 t7).bind fun x11 =>
          (idx t19 t6).bind fun x12 =>
          (ref1_Less n x11 x12).bind fun t832 =>
          (if t832 then
            (app t53 [x11]).bind fun l6 =>
            ref1_Of_L1 n t19 t25 c (l6, t6, (IntKind.i64.wrap (t7 + 1)))
          else
            ref1_Of_L1 n t19 t25 c (t53, (IntKind.i64.wrap (t6 + 1)), t7))))
    else
      some t52)

def ref1_Of : Nat → (List GTuple) → Option (List GTuple)
  | 0, _ => none
  | n + 1, t0 =>
    (if (decide ((t0.length : Int) < 2)) then
      (app [] t0).bind fun _ =>
      some t0
    else
      (slc t0 0 (IntKind.i64.wrap (Int.tdiv (t0.length : Int) 2))).bind fun l2 =>
      ((ref1_Of n) l2).bind fun t19 =>
      (slc t0 (IntKind.i64.wrap (Int.tdiv (t0.length : Int) 2)) ((List.length t0) : Int)).bind fun l3 =>
      ((ref1_Of n) l3).bind fun t25 =>
      (
        ref1_Of_L1 n t19 t25 n ([], 0, 0) : Option (List GTuple)).bind fun t55 =>
      some t55)
set_option maxHeartbeats 8000000 in
theorem ref1_Of_ok : ∀ {n : Nat} {t0 : List GTuple} {r : List GTuple}, ref1_Of n t0 = some r → PureOK Try.prog 21 [D.sl (List.map eGTuple t0)] (D.sl (List.map eGTuple r)) true := by
  intro n
  induction n with
  | zero => intro t0 r H; exact nomatch (show none = some _ from H)
  | succ n ih =>
    intro t0 r H
    unfold ref1_Of at H
    refine pure_runR (tab := tab) tab_ok Try.func21 rfl (by kernel_rfl) (by kernel_rfl) (by simp [Try.f21]) ?_
    refine runR_seq ?_
    refine runR_take tab_ok fol 1 ?_
    try simp -implicitDefEqProofs only [go_sem]
    refine runR_seq ?_
    refine runR_take tab_ok fol 1 ?_
    try simp -implicitDefEqProofs only [go_sem, Nat.reduceAdd, reduceCtorEq, ↓reduceIte]
    rcases ite_inv H with ⟨c1, H2⟩ | ⟨c1, H2⟩
    · obtain ⟨l, b3, H4⟩ := bind_inv H2
      obtain ⟨h5, h6⟩ := app_inv b3
      have h6 : t0 = l := h6
      subst h6
      have h5 : t0.length ≤ 4294967296 := by have := h5; simpa using this
      try simp -implicitDefEqProofs only [go_sem, Nat.reduceLT, Nat.reduceEqDiff, Nat.reduceAdd, Nat.reduceMul, Nat.reduceLeDiff, reduceCtorEq, ↓reduceIte, c1, plainR_map (f := eGTuple) (fun _ => rfl) t0, chk_map (n := 6) (f := eGTuple) (fun _ => rfl) t0, h5, List.take_zero]
      obtain rfl := Option.some.inj H4
      exact end_pure (by first | (simp -implicitDefEqProofs only [go_sem, ↓reduceIte, Try.f21] <;> rfl) | rfl) (by first | rfl | (simp -implicitDefEqProofs only [go_sem, ↓reduceIte]; done) | (simp -implicitDefEqProofs only [go_sem, ↓reduceIte]; rfl)) rfl (by intro h; first | rfl | cases h)
    · try simp -implicitDefEqProofs only [go_sem, c1]
      refine runR_seq ?_
      refine runR_take tab_ok fol 1 ?_
      obtain ⟨l2, b9, H10⟩ := bind_inv H2
      obtain ⟨h11, h12, h13, h14⟩ := slc_inv b9
      have h15 : 0 ≤ Int.toNat (IntKind.i64.wrap (Int.tdiv (t0.length : Int) 2)) := by omega
      have h16 : Int.toNat (IntKind.i64.wrap (Int.tdiv (t0.length : Int) 2)) ≤ (List.length t0) := by omega
      have h17 : List.take (Int.toNat (IntKind.i64.wrap (Int.tdiv (t0.length : Int) 2))) (List.map eGTuple t0) = List.map eGTuple l2 := by rw [h14]; simp [List.map_take]
      try simp only [Int.toNat_natCast] at h15 h16 h17
      obtain ⟨t19, b18, H19⟩ := bind_inv H10
      try simp -implicitDefEqProofs only [go_sem, Int.reduceEq, Nat.reduceEqDiff, Nat.reduceAdd, reduceCtorEq, ↓reduceIte, nat_of .i64 (Int.le_trans h11 h12), h15, h16, h17, chk_map (n := 6) (f := eGTuple) (fun _ => rfl) t0]
      refine onCallD_pure (by first | rfl | (simp -implicitDefEqProofs only [go_sem, Int.reduceToNat, Int.reduceLT, Int.reduceLE, Int.reduceBEq, Int.reduceBNe, Nat.reduceLT, Nat.reduceBEq, Int.reduceEq, Nat.reduceEqDiff, Nat.reduceAdd, Nat.reduceSub, Nat.reduceMul, Nat.reduceLeDiff, reduceCtorEq, ↓reduceIte, eGTuple, eGObj, eGSub, c1, nat_of .i64 (Int.le_trans h11 h12), h15, h16, h17, chk_map (n := 6) (f := eGTuple) (fun _ => rfl) t0]; done) | (simp -implicitDefEqProofs only [go_sem, Int.reduceToNat, Int.reduceLT, Int.reduceLE, Int.reduceBEq, Int.reduceBNe, Nat.reduceLT, Nat.reduceBEq, Int.reduceEq, Nat.reduceEqDiff, Nat.reduceAdd, Nat.reduceSub, Nat.reduceMul, Nat.reduceLeDiff, reduceCtorEq, ↓reduceIte, eGTuple, eGObj, eGSub, c1, nat_of .i64 (Int.le_trans h11 h12), h15, h16, h17, chk_map (n := 6) (f := eGTuple) (fun _ => rfl) t0]; rfl)) (ih b18) (by first | exact .inr rfl | exact .inl rfl) ?_
      obtain ⟨l3, b20, H21⟩ := bind_inv H19
      obtain ⟨h22, h23, h24, h25⟩ := slc_inv b20
      have h26 : Int.toNat (IntKind.i64.wrap (Int.tdiv (t0.length : Int) 2)) ≤ (List.length t0) := by omega
      have h27 : (List.length t0) ≤ (List.length t0) := by omega
      have h28 : List.drop (Int.toNat (IntKind.i64.wrap (Int.tdiv (t0.length : Int) 2))) (List.map eGTuple t0) = List.map eGTuple l3 := by rw [h25]; simp [List.map_drop]
      try simp only [Int.toNat_natCast] at h26 h27 h28
      obtain ⟨t25, b29, H30⟩ := bind_inv H21
      try simp -implicitDefEqProofs only [go_sem, Int.reduceEq, Nat.reduceEqDiff, Nat.reduceAdd, reduceCtorEq, ↓reduceIte, nat_of .i64 (Int.le_trans h11 h12), h16, h27, h28, chk_map (n := 6) (f := eGTuple) (fun _ => rfl) t0]
      refine onCallD_pure (by first | rfl | (simp -implicitDefEqProofs only [go_sem, Int.reduceToNat, Int.reduceLT, Int.reduceLE, Int.reduceBEq, Int.reduceBNe, Nat.reduceLT, Nat.reduceBEq, Int.reduceEq, Nat.reduceEqDiff, Nat.reduceAdd, Nat.reduceSub, Nat.reduceMul, Nat.reduceLeDiff, reduceCtorEq, ↓reduceIte, eGTuple, eGObj, eGSub, c1, nat_of .i64 (Int.le_trans h11 h12), h15, h16, h17, chk_map (n := 6) (f := eGTuple) (fun _ => rfl) t0, nat_of .i64 h22, h26, h27, h28, chk_map (n := 6) (f := eGTuple) (fun _ => rfl) t0]; done) | (simp -implicitDefEqProofs only [go_sem, Int.reduceToNat, Int.reduceLT, Int.reduceLE, Int.reduceBEq, Int.reduceBNe, Nat.reduceLT, Nat.reduceBEq, Int.reduceEq, Nat.reduceEqDiff, Nat.reduceAdd, Nat.reduceSub, Nat.reduceMul, Nat.reduceLeDiff, reduceCtorEq, ↓reduceIte, eGTuple, eGObj, eGSub, c1, nat_of .i64 (Int.le_trans h11 h12), h15, h16, h17, chk_map (n := 6) (f := eGTuple) (fun _ => rfl) t0, nat_of .i64 h22, h26, h27, h28, chk_map (n := 6) (f := eGTuple) (fun _ => rfl) t0]; rfl)) (ih b29) (by first | exact .inr rfl | exact .inl rfl) ?_
      try simp -implicitDefEqProofs only [go_sem, Nat.reduceEqDiff, Nat.reduceAdd, ↓reduceIte]
      refine Rd_endF (by rfl) ?_
      try simp -implicitDefEqProofs only [go_sem]
      refine runR_seq ?_
      refine runR_take tab_ok fol 1 ?_
      try simp -implicitDefEqProofs only [go_sem, Nat.reduceAdd]
      refine runR_seq ?_
      refine runR_take tab_ok fol 1 ?_
      try simp -implicitDefEqProofs only [go_sem, Nat.reduceAdd]
      refine runR_seq ?_
      obtain ⟨e_, E31, H32⟩ := bind_inv H30
      refine runR_join (α := { y : List GTuple // e_ = y } × Nat) (fun | ⟨⟨t55, _⟩, g5⟩ => ⟨upd 5 (accV 0 g5 (List.map eGTuple t55)) noFr, upd 0 (accO 6 g5 false (List.map eGTuple t55)) noHp, 1⟩) ?_ ?_
      · refine runR_block ?_
        refine runR_loop (α := { q : (Nat × (List GTuple × Int × Int)) × Nat // ref1_Of_L1 n t19 t25 q.1.1 q.1.2 = some e_ }) (fun | ⟨⟨⟨c, ⟨t5, t6, t7⟩⟩, g⟩, _⟩ => ⟨upd 3 (.d (.sl (List.map eGTuple t19)) false) (upd 4 (.d (.sl (List.map eGTuple t25)) false) (upd 5 (accV 0 g (List.map eGTuple t5)) (upd 6 (.v (.int .i64 t6)) (upd 7 (.v (.int .i64 t7)) noFr)))), upd 0 (accO 6 g false (List.map eGTuple t5)) noHp, 1⟩) (fun q => q.1.1.1) ⟨((n, ([], 0, 0)), 0), E31⟩ ?_ ?_
        · exact ren_mk [] (by rfl) (rf_upd (by rfl) (rf_upd (by rfl) (rf_upd (by rfl) (rf_upd (by rfl) (rf_upd (by rfl) (rf_no _)))))) (rh_upd rh_accN (rh_no _))
        · rintro ⟨⟨⟨c, ⟨t5, t6, t7⟩⟩, g⟩, L33⟩
          rcases c with _ | c
          · exact nomatch (show none = some _ from L33)
          · unfold ref1_Of_L1 at L33
            try dsimp only at L33
            refine runR_seq ?_
            refine runR_seq ?_
            obtain ⟨e_4, E94, H95⟩ := bind_inv L33
            refine runR_join (α := { y : List GTuple × Bool // e_4 = y } × Nat) (fun | ⟨⟨⟨t52, t352⟩, _⟩, g2⟩ => ⟨upd 3 (.d (.sl (List.map eGTuple t19)) false) (upd 4 (.d (.sl (List.map eGTuple t25)) false) (upd 5 (accV 0 g2 (List.map eGTuple t52)) (upd 6 (.v (.int .i64 t6)) (upd 7 (.v (.int .i64 t7)) (upd 35 (.v (.bool t352)) noFr))))), upd 0 (accO 6 g2 false (List.map eGTuple t52)) noHp, 1⟩) ?_ ?_
            · refine runR_take tab_ok fol 1 ?_
              try simp -implicitDefEqProofs only [go_sem, Nat.reduceEqDiff, Nat.reduceAdd, ↓reduceIte]
              rcases ite_inv E94 with ⟨c96, H97⟩ | ⟨c96, H97⟩
              · try simp -implicitDefEqProofs only [go_sem, Nat.reduceEqDiff, Nat.reduceAdd, ↓reduceIte, c96]
                obtain rfl := Option.some.inj H97
                exact ⟨⟨⟨(t5, true), rfl⟩, g⟩, ren_mk [(0, 0)] (by rfl) (rf_upd (by rfl) (rf_upd (by rfl) (rf_upd (ren_acc (by rfl)) (rf_upd (by rfl) (rf_upd (by rfl) (rf_upd (by rfl) (rf_no _))))))) (rh_upd (rh_acc (by rfl) (by rfl)) (rh_no _))⟩
              · try simp -implicitDefEqProofs only [go_sem, Nat.reduceEqDiff, Nat.reduceAdd, ↓reduceIte, c96]
                obtain rfl := Option.some.inj H97
                exact ⟨⟨⟨(t5, (decide (t7 < (t25.length : Int)))), rfl⟩, g⟩, ren_mk [(0, 0)] (by rfl) (rf_upd (by rfl) (rf_upd (by rfl) (rf_upd (ren_acc (by rfl)) (rf_upd (by rfl) (rf_upd (by rfl) (rf_upd (by rfl) (rf_no _))))))) (rh_upd (rh_acc (by rfl) (by rfl)) (rh_no _))⟩
            · rintro ⟨⟨⟨t52, t352⟩, he177⟩, g2⟩
              replace he177 := he177.symm
              subst he177
              try dsimp only at H95
              refine runR_take tab_ok fol 1 ?_
              try simp -implicitDefEqProofs only [go_sem, Nat.reduceEqDiff, ↓reduceIte]
              rcases ite_inv H95 with ⟨c98, H99⟩ | ⟨c98, H99⟩
              · try simp -implicitDefEqProofs only [go_sem, c98]
                refine runR_block ?_
                refine runR_block ?_
                refine runR_seq ?_
                obtain ⟨e_5, E100, H101⟩ := bind_inv H99
                refine runR_join (α := { y : List GTuple × Bool // e_5 = y } × Nat) (fun | ⟨⟨⟨t53, t382⟩, _⟩, g3⟩ => ⟨upd 3 (.d (.sl (List.map eGTuple t19)) false) (upd 4 (.d (.sl (List.map eGTuple t25)) false) (upd 5 (accV 0 g3 (List.map eGTuple t53)) (upd 6 (.v (.int .i64 t6)) (upd 7 (.v (.int .i64 t7)) (upd 38 (.v (.bool t382)) noFr))))), upd 0 (accO 6 g3 false (List.map eGTuple t53)) noHp, 1⟩) ?_ ?_
                · refine runR_take tab_ok fol 1 ?_
                  try simp -implicitDefEqProofs only [go_sem, Nat.reduceEqDiff, Nat.reduceAdd, ↓reduceIte]
                  rcases ite_inv E100 with ⟨c102, H103⟩ | ⟨c102, H103⟩
                  · try simp -implicitDefEqProofs only [go_sem, Nat.reduceEqDiff, Nat.reduceAdd, ↓reduceIte, c102]
                    refine Rd_endF (by rfl) ?_
                    try simp -implicitDefEqProofs only [go_sem]
                    obtain rfl := Option.some.inj H103
                    exact ⟨⟨⟨(t52, true), rfl⟩, g2⟩, ren_mk [(0, 0)] (by rfl) (rf_upd (by rfl) (rf_upd (by rfl) (rf_upd (ren_acc (by rfl)) (rf_upd (by rfl) (rf_upd (by rfl) (rf_upd (by rfl) (rf_no _))))))) (rh_upd (rh_acc (by rfl) (by rfl)) (rh_no _))⟩
                  · try simp -implicitDefEqProofs only [go_sem, Nat.reduceEqDiff, Nat.reduceAdd, ↓reduceIte, c102]
                    rcases ite_inv H103 with ⟨c104, H105⟩ | ⟨c104, H105⟩
                    · obtain ⟨x7, b106, H107⟩ := bind_inv H105
                      obtain ⟨h108, h109⟩ := idx_inv b106
                      try simp only [Int.reduceToNat, Int.toNat_natCast] at h109
                      have h110 := map_at eGTuple h109
                      obtain ⟨x8, b112, H113⟩ := bind_inv H107
                      obtain ⟨h114, h115⟩ := idx_inv b112
                      try simp only [Int.reduceToNat, Int.toNat_natCast] at h115
                      have h116 := map_at eGTuple h115
                      obtain ⟨t572, b118, H119⟩ := bind_inv H113
                      try simp -implicitDefEqProofs only [go_sem, Nat.reduceEqDiff, Nat.reduceAdd, ↓reduceIte, eGTuple, c104, nat_of .i64 h108, h110, nat_of .i64 h114, h116]
                      refine onCallD_pure (by first | rfl | (simp -implicitDefEqProofs only [go_sem, Int.reduceToNat, Int.reduceLT, Int.reduceLE, Int.reduceBEq, Int.reduceBNe, Nat.reduceLT, Nat.reduceBEq, Int.reduceEq, Nat.reduceEqDiff, Nat.reduceAdd, Nat.reduceSub, Nat.reduceMul, Nat.reduceLeDiff, reduceCtorEq, ↓reduceIte, eGTuple, eGObj, eGSub, c102, c104, nat_of .i64 h108, h110, nat_of .i64 h114, h116]; done) | (simp -implicitDefEqProofs only [go_sem, Int.reduceToNat, Int.reduceLT, Int.reduceLE, Int.reduceBEq, Int.reduceBNe, Nat.reduceLT, Nat.reduceBEq, Int.reduceEq, Nat.reduceEqDiff, Nat.reduceAdd, Nat.reduceSub, Nat.reduceMul, Nat.reduceLeDiff, reduceCtorEq, ↓reduceIte, eGTuple, eGObj, eGSub, c102, c104, nat_of .i64 h108, h110, nat_of .i64 h114, h116]; rfl)) (ref1_Less_ok b118) (by first | exact .inr rfl | exact .inl rfl) ?_
                      try simp -implicitDefEqProofs only [go_sem, Nat.reduceEqDiff, Nat.reduceAdd, ↓reduceIte]
                      refine Rd_endF (by rfl) ?_
                      try simp -implicitDefEqProofs only [go_sem]
                      obtain rfl := Option.some.inj H119
                      exact ⟨⟨⟨(t52, t572), rfl⟩, g2⟩, ren_mk [(0, 0)] (by rfl) (rf_upd (by rfl) (rf_upd (by rfl) (rf_upd (ren_acc (by rfl)) (rf_upd (by rfl) (rf_upd (by rfl) (rf_upd (by rfl) (rf_no _))))))) (rh_upd (rh_acc (by rfl) (by rfl)) (rh_no _))⟩
                    · try simp -implicitDefEqProofs only [go_sem, Nat.reduceEqDiff, Nat.reduceAdd, ↓reduceIte, c104]
                      refine Rd_endF (by rfl) ?_
                      try simp -implicitDefEqProofs only [go_sem]
                      obtain rfl := Option.some.inj H105
                      exact ⟨⟨⟨(t52, false), rfl⟩, g2⟩, ren_mk [(0, 0)] (by rfl) (rf_upd (by rfl) (rf_upd (by rfl) (rf_upd (ren_acc (by rfl)) (rf_upd (by rfl) (rf_upd (by rfl) (rf_upd (by rfl) (rf_no _))))))) (rh_upd (rh_acc (by rfl) (by rfl)) (rh_no _))⟩
                · rintro ⟨⟨⟨t53, t382⟩, he176⟩, g3⟩
                  replace he176 := he176.symm
                  subst he176
                  try dsimp only at H101
                  refine runR_take tab_ok fol 3 ?_
                  try simp -implicitDefEqProofs only [go_sem, Nat.reduceEqDiff, ↓reduceIte]
                  rcases ite_inv H101 with ⟨c120, H121⟩ | ⟨c120, H121⟩
                  · obtain ⟨x9, b122, H123⟩ := bind_inv H121
                    obtain ⟨h124, h125⟩ := idx_inv b122
                    try simp only [Int.reduceToNat, Int.toNat_natCast] at h125
                    have h126 := map_at eGTuple h125
                    obtain ⟨l4, b128, H129⟩ := bind_inv H123
                    obtain ⟨h130, h131⟩ := app_inv b128
                    have h130 : t53.length + 1 ≤ 4294967296 := h130
                    have h132 : List.map eGTuple t53 ++ [[.v (.string x9.obj.type_), .v (.string x9.obj.id_), .v (.string x9.rel), .v (.string x9.sub_.type_), .v (.string x9.sub_.id_), .v (.string x9.sub_.rel)]] = List.map eGTuple l4 := app_map eGTuple h131
                    have h133 : t53.length + 1 = l4.length := app_len h131
                    have h134 : l4.length ≤ 4294967296 := by omega
                    have q135 : 0 < l4.length := by omega
                    try simp -implicitDefEqProofs only [go_sem, Nat.reduceLT, Nat.reduceEqDiff, Nat.reduceAdd, Nat.reduceMul, Nat.reduceLeDiff, reduceCtorEq, ↓reduceIte, eGTuple, c120, nat_of .i64 h124, h126, h132, h133, h134]
                    rcases t53 with _ | ⟨q0, q1⟩
                    · try simp only [List.map_nil, accI, accN]
                      exact ⟨⟨((c, (l4, (IntKind.i64.wrap (t6 + 1)), t7)), 0), H129⟩, ren_mk [(0, 7)] (by rfl) (rf_upd (by rfl) (rf_upd (by rfl) (rf_upd (ren_accP (by rfl) q135) (rf_upd (by rfl) (rf_upd (by rfl) (rf_no _)))))) (rh_upd (rh_accP (by rfl) q135 (by rfl)) (rh_no _)), Nat.lt_succ_self _⟩
                    · try simp only [List.map_cons, accI, accN]
                      exact ⟨⟨((c, (l4, (IntKind.i64.wrap (t6 + 1)), t7)), (g3 + 1)), H129⟩, ren_mk [(0, 0)] (by rfl) (rf_upd (by rfl) (rf_upd (by rfl) (rf_upd (ren_accP (by rfl) q135) (rf_upd (by rfl) (rf_upd (by rfl) (rf_no _)))))) (rh_upd (rh_accP (by rfl) q135 (by rfl)) (rh_no _)), Nat.lt_succ_self _⟩
                  · try simp -implicitDefEqProofs only [go_sem, Nat.reduceEqDiff, Nat.reduceAdd, ↓reduceIte, c120]
                    rcases ite_inv H121 with ⟨c136, H137⟩ | ⟨c136, H137⟩
                    · try simp -implicitDefEqProofs only [go_sem, Nat.reduceEqDiff, Nat.reduceAdd, ↓reduceIte, c136]
                      refine Rd_endF (by rfl) ?_
                      obtain ⟨x10, b138, H139⟩ := bind_inv H137
                      obtain ⟨h140, h141⟩ := idx_inv b138
                      try simp only [Int.reduceToNat, Int.toNat_natCast] at h141
                      have h142 := map_at eGTuple h141
                      obtain ⟨l5, b144, H145⟩ := bind_inv H139
                      obtain ⟨h146, h147⟩ := app_inv b144
                      have h146 : t53.length + 1 ≤ 4294967296 := h146
                      have h148 : List.map eGTuple t53 ++ [[.v (.string x10.obj.type_), .v (.string x10.obj.id_), .v (.string x10.rel), .v (.string x10.sub_.type_), .v (.string x10.sub_.id_), .v (.string x10.sub_.rel)]] = List.map eGTuple l5 := app_map eGTuple h147
                      have h149 : t53.length + 1 = l5.length := app_len h147
                      have h150 : l5.length ≤ 4294967296 := by omega
                      have q151 : 0 < l5.length := by omega
                      try simp -implicitDefEqProofs only [go_sem, Nat.reduceLT, Nat.reduceEqDiff, Nat.reduceAdd, Nat.reduceMul, Nat.reduceLeDiff, reduceCtorEq, ↓reduceIte, eGTuple, nat_of .i64 h140, h142, h148, h149, h150]
                      rcases t53 with _ | ⟨q0, q1⟩
                      · try simp only [List.map_nil, accI, accN]
                        exact ⟨⟨((c, (l5, t6, (IntKind.i64.wrap (t7 + 1)))), 0), H145⟩, ren_mk [(0, 23)] (by rfl) (rf_upd (by rfl) (rf_upd (by rfl) (rf_upd (ren_accP (by rfl) q151) (rf_upd (by rfl) (rf_upd (by rfl) (rf_no _)))))) (rh_upd (rh_accP (by rfl) q151 (by rfl)) (rh_no _)), Nat.lt_succ_self _⟩
                      · try simp only [List.map_cons, accI, accN]
                        exact ⟨⟨((c, (l5, t6, (IntKind.i64.wrap (t7 + 1)))), (g3 + 1)), H145⟩, ren_mk [(0, 0)] (by rfl) (rf_upd (by rfl) (rf_upd (by rfl) (rf_upd (ren_accP (by rfl) q151) (rf_upd (by rfl) (rf_upd (by rfl) (rf_no _)))))) (rh_upd (rh_accP (by rfl) q151 (by rfl)) (rh_no _)), Nat.lt_succ_self _⟩
                    · obtain ⟨x11, b152, H153⟩ := bind_inv H137
                      obtain ⟨h154, h155⟩ := idx_inv b152
                      try simp only [Int.reduceToNat, Int.toNat_natCast] at h155
                      have h156 := map_at eGTuple h155
                      obtain ⟨x12, b158, H159⟩ := bind_inv H153
                      obtain ⟨h160, h161⟩ := idx_inv b158
                      try simp only [Int.reduceToNat, Int.toNat_natCast] at h161
                      have h162 := map_at eGTuple h161
                      obtain ⟨t832, b164, H165⟩ := bind_inv H159
                      try simp -implicitDefEqProofs only [go_sem, Nat.reduceEqDiff, Nat.reduceAdd, ↓reduceIte, eGTuple, c136, nat_of .i64 h154, h156, nat_of .i64 h160, h162]
                      refine onCallD_pure (by first | rfl | (simp -implicitDefEqProofs only [go_sem, Int.reduceToNat, Int.reduceLT, Int.reduceLE, Int.reduceBEq, Int.reduceBNe, Nat.reduceLT, Nat.reduceBEq, Int.reduceEq, Nat.reduceEqDiff, Nat.reduceAdd, Nat.reduceSub, Nat.reduceMul, Nat.reduceLeDiff, reduceCtorEq, ↓reduceIte, eGTuple, eGObj, eGSub, c120, c136, nat_of .i64 h154, h156, nat_of .i64 h160, h162]; done) | (simp -implicitDefEqProofs only [go_sem, Int.reduceToNat, Int.reduceLT, Int.reduceLE, Int.reduceBEq, Int.reduceBNe, Nat.reduceLT, Nat.reduceBEq, Int.reduceEq, Nat.reduceEqDiff, Nat.reduceAdd, Nat.reduceSub, Nat.reduceMul, Nat.reduceLeDiff, reduceCtorEq, ↓reduceIte, eGTuple, eGObj, eGSub, c120, c136, nat_of .i64 h154, h156, nat_of .i64 h160, h162]; rfl)) (ref1_Less_ok b164) (by first | exact .inr rfl | exact .inl rfl) ?_
                      try simp -implicitDefEqProofs only [go_sem, Nat.reduceEqDiff, Nat.reduceAdd, ↓reduceIte]
                      refine Rd_endF (by rfl) ?_
                      try simp -implicitDefEqProofs only [go_sem, ↓reduceIte]
                      rcases ite_inv H165 with ⟨c166, H167⟩ | ⟨c166, H167⟩
                      · obtain ⟨l6, b168, H169⟩ := bind_inv H167
                        obtain ⟨h170, h171⟩ := app_inv b168
                        have h170 : t53.length + 1 ≤ 4294967296 := h170
                        have h172 : List.map eGTuple t53 ++ [[.v (.string x11.obj.type_), .v (.string x11.obj.id_), .v (.string x11.rel), .v (.string x11.sub_.type_), .v (.string x11.sub_.id_), .v (.string x11.sub_.rel)]] = List.map eGTuple l6 := app_map eGTuple h171
                        have h173 : t53.length + 1 = l6.length := app_len h171
                        have h174 : l6.length ≤ 4294967296 := by omega
                        have q175 : 0 < l6.length := by omega
                        try simp -implicitDefEqProofs only [go_sem, Nat.reduceLT, Nat.reduceEqDiff, Nat.reduceAdd, Nat.reduceMul, Nat.reduceLeDiff, reduceCtorEq, ↓reduceIte, eGTuple, nat_of .i64 h154, h156, c166, h172, h173, h174]
                        rcases t53 with _ | ⟨q0, q1⟩
                        · try simp only [List.map_nil, accI, accN]
                          exact ⟨⟨((c, (l6, t6, (IntKind.i64.wrap (t7 + 1)))), 0), H169⟩, ren_mk [(0, 23)] (by rfl) (rf_upd (by rfl) (rf_upd (by rfl) (rf_upd (ren_accP (by rfl) q175) (rf_upd (by rfl) (rf_upd (by rfl) (rf_no _)))))) (rh_upd (rh_accP (by rfl) q175 (by rfl)) (rh_no _)), Nat.lt_succ_self _⟩
                        · try simp only [List.map_cons, accI, accN]
                          exact ⟨⟨((c, (l6, t6, (IntKind.i64.wrap (t7 + 1)))), (g3 + 1)), H169⟩, ren_mk [(0, 0)] (by rfl) (rf_upd (by rfl) (rf_upd (by rfl) (rf_upd (ren_accP (by rfl) q175) (rf_upd (by rfl) (rf_upd (by rfl) (rf_no _)))))) (rh_upd (rh_accP (by rfl) q175 (by rfl)) (rh_no _)), Nat.lt_succ_self _⟩
                      · try simp -implicitDefEqProofs only [go_sem, Nat.reduceEqDiff, Nat.reduceAdd, ↓reduceIte, c166]
                        exact ⟨⟨((c, (t53, (IntKind.i64.wrap (t6 + 1)), t7)), g3), H167⟩, ren_mk [(0, 0)] (by rfl) (rf_upd (by rfl) (rf_upd (by rfl) (rf_upd (ren_acc (by rfl)) (rf_upd (by rfl) (rf_upd (by rfl) (rf_no _)))))) (rh_upd (rh_acc (by rfl) (by rfl)) (rh_no _)), Nat.lt_succ_self _⟩
              · try simp -implicitDefEqProofs only [go_sem, ↓reduceIte, c98]
                obtain rfl := Option.some.inj H99
                exact ⟨⟨⟨t52, rfl⟩, g2⟩, ren_mk [(0, 0)] (by rfl) (rf_upd (ren_acc (by rfl)) (rf_no _)) (rh_upd (rh_acc (by rfl) (by rfl)) (rh_no _))⟩
      · rintro ⟨⟨t55, he178⟩, g5⟩
        replace he178 := he178.symm
        subst he178
        try dsimp only at H32
        refine runR_take tab_ok fol 1 ?_
        try simp -implicitDefEqProofs only [go_sem, Nat.reduceAdd, ↓reduceIte]
        obtain rfl := Option.some.inj H32
        exact end_pure (by first | (simp -implicitDefEqProofs only [go_sem, ↓reduceIte, Try.f21] <;> rfl) | rfl) (by first | rfl | (simp -implicitDefEqProofs only [go_sem, ↓reduceIte]; done) | (simp -implicitDefEqProofs only [go_sem, ↓reduceIte]; rfl)) rfl (by intro h; first | rfl | cases h)
def ref1_Plus (n : Nat) (a : List GTuple) (l : List GTuple) : Option (List GTuple) :=
  (app [] a).bind fun _ =>
  (app a l).bind fun l3 =>
  (ref1_Of n l3).bind fun t10 =>
  some t10
theorem ref1_Plus_ok {n : Nat} {a : List GTuple} {l : List GTuple} {r : List GTuple} (H : ref1_Plus n a l = some r) : PureOK Try.prog 24 [D.sl (List.map eGTuple a), D.sl (List.map eGTuple l)] (D.sl (List.map eGTuple r)) true := by
  unfold ref1_Plus at H
  refine pure_runR (tab := tab) tab_ok Try.func24 rfl (by kernel_rfl) (by kernel_rfl) (by simp [Try.f24]) ?_
  refine runR_take tab_ok fol 1 ?_
  obtain ⟨l2, b1, H2⟩ := bind_inv H
  obtain ⟨h3, h4⟩ := app_inv b1
  have h4 : a = l2 := h4
  subst h4
  have h3 : a.length ≤ 4294967296 := by have := h3; simpa using this
  obtain ⟨l3, b7, H8⟩ := bind_inv H2
  obtain ⟨h9, h10⟩ := app_inv b7
  have h9 : a.length + l.length ≤ 4294967296 := h9
  have h11 : List.map eGTuple a ++ List.map eGTuple l = List.map eGTuple l3 := app_map eGTuple h10
  have h12 : a.length + l.length = l3.length := app_len h10
  have h13 : l3.length ≤ 4294967296 := by omega
  obtain ⟨t10, b14, H15⟩ := bind_inv H8
  try simp -implicitDefEqProofs only [go_sem, Nat.reduceLT, Nat.reduceEqDiff, Nat.reduceAdd, Nat.reduceMul, Nat.reduceLeDiff, reduceCtorEq, ↓reduceIte, plainR_map (f := eGTuple) (fun _ => rfl) a, chk_map (n := 6) (f := eGTuple) (fun _ => rfl) a, h3, List.take_succ_cons, List.take_zero, plainR_map (f := eGTuple) (fun _ => rfl) l, chk_map (n := 6) (f := eGTuple) (fun _ => rfl) l, h11, h12, h13]
  refine onCall_pure (by first | rfl | (simp -implicitDefEqProofs only [go_sem, ↓reduceIte]; done) | (simp -implicitDefEqProofs only [go_sem, ↓reduceIte]; rfl)) (ref1_Of_ok b14) (by first | exact .inr rfl | exact .inl rfl) ?_
  try simp -implicitDefEqProofs only [go_sem, Nat.reduceAdd, ↓reduceIte]
  obtain rfl := Option.some.inj H15
  exact end_pure (by first | (simp -implicitDefEqProofs only [go_sem, ↓reduceIte, Try.f24] <;> rfl) | rfl) (by first | rfl | (simp -implicitDefEqProofs only [go_sem, Int.reduceToNat, Int.reduceLT, Int.reduceLE, Int.reduceBEq, Int.reduceBNe, Nat.reduceLT, Nat.reduceBEq, Int.reduceEq, Nat.reduceEqDiff, Nat.reduceAdd, Nat.reduceSub, Nat.reduceMul, Nat.reduceLeDiff, reduceCtorEq, ↓reduceIte, eGTuple, eGObj, eGSub, plainR_map (f := eGTuple) (fun _ => rfl) a, chk_map (n := 6) (f := eGTuple) (fun _ => rfl) a, h3, List.take_succ_cons, List.take_zero, plainR_map (f := eGTuple) (fun _ => rfl) l, chk_map (n := 6) (f := eGTuple) (fun _ => rfl) l, h9, h11, h12, h13]; done) | (simp -implicitDefEqProofs only [go_sem, Int.reduceToNat, Int.reduceLT, Int.reduceLE, Int.reduceBEq, Int.reduceBNe, Nat.reduceLT, Nat.reduceBEq, Int.reduceEq, Nat.reduceEqDiff, Nat.reduceAdd, Nat.reduceSub, Nat.reduceMul, Nat.reduceLeDiff, reduceCtorEq, ↓reduceIte, eGTuple, eGObj, eGSub, plainR_map (f := eGTuple) (fun _ => rfl) a, chk_map (n := 6) (f := eGTuple) (fun _ => rfl) a, h3, List.take_succ_cons, List.take_zero, plainR_map (f := eGTuple) (fun _ => rfl) l, chk_map (n := 6) (f := eGTuple) (fun _ => rfl) l, h9, h11, h12, h13]; rfl)) rfl (by intro h; first | rfl | cases h)
def ref1_place_L1 (n : Nat) (l : List GTuple) (t : GTuple) : Nat → (Int × Int) → Option (Int)
  | 0, _ => none
  | c + 1, (lo, hi2) =>
    (if (decide (lo < hi2)) then
      (idx l (IntKind.i64.wrap (Int.tdiv (IntKind.i64.wrap (lo + hi2)) 2))).bind fun x2 =>
      (ref1_Less n x2 t).bind fun t222 =>
      (if t222 then
        ref1_place_L1 n l t c ((IntKind.i64.wrap ((IntKind.i64.wrap (Int.tdiv (IntKind.i64.wrap (lo + hi2)) 2)) + 1)), hi2)
      else
        ref1_place_L1 n l t c (lo, (IntKind.i64.wrap (Int.tdiv (IntKind.i64.wrap (lo + hi2)) 2))))
    else
      some lo)

def ref1_place (n : Nat) (l : List GTuple) (t : GTuple) : Option Int :=
  (
    ref1_place_L1 n l t n (0, (l.length : Int)) : Option (Int)).bind fun lo3 =>
  some lo3
theorem ref1_place_ok {n : Nat} {l : List GTuple} {t : GTuple} {r : Int} (H : ref1_place n l t = some r) : PureOK Try.prog 62 [D.sl (List.map eGTuple l), D.ag (eGTuple t)] (D.v (.int .i64 r)) true := by
  unfold ref1_place at H
  refine pure_runR (tab := tab) tab_ok Try.func62 rfl (by kernel_rfl) (by kernel_rfl) (by simp [Try.f62]) ?_
  refine runR_seq ?_
  refine runR_take tab_ok fol 1 ?_
  try simp -implicitDefEqProofs only [go_sem, Nat.reduceAdd, eGTuple]
  refine runR_seq ?_
  refine runR_take tab_ok fol 1 ?_
  try simp -implicitDefEqProofs only [go_sem, Nat.reduceEqDiff, Nat.reduceAdd, reduceCtorEq, ↓reduceIte]
  refine runR_seq ?_
  obtain ⟨e_, E1, H2⟩ := bind_inv H
  refine runR_join (α := { y : Int // e_ = y }) (fun | ⟨lo3, _⟩ => ⟨upd 5 (.v (.int .i64 lo3)) noFr, noHp, 0⟩) ?_ ?_
  · refine runR_block ?_
    refine runR_loop (α := { q : Nat × (Int × Int) // ref1_place_L1 n l t q.1 q.2 = some e_ }) (fun | ⟨⟨c, ⟨lo, hi2⟩⟩, _⟩ => ⟨upd 0 (.d (.sl (List.map eGTuple l)) true) (upd 3 (.pt 0 0) (upd 5 (.v (.int .i64 lo)) (upd 6 (.v (.int .i64 hi2)) noFr))), upd 0 (some (.bx [.v (.string t.obj.type_), .v (.string t.obj.id_), .v (.string t.rel), .v (.string t.sub_.type_), .v (.string t.sub_.id_), .v (.string t.sub_.rel)])) noHp, 1⟩) (fun q => q.1.1) ⟨(n, (0, (l.length : Int))), E1⟩ ?_ ?_
    · exact ren_mk [(0, 0)] (by rfl) (rf_upd (by rfl) (rf_upd (by rfl) (rf_upd (by rfl) (rf_upd (by rfl) (rf_no _))))) (rh_upd (rh_one (by rfl) (by rfl) (by rfl)) (rh_no _))
    · rintro ⟨⟨c, ⟨lo, hi2⟩⟩, L3⟩
      rcases c with _ | c
      · exact nomatch (show none = some _ from L3)
      · unfold ref1_place_L1 at L3
        try dsimp only at L3
        refine runR_take tab_ok fol 1 ?_
        try simp -implicitDefEqProofs only [go_sem, Nat.reduceEqDiff, Nat.reduceAdd, reduceCtorEq, ↓reduceIte]
        rcases ite_inv L3 with ⟨c16, H17⟩ | ⟨c16, H17⟩
        · obtain ⟨x2, b18, H19⟩ := bind_inv H17
          obtain ⟨h20, h21⟩ := idx_inv b18
          try simp only [Int.reduceToNat, Int.toNat_natCast] at h21
          have h22 := map_at eGTuple h21
          obtain ⟨t222, b24, H25⟩ := bind_inv H19
          try simp -implicitDefEqProofs only [go_sem, Int.reduceEq, Nat.reduceEqDiff, Nat.reduceAdd, reduceCtorEq, ↓reduceIte, eGTuple, c16, nat_of .i64 h20, h22]
          refine onCallD_pure (by first | rfl | (simp -implicitDefEqProofs only [go_sem, Int.reduceToNat, Int.reduceLT, Int.reduceLE, Int.reduceBEq, Int.reduceBNe, Nat.reduceLT, Nat.reduceBEq, Int.reduceEq, Nat.reduceEqDiff, Nat.reduceAdd, Nat.reduceSub, Nat.reduceMul, Nat.reduceLeDiff, reduceCtorEq, ↓reduceIte, eGTuple, eGObj, eGSub, c16, nat_of .i64 h20, h22]; done) | (simp -implicitDefEqProofs only [go_sem, Int.reduceToNat, Int.reduceLT, Int.reduceLE, Int.reduceBEq, Int.reduceBNe, Nat.reduceLT, Nat.reduceBEq, Int.reduceEq, Nat.reduceEqDiff, Nat.reduceAdd, Nat.reduceSub, Nat.reduceMul, Nat.reduceLeDiff, reduceCtorEq, ↓reduceIte, eGTuple, eGObj, eGSub, c16, nat_of .i64 h20, h22]; rfl)) (ref1_Less_ok b24) (by first | exact .inr rfl | exact .inl rfl) ?_
          try simp -implicitDefEqProofs only [go_sem]
          refine Rd_endF (by rfl) ?_
          try simp -implicitDefEqProofs only [go_sem, ↓reduceIte]
          rcases ite_inv H25 with ⟨c26, H27⟩ | ⟨c26, H27⟩
          · try simp -implicitDefEqProofs only [go_sem, Nat.reduceEqDiff, Nat.reduceAdd, ↓reduceIte, c26]
            exact ⟨⟨(c, ((IntKind.i64.wrap ((IntKind.i64.wrap (Int.tdiv (IntKind.i64.wrap (lo + hi2)) 2)) + 1)), hi2)), H27⟩, ren_mk [(0, 0)] (by rfl) (rf_upd (by rfl) (rf_upd (by rfl) (rf_upd (by rfl) (rf_upd (by rfl) (rf_no _))))) (rh_upd (rh_one (by rfl) (by rfl) (by rfl)) (rh_no _)), Nat.lt_succ_self _⟩
          · try simp -implicitDefEqProofs only [go_sem, Nat.reduceEqDiff, Nat.reduceAdd, ↓reduceIte, c26]
            exact ⟨⟨(c, (lo, (IntKind.i64.wrap (Int.tdiv (IntKind.i64.wrap (lo + hi2)) 2)))), H27⟩, ren_mk [(0, 0)] (by rfl) (rf_upd (by rfl) (rf_upd (by rfl) (rf_upd (by rfl) (rf_upd (by rfl) (rf_no _))))) (rh_upd (rh_one (by rfl) (by rfl) (by rfl)) (rh_no _)), Nat.lt_succ_self _⟩
        · try simp -implicitDefEqProofs only [go_sem, ↓reduceIte, c16]
          obtain rfl := Option.some.inj H17
          exact ⟨⟨lo, rfl⟩, ren_mk [] (by rfl) (rf_upd (by rfl) (rf_no _)) (rh_no _)⟩
  · rintro ⟨lo3, he28⟩
    replace he28 := he28.symm
    subst he28
    try dsimp only at H2
    refine runR_take tab_ok fol 1 ?_
    try simp -implicitDefEqProofs only [go_sem, Nat.reduceAdd, ↓reduceIte]
    obtain rfl := Option.some.inj H2
    exact end_pure (by first | (simp -implicitDefEqProofs only [go_sem, ↓reduceIte, Try.f62] <;> rfl) | rfl) (by first | rfl | (simp -implicitDefEqProofs only [go_sem, Int.reduceToNat, Int.reduceLT, Int.reduceLE, Int.reduceBEq, Int.reduceBNe, Nat.reduceLT, Nat.reduceBEq, Int.reduceEq, Nat.reduceEqDiff, Nat.reduceAdd, Nat.reduceSub, Nat.reduceMul, Nat.reduceLeDiff, reduceCtorEq, ↓reduceIte, eGTuple, eGObj, eGSub]; done) | (simp -implicitDefEqProofs only [go_sem, Int.reduceToNat, Int.reduceLT, Int.reduceLE, Int.reduceBEq, Int.reduceBNe, Nat.reduceLT, Nat.reduceBEq, Int.reduceEq, Nat.reduceEqDiff, Nat.reduceAdd, Nat.reduceSub, Nat.reduceMul, Nat.reduceLeDiff, reduceCtorEq, ↓reduceIte, eGTuple, eGObj, eGSub]; rfl)) rfl (by intro h; first | rfl | cases h)
def ref1_Has (n : Nat) (l : List GTuple) (t : GTuple) : Option Bool :=
  (ref1_place n l t).bind fun t8 =>
  (if (decide (t8 < (l.length : Int))) then
    (idx l t8).bind fun x =>
    some ((x.obj.type_ == t.obj.type_) && ((x.obj.id_ == t.obj.id_) && ((x.rel == t.rel) && ((x.sub_.type_ == t.sub_.type_) && ((x.sub_.id_ == t.sub_.id_) && (x.sub_.rel == t.sub_.rel))))))
  else
    some false)
theorem ref1_Has_ok {n : Nat} {l : List GTuple} {t : GTuple} {r : Bool} (H : ref1_Has n l t = some r) : PureOK Try.prog 27 [D.sl (List.map eGTuple l), D.ag (eGTuple t)] (D.v (.bool r)) true := by
  unfold ref1_Has at H
  refine pure_runR (tab := tab) tab_ok Try.func27 rfl (by kernel_rfl) (by kernel_rfl) (by simp [Try.f27]) ?_
  refine runR_take tab_ok fol 1 ?_
  obtain ⟨t8, b1, H2⟩ := bind_inv H
  try simp -implicitDefEqProofs only [go_sem, Nat.reduceEqDiff, Nat.reduceAdd, reduceCtorEq, ↓reduceIte, eGTuple]
  refine onCall_pure (by first | rfl | (simp -implicitDefEqProofs only [go_sem, Int.reduceToNat, Int.reduceLT, Int.reduceLE, Int.reduceBEq, Int.reduceBNe, Nat.reduceLT, Nat.reduceBEq, Int.reduceEq, Nat.reduceEqDiff, Nat.reduceAdd, Nat.reduceSub, Nat.reduceMul, Nat.reduceLeDiff, reduceCtorEq, ↓reduceIte, eGTuple, eGObj, eGSub]; done) | (simp -implicitDefEqProofs only [go_sem, Int.reduceToNat, Int.reduceLT, Int.reduceLE, Int.reduceBEq, Int.reduceBNe, Nat.reduceLT, Nat.reduceBEq, Int.reduceEq, Nat.reduceEqDiff, Nat.reduceAdd, Nat.reduceSub, Nat.reduceMul, Nat.reduceLeDiff, reduceCtorEq, ↓reduceIte, eGTuple, eGObj, eGSub]; rfl)) (ref1_place_ok b1) (by first | exact .inr rfl | exact .inl rfl) ?_
  try simp -implicitDefEqProofs only [go_sem, Nat.reduceEqDiff, Nat.reduceAdd, reduceCtorEq, ↓reduceIte]
  rcases ite_inv H2 with ⟨c3, H4⟩ | ⟨c3, H4⟩
  · obtain ⟨x, b5, H6⟩ := bind_inv H4
    obtain ⟨h7, h8⟩ := idx_inv b5
    try simp only [Int.reduceToNat, Int.toNat_natCast] at h8
    have h9 := map_at eGTuple h8
    try simp -implicitDefEqProofs only [go_sem, Nat.reduceEqDiff, Nat.reduceAdd, reduceCtorEq, ↓reduceIte, eGTuple, c3, nat_of .i64 h7, h9]
    refine Rd_endF (by rfl) ?_
    try simp -implicitDefEqProofs only [go_sem]
    obtain rfl := Option.some.inj H6
    exact end_pure (by first | (simp -implicitDefEqProofs only [go_sem, ↓reduceIte, Try.f27] <;> rfl) | rfl) (by first | rfl | (simp -implicitDefEqProofs only [go_sem, Int.reduceToNat, Int.reduceLT, Int.reduceLE, Int.reduceBEq, Int.reduceBNe, Nat.reduceLT, Nat.reduceBEq, Int.reduceEq, Nat.reduceEqDiff, Nat.reduceAdd, Nat.reduceSub, Nat.reduceMul, Nat.reduceLeDiff, reduceCtorEq, ↓reduceIte, eGTuple, eGObj, eGSub, c3, nat_of .i64 h7, h9]; done) | (simp -implicitDefEqProofs only [go_sem, Int.reduceToNat, Int.reduceLT, Int.reduceLE, Int.reduceBEq, Int.reduceBNe, Nat.reduceLT, Nat.reduceBEq, Int.reduceEq, Nat.reduceEqDiff, Nat.reduceAdd, Nat.reduceSub, Nat.reduceMul, Nat.reduceLeDiff, reduceCtorEq, ↓reduceIte, eGTuple, eGObj, eGSub, c3, nat_of .i64 h7, h9]; rfl)) rfl (by intro h; first | rfl | cases h)
  · try simp -implicitDefEqProofs only [go_sem, Nat.reduceEqDiff, Nat.reduceAdd, ↓reduceIte, c3]
    refine Rd_endF (by rfl) ?_
    try simp -implicitDefEqProofs only [go_sem]
    obtain rfl := Option.some.inj H4
    exact end_pure (by first | (simp -implicitDefEqProofs only [go_sem, ↓reduceIte, Try.f27] <;> rfl) | rfl) (by first | rfl | (simp -implicitDefEqProofs only [go_sem, Int.reduceToNat, Int.reduceLT, Int.reduceLE, Int.reduceBEq, Int.reduceBNe, Nat.reduceLT, Nat.reduceBEq, Int.reduceEq, Nat.reduceEqDiff, Nat.reduceAdd, Nat.reduceSub, Nat.reduceMul, Nat.reduceLeDiff, reduceCtorEq, ↓reduceIte, eGTuple, eGObj, eGSub, c3]; done) | (simp -implicitDefEqProofs only [go_sem, Int.reduceToNat, Int.reduceLT, Int.reduceLE, Int.reduceBEq, Int.reduceBNe, Nat.reduceLT, Nat.reduceBEq, Int.reduceEq, Nat.reduceEqDiff, Nat.reduceAdd, Nat.reduceSub, Nat.reduceMul, Nat.reduceLeDiff, reduceCtorEq, ↓reduceIte, eGTuple, eGObj, eGSub, c3]; rfl)) rfl (by intro h; first | rfl | cases h)
end Go.Proofs.Ytdckfddlcmkdlaa.Ab
