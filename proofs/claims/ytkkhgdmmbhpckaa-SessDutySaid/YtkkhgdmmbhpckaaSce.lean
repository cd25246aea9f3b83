/-
  Functions, read off the code.
-/
import Derived.Test.YtkkhgdmmbhpckaaScd
namespace Go.Proofs.Ytkkhgdmmbhpckaa.Ab
open Go.RowKit
def ref1_Texts_L1 (n : Nat) (t19 : List ByteArray) (t25 : List ByteArray) : Nat → (List ByteArray × Int × Int) → Option (List ByteArray)
  | 0, _ => none
  | c + 1, (t5, t6, t7) =>
    (
      (if (decide (t6 < (t19.length : Int))) then
        some true
      else
        some (decide (t7 < (t25.length : Int)))) : Option (Bool)).bind fun t352 =>
    (if t352 then
      (
        (if (t7 == (t25.length : Int)) then
          some true
        else
          (if (decide (t6 < (t19.length : Int))) then
            (idx t19 t6).bind fun x7 =>
            (idx t25 t7).bind fun x8 =>
            some (Op.bytesLess x7.toList x8.toList)
          else
            some false)) : Option (Bool)).bind fun t382 =>
      (if t382 then
        (idx t19 t6).bind fun x9 =>
        (app t5 [x9]).bind fun l4 =>
        ref1_Texts_L1 n t19 t25 c (l4, (IntKind.i64.wrap (t6 + 1)), t7)
      else
        (if (t6 == (t19.length : Int)) then
          (idx t25 t7).bind fun x10 =>
          (app t5 [x10]).bind fun l5 =>
          ref1_Texts_L1 n t19 t25 c (l5, t6, (IntKind.i64.wrap (t7 + 1)))
        else
          (idx t25 t7).bind fun x11 =>
          (idx t19 t6).bind fun x12 =>
          (if (Op.bytesLess x11.toList x12.toList) then
            (app t5 [x11]).bind fun l6 =>
            ref1_Texts_L1 n t19 t25 c (l6, t6, (IntKind.i64.wrap (t7 + 1)))
          else
            ref1_Texts_L1 n t19 t25 c (t5, (IntKind.i64.wrap (t6 + 1)), t7))))
    else
      some t5)

def ref1_Texts : Nat → (List ByteArray) → Option (List ByteArray)
  | 0, _ => none
  | n + 1, t0 =>
    (if (decide ((t0.length : Int) < 2)) then
      (app [] t0).bind fun _ =>
      some t0
    else
      (slc t0 0 (IntKind.i64.wrap (Int.tdiv (t0.length : Int) 2))).bind fun l2 =>
      ((ref1_Texts n) l2).bind fun t19 =>
      (slc t0 (IntKind.i64.wrap (Int.tdiv (t0.length : Int) 2)) ((List.length t0) : Int)).bind fun l3 =>
      ((ref1_Texts n) l3).bind fun t25 =>
      (
        ref1_Texts_L1 n t19 t25 n ([], 0, 0) : Option (List ByteArray)).bind fun t53 =>
      some t53)
set_option maxHeartbeats 8000000 in
theorem ref1_Texts_ok : ∀ {n : Nat} {t0 : List ByteArray} {r : List ByteArray}, ref1_Texts n t0 = some r → PureOK Try.prog 25 [D.sl (List.map eS t0)] (D.sl (List.map eS r)) true := by
  intro n
  induction n with
  | zero => intro t0 r H; exact nomatch (show none = some _ from H)
  | succ n ih =>
    intro t0 r H
    unfold ref1_Texts at H
    refine pure_runR (tab := tab) tab_ok Try.func25 rfl (by kernel_rfl) (by kernel_rfl) (by simp [Try.f25]) ?_
    refine runR_seq ?_
    refine runR_take tab_ok fol 1 ?_
    try simp -implicitDefEqProofs only [go_sem]
    refine runR_seq ?_
    refine runR_take tab_ok fol 1 ?_
    try simp -implicitDefEqProofs only [go_sem, Nat.reduceAdd, reduceCtorEq, ↓reduceIte]
    rcases ite_inv H with ⟨c1, H2⟩ | ⟨c1, H2⟩
    · obtain ⟨l, b3, H4⟩ := bind_inv H2
      obtain ⟨h5, h6⟩ := app_inv b3
      have h6 : t0 = l := h6
      subst h6
      have h5 : t0.length ≤ 4294967296 := by have := h5; simpa using this
      try simp -implicitDefEqProofs only [go_sem, Nat.reduceLT, Nat.reduceEqDiff, Nat.reduceAdd, Nat.reduceLeDiff, reduceCtorEq, ↓reduceIte, c1, plainR_map (f := eS) (fun _ => rfl) t0, chk_map (n := 1) (f := eS) (fun _ => rfl) t0, h5, List.take_zero]
      obtain rfl := Option.some.inj H4
      exact end_pure (by simp -implicitDefEqProofs only [go_sem, ↓reduceIte, Try.f25] <;> rfl) (by simp -implicitDefEqProofs only [go_sem, ↓reduceIte]; rfl) rfl (by intro h; rfl)
    · try simp -implicitDefEqProofs only [go_sem, c1]
      refine runR_seq ?_
      refine runR_take tab_ok fol 1 ?_
      obtain ⟨l2, b9, H10⟩ := bind_inv H2
      obtain ⟨h11, h12, h13, h14⟩ := slc_inv b9
      have h15 : 0 ≤ Int.toNat (IntKind.i64.wrap (Int.tdiv (t0.length : Int) 2)) := by omega
      have h16 : Int.toNat (IntKind.i64.wrap (Int.tdiv (t0.length : Int) 2)) ≤ (List.length t0) := by omega
      have h17 : List.take (Int.toNat (IntKind.i64.wrap (Int.tdiv (t0.length : Int) 2))) (List.map eS t0) = List.map eS l2 := by rw [h14]; simp [List.map_take]
      try simp only [Int.toNat_natCast] at h15 h16 h17
      obtain ⟨t19, b18, H19⟩ := bind_inv H10
      try simp -implicitDefEqProofs only [go_sem, Int.reduceEq, Nat.reduceEqDiff, Nat.reduceAdd, reduceCtorEq, ↓reduceIte, nat_of .i64 (Int.le_trans h11 h12), h15, h16, h17, chk_map (n := 1) (f := eS) (fun _ => rfl) t0]
      refine onCallD_pure (by rfl) (ih b18) (by exact .inr rfl) ?_
      obtain ⟨l3, b20, H21⟩ := bind_inv H19
      obtain ⟨h22, h23, h24, h25⟩ := slc_inv b20
      have h26 : Int.toNat (IntKind.i64.wrap (Int.tdiv (t0.length : Int) 2)) ≤ (List.length t0) := by omega
      have h27 : (List.length t0) ≤ (List.length t0) := by omega
      have h28 : List.drop (Int.toNat (IntKind.i64.wrap (Int.tdiv (t0.length : Int) 2))) (List.map eS t0) = List.map eS l3 := by rw [h25]; simp [List.map_drop]
      try simp only [Int.toNat_natCast] at h26 h27 h28
      obtain ⟨t25, b29, H30⟩ := bind_inv H21
      try simp -implicitDefEqProofs only [go_sem, Bool.false_and, Int.reduceEq, Nat.reduceEqDiff, Nat.reduceAdd, reduceCtorEq, ↓reduceIte, nat_of .i64 (Int.le_trans h11 h12), h16, h27, h28, chk_map (n := 1) (f := eS) (fun _ => rfl) t0]
      refine onCallD_pure (by rfl) (ih b29) (by exact .inr rfl) ?_
      try simp -implicitDefEqProofs only [go_sem, Bool.false_and, Nat.reduceEqDiff, Nat.reduceAdd, ↓reduceIte]
      refine Rd_endF (by rfl) ?_
      try simp -implicitDefEqProofs only [go_sem]
      refine runR_seq ?_
      refine runR_take tab_ok fol 1 ?_
      try simp -implicitDefEqProofs only [go_sem, Nat.reduceAdd]
      refine runR_seq ?_
      refine runR_take tab_ok fol 1 ?_
      try simp -implicitDefEqProofs only [go_sem, Nat.reduceAdd]
      refine runR_seq ?_
      obtain ⟨e_, E31, H32⟩ := bind_inv H30
      refine runR_join (α := { y : List ByteArray // e_ = y } × Nat) (fun | ⟨⟨t53, _⟩, g5⟩ => ⟨upd 5 (accV 0 g5 (List.map eS t53)) noFr, upd 0 (accO 1 g5 false (List.map eS t53)) noHp, 1⟩) ?_ ?_
      · refine runR_block ?_
        refine runR_loop (α := { q : (Nat × (List ByteArray × Int × Int)) × Nat // ref1_Texts_L1 n t19 t25 q.1.1 q.1.2 = some e_ }) (fun | ⟨⟨⟨c, ⟨t5, t6, t7⟩⟩, g⟩, _⟩ => ⟨upd 3 (.d (.sl (List.map eS t19)) false) (upd 4 (.d (.sl (List.map eS t25)) false) (upd 5 (accV 0 g (List.map eS t5)) (upd 6 (.v (.int .i64 t6)) (upd 7 (.v (.int .i64 t7)) noFr)))), upd 0 (accO 1 g false (List.map eS t5)) noHp, 1⟩) (fun q => q.1.1.1) ⟨((n, ([], 0, 0)), 0), E31⟩ ?_ ?_
        · exact ren_mk [] (by rfl) (rf_upd (by rfl) (rf_upd (by rfl) (rf_upd (by rfl) (rf_upd (by rfl) (rf_upd (by rfl) (rf_no _)))))) (rh_upd rh_accN (rh_no _))
        · rintro ⟨⟨⟨c, ⟨t5, t6, t7⟩⟩, g⟩, L33⟩
          rcases c with _ | c
          · exact nomatch (show none = some _ from L33)
          · unfold ref1_Texts_L1 at L33
            try dsimp only at L33
            refine runR_seq ?_
            refine runR_seq ?_
            obtain ⟨e_4, E90, H91⟩ := bind_inv L33
            refine runR_join (α := { y : Bool // e_4 = y } × Nat) (fun | ⟨⟨t352, _⟩, g2⟩ => ⟨upd 3 (.d (.sl (List.map eS t19)) false) (upd 4 (.d (.sl (List.map eS t25)) false) (upd 5 (accV 0 g2 (List.map eS t5)) (upd 6 (.v (.int .i64 t6)) (upd 7 (.v (.int .i64 t7)) (upd 35 (.v (.bool t352)) noFr))))), upd 0 (accO 1 g2 false (List.map eS t5)) noHp, 1⟩) ?_ ?_
            · refine runR_take tab_ok fol 1 ?_
              try simp -implicitDefEqProofs only [go_sem, Nat.reduceEqDiff, Nat.reduceAdd, ↓reduceIte]
              rcases ite_inv E90 with ⟨c92, H93⟩ | ⟨c92, H93⟩
              · try simp -implicitDefEqProofs only [go_sem, Nat.reduceEqDiff, Nat.reduceAdd, ↓reduceIte, c92]
                obtain rfl := Option.some.inj H93
                exact ⟨⟨⟨true, rfl⟩, g⟩, ren_mk [(0, 0)] (by rfl) (rf_upd (by rfl) (rf_upd (by rfl) (rf_upd (ren_acc (by rfl)) (rf_upd (by rfl) (rf_upd (by rfl) (rf_upd (by rfl) (rf_no _))))))) (rh_upd (rh_acc (by rfl) (by rfl)) (rh_no _))⟩
              · try simp -implicitDefEqProofs only [go_sem, Nat.reduceEqDiff, Nat.reduceAdd, ↓reduceIte, c92]
                obtain rfl := Option.some.inj H93
                exact ⟨⟨⟨(decide (t7 < (t25.length : Int))), rfl⟩, g⟩, ren_mk [(0, 0)] (by rfl) (rf_upd (by rfl) (rf_upd (by rfl) (rf_upd (ren_acc (by rfl)) (rf_upd (by rfl) (rf_upd (by rfl) (rf_upd (by rfl) (rf_no _))))))) (rh_upd (rh_acc (by rfl) (by rfl)) (rh_no _))⟩
            · rintro ⟨⟨t352, he169⟩, g2⟩
              replace he169 := he169.symm
              subst he169
              try dsimp only at H91
              refine runR_take tab_ok fol 1 ?_
              try simp -implicitDefEqProofs only [go_sem, Nat.reduceEqDiff, ↓reduceIte]
              rcases ite_inv H91 with ⟨c94, H95⟩ | ⟨c94, H95⟩
              · try simp -implicitDefEqProofs only [go_sem, c94]
                refine runR_block ?_
                refine runR_block ?_
                refine runR_seq ?_
                obtain ⟨e_5, E96, H97⟩ := bind_inv H95
                refine runR_join (α := { y : Bool // e_5 = y } × Nat) (fun | ⟨⟨t382, _⟩, g3⟩ => ⟨upd 3 (.d (.sl (List.map eS t19)) false) (upd 4 (.d (.sl (List.map eS t25)) false) (upd 5 (accV 0 g3 (List.map eS t5)) (upd 6 (.v (.int .i64 t6)) (upd 7 (.v (.int .i64 t7)) (upd 38 (.v (.bool t382)) noFr))))), upd 0 (accO 1 g3 false (List.map eS t5)) noHp, 1⟩) ?_ ?_
                · refine runR_take tab_ok fol 1 ?_
                  try simp -implicitDefEqProofs only [go_sem, Nat.reduceEqDiff, Nat.reduceAdd, ↓reduceIte]
                  rcases ite_inv E96 with ⟨c98, H99⟩ | ⟨c98, H99⟩
                  · try simp -implicitDefEqProofs only [go_sem, Nat.reduceEqDiff, Nat.reduceAdd, ↓reduceIte, c98]
                    refine Rd_endF (by rfl) ?_
                    try simp -implicitDefEqProofs only [go_sem]
                    obtain rfl := Option.some.inj H99
                    exact ⟨⟨⟨true, rfl⟩, g2⟩, ren_mk [(0, 0)] (by rfl) (rf_upd (by rfl) (rf_upd (by rfl) (rf_upd (ren_acc (by rfl)) (rf_upd (by rfl) (rf_upd (by rfl) (rf_upd (by rfl) (rf_no _))))))) (rh_upd (rh_acc (by rfl) (by rfl)) (rh_no _))⟩
                  · try simp -implicitDefEqProofs only [go_sem, Nat.reduceEqDiff, Nat.reduceAdd, ↓reduceIte, c98]
                    rcases ite_inv H99 with ⟨c100, H101⟩ | ⟨c100, H101⟩
                    · obtain ⟨x7, b102, H103⟩ := bind_inv H101
                      obtain ⟨h104, h105⟩ := idx_inv b102
                      try simp only [Int.reduceToNat, Int.toNat_natCast] at h105
                      have h106 := map_at eS h105
                      obtain ⟨x8, b108, H109⟩ := bind_inv H103
                      obtain ⟨h110, h111⟩ := idx_inv b108
                      try simp only [Int.reduceToNat, Int.toNat_natCast] at h111
                      have h112 := map_at eS h111
                      try simp -implicitDefEqProofs only [go_sem, Nat.reduceEqDiff, Nat.reduceAdd, ↓reduceIte, c100, nat_of .i64 h104, h106, nat_of .i64 h110, h112]
                      refine Rd_endF (by rfl) ?_
                      try simp -implicitDefEqProofs only [go_sem]
                      obtain rfl := Option.some.inj H109
                      exact ⟨⟨⟨(Op.bytesLess x7.toList x8.toList), rfl⟩, g2⟩, ren_mk [(0, 0)] (by rfl) (rf_upd (by rfl) (rf_upd (by rfl) (rf_upd (ren_acc (by rfl)) (rf_upd (by rfl) (rf_upd (by rfl) (rf_upd (by rfl) (rf_no _))))))) (rh_upd (rh_acc (by rfl) (by rfl)) (rh_no _))⟩
                    · try simp -implicitDefEqProofs only [go_sem, Nat.reduceEqDiff, Nat.reduceAdd, ↓reduceIte, c100]
                      refine Rd_endF (by rfl) ?_
                      try simp -implicitDefEqProofs only [go_sem]
                      obtain rfl := Option.some.inj H101
                      exact ⟨⟨⟨false, rfl⟩, g2⟩, ren_mk [(0, 0)] (by rfl) (rf_upd (by rfl) (rf_upd (by rfl) (rf_upd (ren_acc (by rfl)) (rf_upd (by rfl) (rf_upd (by rfl) (rf_upd (by rfl) (rf_no _))))))) (rh_upd (rh_acc (by rfl) (by rfl)) (rh_no _))⟩
                · rintro ⟨⟨t382, he168⟩, g3⟩
                  replace he168 := he168.symm
                  subst he168
                  try dsimp only at H97
                  refine runR_take tab_ok fol 3 ?_
                  try simp -implicitDefEqProofs only [go_sem, Nat.reduceEqDiff, ↓reduceIte]
                  rcases ite_inv H97 with ⟨c114, H115⟩ | ⟨c114, H115⟩
                  · obtain ⟨x9, b116, H117⟩ := bind_inv H115
                    obtain ⟨h118, h119⟩ := idx_inv b116
                    try simp only [Int.reduceToNat, Int.toNat_natCast] at h119
                    have h120 := map_at eS h119
                    obtain ⟨l4, b122, H123⟩ := bind_inv H117
                    obtain ⟨h124, h125⟩ := app_inv b122
                    have h124 : t5.length + 1 ≤ 4294967296 := h124
                    have h126 : List.map eS t5 ++ [[.v (.string x9)]] = List.map eS l4 := app_map eS h125
                    have h127 : t5.length + 1 = l4.length := app_len h125
                    have h128 : l4.length ≤ 4294967296 := by omega
                    have q129 : 0 < l4.length := by omega
                    try simp -implicitDefEqProofs only [go_sem, Nat.reduceLT, Nat.reduceEqDiff, Nat.reduceAdd, Nat.reduceLeDiff, reduceCtorEq, ↓reduceIte, c114, nat_of .i64 h118, h120, h126, h127, h128]
                    rcases t5 with _ | ⟨q0, q1⟩
                    · try simp only [List.map_nil, accI, accN]
                      exact ⟨⟨((c, (l4, (IntKind.i64.wrap (t6 + 1)), t7)), 0), H123⟩, ren_mk [(0, 7)] (by rfl) (rf_upd (by rfl) (rf_upd (by rfl) (rf_upd (by exact ren_accP (by rfl) q129) (rf_upd (by rfl) (rf_upd (by rfl) (rf_no _)))))) (rh_upd (by exact rh_accP (by rfl) q129 (by rfl)) (rh_no _)), Nat.lt_succ_self _⟩
                    · try simp only [List.map_cons, accI, accN]
                      exact ⟨⟨((c, (l4, (IntKind.i64.wrap (t6 + 1)), t7)), (g3 + 1)), H123⟩, ren_mk [(0, 0)] (by rfl) (rf_upd (by rfl) (rf_upd (by rfl) (rf_upd (by exact ren_accP (by rfl) q129) (rf_upd (by rfl) (rf_upd (by rfl) (rf_no _)))))) (rh_upd (by exact rh_accP (by rfl) q129 (by rfl)) (rh_no _)), Nat.lt_succ_self _⟩
                  · try simp -implicitDefEqProofs only [go_sem, Nat.reduceEqDiff, Nat.reduceAdd, ↓reduceIte, c114]
                    rcases ite_inv H115 with ⟨c130, H131⟩ | ⟨c130, H131⟩
                    · try simp -implicitDefEqProofs only [go_sem, Nat.reduceEqDiff, Nat.reduceAdd, ↓reduceIte, c130]
                      refine Rd_endF (by rfl) ?_
                      obtain ⟨x10, b132, H133⟩ := bind_inv H131
                      obtain ⟨h134, h135⟩ := idx_inv b132
                      try simp only [Int.reduceToNat, Int.toNat_natCast] at h135
                      have h136 := map_at eS h135
                      obtain ⟨l5, b138, H139⟩ := bind_inv H133
                      obtain ⟨h140, h141⟩ := app_inv b138
                      have h140 : t5.length + 1 ≤ 4294967296 := h140
                      have h142 : List.map eS t5 ++ [[.v (.string x10)]] = List.map eS l5 := app_map eS h141
                      have h143 : t5.length + 1 = l5.length := app_len h141
                      have h144 : l5.length ≤ 4294967296 := by omega
                      have q145 : 0 < l5.length := by omega
                      try simp -implicitDefEqProofs only [go_sem, Nat.reduceLT, Nat.reduceEqDiff, Nat.reduceAdd, Nat.reduceLeDiff, reduceCtorEq, ↓reduceIte, nat_of .i64 h134, h136, h142, h143, h144]
                      rcases t5 with _ | ⟨q0, q1⟩
                      · try simp only [List.map_nil, accI, accN]
                        exact ⟨⟨((c, (l5, t6, (IntKind.i64.wrap (t7 + 1)))), 0), H139⟩, ren_mk [(0, 23)] (by rfl) (rf_upd (by rfl) (rf_upd (by rfl) (rf_upd (by exact ren_accP (by rfl) q145) (rf_upd (by rfl) (rf_upd (by rfl) (rf_no _)))))) (rh_upd (by exact rh_accP (by rfl) q145 (by rfl)) (rh_no _)), Nat.lt_succ_self _⟩
                      · try simp only [List.map_cons, accI, accN]
                        exact ⟨⟨((c, (l5, t6, (IntKind.i64.wrap (t7 + 1)))), (g3 + 1)), H139⟩, ren_mk [(0, 0)] (by rfl) (rf_upd (by rfl) (rf_upd (by rfl) (rf_upd (by exact ren_accP (by rfl) q145) (rf_upd (by rfl) (rf_upd (by rfl) (rf_no _)))))) (rh_upd (by exact rh_accP (by rfl) q145 (by rfl)) (rh_no _)), Nat.lt_succ_self _⟩
                    · obtain ⟨x11, b146, H147⟩ := bind_inv H131
                      obtain ⟨h148, h149⟩ := idx_inv b146
                      try simp only [Int.reduceToNat, Int.toNat_natCast] at h149
                      have h150 := map_at eS h149
                      obtain ⟨x12, b152, H153⟩ := bind_inv H147
                      obtain ⟨h154, h155⟩ := idx_inv b152
                      try simp only [Int.reduceToNat, Int.toNat_natCast] at h155
                      have h156 := map_at eS h155
                      try simp -implicitDefEqProofs only [go_sem, Nat.reduceEqDiff, Nat.reduceAdd, ↓reduceIte, c130, nat_of .i64 h148, h150, nat_of .i64 h154, h156]
                      refine Rd_endF (by rfl) ?_
                      try simp -implicitDefEqProofs only [go_sem, ↓reduceIte]
                      rcases ite_inv H153 with ⟨c158, H159⟩ | ⟨c158, H159⟩
                      · obtain ⟨l6, b160, H161⟩ := bind_inv H159
                        obtain ⟨h162, h163⟩ := app_inv b160
                        have h162 : t5.length + 1 ≤ 4294967296 := h162
                        have h164 : List.map eS t5 ++ [[.v (.string x11)]] = List.map eS l6 := app_map eS h163
                        have h165 : t5.length + 1 = l6.length := app_len h163
                        have h166 : l6.length ≤ 4294967296 := by omega
                        have q167 : 0 < l6.length := by omega
                        try simp -implicitDefEqProofs only [go_sem, Nat.reduceLT, Nat.reduceEqDiff, Nat.reduceAdd, Nat.reduceLeDiff, reduceCtorEq, ↓reduceIte, nat_of .i64 h148, h150, c158, h164, h165, h166]
                        rcases t5 with _ | ⟨q0, q1⟩
                        · try simp only [List.map_nil, accI, accN]
                          exact ⟨⟨((c, (l6, t6, (IntKind.i64.wrap (t7 + 1)))), 0), H161⟩, ren_mk [(0, 23)] (by rfl) (rf_upd (by rfl) (rf_upd (by rfl) (rf_upd (by exact ren_accP (by rfl) q167) (rf_upd (by rfl) (rf_upd (by rfl) (rf_no _)))))) (rh_upd (by exact rh_accP (by rfl) q167 (by rfl)) (rh_no _)), Nat.lt_succ_self _⟩
                        · try simp only [List.map_cons, accI, accN]
                          exact ⟨⟨((c, (l6, t6, (IntKind.i64.wrap (t7 + 1)))), (g3 + 1)), H161⟩, ren_mk [(0, 0)] (by rfl) (rf_upd (by rfl) (rf_upd (by rfl) (rf_upd (by exact ren_accP (by rfl) q167) (rf_upd (by rfl) (rf_upd (by rfl) (rf_no _)))))) (rh_upd (by exact rh_accP (by rfl) q167 (by rfl)) (rh_no _)), Nat.lt_succ_self _⟩
                      · try simp -implicitDefEqProofs only [go_sem, Nat.reduceEqDiff, Nat.reduceAdd, ↓reduceIte, c158]
                        exact ⟨⟨((c, (t5, (IntKind.i64.wrap (t6 + 1)), t7)), g3), H159⟩, ren_mk [(0, 0)] (by rfl) (rf_upd (by rfl) (rf_upd (by rfl) (rf_upd (ren_acc (by rfl)) (rf_upd (by rfl) (rf_upd (by rfl) (rf_no _)))))) (rh_upd (rh_acc (by rfl) (by rfl)) (rh_no _)), Nat.lt_succ_self _⟩
              · try simp -implicitDefEqProofs only [go_sem, ↓reduceIte, c94]
                obtain rfl := Option.some.inj H95
                exact ⟨⟨⟨t5, rfl⟩, g2⟩, ren_mk [(0, 0)] (by rfl) (rf_upd (ren_acc (by rfl)) (rf_no _)) (rh_upd (rh_acc (by rfl) (by rfl)) (rh_no _))⟩
      · rintro ⟨⟨t53, he170⟩, g5⟩
        replace he170 := he170.symm
        subst he170
        try dsimp only at H32
        refine runR_take tab_ok fol 1 ?_
        try simp -implicitDefEqProofs only [go_sem, Nat.reduceAdd, ↓reduceIte]
        obtain rfl := Option.some.inj H32
        exact end_pure (by simp -implicitDefEqProofs only [go_sem, ↓reduceIte, Try.f25] <;> rfl) (by simp -implicitDefEqProofs only [go_sem, ↓reduceIte]; rfl) rfl (by intro h; rfl)
end Go.Proofs.Ytkkhgdmmbhpckaa.Ab
