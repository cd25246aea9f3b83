/-
  Functions, read off the code.
-/
import Derived.Test.YtjfpmgdbkhooeaaDoorLns
import Derived.Test.YtjfpmgdbkhooeaaDoorLta
namespace Go.Proofs.YtjfpmgdbkhooeaaDoor.Ab
open Go.RowKit
def law12_LineBack_L2 (n : Nat) (t0 : List (List Int)) (t5 : Int) : Nat → (List ByteArray × List GWord × Int × Int) → Option (List ByteArray × List GWord)
  | 0, _ => none
  | c + 1, (t64, t714, t83, t93) =>
    (
      (idx t0 t5).bind fun x14 =>
      (if (decide (t93 < (x14.length : Int))) then
        some (decide (t93 < 8))
      else
        some false) : Option (Bool)).bind fun t394 =>
    (if t394 then
      (idx t0 t5).bind fun x15 =>
      (idx x15 t93).bind fun x16 =>
      (idx ([{ data := #[97] }, { data := #[117, 115, 101, 114] }, { data := #[49] }, { data := #[120, 46, 121] }, { data := #[47, 97, 47, 98] }, { data := #[117, 58, 58, 114, 119, 45] }, { data := #[97, 35] }, { data := #[126] }] : List ByteArray) (IntKind.i64.wrap (an x16 7 : Int))).bind fun x17 =>
      (app t64 [x17]).bind fun l3 =>
      (app t714 [(⟨x17, t83⟩ : GWord)]).bind fun l4 =>
      law12_LineBack_L2 n t0 t5 c (l3, l4, (IntKind.i64.wrap ((IntKind.i64.wrap (t83 + (x17.size : Int))) + 1)), (IntKind.i64.wrap (t93 + 1)))
    else
      some (t64, t714))

def law12_LineBack_L1 (n : Nat) (t0 : List (List Int)) : Nat → (ByteArray × List GLine × Int) → Option (ByteArray × List GLine)
  | 0, _ => none
  | c + 1, (t3, t4, t5) =>
    (
      (if (decide (t5 < (t0.length : Int))) then
        some (decide (t5 < 12))
      else
        some false) : Option (Bool)).bind fun t212 =>
    (if t212 then
      (
        law12_LineBack_L2 n t0 t5 n ([], [], (t3.size : Int), 0) : Option (List ByteArray × List GWord)).bind fun (t66, t716) =>
      (line_Join n t66).bind fun t722 =>
      (cat t3 t722).bind fun s3 =>
      (idx ([{ data := #[10] }, { data := #[32, 35, 32, 110, 111, 116, 101, 10] }, { data := #[13, 10] }, { data := #[10, 10, 32, 35, 32, 120, 32, 121, 10] }] : List ByteArray) (IntKind.i64.wrap (an (t66.length : Int) 3 : Int))).bind fun x18 =>
      (cat s3 x18).bind fun s4 =>
      (if (decide (0 < (t66.length : Int))) then
        (if (decide (t716.length = 0)) then
          (app t4 [(⟨(t3.size : Int), []⟩ : GLine)]).bind fun l5 =>
          law12_LineBack_L1 n t0 c (s4, l5, (IntKind.i64.wrap (t5 + 1)))
        else
          (app t4 [(⟨(t3.size : Int), t716⟩ : GLine)]).bind fun l6 =>
          law12_LineBack_L1 n t0 c (s4, l6, (IntKind.i64.wrap (t5 + 1))))
      else
        law12_LineBack_L1 n t0 c (s4, t4, (IntKind.i64.wrap (t5 + 1))))
    else
      some (t3, t4))

def law12_LineBack (n : Nat) (t0 : List (List Int)) : Option Bool :=
  (
    law12_LineBack_L1 n t0 n ({ data := #[] }, [], 0) : Option (ByteArray × List GLine)).bind fun (t33, t43) =>
  (line_Lines n t33).bind fun t90 =>
  (if (t90.2.2 == 0) then
    (law12_Same n t90.1 t43).bind fun t99 =>
    (if t99 then
      (law12_awake n).bind fun t102 =>
      some t102
    else
      some false)
  else
    some false)
set_option maxHeartbeats 8000000 in
theorem law12_LineBack_ok {n : Nat} {t0 : List (List Int)} {r : Bool} (H : law12_LineBack n t0 = some r) : PureOK Tryd.prog 6 [D.sl (List.map (eL eI) t0)] (D.v (.bool r)) true := by
  unfold law12_LineBack at H
  refine ZP tab_ok fol (rs := #[.tmp 2]) Tryd.func6 ?_
  refine runR_seq ?_
  refine ZT 1 ?_
  refine Z0 ?_
  refine runR_seq ?_
  refine ZT 1 ?_
  refine Z0 ?_
  refine runR_seq ?_
  refine ZT 1 ?_
  refine Z0 ?_
  refine runR_seq ?_
  refine runR_seq ?_
  refine ZT 1 ?_
  refine Z0 ?_
  obtain ⟨e_, E1, H2⟩ := bind_inv H
  refine runR_join (α := { y : ByteArray × List GLine // e_ = y } × Nat) (fun | ⟨⟨⟨t33, t43⟩, _⟩, g26⟩ => ⟨upd 3 (.v (.string t33)) (upd 4 (accV 0 g26 (List.map eGLine t43)) noFr), upd 0 (accO 2 g26 false (List.map eGLine t43)) noHp, 1⟩) ?_ ?_
  · refine runR_block ?_
    refine runR_loop (α := { q : (Nat × (ByteArray × List GLine × Int)) × Nat // law12_LineBack_L1 n t0 q.1.1 q.1.2 = some e_ }) (fun | ⟨⟨⟨c, ⟨t3, t4, t5⟩⟩, g9⟩, _⟩ => ⟨upd 0 (.d (.sl (List.map (eL eI) t0)) true) (upd 3 (.v (.string t3)) (upd 4 (accV 0 g9 (List.map eGLine t4)) (upd 5 (.v (.int .i64 t5)) noFr))), upd 0 (accO 2 g9 false (List.map eGLine t4)) noHp, 1⟩) (fun q => q.1.1.1) ⟨((n, ({ data := #[] }, [], 0)), 0), E1⟩ ?_ ?_
    · exact ZR []
    · rintro ⟨⟨⟨c, ⟨t3, t4, t5⟩⟩, g9⟩, L3⟩
      rcases c with _ | c
      · exact nomatch (show none = some _ from L3)
      · unfold law12_LineBack_L1 at L3
        try dsimp only at L3
        refine runR_seq ?_
        refine runR_seq ?_
        obtain ⟨e_6, E119, H120⟩ := bind_inv L3
        refine runR_join (α := { y : Bool // e_6 = y } × Nat) (fun | ⟨⟨t212, _⟩, g10⟩ => ⟨upd 0 (.d (.sl (List.map (eL eI) t0)) true) (upd 3 (.v (.string t3)) (upd 4 (accV 0 g10 (List.map eGLine t4)) (upd 5 (.v (.int .i64 t5)) (upd 21 (.v (.bool t212)) noFr)))), upd 0 (accO 2 g10 false (List.map eGLine t4)) noHp, 1⟩) ?_ ?_
        · refine ZT 1 ?_
          refine Z0 ?_
          rcases ite_inv E119 with ⟨c121, H122⟩ | ⟨c121, H122⟩
          · refine Z1 c121 ?_
            obtain rfl := Zi H122
            exact ⟨⟨⟨(decide (t5 < 12)), rfl⟩, g9⟩, ZR [(0, 0)]⟩
          · refine Z1 c121 ?_
            obtain rfl := Zi H122
            exact ⟨⟨⟨false, rfl⟩, g9⟩, ZR [(0, 0)]⟩
        · rintro ⟨⟨t212, he247⟩, g10⟩
          replace he247 := he247.symm
          subst he247
          try dsimp only at H120
          refine ZT 1 ?_
          refine Z0 ?_
          rcases ite_inv H120 with ⟨c123, H124⟩ | ⟨c123, H124⟩
          · refine Z1 c123 ?_
            refine runR_seq ?_
            refine runR_block ?_
            refine runR_seq ?_
            refine ZT 1 ?_
            refine Z1 c123 ?_
            refine runR_seq ?_
            refine ZT 1 ?_
            refine Z1 c123 ?_
            refine runR_seq ?_
            refine ZT 1 ?_
            refine Z1 c123 ?_
            refine runR_seq ?_
            refine runR_seq ?_
            refine ZT 1 ?_
            refine Z1 c123 ?_
            obtain ⟨e_7, E125, H126⟩ := bind_inv H124
            refine runR_join (α := { y : List ByteArray × List GWord // e_7 = y } × Nat × Nat × Nat) (fun | ⟨⟨⟨t66, t716⟩, _⟩, ⟨g22, g23, g24⟩⟩ => ⟨upd 0 (.d (.sl (List.map (eL eI) t0)) true) (upd 3 (.v (.string t3)) (upd 4 (accV 0 g22 (List.map eGLine t4)) (upd 5 (.v (.int .i64 t5)) (upd 6 (accV 1 g23 (List.map eS t66)) (upd 7 (.pt 2 0) noFr))))), upd 0 (accO 2 g22 false (List.map eGLine t4)) (upd 1 (accO 1 g23 false (List.map eS t66)) (upd 2 (some (.bx [.v (.int .i64 (t3.size : Int)), accV 3 g24 (List.map eGWord t716)])) (upd 3 (accO 2 g24 false (List.map eGWord t716)) noHp))), 4⟩) ?_ ?_
            · refine runR_block ?_
              refine runR_loop (α := { q : (Nat × (List ByteArray × List GWord × Int × Int)) × Nat × Nat × Nat // law12_LineBack_L2 n t0 t5 q.1.1 q.1.2 = some e_7 }) (fun | ⟨⟨⟨c, ⟨t64, t714, t83, t93⟩⟩, ⟨g13, g14, g15⟩⟩, _⟩ => ⟨upd 0 (.d (.sl (List.map (eL eI) t0)) true) (upd 3 (.v (.string t3)) (upd 4 (accV 0 g13 (List.map eGLine t4)) (upd 5 (.v (.int .i64 t5)) (upd 6 (accV 1 g14 (List.map eS t64)) (upd 7 (.pt 2 0) (upd 8 (.v (.int .i64 t83)) (upd 9 (.v (.int .i64 t93)) noFr))))))), upd 0 (accO 2 g13 false (List.map eGLine t4)) (upd 1 (accO 1 g14 false (List.map eS t64)) (upd 2 (some (.bx [.v (.int .i64 (t3.size : Int)), accV 3 g15 (List.map eGWord t714)])) (upd 3 (accO 2 g15 false (List.map eGWord t714)) noHp))), 4⟩) (fun q => q.1.1.1) ⟨((n, ([], [], (t3.size : Int), 0)), (g10, 0, 0)), E125⟩ ?_ ?_
              · exact ZR [(0, 0), (2, 5)]
              · rintro ⟨⟨⟨c, ⟨t64, t714, t83, t93⟩⟩, ⟨g13, g14, g15⟩⟩, L127⟩
                rcases c with _ | c
                · exact nomatch (show none = some _ from L127)
                · unfold law12_LineBack_L2 at L127
                  try dsimp only at L127
                  refine runR_seq ?_
                  refine runR_seq ?_
                  obtain ⟨e_9, E159, H160⟩ := bind_inv L127
                  refine runR_join (α := { y : Bool // e_9 = y } × Nat × Nat × Nat) (fun | ⟨⟨t394, _⟩, ⟨g16, g17, g18⟩⟩ => ⟨upd 0 (.d (.sl (List.map (eL eI) t0)) true) (upd 3 (.v (.string t3)) (upd 4 (accV 0 g16 (List.map eGLine t4)) (upd 5 (.v (.int .i64 t5)) (upd 6 (accV 1 g17 (List.map eS t64)) (upd 7 (.pt 2 0) (upd 8 (.v (.int .i64 t83)) (upd 9 (.v (.int .i64 t93)) (upd 39 (.v (.bool t394)) noFr)))))))), upd 0 (accO 2 g16 false (List.map eGLine t4)) (upd 1 (accO 1 g17 false (List.map eS t64)) (upd 2 (some (.bx [.v (.int .i64 (t3.size : Int)), accV 3 g18 (List.map eGWord t714)])) (upd 3 (accO 2 g18 false (List.map eGWord t714)) noHp))), 4⟩) ?_ ?_
                  · refine ZT 1 ?_
                    obtain ⟨x14, b161, H162⟩ := bind_inv E159
                    obtain ⟨h163, h164⟩ := idx_inv b161
                    try simp only [Int.reduceToNat, Int.toNat_natCast] at h164
                    have h165 := map_at (eL eI) h164
                    refine Z1 (Y2 (nat_of .i64 h163) h165) ?_
                    rcases ite_inv H162 with ⟨c167, H168⟩ | ⟨c167, H168⟩
                    · refine Z1 (Y3 (nat_of .i64 h163) h165 c167) ?_
                      obtain rfl := Zi H168
                      exact ⟨⟨⟨(decide (t93 < 8)), rfl⟩, (g13, g14, g15)⟩, ZR [(0, 0), (1, 1), (2, 2), (3, 3)]⟩
                    · refine Z1 (Y3 (nat_of .i64 h163) h165 c167) ?_
                      obtain rfl := Zi H168
                      exact ⟨⟨⟨false, rfl⟩, (g13, g14, g15)⟩, ZR [(0, 0), (1, 1), (2, 2), (3, 3)]⟩
                  · rintro ⟨⟨t394, he205⟩, ⟨g16, g17, g18⟩⟩
                    replace he205 := he205.symm
                    subst he205
                    try dsimp only at H160
                    refine ZT 2 ?_
                    refine Z0 ?_
                    rcases ite_inv H160 with ⟨c169, H170⟩ | ⟨c169, H170⟩
                    · obtain ⟨x15, b171, H172⟩ := bind_inv H170
                      obtain ⟨h173, h174⟩ := idx_inv b171
                      try simp only [Int.reduceToNat, Int.toNat_natCast] at h174
                      have h175 := map_at (eL eI) h174
                      obtain ⟨x16, b177, H178⟩ := bind_inv H172
                      obtain ⟨h179, h180⟩ := idx_inv b177
                      try simp only [Int.reduceToNat, Int.toNat_natCast] at h180
                      have h181 := map_at eI h180
                      obtain ⟨x17, b183, H184⟩ := bind_inv H178
                      obtain ⟨h185, h186⟩ := idx_inv b183
                      try simp only [Int.reduceToNat, Int.toNat_natCast] at h186
                      have h187 := map_at eS h186
                      simp only [List.map_cons, List.map_nil, eS] at h187
                      have h188 := at_lt h186
                      simp only [List.length_cons, List.length_nil, Nat.reduceAdd] at h188
                      obtain ⟨l3, b189, H190⟩ := bind_inv H184
                      obtain ⟨h191, h192⟩ := app_inv b189
                      have h191 : t64.length + 1 ≤ 4294967296 := h191
                      have h193 : List.map eS t64 ++ [[.v (.string x17)]] = List.map eS l3 := app_map eS h192
                      have h194 : t64.length + 1 = l3.length := app_len h192
                      have h195 : l3.length ≤ 4294967296 := by omega
                      have q196 : 0 < l3.length := by omega
                      obtain ⟨l4, b197, H198⟩ := bind_inv H190
                      obtain ⟨h199, h200⟩ := app_inv b197
                      have h199 : t714.length + 1 ≤ 4294967296 := h199
                      have h201 : List.map eGWord t714 ++ [[.v (.string x17), .v (.int .i64 t83)]] = List.map eGWord l4 := app_map eGWord h200
                      have h202 : t714.length + 1 = l4.length := app_len h200
                      have h203 : l4.length ≤ 4294967296 := by omega
                      have q204 : 0 < l4.length := by omega
                      refine Z1 (Y3 (Y6 c169 (nat_of .i64 h173) h175 (nat_of .i64 h179) h181 (nat_of .i64 h185)) (Y6 h187 h188 h191 h193 h194 h195) (Y4 h199 h201 h202 h203)) ?_
                      rcases t64 with _ | ⟨q0, q1⟩
                      · try simp only [List.map_nil, accI, accN]
                        rcases t714 with _ | ⟨q0, q1⟩
                        · try simp only [List.map_nil, accI, accN]
                          exact ⟨⟨((c, (l3, l4, (IntKind.i64.wrap ((IntKind.i64.wrap (t83 + (x17.size : Int))) + 1)), (IntKind.i64.wrap (t93 + 1)))), (g16, 0, 0)), H198⟩, ZR [(0, 0), (1, 19), (2, 2), (3, 27)], Nat.lt_succ_self _⟩
                        · try simp only [List.map_cons, accI, accN]
                          exact ⟨⟨((c, (l3, l4, (IntKind.i64.wrap ((IntKind.i64.wrap (t83 + (x17.size : Int))) + 1)), (IntKind.i64.wrap (t93 + 1)))), (g16, 0, (g18 + 1))), H198⟩, ZR [(0, 0), (1, 19), (2, 2), (3, 3)], Nat.lt_succ_self _⟩
                      · try simp only [List.map_cons, accI, accN]
                        rcases t714 with _ | ⟨q0, q1⟩
                        · try simp only [List.map_nil, accI, accN]
                          exact ⟨⟨((c, (l3, l4, (IntKind.i64.wrap ((IntKind.i64.wrap (t83 + (x17.size : Int))) + 1)), (IntKind.i64.wrap (t93 + 1)))), (g16, (g17 + 1), 0)), H198⟩, ZR [(0, 0), (1, 1), (2, 2), (3, 27)], Nat.lt_succ_self _⟩
                        · try simp only [List.map_cons, accI, accN]
                          exact ⟨⟨((c, (l3, l4, (IntKind.i64.wrap ((IntKind.i64.wrap (t83 + (x17.size : Int))) + 1)), (IntKind.i64.wrap (t93 + 1)))), (g16, (g17 + 1), (g18 + 1))), H198⟩, ZR [(0, 0), (1, 1), (2, 2), (3, 3)], Nat.lt_succ_self _⟩
                    · refine Z1 c169 ?_
                      obtain rfl := Zi H170
                      exact ⟨⟨⟨(t64, t714), rfl⟩, (g16, g17, g18)⟩, ZR [(0, 0), (1, 1), (2, 2), (3, 3)]⟩
            · rintro ⟨⟨⟨t66, t716⟩, he246⟩, ⟨g22, g23, g24⟩⟩
              replace he246 := he246.symm
              subst he246
              try dsimp only at H126
              refine ZT 3 ?_
              obtain ⟨t722, b206, H207⟩ := bind_inv H126
              refine Z0 ?_
              refine ZD0 (line_Join_ok b206) ?_
              obtain ⟨s3, b208, H209⟩ := bind_inv H207
              obtain ⟨h210, h211⟩ := cat_inv b208
              obtain ⟨x18, b212, H213⟩ := bind_inv H209
              obtain ⟨h214, h215⟩ := idx_inv b212
              try simp only [Int.reduceToNat, Int.toNat_natCast] at h215
              have h216 := map_at eS h215
              simp only [List.map_cons, List.map_nil, eS] at h216
              have h217 := at_lt h215
              simp only [List.length_cons, List.length_nil, Nat.reduceAdd] at h217
              obtain ⟨s4, b218, H219⟩ := bind_inv H213
              obtain ⟨h220, h221⟩ := cat_inv b218
              refine Z1 (Y2 (Y6 h210 h211 (nat_of .i64 h214) h216 h217 h220) h221) ?_
              refine Rd_endF (by cases t66 <;> rfl) ?_
              refine Z1 (Y2 (Y6 h210 h211 (nat_of .i64 h214) h216 h217 h220) h221) ?_
              rcases ite_inv H219 with ⟨c222, H223⟩ | ⟨c222, H223⟩
              · refine Z1 (Y2 (Y6 h210 h211 (nat_of .i64 h214) h216 h217 h220) (Y2 h221 c222)) ?_
                rcases ite_inv H223 with ⟨c224, H225⟩ | ⟨c224, H225⟩
                · have e226 : t716 = [] := List.eq_nil_of_length_eq_zero (of_decide_eq_true c224)
                  subst e226
                  simp only [List.map_nil, accV_nil, accO_nil]
                  try simp only [accK, accB]
                  obtain ⟨l5, b227, H228⟩ := bind_inv H225
                  obtain ⟨h229, h230⟩ := app_inv b227
                  have h229 : t4.length + 1 ≤ 4294967296 := h229
                  have h231 : List.map eGLine t4 ++ [[.v (.int .i64 (t3.size : Int)), .sl []]] = List.map eGLine l5 := app_map eGLine h230
                  have h232 : t4.length + 1 = l5.length := app_len h230
                  have h233 : l5.length ≤ 4294967296 := by omega
                  have q234 : 0 < l5.length := by omega
                  refine Z1 (Y2 (Y6 h210 h211 (nat_of .i64 h214) h216 h217 h220) (Y6 h221 c222 h229 h231 h232 h233)) ?_
                  rcases t4 with _ | ⟨q0, q1⟩
                  · try simp only [List.map_nil, accI, accN]
                    exact ⟨⟨((c, (s4, l5, (IntKind.i64.wrap (t5 + 1)))), 0), H228⟩, ZR [(0, 22)], Nat.lt_succ_self _⟩
                  · try simp only [List.map_cons, accI, accN]
                    exact ⟨⟨((c, (s4, l5, (IntKind.i64.wrap (t5 + 1)))), (g22 + 1)), H228⟩, ZR [(0, 0)], Nat.lt_succ_self _⟩
                · have q235 : 0 < t716.length := by have := of_decide_eq_false c224; omega
                  have h236 : ∀ i, accK i (List.map eGWord t716) = [i] := fun i => by cases hx : t716 with | nil => (rw [hx] at q235; simp at q235) | cons a r => rfl
                  have h237 : ∀ b, accB b (List.map eGWord t716) = b := fun b => by cases hx : t716 with | nil => (rw [hx] at q235; simp at q235) | cons a r => rfl
                  obtain ⟨l6, b238, H239⟩ := bind_inv H225
                  obtain ⟨h240, h241⟩ := app_inv b238
                  have h240 : t4.length + 1 ≤ 4294967296 := h240
                  have h242 : List.map eGLine t4 ++ [[.v (.int .i64 (t3.size : Int)), .sl (List.map eGWord t716)]] = List.map eGLine l6 := app_map eGLine h241
                  have h243 : t4.length + 1 = l6.length := app_len h241
                  have h244 : l6.length ≤ 4294967296 := by omega
                  have q245 : 0 < l6.length := by omega
                  refine Z1 (Y3 (Y6 h210 h211 (nat_of .i64 h214) h216 h217 h220) (Y6 h221 c222 c224 h236 h237 q235) (Y6 (YV (f := eGWord) q235) (YO (f := eGWord) q235) h240 h242 h243 h244)) ?_
                  rcases t4 with _ | ⟨q0, q1⟩
                  · try simp only [List.map_nil, accI, accN]
                    exact ⟨⟨((c, (s4, l6, (IntKind.i64.wrap (t5 + 1)))), 0), H239⟩, ZR [(0, 22)], Nat.lt_succ_self _⟩
                  · try simp only [List.map_cons, accI, accN]
                    exact ⟨⟨((c, (s4, l6, (IntKind.i64.wrap (t5 + 1)))), (g22 + 1)), H239⟩, ZR [(0, 0)], Nat.lt_succ_self _⟩
              · refine Z1 (Y2 (Y6 h210 h211 (nat_of .i64 h214) h216 h217 h220) (Y2 h221 c222)) ?_
                exact ⟨⟨((c, (s4, t4, (IntKind.i64.wrap (t5 + 1)))), g22), H223⟩, ZR [(0, 0)], Nat.lt_succ_self _⟩
          · refine Z1 c123 ?_
            obtain rfl := Zi H124
            exact ⟨⟨⟨(t3, t4), rfl⟩, g10⟩, ZR [(0, 0)]⟩
  · rintro ⟨⟨⟨t33, t43⟩, he258⟩, g26⟩
    replace he258 := he258.symm
    subst he258
    try dsimp only at H2
    refine ZT 1 ?_
    obtain ⟨t90, b248, H249⟩ := bind_inv H2
    refine Z0 ?_
    refine ZC0 (line_Lines_ok b248) ?_
    refine Z0 ?_
    rcases ite_inv H249 with ⟨c250, H251⟩ | ⟨c250, H251⟩
    · obtain ⟨t99, b252, H253⟩ := bind_inv H251
      refine Z1 c250 ?_
      refine ZC1 c250 (law12_Same_ok b252) ?_
      refine Z1 c250 ?_
      rcases ite_inv H253 with ⟨c254, H255⟩ | ⟨c254, H255⟩
      · obtain ⟨t102, b256, H257⟩ := bind_inv H255
        refine Z1 (Y2 c250 c254) ?_
        refine ZC0 (law12_awake_ok b256) ?_
        refine Z1 (Y2 c250 c254) ?_
        obtain rfl := Zi H257
        exact ZE0
      · refine Z1 (Y2 c250 c254) ?_
        obtain rfl := Zi H255
        exact ZE0
    · refine Z1 c250 ?_
      obtain rfl := Zi H251
      exact ZE0
end Go.Proofs.YtjfpmgdbkhooeaaDoor.Ab
