/-
  Functions, read off the code.
-/
import Derived.Test.YtedgdpncienjiaaRss
import Derived.Test.YtedgdpncienjiaaRle
import Derived.Test.YtedgdpncienjiaaOlm
namespace Go.Proofs.Ytedgdpncienjiaa.Ab
open Go.RowKit
def ref1_Of_L1 (n : Nat) (t19 : List GTuple) (t25 : List GTuple) : Nat → (List GTuple × Int × Int) → Option (List GTuple)
  | 0, _ => none
  | c + 1, (t5, t6, t7) =>
    (
      (if (decide (t6 < (t19.length : Int))) then
        some true
      else
        some (decide (t7 < (t25.length : Int)))) : Option (Bool)).bind fun t352 =>
    (if t352 then
      (
        (if (t7 == (t25.length : Int)) then
          some true
        else
          (if (decide (t6 < (t19.length : Int))) then
            (idx t19 t6).bind fun x7 =>
            (idx t25 t7).bind fun x8 =>
            (ref1_Less n x7 x8).bind fun t572 =>
            some t572
          else
            some false)) : Option (Bool)).bind fun t382 =>
      (if t382 then
        (idx t19 t6).bind fun x9 =>
        (app t5 [x9]).bind fun l4 =>
        ref1_Of_L1 n t19 t25 c (l4, (IntKind.i64.wrap (t6 + 1)), t7)
      else
        (if (t6 == (t19.length : Int)) then
          (idx t25 t7).bind fun x10 =>
          (app t5 [x10]).bind fun l5 =>
          ref1_Of_L1 n t19 t25 c (l5, t6, (IntKind.i64.wrap (t7 + 1)))
        else
          (idx t25 t7).bind fun x11 =>
          (idx t19 t6).bind fun x12 =>
          (ref1_Less n x11 x12).bind fun t832 =>
          (if t832 then
            (app t5 [x11]).bind fun l6 =>
            ref1_Of_L1 n t19 t25 c (l6, t6, (IntKind.i64.wrap (t7 + 1)))
          else
            ref1_Of_L1 n t19 t25 c (t5, (IntKind.i64.wrap (t6 + 1)), t7))))
    else
      some t5)

def ref1_Of : Nat → (List GTuple) → Option (List GTuple)
  | 0, _ => none
  | n + 1, t0 =>
    (if (decide ((t0.length : Int) < 2)) then
      (app [] t0).bind fun l =>
      some t0
    else
      (slc t0 0 (IntKind.i64.wrap (Int.tdiv (t0.length : Int) 2))).bind fun l2 =>
      ((ref1_Of n) l2).bind fun t19 =>
      (slc t0 (IntKind.i64.wrap (Int.tdiv (t0.length : Int) 2)) ((List.length t0) : Int)).bind fun l3 =>
      ((ref1_Of n) l3).bind fun t25 =>
      (
        ref1_Of_L1 n t19 t25 n ([], 0, 0) : Option (List GTuple)).bind fun t53 =>
      some t53)
set_option maxHeartbeats 8000000 in
theorem ref1_Of_ok : ∀ {n : Nat} {t0 : List GTuple} {r : List GTuple}, ref1_Of n t0 = some r → PureOK Try.prog 17 [D.sl (List.map eGTuple t0)] (D.sl (List.map eGTuple r)) true := by
  intro n
  induction n with
  | zero => intro t0 r H; exact nomatch (show none = some _ from H)
  | succ n ih =>
    intro t0 r H
    unfold ref1_Of at H
    refine ZP tab_ok fol (rs := #[.tmp 2]) Try.func17 ?_
    refine runR_seq ?_
    refine ZT 1 ?_
    refine Z0 ?_
    refine runR_seq ?_
    refine ZT 1 ?_
    refine Z0 ?_
    rcases ite_inv H with ⟨c1, H2⟩ | ⟨c1, H2⟩
    · obtain ⟨l, b3, H4⟩ := bind_inv H2
      obtain ⟨h5, h6⟩ := app_inv b3
      have h6 : t0 = l := h6
      subst h6
      have h5 : t0.length ≤ 4294967296 := by have := h5; simpa using this
      refine Z1 (Y4 c1 (plainR_map (f := eGTuple) (fun _ => rfl) t0) (chk_map (n := 6) (f := eGTuple) (fun _ => rfl) t0) h5) ?_
      obtain rfl := Zi H4
      exact ZE1 (Y4 c1 (plainR_map (f := eGTuple) (fun _ => rfl) t0) (chk_map (n := 6) (f := eGTuple) (fun _ => rfl) t0) h5)
    · refine Z1 c1 ?_
      refine runR_seq ?_
      refine ZT 1 ?_
      obtain ⟨l2, b9, H10⟩ := bind_inv H2
      obtain ⟨h11, h12, h13, h14⟩ := slc_inv b9
      have h15 : 0 ≤ Int.toNat (IntKind.i64.wrap (Int.tdiv (t0.length : Int) 2)) := by omega
      have h16 : Int.toNat (IntKind.i64.wrap (Int.tdiv (t0.length : Int) 2)) ≤ (List.length t0) := by omega
      have h17 : List.take (Int.toNat (IntKind.i64.wrap (Int.tdiv (t0.length : Int) 2))) (List.map eGTuple t0) = List.map eGTuple l2 := by rw [h14]; simp [List.map_drop, List.map_take]
      try simp only [Int.toNat_natCast] at h15 h16 h17
      obtain ⟨t19, b18, H19⟩ := bind_inv H10
      refine Z1 (Y6 c1 (nat_of .i64 (Int.le_trans h11 h12)) h15 h16 h17 (chk_map (n := 6) (f := eGTuple) (fun _ => rfl) t0)) ?_
      refine ZD0 (ih b18) ?_
      obtain ⟨l3, b20, H21⟩ := bind_inv H19
      obtain ⟨h22, h23, h24, h25⟩ := slc_inv b20
      have h26 : Int.toNat (IntKind.i64.wrap (Int.tdiv (t0.length : Int) 2)) ≤ (List.length t0) := by omega
      have h27 : (List.length t0) ≤ (List.length t0) := by omega
      have h28 : List.drop (Int.toNat (IntKind.i64.wrap (Int.tdiv (t0.length : Int) 2))) (List.map eGTuple t0) = List.map eGTuple l3 := by rw [h25]; simp [List.map_drop, List.map_take]
      try simp only [Int.toNat_natCast] at h26 h27 h28
      obtain ⟨t25, b29, H30⟩ := bind_inv H21
      refine Z1 (Y2 (Y6 c1 (nat_of .i64 (Int.le_trans h11 h12)) h15 h16 h17 (chk_map (n := 6) (f := eGTuple) (fun _ => rfl) t0)) (Y4 (nat_of .i64 h22) h26 h27 h28)) ?_
      refine ZD0 (ih b29) ?_
      refine Z1 (Y2 (Y6 c1 (nat_of .i64 (Int.le_trans h11 h12)) h15 h16 h17 (chk_map (n := 6) (f := eGTuple) (fun _ => rfl) t0)) (Y4 (nat_of .i64 h22) h26 h27 h28)) ?_
      refine Rd_endF (by rfl) ?_
      refine Z1 (Y2 (Y6 c1 (nat_of .i64 (Int.le_trans h11 h12)) h15 h16 h17 (chk_map (n := 6) (f := eGTuple) (fun _ => rfl) t0)) (Y4 (nat_of .i64 h22) h26 h27 h28)) ?_
      refine runR_seq ?_
      refine ZT 1 ?_
      refine Z1 (Y2 (Y6 c1 (nat_of .i64 (Int.le_trans h11 h12)) h15 h16 h17 (chk_map (n := 6) (f := eGTuple) (fun _ => rfl) t0)) (Y4 (nat_of .i64 h22) h26 h27 h28)) ?_
      refine runR_seq ?_
      refine ZT 1 ?_
      refine Z1 (Y2 (Y6 c1 (nat_of .i64 (Int.le_trans h11 h12)) h15 h16 h17 (chk_map (n := 6) (f := eGTuple) (fun _ => rfl) t0)) (Y4 (nat_of .i64 h22) h26 h27 h28)) ?_
      refine runR_seq ?_
      obtain ⟨e_, E31, H32⟩ := bind_inv H30
      refine runR_join (α := { y : List GTuple // e_ = y } × Nat) (fun | ⟨⟨t53, _⟩, g5⟩ => ⟨upd 5 (accV 0 g5 (List.map eGTuple t53)) noFr, upd 0 (accO 6 g5 false (List.map eGTuple t53)) noHp, 1⟩) ?_ ?_
      · refine runR_block ?_
        refine runR_loop (α := { q : (Nat × (List GTuple × Int × Int)) × Nat // ref1_Of_L1 n t19 t25 q.1.1 q.1.2 = some e_ }) (fun | ⟨⟨⟨c, ⟨t5, t6, t7⟩⟩, g⟩, _⟩ => ⟨upd 3 (.d (.sl (List.map eGTuple t19)) false) (upd 4 (.d (.sl (List.map eGTuple t25)) false) (upd 5 (accV 0 g (List.map eGTuple t5)) (upd 6 (.v (.int .i64 t6)) (upd 7 (.v (.int .i64 t7)) noFr)))), upd 0 (accO 6 g false (List.map eGTuple t5)) noHp, 1⟩) (fun q => q.1.1.1) ⟨((n, ([], 0, 0)), 0), E31⟩ ?_ ?_
        · exact ZR []
        · rintro ⟨⟨⟨c, ⟨t5, t6, t7⟩⟩, g⟩, L33⟩
          rcases c with _ | c
          · exact nomatch (show none = some _ from L33)
          · unfold ref1_Of_L1 at L33
            try dsimp only at L33
            refine runR_seq ?_
            refine runR_seq ?_
            obtain ⟨e_4, E94, H95⟩ := bind_inv L33
            refine runR_join (α := { y : Bool // e_4 = y } × Nat) (fun | ⟨⟨t352, _⟩, g2⟩ => ⟨upd 3 (.d (.sl (List.map eGTuple t19)) false) (upd 4 (.d (.sl (List.map eGTuple t25)) false) (upd 5 (accV 0 g2 (List.map eGTuple t5)) (upd 6 (.v (.int .i64 t6)) (upd 7 (.v (.int .i64 t7)) (upd 35 (.v (.bool t352)) noFr))))), upd 0 (accO 6 g2 false (List.map eGTuple t5)) noHp, 1⟩) ?_ ?_
            · refine ZT 1 ?_
              refine Z0 ?_
              rcases ite_inv E94 with ⟨c96, H97⟩ | ⟨c96, H97⟩
              · refine Z1 c96 ?_
                obtain rfl := Zi H97
                exact ⟨⟨⟨true, rfl⟩, g⟩, ZR [(0, 0)]⟩
              · refine Z1 c96 ?_
                obtain rfl := Zi H97
                exact ⟨⟨⟨(decide (t7 < (t25.length : Int))), rfl⟩, g⟩, ZR [(0, 0)]⟩
            · rintro ⟨⟨t352, he177⟩, g2⟩
              replace he177 := he177.symm
              subst he177
              try dsimp only at H95
              refine ZT 1 ?_
              refine Z0 ?_
              rcases ite_inv H95 with ⟨c98, H99⟩ | ⟨c98, H99⟩
              · refine Z1 c98 ?_
                refine runR_block ?_
                refine runR_block ?_
                refine runR_seq ?_
                obtain ⟨e_5, E100, H101⟩ := bind_inv H99
                refine runR_join (α := { y : Bool // e_5 = y } × Nat) (fun | ⟨⟨t382, _⟩, g3⟩ => ⟨upd 3 (.d (.sl (List.map eGTuple t19)) false) (upd 4 (.d (.sl (List.map eGTuple t25)) false) (upd 5 (accV 0 g3 (List.map eGTuple t5)) (upd 6 (.v (.int .i64 t6)) (upd 7 (.v (.int .i64 t7)) (upd 38 (.v (.bool t382)) noFr))))), upd 0 (accO 6 g3 false (List.map eGTuple t5)) noHp, 1⟩) ?_ ?_
                · refine ZT 1 ?_
                  refine Z0 ?_
                  rcases ite_inv E100 with ⟨c102, H103⟩ | ⟨c102, H103⟩
                  · refine Z1 c102 ?_
                    refine Rd_endF (by rfl) ?_
                    refine Z1 c102 ?_
                    obtain rfl := Zi H103
                    exact ⟨⟨⟨true, rfl⟩, g2⟩, ZR [(0, 0)]⟩
                  · refine Z1 c102 ?_
                    rcases ite_inv H103 with ⟨c104, H105⟩ | ⟨c104, H105⟩
                    · obtain ⟨x7, b106, H107⟩ := bind_inv H105
                      obtain ⟨h108, h109⟩ := idx_inv b106
                      try simp only [Int.reduceToNat, Int.toNat_natCast] at h109
                      have h110 := map_at eGTuple h109
                      obtain ⟨x8, b112, H113⟩ := bind_inv H107
                      obtain ⟨h114, h115⟩ := idx_inv b112
                      try simp only [Int.reduceToNat, Int.toNat_natCast] at h115
                      have h116 := map_at eGTuple h115
                      obtain ⟨t572, b118, H119⟩ := bind_inv H113
                      refine Z1 (Y6 c102 c104 (nat_of .i64 h108) h110 (nat_of .i64 h114) h116) ?_
                      refine ZD0 (ref1_Less_ok b118) ?_
                      refine Z1 (Y6 c102 c104 (nat_of .i64 h108) h110 (nat_of .i64 h114) h116) ?_
                      refine Rd_endF (by rfl) ?_
                      refine Z1 (Y6 c102 c104 (nat_of .i64 h108) h110 (nat_of .i64 h114) h116) ?_
                      obtain rfl := Zi H119
                      exact ⟨⟨⟨t572, rfl⟩, g2⟩, ZR [(0, 0)]⟩
                    · refine Z1 (Y2 c102 c104) ?_
                      refine Rd_endF (by rfl) ?_
                      refine Z1 (Y2 c102 c104) ?_
                      obtain rfl := Zi H105
                      exact ⟨⟨⟨false, rfl⟩, g2⟩, ZR [(0, 0)]⟩
                · rintro ⟨⟨t382, he176⟩, g3⟩
                  replace he176 := he176.symm
                  subst he176
                  try dsimp only at H101
                  refine ZT 3 ?_
                  refine Z0 ?_
                  rcases ite_inv H101 with ⟨c120, H121⟩ | ⟨c120, H121⟩
                  · obtain ⟨x9, b122, H123⟩ := bind_inv H121
                    obtain ⟨h124, h125⟩ := idx_inv b122
                    try simp only [Int.reduceToNat, Int.toNat_natCast] at h125
                    have h126 := map_at eGTuple h125
                    obtain ⟨l4, b128, H129⟩ := bind_inv H123
                    obtain ⟨h130, h131⟩ := app_inv b128
                    have h130 : t5.length + 1 ≤ 4294967296 := h130
                    have h132 : List.map eGTuple t5 ++ [[.v (.string x9.obj.type_), .v (.string x9.obj.id_), .v (.string x9.rel), .v (.string x9.sub_.type_), .v (.string x9.sub_.id_), .v (.string x9.sub_.rel)]] = List.map eGTuple l4 := app_map eGTuple h131
                    have h133 : t5.length + 1 = l4.length := app_len h131
                    have h134 : l4.length ≤ 4294967296 := by omega
                    have q135 : 0 < l4.length := by omega
                    refine Z1 (Y2 (Y6 c120 (nat_of .i64 h124) h126 h130 h132 h133) h134) ?_
                    rcases t5 with _ | ⟨q0, q1⟩
                    · try simp only [List.map_nil, accI, accN]
                      exact ⟨⟨((c, (l4, (IntKind.i64.wrap (t6 + 1)), t7)), 0), H129⟩, ZR [(0, 7)], Nat.lt_succ_self _⟩
                    · try simp only [List.map_cons, accI, accN]
                      exact ⟨⟨((c, (l4, (IntKind.i64.wrap (t6 + 1)), t7)), (g3 + 1)), H129⟩, ZR [(0, 0)], Nat.lt_succ_self _⟩
                  · refine Z1 c120 ?_
                    rcases ite_inv H121 with ⟨c136, H137⟩ | ⟨c136, H137⟩
                    · refine Z1 (Y2 c120 c136) ?_
                      refine Rd_endF (by rfl) ?_
                      obtain ⟨x10, b138, H139⟩ := bind_inv H137
                      obtain ⟨h140, h141⟩ := idx_inv b138
                      try simp only [Int.reduceToNat, Int.toNat_natCast] at h141
                      have h142 := map_at eGTuple h141
                      obtain ⟨l5, b144, H145⟩ := bind_inv H139
                      obtain ⟨h146, h147⟩ := app_inv b144
                      have h146 : t5.length + 1 ≤ 4294967296 := h146
                      have h148 : List.map eGTuple t5 ++ [[.v (.string x10.obj.type_), .v (.string x10.obj.id_), .v (.string x10.rel), .v (.string x10.sub_.type_), .v (.string x10.sub_.id_), .v (.string x10.sub_.rel)]] = List.map eGTuple l5 := app_map eGTuple h147
                      have h149 : t5.length + 1 = l5.length := app_len h147
                      have h150 : l5.length ≤ 4294967296 := by omega
                      have q151 : 0 < l5.length := by omega
                      refine Z1 (Y2 (Y6 c120 c136 (nat_of .i64 h140) h142 h146 h148) (Y2 h149 h150)) ?_
                      rcases t5 with _ | ⟨q0, q1⟩
                      · try simp only [List.map_nil, accI, accN]
                        exact ⟨⟨((c, (l5, t6, (IntKind.i64.wrap (t7 + 1)))), 0), H145⟩, ZR [(0, 23)], Nat.lt_succ_self _⟩
                      · try simp only [List.map_cons, accI, accN]
                        exact ⟨⟨((c, (l5, t6, (IntKind.i64.wrap (t7 + 1)))), (g3 + 1)), H145⟩, ZR [(0, 0)], Nat.lt_succ_self _⟩
                    · obtain ⟨x11, b152, H153⟩ := bind_inv H137
                      obtain ⟨h154, h155⟩ := idx_inv b152
                      try simp only [Int.reduceToNat, Int.toNat_natCast] at h155
                      have h156 := map_at eGTuple h155
                      obtain ⟨x12, b158, H159⟩ := bind_inv H153
                      obtain ⟨h160, h161⟩ := idx_inv b158
                      try simp only [Int.reduceToNat, Int.toNat_natCast] at h161
                      have h162 := map_at eGTuple h161
                      obtain ⟨t832, b164, H165⟩ := bind_inv H159
                      refine Z1 (Y6 c120 c136 (nat_of .i64 h154) h156 (nat_of .i64 h160) h162) ?_
                      refine ZD0 (ref1_Less_ok b164) ?_
                      refine Z1 (Y6 c120 c136 (nat_of .i64 h154) h156 (nat_of .i64 h160) h162) ?_
                      refine Rd_endF (by rfl) ?_
                      refine Z1 (Y6 c120 c136 (nat_of .i64 h154) h156 (nat_of .i64 h160) h162) ?_
                      rcases ite_inv H165 with ⟨c166, H167⟩ | ⟨c166, H167⟩
                      · obtain ⟨l6, b168, H169⟩ := bind_inv H167
                        obtain ⟨h170, h171⟩ := app_inv b168
                        have h170 : t5.length + 1 ≤ 4294967296 := h170
                        have h172 : List.map eGTuple t5 ++ [[.v (.string x11.obj.type_), .v (.string x11.obj.id_), .v (.string x11.rel), .v (.string x11.sub_.type_), .v (.string x11.sub_.id_), .v (.string x11.sub_.rel)]] = List.map eGTuple l6 := app_map eGTuple h171
                        have h173 : t5.length + 1 = l6.length := app_len h171
                        have h174 : l6.length ≤ 4294967296 := by omega
                        have q175 : 0 < l6.length := by omega
                        refine Z1 (Y2 (Y6 c120 c136 (nat_of .i64 h154) h156 (nat_of .i64 h160) h162) (Y5 c166 h170 h172 h173 h174)) ?_
                        rcases t5 with _ | ⟨q0, q1⟩
                        · try simp only [List.map_nil, accI, accN]
                          exact ⟨⟨((c, (l6, t6, (IntKind.i64.wrap (t7 + 1)))), 0), H169⟩, ZR [(0, 23)], Nat.lt_succ_self _⟩
                        · try simp only [List.map_cons, accI, accN]
                          exact ⟨⟨((c, (l6, t6, (IntKind.i64.wrap (t7 + 1)))), (g3 + 1)), H169⟩, ZR [(0, 0)], Nat.lt_succ_self _⟩
                      · refine Z1 (Y2 (Y6 c120 c136 (nat_of .i64 h154) h156 (nat_of .i64 h160) h162) c166) ?_
                        exact ⟨⟨((c, (t5, (IntKind.i64.wrap (t6 + 1)), t7)), g3), H167⟩, ZR [(0, 0)], Nat.lt_succ_self _⟩
              · refine Z1 c98 ?_
                obtain rfl := Zi H99
                exact ⟨⟨⟨t5, rfl⟩, g2⟩, ZR [(0, 0)]⟩
      · rintro ⟨⟨t53, he178⟩, g5⟩
        replace he178 := he178.symm
        subst he178
        try dsimp only at H32
        refine ZT 1 ?_
        refine Z0 ?_
        obtain rfl := Zi H32
        exact ZE0
def ref1_place_L1 (n : Nat) (l : List GTuple) (t : GTuple) : Nat → (Int × Int) → Option (Int)
  | 0, _ => none
  | c + 1, (lo, hi2) =>
    (if (decide (lo < hi2)) then
      (idx l (IntKind.i64.wrap (Int.tdiv (IntKind.i64.wrap (lo + hi2)) 2))).bind fun x2 =>
      (ref1_Less n x2 t).bind fun t222 =>
      (if t222 then
        ref1_place_L1 n l t c ((IntKind.i64.wrap ((IntKind.i64.wrap (Int.tdiv (IntKind.i64.wrap (lo + hi2)) 2)) + 1)), hi2)
      else
        ref1_place_L1 n l t c (lo, (IntKind.i64.wrap (Int.tdiv (IntKind.i64.wrap (lo + hi2)) 2))))
    else
      some lo)

def ref1_place (n : Nat) (l : List GTuple) (t : GTuple) : Option Int :=
  (
    ref1_place_L1 n l t n (0, (l.length : Int)) : Option (Int)).bind fun lo3 =>
  some lo3
theorem ref1_place_ok {n : Nat} {l : List GTuple} {t : GTuple} {r : Int} (H : ref1_place n l t = some r) : PureOK Try.prog 27 [D.sl (List.map eGTuple l), D.ag (eGTuple t)] (D.v (.int .i64 r)) true := by
  unfold ref1_place at H
  refine ZP tab_ok fol (rs := #[.tmp 4]) Try.func27 ?_
  refine runR_seq ?_
  refine ZT 1 ?_
  refine Z0 ?_
  refine runR_seq ?_
  refine ZT 1 ?_
  refine Z0 ?_
  refine runR_seq ?_
  obtain ⟨e_, E1, H2⟩ := bind_inv H
  refine runR_join (α := { y : Int // e_ = y }) (fun | ⟨lo3, _⟩ => ⟨upd 5 (.v (.int .i64 lo3)) noFr, noHp, 0⟩) ?_ ?_
  · refine runR_block ?_
    refine runR_loop (α := { q : Nat × (Int × Int) // ref1_place_L1 n l t q.1 q.2 = some e_ }) (fun | ⟨⟨c, ⟨lo, hi2⟩⟩, _⟩ => ⟨upd 0 (.d (.sl (List.map eGTuple l)) true) (upd 3 (.pt 0 0) (upd 5 (.v (.int .i64 lo)) (upd 6 (.v (.int .i64 hi2)) noFr))), upd 0 (some (.bx [.v (.string t.obj.type_), .v (.string t.obj.id_), .v (.string t.rel), .v (.string t.sub_.type_), .v (.string t.sub_.id_), .v (.string t.sub_.rel)])) noHp, 1⟩) (fun q => q.1.1) ⟨(n, (0, (l.length : Int))), E1⟩ ?_ ?_
    · exact ZR [(0, 0)]
    · rintro ⟨⟨c, ⟨lo, hi2⟩⟩, L3⟩
      rcases c with _ | c
      · exact nomatch (show none = some _ from L3)
      · unfold ref1_place_L1 at L3
        try dsimp only at L3
        refine ZT 1 ?_
        refine Z0 ?_
        rcases ite_inv L3 with ⟨c16, H17⟩ | ⟨c16, H17⟩
        · obtain ⟨x2, b18, H19⟩ := bind_inv H17
          obtain ⟨h20, h21⟩ := idx_inv b18
          try simp only [Int.reduceToNat, Int.toNat_natCast] at h21
          have h22 := map_at eGTuple h21
          obtain ⟨t222, b24, H25⟩ := bind_inv H19
          refine Z1 (Y3 c16 (nat_of .i64 h20) h22) ?_
          refine ZD0 (ref1_Less_ok b24) ?_
          refine Z1 (Y3 c16 (nat_of .i64 h20) h22) ?_
          refine Rd_endF (by rfl) ?_
          refine Z1 (Y3 c16 (nat_of .i64 h20) h22) ?_
          rcases ite_inv H25 with ⟨c26, H27⟩ | ⟨c26, H27⟩
          · refine Z1 (Y4 c16 (nat_of .i64 h20) h22 c26) ?_
            exact ⟨⟨(c, ((IntKind.i64.wrap ((IntKind.i64.wrap (Int.tdiv (IntKind.i64.wrap (lo + hi2)) 2)) + 1)), hi2)), H27⟩, ZR [(0, 0)], Nat.lt_succ_self _⟩
          · refine Z1 (Y4 c16 (nat_of .i64 h20) h22 c26) ?_
            exact ⟨⟨(c, (lo, (IntKind.i64.wrap (Int.tdiv (IntKind.i64.wrap (lo + hi2)) 2)))), H27⟩, ZR [(0, 0)], Nat.lt_succ_self _⟩
        · refine Z1 c16 ?_
          obtain rfl := Zi H17
          exact ⟨⟨lo, rfl⟩, ZR []⟩
  · rintro ⟨lo3, he28⟩
    replace he28 := he28.symm
    subst he28
    try dsimp only at H2
    refine ZT 1 ?_
    refine Z0 ?_
    obtain rfl := Zi H2
    exact ZE0
def ref1_Has (n : Nat) (l : List GTuple) (t : GTuple) : Option Bool :=
  (ref1_place n l t).bind fun t8 =>
  (if (decide (t8 < (l.length : Int))) then
    (idx l t8).bind fun x =>
    some ((x.obj.type_ == t.obj.type_) && ((x.obj.id_ == t.obj.id_) && ((x.rel == t.rel) && ((x.sub_.type_ == t.sub_.type_) && ((x.sub_.id_ == t.sub_.id_) && (x.sub_.rel == t.sub_.rel))))))
  else
    some false)
theorem ref1_Has_ok {n : Nat} {l : List GTuple} {t : GTuple} {r : Bool} (H : ref1_Has n l t = some r) : PureOK Try.prog 18 [D.sl (List.map eGTuple l), D.ag (eGTuple t)] (D.v (.bool r)) true := by
  unfold ref1_Has at H
  refine ZP tab_ok fol (rs := #[.tmp 4]) Try.func18 ?_
  refine ZT 1 ?_
  obtain ⟨t8, b1, H2⟩ := bind_inv H
  refine Z0 ?_
  refine ZC0 (ref1_place_ok b1) ?_
  refine Z0 ?_
  rcases ite_inv H2 with ⟨c3, H4⟩ | ⟨c3, H4⟩
  · obtain ⟨x, b5, H6⟩ := bind_inv H4
    obtain ⟨h7, h8⟩ := idx_inv b5
    try simp only [Int.reduceToNat, Int.toNat_natCast] at h8
    have h9 := map_at eGTuple h8
    refine Z1 (Y3 c3 (nat_of .i64 h7) h9) ?_
    refine Rd_endF (by rfl) ?_
    refine Z1 (Y3 c3 (nat_of .i64 h7) h9) ?_
    obtain rfl := Zi H6
    exact ZE0
  · refine Z1 c3 ?_
    refine Rd_endF (by rfl) ?_
    refine Z1 c3 ?_
    obtain rfl := Zi H4
    exact ZE0
def ref1_Minus_L1 (n : Nat) (t10 : List GTuple) (t12 : List GTuple) : Nat → (List GTuple × Int) → Option (List GTuple)
  | 0, _ => none
  | c + 1, (out, i) =>
    (if (decide (i < (t10.length : Int))) then
      (idx t10 i).bind fun x2 =>
      (ref1_Has n t12 x2).bind fun t242 =>
      (if t242 then
        ref1_Minus_L1 n t10 t12 c (out, (IntKind.i64.wrap (i + 1)))
      else
        (app out [x2]).bind fun l2 =>
        ref1_Minus_L1 n t10 t12 c (l2, (IntKind.i64.wrap (i + 1))))
    else
      some out)
def ref1_Minus_L1_f (n : Nat) (t10 : List GTuple) (t12 : List GTuple) (st : List GTuple) (x2 : GTuple) (k : List GTuple → Option (List GTuple)) : Option (List GTuple) :=
  match st with
  | out =>
    (ref1_Has n t12 x2).bind fun t242 =>
    (if t242 then
      k out
    else
      (app out [x2]).bind fun l2 =>
      k l2)
def ref1_Minus_L1_e (n : Nat) (t10 : List GTuple) (t12 : List GTuple) (st : List GTuple) : Option (List GTuple) :=
  match st with
  | out => some out
theorem ref1_Minus_L1_list (n : Nat) (t10 : List GTuple) (t12 : List GTuple) (hx : t10.length < 4611686018427387904) (c : Nat) (st : List GTuple) (ix : Nat) (hi : ix ≤ t10.length) (hc : t10.length - ix < c) : ref1_Minus_L1 n t10 t12 c (match st, (ix : Int) with | out, ix => (out, ix)) = foldK (ref1_Minus_L1_f n t10 t12) (ref1_Minus_L1_e n t10 t12) (t10.drop ix) st :=
  loop_list (fun c st ix => ref1_Minus_L1 n t10 t12 c (match st, ix with | out, ix => (out, ix))) t10 (ref1_Minus_L1_f n t10 t12) (ref1_Minus_L1_e n t10 t12) (fun _ _ _ => rfl) hx c st ix hi hc

def ref1_Minus (n : Nat) (a : List GTuple) (l : List GTuple) : Option (List GTuple) :=
  (ref1_Of n a).bind fun t10 =>
  (ref1_Of n l).bind fun t12 =>
  (
    ref1_Minus_L1 n t10 t12 n ([], 0) : Option (List GTuple)).bind fun out3 =>
  some out3
theorem ref1_Minus_ok {n : Nat} {a : List GTuple} {l : List GTuple} {r : List GTuple} (H : ref1_Minus n a l = some r) : PureOK Try.prog 7 [D.sl (List.map eGTuple a), D.sl (List.map eGTuple l)] (D.sl (List.map eGTuple r)) true := by
  unfold ref1_Minus at H
  refine ZP tab_ok fol (rs := #[.tmp 4]) Try.func7 ?_
  refine runR_seq ?_
  refine ZT 1 ?_
  refine Z0 ?_
  refine runR_seq ?_
  refine ZT 1 ?_
  obtain ⟨t10, b1, H2⟩ := bind_inv H
  refine Z0 ?_
  refine ZC0 (ref1_Of_ok b1) ?_
  obtain ⟨t12, b3, H4⟩ := bind_inv H2
  refine Z0 ?_
  refine ZC0 (ref1_Of_ok b3) ?_
  refine Z0 ?_
  refine runR_seq ?_
  refine ZT 1 ?_
  refine Z0 ?_
  refine runR_seq ?_
  refine runR_seq ?_
  refine ZT 1 ?_
  refine Z0 ?_
  obtain ⟨e_, E5, H6⟩ := bind_inv H4
  refine runR_join (α := { y : List GTuple // e_ = y } × Nat) (fun | ⟨⟨out3, _⟩, g3⟩ => ⟨upd 7 (accV 0 g3 (List.map eGTuple out3)) noFr, upd 0 (accO 6 g3 false (List.map eGTuple out3)) noHp, 1⟩) ?_ ?_
  · refine runR_block ?_
    refine runR_loop (α := { q : (Nat × (List GTuple × Int)) × Nat // ref1_Minus_L1 n t10 t12 q.1.1 q.1.2 = some e_ }) (fun | ⟨⟨⟨c, ⟨out, i⟩⟩, g⟩, _⟩ => ⟨upd 5 (.d (.sl (List.map eGTuple t10)) false) (upd 6 (.d (.sl (List.map eGTuple t12)) false) (upd 7 (accV 0 g (List.map eGTuple out)) (upd 8 (.v (.int .i64 i)) noFr))), upd 0 (accO 6 g false (List.map eGTuple out)) noHp, 1⟩) (fun q => q.1.1.1) ⟨((n, ([], 0)), 0), E5⟩ ?_ ?_
    · exact ZR []
    · rintro ⟨⟨⟨c, ⟨out, i⟩⟩, g⟩, L7⟩
      rcases c with _ | c
      · exact nomatch (show none = some _ from L7)
      · unfold ref1_Minus_L1 at L7
        try dsimp only at L7
        refine ZT 1 ?_
        refine Z0 ?_
        rcases ite_inv L7 with ⟨c20, H21⟩ | ⟨c20, H21⟩
        · obtain ⟨x2, b22, H23⟩ := bind_inv H21
          obtain ⟨h24, h25⟩ := idx_inv b22
          try simp only [Int.reduceToNat, Int.toNat_natCast] at h25
          have h26 := map_at eGTuple h25
          obtain ⟨t242, b28, H29⟩ := bind_inv H23
          refine Z1 (Y3 c20 (nat_of .i64 h24) h26) ?_
          refine ZC0 (ref1_Has_ok b28) ?_
          refine Z1 (Y3 c20 (nat_of .i64 h24) h26) ?_
          rcases ite_inv H29 with ⟨c30, H31⟩ | ⟨c30, H31⟩
          · refine Z1 (Y4 c20 (nat_of .i64 h24) h26 c30) ?_
            exact ⟨⟨((c, (out, (IntKind.i64.wrap (i + 1)))), g), H31⟩, ZR [(0, 0)], Nat.lt_succ_self _⟩
          · obtain ⟨l2, b32, H33⟩ := bind_inv H31
            obtain ⟨h34, h35⟩ := app_inv b32
            have h34 : out.length + 1 ≤ 4294967296 := h34
            have h36 : List.map eGTuple out ++ [[.v (.string x2.obj.type_), .v (.string x2.obj.id_), .v (.string x2.rel), .v (.string x2.sub_.type_), .v (.string x2.sub_.id_), .v (.string x2.sub_.rel)]] = List.map eGTuple l2 := app_map eGTuple h35
            have h37 : out.length + 1 = l2.length := app_len h35
            have h38 : l2.length ≤ 4294967296 := by omega
            have q39 : 0 < l2.length := by omega
            refine Z1 (Y2 (Y6 c20 (nat_of .i64 h24) h26 c30 h34 h36) (Y2 h37 h38)) ?_
            rcases out with _ | ⟨q0, q1⟩
            · try simp only [List.map_nil, accI, accN]
              exact ⟨⟨((c, (l2, (IntKind.i64.wrap (i + 1)))), 0), H33⟩, ZR [(0, 18)], Nat.lt_succ_self _⟩
            · try simp only [List.map_cons, accI, accN]
              exact ⟨⟨((c, (l2, (IntKind.i64.wrap (i + 1)))), (g + 1)), H33⟩, ZR [(0, 0)], Nat.lt_succ_self _⟩
        · refine Z1 c20 ?_
          obtain rfl := Zi H21
          exact ⟨⟨⟨out, rfl⟩, g⟩, ZR [(0, 0)]⟩
  · rintro ⟨⟨out3, he40⟩, g3⟩
    replace he40 := he40.symm
    subst he40
    try dsimp only at H6
    refine ZT 1 ?_
    refine Z0 ?_
    obtain rfl := Zi H6
    exact ZE0
def ref1_Texts_L1 (n : Nat) (t19 : List ByteArray) (t25 : List ByteArray) : Nat → (List ByteArray × Int × Int) → Option (List ByteArray)
  | 0, _ => none
  | c + 1, (t5, t6, t7) =>
    (
      (if (decide (t6 < (t19.length : Int))) then
        some true
      else
        some (decide (t7 < (t25.length : Int)))) : Option (Bool)).bind fun t352 =>
    (if t352 then
      (
        (if (t7 == (t25.length : Int)) then
          some true
        else
          (if (decide (t6 < (t19.length : Int))) then
            (idx t19 t6).bind fun x7 =>
            (idx t25 t7).bind fun x8 =>
            some (Op.bytesLess x7.toList x8.toList)
          else
            some false)) : Option (Bool)).bind fun t382 =>
      (if t382 then
        (idx t19 t6).bind fun x9 =>
        (app t5 [x9]).bind fun l4 =>
        ref1_Texts_L1 n t19 t25 c (l4, (IntKind.i64.wrap (t6 + 1)), t7)
      else
        (if (t6 == (t19.length : Int)) then
          (idx t25 t7).bind fun x10 =>
          (app t5 [x10]).bind fun l5 =>
          ref1_Texts_L1 n t19 t25 c (l5, t6, (IntKind.i64.wrap (t7 + 1)))
        else
          (idx t25 t7).bind fun x11 =>
          (idx t19 t6).bind fun x12 =>
          (if (Op.bytesLess x11.toList x12.toList) then
            (app t5 [x11]).bind fun l6 =>
            ref1_Texts_L1 n t19 t25 c (l6, t6, (IntKind.i64.wrap (t7 + 1)))
          else
            ref1_Texts_L1 n t19 t25 c (t5, (IntKind.i64.wrap (t6 + 1)), t7))))
    else
      some t5)

def ref1_Texts : Nat → (List ByteArray) → Option (List ByteArray)
  | 0, _ => none
  | n + 1, t0 =>
    (if (decide ((t0.length : Int) < 2)) then
      (app [] t0).bind fun l =>
      some t0
    else
      (slc t0 0 (IntKind.i64.wrap (Int.tdiv (t0.length : Int) 2))).bind fun l2 =>
      ((ref1_Texts n) l2).bind fun t19 =>
      (slc t0 (IntKind.i64.wrap (Int.tdiv (t0.length : Int) 2)) ((List.length t0) : Int)).bind fun l3 =>
      ((ref1_Texts n) l3).bind fun t25 =>
      (
        ref1_Texts_L1 n t19 t25 n ([], 0, 0) : Option (List ByteArray)).bind fun t53 =>
      some t53)
set_option maxHeartbeats 8000000 in
theorem ref1_Texts_ok : ∀ {n : Nat} {t0 : List ByteArray} {r : List ByteArray}, ref1_Texts n t0 = some r → PureOK Try.prog 8 [D.sl (List.map eS t0)] (D.sl (List.map eS r)) true := by
  intro n
  induction n with
  | zero => intro t0 r H; exact nomatch (show none = some _ from H)
  | succ n ih =>
    intro t0 r H
    unfold ref1_Texts at H
    refine ZP tab_ok fol (rs := #[.tmp 2]) Try.func8 ?_
    refine runR_seq ?_
    refine ZT 1 ?_
    refine Z0 ?_
    refine runR_seq ?_
    refine ZT 1 ?_
    refine Z0 ?_
    rcases ite_inv H with ⟨c1, H2⟩ | ⟨c1, H2⟩
    · obtain ⟨l, b3, H4⟩ := bind_inv H2
      obtain ⟨h5, h6⟩ := app_inv b3
      have h6 : t0 = l := h6
      subst h6
      have h5 : t0.length ≤ 4294967296 := by have := h5; simpa using this
      refine Z1 (Y4 c1 (plainR_map (f := eS) (fun _ => rfl) t0) (chk_map (n := 1) (f := eS) (fun _ => rfl) t0) h5) ?_
      obtain rfl := Zi H4
      exact ZE1 (Y4 c1 (plainR_map (f := eS) (fun _ => rfl) t0) (chk_map (n := 1) (f := eS) (fun _ => rfl) t0) h5)
    · refine Z1 c1 ?_
      refine runR_seq ?_
      refine ZT 1 ?_
      obtain ⟨l2, b9, H10⟩ := bind_inv H2
      obtain ⟨h11, h12, h13, h14⟩ := slc_inv b9
      have h15 : 0 ≤ Int.toNat (IntKind.i64.wrap (Int.tdiv (t0.length : Int) 2)) := by omega
      have h16 : Int.toNat (IntKind.i64.wrap (Int.tdiv (t0.length : Int) 2)) ≤ (List.length t0) := by omega
      have h17 : List.take (Int.toNat (IntKind.i64.wrap (Int.tdiv (t0.length : Int) 2))) (List.map eS t0) = List.map eS l2 := by rw [h14]; simp [List.map_drop, List.map_take]
      try simp only [Int.toNat_natCast] at h15 h16 h17
      obtain ⟨t19, b18, H19⟩ := bind_inv H10
      refine Z1 (Y6 c1 (nat_of .i64 (Int.le_trans h11 h12)) h15 h16 h17 (chk_map (n := 1) (f := eS) (fun _ => rfl) t0)) ?_
      refine ZD0 (ih b18) ?_
      obtain ⟨l3, b20, H21⟩ := bind_inv H19
      obtain ⟨h22, h23, h24, h25⟩ := slc_inv b20
      have h26 : Int.toNat (IntKind.i64.wrap (Int.tdiv (t0.length : Int) 2)) ≤ (List.length t0) := by omega
      have h27 : (List.length t0) ≤ (List.length t0) := by omega
      have h28 : List.drop (Int.toNat (IntKind.i64.wrap (Int.tdiv (t0.length : Int) 2))) (List.map eS t0) = List.map eS l3 := by rw [h25]; simp [List.map_drop, List.map_take]
      try simp only [Int.toNat_natCast] at h26 h27 h28
      obtain ⟨t25, b29, H30⟩ := bind_inv H21
      refine Z1 (Y2 (Y6 c1 (nat_of .i64 (Int.le_trans h11 h12)) h15 h16 h17 (chk_map (n := 1) (f := eS) (fun _ => rfl) t0)) (Y4 (nat_of .i64 h22) h26 h27 h28)) ?_
      refine ZD0 (ih b29) ?_
      refine Z1 (Y2 (Y6 c1 (nat_of .i64 (Int.le_trans h11 h12)) h15 h16 h17 (chk_map (n := 1) (f := eS) (fun _ => rfl) t0)) (Y4 (nat_of .i64 h22) h26 h27 h28)) ?_
      refine Rd_endF (by rfl) ?_
      refine Z1 (Y2 (Y6 c1 (nat_of .i64 (Int.le_trans h11 h12)) h15 h16 h17 (chk_map (n := 1) (f := eS) (fun _ => rfl) t0)) (Y4 (nat_of .i64 h22) h26 h27 h28)) ?_
      refine runR_seq ?_
      refine ZT 1 ?_
      refine Z1 (Y2 (Y6 c1 (nat_of .i64 (Int.le_trans h11 h12)) h15 h16 h17 (chk_map (n := 1) (f := eS) (fun _ => rfl) t0)) (Y4 (nat_of .i64 h22) h26 h27 h28)) ?_
      refine runR_seq ?_
      refine ZT 1 ?_
      refine Z1 (Y2 (Y6 c1 (nat_of .i64 (Int.le_trans h11 h12)) h15 h16 h17 (chk_map (n := 1) (f := eS) (fun _ => rfl) t0)) (Y4 (nat_of .i64 h22) h26 h27 h28)) ?_
      refine runR_seq ?_
      obtain ⟨e_, E31, H32⟩ := bind_inv H30
      refine runR_join (α := { y : List ByteArray // e_ = y } × Nat) (fun | ⟨⟨t53, _⟩, g5⟩ => ⟨upd 5 (accV 0 g5 (List.map eS t53)) noFr, upd 0 (accO 1 g5 false (List.map eS t53)) noHp, 1⟩) ?_ ?_
      · refine runR_block ?_
        refine runR_loop (α := { q : (Nat × (List ByteArray × Int × Int)) × Nat // ref1_Texts_L1 n t19 t25 q.1.1 q.1.2 = some e_ }) (fun | ⟨⟨⟨c, ⟨t5, t6, t7⟩⟩, g⟩, _⟩ => ⟨upd 3 (.d (.sl (List.map eS t19)) false) (upd 4 (.d (.sl (List.map eS t25)) false) (upd 5 (accV 0 g (List.map eS t5)) (upd 6 (.v (.int .i64 t6)) (upd 7 (.v (.int .i64 t7)) noFr)))), upd 0 (accO 1 g false (List.map eS t5)) noHp, 1⟩) (fun q => q.1.1.1) ⟨((n, ([], 0, 0)), 0), E31⟩ ?_ ?_
        · exact ZR []
        · rintro ⟨⟨⟨c, ⟨t5, t6, t7⟩⟩, g⟩, L33⟩
          rcases c with _ | c
          · exact nomatch (show none = some _ from L33)
          · unfold ref1_Texts_L1 at L33
            try dsimp only at L33
            refine runR_seq ?_
            refine runR_seq ?_
            obtain ⟨e_4, E90, H91⟩ := bind_inv L33
            refine runR_join (α := { y : Bool // e_4 = y } × Nat) (fun | ⟨⟨t352, _⟩, g2⟩ => ⟨upd 3 (.d (.sl (List.map eS t19)) false) (upd 4 (.d (.sl (List.map eS t25)) false) (upd 5 (accV 0 g2 (List.map eS t5)) (upd 6 (.v (.int .i64 t6)) (upd 7 (.v (.int .i64 t7)) (upd 35 (.v (.bool t352)) noFr))))), upd 0 (accO 1 g2 false (List.map eS t5)) noHp, 1⟩) ?_ ?_
            · refine ZT 1 ?_
              refine Z0 ?_
              rcases ite_inv E90 with ⟨c92, H93⟩ | ⟨c92, H93⟩
              · refine Z1 c92 ?_
                obtain rfl := Zi H93
                exact ⟨⟨⟨true, rfl⟩, g⟩, ZR [(0, 0)]⟩
              · refine Z1 c92 ?_
                obtain rfl := Zi H93
                exact ⟨⟨⟨(decide (t7 < (t25.length : Int))), rfl⟩, g⟩, ZR [(0, 0)]⟩
            · rintro ⟨⟨t352, he169⟩, g2⟩
              replace he169 := he169.symm
              subst he169
              try dsimp only at H91
              refine ZT 1 ?_
              refine Z0 ?_
              rcases ite_inv H91 with ⟨c94, H95⟩ | ⟨c94, H95⟩
              · refine Z1 c94 ?_
                refine runR_block ?_
                refine runR_block ?_
                refine runR_seq ?_
                obtain ⟨e_5, E96, H97⟩ := bind_inv H95
                refine runR_join (α := { y : Bool // e_5 = y } × Nat) (fun | ⟨⟨t382, _⟩, g3⟩ => ⟨upd 3 (.d (.sl (List.map eS t19)) false) (upd 4 (.d (.sl (List.map eS t25)) false) (upd 5 (accV 0 g3 (List.map eS t5)) (upd 6 (.v (.int .i64 t6)) (upd 7 (.v (.int .i64 t7)) (upd 38 (.v (.bool t382)) noFr))))), upd 0 (accO 1 g3 false (List.map eS t5)) noHp, 1⟩) ?_ ?_
                · refine ZT 1 ?_
                  refine Z0 ?_
                  rcases ite_inv E96 with ⟨c98, H99⟩ | ⟨c98, H99⟩
                  · refine Z1 c98 ?_
                    refine Rd_endF (by rfl) ?_
                    refine Z1 c98 ?_
                    obtain rfl := Zi H99
                    exact ⟨⟨⟨true, rfl⟩, g2⟩, ZR [(0, 0)]⟩
                  · refine Z1 c98 ?_
                    rcases ite_inv H99 with ⟨c100, H101⟩ | ⟨c100, H101⟩
                    · obtain ⟨x7, b102, H103⟩ := bind_inv H101
                      obtain ⟨h104, h105⟩ := idx_inv b102
                      try simp only [Int.reduceToNat, Int.toNat_natCast] at h105
                      have h106 := map_at eS h105
                      obtain ⟨x8, b108, H109⟩ := bind_inv H103
                      obtain ⟨h110, h111⟩ := idx_inv b108
                      try simp only [Int.reduceToNat, Int.toNat_natCast] at h111
                      have h112 := map_at eS h111
                      refine Z1 (Y6 c98 c100 (nat_of .i64 h104) h106 (nat_of .i64 h110) h112) ?_
                      refine Rd_endF (by rfl) ?_
                      refine Z1 (Y6 c98 c100 (nat_of .i64 h104) h106 (nat_of .i64 h110) h112) ?_
                      obtain rfl := Zi H109
                      exact ⟨⟨⟨(Op.bytesLess x7.toList x8.toList), rfl⟩, g2⟩, ZR [(0, 0)]⟩
                    · refine Z1 (Y2 c98 c100) ?_
                      refine Rd_endF (by rfl) ?_
                      refine Z1 (Y2 c98 c100) ?_
                      obtain rfl := Zi H101
                      exact ⟨⟨⟨false, rfl⟩, g2⟩, ZR [(0, 0)]⟩
                · rintro ⟨⟨t382, he168⟩, g3⟩
                  replace he168 := he168.symm
                  subst he168
                  try dsimp only at H97
                  refine ZT 3 ?_
                  refine Z0 ?_
                  rcases ite_inv H97 with ⟨c114, H115⟩ | ⟨c114, H115⟩
                  · obtain ⟨x9, b116, H117⟩ := bind_inv H115
                    obtain ⟨h118, h119⟩ := idx_inv b116
                    try simp only [Int.reduceToNat, Int.toNat_natCast] at h119
                    have h120 := map_at eS h119
                    obtain ⟨l4, b122, H123⟩ := bind_inv H117
                    obtain ⟨h124, h125⟩ := app_inv b122
                    have h124 : t5.length + 1 ≤ 4294967296 := h124
                    have h126 : List.map eS t5 ++ [[.v (.string x9)]] = List.map eS l4 := app_map eS h125
                    have h127 : t5.length + 1 = l4.length := app_len h125
                    have h128 : l4.length ≤ 4294967296 := by omega
                    have q129 : 0 < l4.length := by omega
                    refine Z1 (Y2 (Y6 c114 (nat_of .i64 h118) h120 h124 h126 h127) h128) ?_
                    rcases t5 with _ | ⟨q0, q1⟩
                    · try simp only [List.map_nil, accI, accN]
                      exact ⟨⟨((c, (l4, (IntKind.i64.wrap (t6 + 1)), t7)), 0), H123⟩, ZR [(0, 7)], Nat.lt_succ_self _⟩
                    · try simp only [List.map_cons, accI, accN]
                      exact ⟨⟨((c, (l4, (IntKind.i64.wrap (t6 + 1)), t7)), (g3 + 1)), H123⟩, ZR [(0, 0)], Nat.lt_succ_self _⟩
                  · refine Z1 c114 ?_
                    rcases ite_inv H115 with ⟨c130, H131⟩ | ⟨c130, H131⟩
                    · refine Z1 (Y2 c114 c130) ?_
                      refine Rd_endF (by rfl) ?_
                      obtain ⟨x10, b132, H133⟩ := bind_inv H131
                      obtain ⟨h134, h135⟩ := idx_inv b132
                      try simp only [Int.reduceToNat, Int.toNat_natCast] at h135
                      have h136 := map_at eS h135
                      obtain ⟨l5, b138, H139⟩ := bind_inv H133
                      obtain ⟨h140, h141⟩ := app_inv b138
                      have h140 : t5.length + 1 ≤ 4294967296 := h140
                      have h142 : List.map eS t5 ++ [[.v (.string x10)]] = List.map eS l5 := app_map eS h141
                      have h143 : t5.length + 1 = l5.length := app_len h141
                      have h144 : l5.length ≤ 4294967296 := by omega
                      have q145 : 0 < l5.length := by omega
                      refine Z1 (Y2 (Y6 c114 c130 (nat_of .i64 h134) h136 h140 h142) (Y2 h143 h144)) ?_
                      rcases t5 with _ | ⟨q0, q1⟩
                      · try simp only [List.map_nil, accI, accN]
                        exact ⟨⟨((c, (l5, t6, (IntKind.i64.wrap (t7 + 1)))), 0), H139⟩, ZR [(0, 23)], Nat.lt_succ_self _⟩
                      · try simp only [List.map_cons, accI, accN]
                        exact ⟨⟨((c, (l5, t6, (IntKind.i64.wrap (t7 + 1)))), (g3 + 1)), H139⟩, ZR [(0, 0)], Nat.lt_succ_self _⟩
                    · obtain ⟨x11, b146, H147⟩ := bind_inv H131
                      obtain ⟨h148, h149⟩ := idx_inv b146
                      try simp only [Int.reduceToNat, Int.toNat_natCast] at h149
                      have h150 := map_at eS h149
                      obtain ⟨x12, b152, H153⟩ := bind_inv H147
                      obtain ⟨h154, h155⟩ := idx_inv b152
                      try simp only [Int.reduceToNat, Int.toNat_natCast] at h155
                      have h156 := map_at eS h155
                      refine Z1 (Y6 c114 c130 (nat_of .i64 h148) h150 (nat_of .i64 h154) h156) ?_
                      refine Rd_endF (by rfl) ?_
                      refine Z1 (Y6 c114 c130 (nat_of .i64 h148) h150 (nat_of .i64 h154) h156) ?_
                      rcases ite_inv H153 with ⟨c158, H159⟩ | ⟨c158, H159⟩
                      · obtain ⟨l6, b160, H161⟩ := bind_inv H159
                        obtain ⟨h162, h163⟩ := app_inv b160
                        have h162 : t5.length + 1 ≤ 4294967296 := h162
                        have h164 : List.map eS t5 ++ [[.v (.string x11)]] = List.map eS l6 := app_map eS h163
                        have h165 : t5.length + 1 = l6.length := app_len h163
                        have h166 : l6.length ≤ 4294967296 := by omega
                        have q167 : 0 < l6.length := by omega
                        refine Z1 (Y2 (Y6 c114 c130 (nat_of .i64 h148) h150 (nat_of .i64 h154) h156) (Y5 c158 h162 h164 h165 h166)) ?_
                        rcases t5 with _ | ⟨q0, q1⟩
                        · try simp only [List.map_nil, accI, accN]
                          exact ⟨⟨((c, (l6, t6, (IntKind.i64.wrap (t7 + 1)))), 0), H161⟩, ZR [(0, 23)], Nat.lt_succ_self _⟩
                        · try simp only [List.map_cons, accI, accN]
                          exact ⟨⟨((c, (l6, t6, (IntKind.i64.wrap (t7 + 1)))), (g3 + 1)), H161⟩, ZR [(0, 0)], Nat.lt_succ_self _⟩
                      · refine Z1 (Y2 (Y6 c114 c130 (nat_of .i64 h148) h150 (nat_of .i64 h154) h156) c158) ?_
                        exact ⟨⟨((c, (t5, (IntKind.i64.wrap (t6 + 1)), t7)), g3), H159⟩, ZR [(0, 0)], Nat.lt_succ_self _⟩
              · refine Z1 c94 ?_
                obtain rfl := Zi H95
                exact ⟨⟨⟨t5, rfl⟩, g2⟩, ZR [(0, 0)]⟩
      · rintro ⟨⟨t53, he170⟩, g5⟩
        replace he170 := he170.symm
        subst he170
        try dsimp only at H32
        refine ZT 1 ?_
        refine Z0 ?_
        obtain rfl := Zi H32
        exact ZE0
def ref1_SameTexts_L1 (n : Nat) (a : List ByteArray) (b : List ByteArray) : Nat → Int → Option ((Unit) ⊕ Bool)
  | 0, _ => none
  | c + 1, i =>
    (if (decide (i < (a.length : Int))) then
      (idx a i).bind fun x3 =>
      (idx b i).bind fun x4 =>
      (if (x3.toList == x4.toList) then
        ref1_SameTexts_L1 n a b c (IntKind.i64.wrap (i + 1))
      else
        some (.inr false))
    else
      some (.inl ()))

def ref1_SameTexts (n : Nat) (a : List ByteArray) (b : List ByteArray) : Option Bool :=
  (if ((a.length : Int) != (b.length : Int)) then
    some false
  else
    (
      ref1_SameTexts_L1 n a b n 0 : Option ((Unit) ⊕ Bool)).bind fun
      | .inl _ =>
        some true
      | .inr r => some r)
theorem ref1_SameTexts_ok {n : Nat} {a : List ByteArray} {b : List ByteArray} {r : Bool} (H : ref1_SameTexts n a b = some r) : PureOK Try.prog 12 [D.sl (List.map eS a), D.sl (List.map eS b)] (D.v (.bool r)) true := by
  unfold ref1_SameTexts at H
  refine ZP tab_ok fol (rs := #[.tmp 4]) Try.func12 ?_
  refine runR_seq ?_
  refine ZT 1 ?_
  refine Z0 ?_
  refine runR_seq ?_
  refine ZT 1 ?_
  refine Z0 ?_
  rcases ite_inv H with ⟨c1, H2⟩ | ⟨c1, H2⟩
  · refine Z1 c1 ?_
    obtain rfl := Zi H2
    exact ZE0
  · refine Z1 c1 ?_
    refine runR_seq ?_
    refine runR_seq ?_
    refine ZT 1 ?_
    refine Z1 c1 ?_
    obtain ⟨e_, E3, H4⟩ := bind_inv H2
    refine runR_join (α := { y : Unit // e_ = .inl y }) (fun | ⟨_, _⟩ => ⟨noFr, noHp, 0⟩) ?_ ?_
    · refine runR_block ?_
      refine runR_loop (α := { q : Nat × Int // ref1_SameTexts_L1 n a b q.1 q.2 = some e_ }) (fun | ⟨⟨c, i⟩, _⟩ => ⟨upd 0 (.d (.sl (List.map eS a)) true) (upd 1 (.d (.sl (List.map eS b)) true) (upd 5 (.v (.int .i64 i)) noFr)), noHp, 0⟩) (fun q => q.1.1) ⟨(n, 0), E3⟩ ?_ ?_
      · exact ZR []
      · rintro ⟨⟨c, i⟩, L5⟩
        rcases c with _ | c
        · exact nomatch (show none = some _ from L5)
        · unfold ref1_SameTexts_L1 at L5
          try dsimp only at L5
          refine ZT 1 ?_
          refine Z0 ?_
          rcases ite_inv L5 with ⟨c22, H23⟩ | ⟨c22, H23⟩
          · obtain ⟨x3, b24, H25⟩ := bind_inv H23
            obtain ⟨h26, h27⟩ := idx_inv b24
            try simp only [Int.reduceToNat, Int.toNat_natCast] at h27
            have h28 := map_at eS h27
            obtain ⟨x4, b30, H31⟩ := bind_inv H25
            obtain ⟨h32, h33⟩ := idx_inv b30
            try simp only [Int.reduceToNat, Int.toNat_natCast] at h33
            have h34 := map_at eS h33
            refine Z1 (Y5 c22 (nat_of .i64 h26) h28 (nat_of .i64 h32) h34) ?_
            refine Rd_endF (by rfl) ?_
            refine Z1 (Y5 c22 (nat_of .i64 h26) h28 (nat_of .i64 h32) h34) ?_
            rcases ite_inv H31 with ⟨c36, H37⟩ | ⟨c36, H37⟩
            · refine Z1 (Y6 c22 (nat_of .i64 h26) h28 (nat_of .i64 h32) h34 c36) ?_
              exact ⟨⟨(c, (IntKind.i64.wrap (i + 1))), H37⟩, ZR [], Nat.lt_succ_self _⟩
            · refine Z1 (Y6 c22 (nat_of .i64 h26) h28 (nat_of .i64 h32) h34 c36) ?_
              obtain rfl := Zi H37
              obtain rfl := Zi H4
              exact ZE0
          · refine Z1 c22 ?_
            obtain rfl := Zi H23
            exact ⟨⟨(), rfl⟩, ZR []⟩
    · rintro ⟨_, he38⟩
      replace he38 := he38.symm
      subst he38
      try dsimp only at H4
      refine ZT 1 ?_
      refine Z0 ?_
      obtain rfl := Zi H4
      exact ZE0
def law1_Nm (n : Nat) (n_ : Int) : Option ByteArray :=
  (idx ([{ data := #[97] }, { data := #[98] }, { data := #[99] }, { data := #[100] }, { data := #[97, 98] }, { data := #[98, 45, 49] }, { data := #[120, 46, 121] }, { data := #[48] }] : List ByteArray) (IntKind.i64.wrap (an n_ 7 : Int))).bind fun x =>
  some x
theorem law1_Nm_ok {n : Nat} {n_ : Int} {r : ByteArray} (H : law1_Nm n n_ = some r) : PureOK Try.prog 15 [D.v (.int .i64 n_)] (D.v (.string r)) true := by
  unfold law1_Nm at H
  refine ZP tab_ok fol (rs := #[.tmp 2]) Try.func15 ?_
  refine ZT 1 ?_
  obtain ⟨x, b1, H2⟩ := bind_inv H
  obtain ⟨h3, h4⟩ := idx_inv b1
  try simp only [Int.reduceToNat, Int.toNat_natCast] at h4
  have h5 := map_at eS h4
  simp only [List.map_cons, List.map_nil, eS] at h5
  have h6 := at_lt h4
  simp only [List.length_cons, List.length_nil, Nat.reduceAdd] at h6
  refine Z1 (Y3 (nat_of .i64 h3) h5 h6) ?_
  obtain rfl := Zi H2
  exact ZE0
def law2_Tame (n : Nat) (n_ : Int) : Option GTuple :=
  (idx ([{ data := #[97] }, { data := #[98] }] : List ByteArray) (IntKind.i64.wrap (an n_ 1 : Int))).bind fun x =>
  (law1_Nm n (sh n_ 1)).bind fun t11 =>
  (idx ([{ data := #[114] }, { data := #[115] }] : List ByteArray) (IntKind.i64.wrap (an (sh n_ 4) 1 : Int))).bind fun x2 =>
  (idx ([{ data := #[117] }, { data := #[97] }, { data := #[98] }] : List ByteArray) (Int.tmod (IntKind.i64.wrap (an (sh n_ 5) 255 : Int)) 3)).bind fun x3 =>
  (law1_Nm n (sh n_ 13)).bind fun t28 =>
  (if ((IntKind.i64.wrap (an (sh n_ 16) 3 : Int)) == 0) then
    (idx ([{ data := #[114] }, { data := #[115] }] : List ByteArray) (IntKind.i64.wrap (an (sh n_ 18) 1 : Int))).bind fun x4 =>
    some (⟨(⟨x, t11⟩ : GObj), x2, (⟨x3, t28, x4⟩ : GSub)⟩ : GTuple)
  else
    some (⟨(⟨x, t11⟩ : GObj), x2, (⟨x3, t28, ByteArray.empty⟩ : GSub)⟩ : GTuple))
theorem law2_Tame_ok {n : Nat} {n_ : Int} {r : GTuple} (H : law2_Tame n n_ = some r) : PureOK Try.prog 5 [D.v (.int .i64 n_)] (D.ag (eGTuple r)) true := by
  unfold law2_Tame at H
  refine ZP tab_ok fol (rs := #[.cell 2 30]) Try.func5 ?_
  refine ZT 1 ?_
  obtain ⟨x, b1, H2⟩ := bind_inv H
  obtain ⟨h3, h4⟩ := idx_inv b1
  try simp only [Int.reduceToNat, Int.toNat_natCast] at h4
  have h5 := map_at eS h4
  simp only [List.map_cons, List.map_nil, eS] at h5
  have h6 := at_lt h4
  simp only [List.length_cons, List.length_nil, Nat.reduceAdd] at h6
  obtain ⟨t11, b7, H8⟩ := bind_inv H2
  refine Z1 (Y3 (nat_of .i64 h3) h5 h6) ?_
  refine ZD0 (law1_Nm_ok b7) ?_
  obtain ⟨x2, b9, H10⟩ := bind_inv H8
  obtain ⟨h11, h12⟩ := idx_inv b9
  try simp only [Int.reduceToNat, Int.toNat_natCast] at h12
  have h13 := map_at eS h12
  simp only [List.map_cons, List.map_nil, eS] at h13
  have h14 := at_lt h12
  simp only [List.length_cons, List.length_nil, Nat.reduceAdd] at h14
  obtain ⟨x3, b15, H16⟩ := bind_inv H10
  obtain ⟨h17, h18⟩ := idx_inv b15
  try simp only [Int.reduceToNat, Int.toNat_natCast] at h18
  have h19 := map_at eS h18
  simp only [List.map_cons, List.map_nil, eS] at h19
  have h20 := at_lt h18
  simp only [List.length_cons, List.length_nil, Nat.reduceAdd] at h20
  obtain ⟨t28, b21, H22⟩ := bind_inv H16
  refine Z1 (Y2 (Y6 (nat_of .i64 h3) h5 h6 (nat_of .i64 h11) h13 h14) (Y3 (nat_of .i64 h17) h19 h20)) ?_
  refine ZD0 (law1_Nm_ok b21) ?_
  refine Z1 (Y2 (Y6 (nat_of .i64 h3) h5 h6 (nat_of .i64 h11) h13 h14) (Y3 (nat_of .i64 h17) h19 h20)) ?_
  refine Rd_endF (by kernel_rfl) ?_
  refine Z1 (Y2 (Y6 (nat_of .i64 h3) h5 h6 (nat_of .i64 h11) h13 h14) (Y3 (nat_of .i64 h17) h19 h20)) ?_
  rcases ite_inv H22 with ⟨c23, H24⟩ | ⟨c23, H24⟩
  · obtain ⟨x4, b25, H26⟩ := bind_inv H24
    obtain ⟨h27, h28⟩ := idx_inv b25
    try simp only [Int.reduceToNat, Int.toNat_natCast] at h28
    have h29 := map_at eS h28
    simp only [List.map_cons, List.map_nil, eS] at h29
    have h30 := at_lt h28
    simp only [List.length_cons, List.length_nil, Nat.reduceAdd] at h30
    refine Z1 (Y3 (Y6 (nat_of .i64 h3) h5 h6 (nat_of .i64 h11) h13 h14) (Y6 (nat_of .i64 h17) h19 h20 c23 (nat_of .i64 h27) h29) h30) ?_
    obtain rfl := Zi H26
    exact ZE0
  · refine Z1 (Y2 (Y6 (nat_of .i64 h3) h5 h6 (nat_of .i64 h11) h13 h14) (Y4 (nat_of .i64 h17) h19 h20 c23)) ?_
    obtain rfl := Zi H24
    exact ZE0
def law2_Tames_L1 (n : Nat) (l : List Int) : Nat → (List GTuple × Int) → Option (List GTuple)
  | 0, _ => none
  | c + 1, (out, i) =>
    (
      (if (decide (i < (l.length : Int))) then
        some (decide (i < 80))
      else
        some false) : Option (Bool)).bind fun t122 =>
    (if t122 then
      (idx l i).bind fun x2 =>
      (law2_Tame n x2).bind fun t202 =>
      (app out [t202]).bind fun l2 =>
      law2_Tames_L1 n l c (l2, (IntKind.i64.wrap (i + 1)))
    else
      some out)

def law2_Tames (n : Nat) (l : List Int) : Option (List GTuple) :=
  (
    law2_Tames_L1 n l n ([], 0) : Option (List GTuple)).bind fun out3 =>
  some out3
theorem law2_Tames_ok {n : Nat} {l : List Int} {r : List GTuple} (H : law2_Tames n l = some r) : PureOK Try.prog 4 [D.sl (List.map eI l)] (D.sl (List.map eGTuple r)) true := by
  unfold law2_Tames at H
  refine ZP tab_ok fol (rs := #[.tmp 2]) Try.func4 ?_
  refine runR_seq ?_
  refine ZT 1 ?_
  refine Z0 ?_
  refine runR_seq ?_
  refine ZT 1 ?_
  refine Z0 ?_
  refine runR_seq ?_
  refine runR_seq ?_
  refine ZT 1 ?_
  refine Z0 ?_
  obtain ⟨e_, E1, H2⟩ := bind_inv H
  refine runR_join (α := { y : List GTuple // e_ = y } × Nat) (fun | ⟨⟨out3, _⟩, g4⟩ => ⟨upd 3 (accV 0 g4 (List.map eGTuple out3)) noFr, upd 0 (accO 6 g4 false (List.map eGTuple out3)) noHp, 1⟩) ?_ ?_
  · refine runR_block ?_
    refine runR_loop (α := { q : (Nat × (List GTuple × Int)) × Nat // law2_Tames_L1 n l q.1.1 q.1.2 = some e_ }) (fun | ⟨⟨⟨c, ⟨out, i⟩⟩, g⟩, _⟩ => ⟨upd 0 (.d (.sl (List.map eI l)) true) (upd 3 (accV 0 g (List.map eGTuple out)) (upd 4 (.v (.int .i64 i)) noFr)), upd 0 (accO 6 g false (List.map eGTuple out)) noHp, 1⟩) (fun q => q.1.1.1) ⟨((n, ([], 0)), 0), E1⟩ ?_ ?_
    · exact ZR []
    · rintro ⟨⟨⟨c, ⟨out, i⟩⟩, g⟩, L3⟩
      rcases c with _ | c
      · exact nomatch (show none = some _ from L3)
      · unfold law2_Tames_L1 at L3
        try dsimp only at L3
        refine runR_seq ?_
        refine runR_seq ?_
        obtain ⟨e_3, E19, H20⟩ := bind_inv L3
        refine runR_join (α := { y : Bool // e_3 = y } × Nat) (fun | ⟨⟨t122, _⟩, g2⟩ => ⟨upd 0 (.d (.sl (List.map eI l)) true) (upd 3 (accV 0 g2 (List.map eGTuple out)) (upd 4 (.v (.int .i64 i)) (upd 12 (.v (.bool t122)) noFr))), upd 0 (accO 6 g2 false (List.map eGTuple out)) noHp, 1⟩) ?_ ?_
        · refine ZT 1 ?_
          refine Z0 ?_
          rcases ite_inv E19 with ⟨c21, H22⟩ | ⟨c21, H22⟩
          · refine Z1 c21 ?_
            obtain rfl := Zi H22
            exact ⟨⟨⟨(decide (i < 80)), rfl⟩, g⟩, ZR [(0, 0)]⟩
          · refine Z1 c21 ?_
            obtain rfl := Zi H22
            exact ⟨⟨⟨false, rfl⟩, g⟩, ZR [(0, 0)]⟩
        · rintro ⟨⟨t122, he41⟩, g2⟩
          replace he41 := he41.symm
          subst he41
          try dsimp only at H20
          refine ZT 2 ?_
          refine Z0 ?_
          rcases ite_inv H20 with ⟨c23, H24⟩ | ⟨c23, H24⟩
          · obtain ⟨x2, b25, H26⟩ := bind_inv H24
            obtain ⟨h27, h28⟩ := idx_inv b25
            try simp only [Int.reduceToNat, Int.toNat_natCast] at h28
            have h29 := map_at eI h28
            obtain ⟨t202, b31, H32⟩ := bind_inv H26
            refine Z1 (Y3 c23 (nat_of .i64 h27) h29) ?_
            refine ZC0 (law2_Tame_ok b31) ?_
            obtain ⟨l2, b33, H34⟩ := bind_inv H32
            obtain ⟨h35, h36⟩ := app_inv b33
            have h35 : out.length + 1 ≤ 4294967296 := h35
            have h37 : List.map eGTuple out ++ [[.v (.string t202.obj.type_), .v (.string t202.obj.id_), .v (.string t202.rel), .v (.string t202.sub_.type_), .v (.string t202.sub_.id_), .v (.string t202.sub_.rel)]] = List.map eGTuple l2 := app_map eGTuple h36
            have h38 : out.length + 1 = l2.length := app_len h36
            have h39 : l2.length ≤ 4294967296 := by omega
            have q40 : 0 < l2.length := by omega
            refine Z1 (Y2 (Y6 c23 (nat_of .i64 h27) h29 h35 h37 h38) h39) ?_
            rcases out with _ | ⟨q0, q1⟩
            · try simp only [List.map_nil, accI, accN]
              exact ⟨⟨((c, (l2, (IntKind.i64.wrap (i + 1)))), 0), H34⟩, ZR [(0, 8)], Nat.lt_succ_self _⟩
            · try simp only [List.map_cons, accI, accN]
              exact ⟨⟨((c, (l2, (IntKind.i64.wrap (i + 1)))), (g2 + 1)), H34⟩, ZR [(0, 0)], Nat.lt_succ_self _⟩
          · refine Z1 c23 ?_
            obtain rfl := Zi H24
            exact ⟨⟨⟨out, rfl⟩, g2⟩, ZR [(0, 0)]⟩
  · rintro ⟨⟨out3, he42⟩, g4⟩
    replace he42 := he42.symm
    subst he42
    try dsimp only at H2
    refine ZT 1 ?_
    refine Z0 ?_
    obtain rfl := Zi H2
    exact ZE0
end Go.Proofs.Ytedgdpncienjiaa.Ab
