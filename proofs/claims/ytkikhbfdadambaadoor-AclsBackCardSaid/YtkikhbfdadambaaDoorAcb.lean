/-
  Functions, read off the code.
-/
import Derived.Test.YtkikhbfdadambaaDoorAca
namespace Go.Proofs.YtkikhbfdadambaaDoor.Ab
open Go.RowKit
def acls_Fact_L1 (n : Nat) (t0 : GLine) (t25 : Int × Int × Int) (l : List GWord) : Nat → (ByteArray × ByteArray × ByteArray × List GEntry × Int) → Option ((ByteArray × ByteArray × ByteArray × List GEntry) ⊕ (Int × Int × ByteArray × ByteArray × ByteArray × List GEntry))
  | 0, _ => none
  | c + 1, (out13, out32, out42, out5, t112) =>
    (if (decide (t112 < (l.length : Int))) then
      (idx l t112).bind fun x4 =>
      (if (t112 == 0) then
        (acls_Path n x4.text).bind fun t333 =>
        (if t333 then
          acls_Fact_L1 n t0 t25 l c (x4.text, out32, out42, out5, (IntKind.i64.wrap (t112 + 1)))
        else
          some (.inr (x4.at_, 15, x4.text, out32, out42, out5)))
      else
        (if (t112 == 1) then
          (atom_Name n x4.text).bind fun t432 =>
          (if t432 then
            acls_Fact_L1 n t0 t25 l c (out13, x4.text, out42, out5, (IntKind.i64.wrap (t112 + 1)))
          else
            some (.inr (x4.at_, 15, out13, x4.text, out42, out5)))
        else
          (if (t112 == 2) then
            (atom_Name n x4.text).bind fun t532 =>
            (if t532 then
              acls_Fact_L1 n t0 t25 l c (out13, out32, x4.text, out5, (IntKind.i64.wrap (t112 + 1)))
            else
              some (.inr (x4.at_, 15, out13, out32, x4.text, out5)))
          else
            (acls_Entries n x4.text).bind fun t212 =>
            (if t212.2 then
              acls_Fact_L1 n t0 t25 l c (out13, out32, out42, t212.1, (IntKind.i64.wrap (t112 + 1)))
            else
              some (.inr (x4.at_, 15, out13, out32, out42, t212.1))))))
    else
      some (.inl (out13, out32, out42, out5)))

def acls_Fact_C1_acls_owned (n : Nat) (t0 : GLine) (t25 : Int × Int × Int) (l : List GWord) : Option (Int × Int × ByteArray × ByteArray × ByteArray × List GEntry) :=
  (
    acls_Fact_L1 n t0 t25 l n (ByteArray.empty, ByteArray.empty, ByteArray.empty, [], 0) : Option ((ByteArray × ByteArray × ByteArray × List GEntry) ⊕ (Int × Int × ByteArray × ByteArray × ByteArray × List GEntry))).bind fun
    | .inl (o491, o493, o494, o495) =>
      some (0, 0, o491, o493, o494, o495)
    | .inr r => some r

def acls_Fact_L2 (n : Nat) (t0 : GLine) (t25 : Int × Int × Int) (l2 : List GWord) : Nat → (ByteArray × ByteArray × ByteArray × List GEntry × Int) → Option ((ByteArray × ByteArray × ByteArray × List GEntry) ⊕ (Int × Int × ByteArray × ByteArray × ByteArray × List GEntry))
  | 0, _ => none
  | c + 1, (out18, out36, out46, out53, t115) =>
    (if (decide (t115 < (l2.length : Int))) then
      (idx l2 t115).bind fun x7 =>
      (if (t115 == 0) then
        (acls_Path n x7.text).bind fun t336 =>
        (if t336 then
          acls_Fact_L2 n t0 t25 l2 c (x7.text, out36, out46, out53, (IntKind.i64.wrap (t115 + 1)))
        else
          some (.inr (x7.at_, 15, x7.text, out36, out46, out53)))
      else
        (if (t115 == 1) then
          (atom_Name n x7.text).bind fun t434 =>
          (if t434 then
            acls_Fact_L2 n t0 t25 l2 c (out18, x7.text, out46, out53, (IntKind.i64.wrap (t115 + 1)))
          else
            some (.inr (x7.at_, 15, out18, x7.text, out46, out53)))
        else
          (if (t115 == 2) then
            (atom_Name n x7.text).bind fun t534 =>
            (if t534 then
              acls_Fact_L2 n t0 t25 l2 c (out18, out36, x7.text, out53, (IntKind.i64.wrap (t115 + 1)))
            else
              some (.inr (x7.at_, 15, out18, out36, x7.text, out53)))
          else
            (acls_Entries n x7.text).bind fun t214 =>
            (if t214.2 then
              acls_Fact_L2 n t0 t25 l2 c (out18, out36, out46, t214.1, (IntKind.i64.wrap (t115 + 1)))
            else
              some (.inr (x7.at_, 15, out18, out36, out46, t214.1))))))
    else
      some (.inl (out18, out36, out46, out53)))

def acls_Fact_C2_acls_owned (n : Nat) (t0 : GLine) (t25 : Int × Int × Int) (l2 : List GWord) : Option (Int × Int × ByteArray × ByteArray × ByteArray × List GEntry) :=
  (
    acls_Fact_L2 n t0 t25 l2 n (ByteArray.empty, ByteArray.empty, ByteArray.empty, [], 0) : Option ((ByteArray × ByteArray × ByteArray × List GEntry) ⊕ (Int × Int × ByteArray × ByteArray × ByteArray × List GEntry))).bind fun
    | .inl (o4914, o4934, o4944, o4953) =>
      some (0, 0, o4914, o4934, o4944, o4953)
    | .inr r => some r

def acls_Fact_L3 (n : Nat) (t0 : GLine) (t25 : Int × Int × Int) (l3 : List GWord) : Nat → (ByteArray × List ByteArray × Int) → Option ((ByteArray × List ByteArray) ⊕ (Int × Int × ByteArray × List ByteArray))
  | 0, _ => none
  | c + 1, (out112, out2, t102) =>
    (if (decide (t102 < (l3.length : Int))) then
      (idx l3 t102).bind fun x10 =>
      (atom_Name n x10.text).bind fun t173 =>
      (if t173 then
        (if (t102 == 0) then
          acls_Fact_L3 n t0 t25 l3 c (x10.text, out2, (IntKind.i64.wrap (t102 + 1)))
        else
          (app out2 [x10.text]).bind fun l4 =>
          acls_Fact_L3 n t0 t25 l3 c (out112, l4, (IntKind.i64.wrap (t102 + 1))))
      else
        some (.inr (x10.at_, 15, out112, out2)))
    else
      some (.inl (out112, out2)))

def acls_Fact_C3_acls_named (n : Nat) (t0 : GLine) (t25 : Int × Int × Int) (l3 : List GWord) : Option (Int × Int × ByteArray × List ByteArray) :=
  (
    acls_Fact_L3 n t0 t25 l3 n (ByteArray.empty, [], 0) : Option ((ByteArray × List ByteArray) ⊕ (Int × Int × ByteArray × List ByteArray))).bind fun
    | .inl (o481, o482) =>
      some (0, 0, o481, o482)
    | .inr r => some r

def acls_Fact (n : Nat) (t0 : GLine) : Option (GFile × Int × Int) :=
  (if ((t0.words.length : Int) == 0) then
    some ((⟨0, ByteArray.empty, [], ByteArray.empty, ByteArray.empty, [], 0⟩ : GFile), t0.at_, 9)
  else
    (idx t0.words 0).bind fun x =>
    (acls_words n x.text).bind fun t25 =>
    (if (t25.1 == 0) then
      some ((⟨0, ByteArray.empty, [], ByteArray.empty, ByteArray.empty, [], 0⟩ : GFile), x.at_, 9)
    else
      (if (decide ((t0.words.length : Int) < t25.2.1)) then
        some ((⟨0, ByteArray.empty, [], ByteArray.empty, ByteArray.empty, [], 0⟩ : GFile), x.at_, 9)
      else
        (if (decide (t25.2.2 < (t0.words.length : Int))) then
          some ((⟨0, ByteArray.empty, [], ByteArray.empty, ByteArray.empty, [], 0⟩ : GFile), x.at_, 9)
        else
          (if (t25.1 == 3) then
            (slc t0.words 1 ((List.length t0.words) : Int)).bind fun l =>
            (acls_Fact_C1_acls_owned n t0 t25 l : Option (Int × Int × ByteArray × ByteArray × ByteArray × List GEntry)).bind fun (t42, t52, o4913, o4933, o4943, o4952) =>
            (if (t52 != 0) then
              some ((⟨0, ByteArray.empty, [], ByteArray.empty, ByteArray.empty, [], 0⟩ : GFile), t42, t52)
            else
              some ((⟨t25.1, o4913, [], o4933, o4943, o4952, t0.at_⟩ : GFile), 0, 0))
          else
            (if (t25.1 == 4) then
              (slc t0.words 1 ((List.length t0.words) : Int)).bind fun l2 =>
              (acls_Fact_C2_acls_owned n t0 t25 l2 : Option (Int × Int × ByteArray × ByteArray × ByteArray × List GEntry)).bind fun (t45, t55, o4916, o4936, o4946, o4954) =>
              (if (t55 != 0) then
                some ((⟨0, ByteArray.empty, [], ByteArray.empty, ByteArray.empty, [], 0⟩ : GFile), t45, t55)
              else
                some ((⟨t25.1, o4916, [], o4936, o4946, o4954, t0.at_⟩ : GFile), 0, 0))
            else
              (slc t0.words 1 ((List.length t0.words) : Int)).bind fun l3 =>
              (acls_Fact_C3_acls_named n t0 t25 l3 : Option (Int × Int × ByteArray × List ByteArray)).bind fun (t46, t56, o4812, o4822) =>
              (if (t56 != 0) then
                some ((⟨0, ByteArray.empty, [], ByteArray.empty, ByteArray.empty, [], 0⟩ : GFile), t46, t56)
              else
                some ((⟨t25.1, o4812, o4822, ByteArray.empty, ByteArray.empty, [], t0.at_⟩ : GFile), 0, 0))))))))
set_option maxHeartbeats 8000000 in
theorem acls_Fact_ok {n : Nat} {t0 : GLine} {r : GFile × Int × Int} (H : acls_Fact n t0 = some r) : PureOK Tryd.prog 20 [D.ag (eGLine t0)] (D.tu [D.ag (eGFile r.1), D.v (.int .i64 r.2.1), D.v (.int .i64 r.2.2)]) true := by
  unfold acls_Fact at H
  refine ZP tab_ok fol (rs := #[.cell 2 45, .tmp 3, .tmp 4]) Tryd.func20 ?_
  refine ZT 1 ?_
  refine Z0 ?_
  rcases ite_inv H with ⟨c1, H2⟩ | ⟨c1, H2⟩
  · refine Z1 c1 ?_
    refine Rd_endF (by rfl) ?_
    refine Z1 c1 ?_
    obtain rfl := Zi H2
    exact ZE0
  · obtain ⟨x, b3, H4⟩ := bind_inv H2
    obtain ⟨h5, h6⟩ := idx_inv b3
    try simp only [Int.reduceToNat, Int.toNat_natCast] at h6
    have h7 := map_at eGWord h6
    obtain ⟨t25, b9, H10⟩ := bind_inv H4
    refine Z1 (Y3 c1 (nat_of .i64 h5) h7) ?_
    refine ZC0 (acls_words_ok b9) ?_
    refine Z1 (Y3 c1 (nat_of .i64 h5) h7) ?_
    rcases ite_inv H10 with ⟨c11, H12⟩ | ⟨c11, H12⟩
    · refine Z1 (Y4 c1 (nat_of .i64 h5) h7 c11) ?_
      refine Rd_endF (by rfl) ?_
      refine Z1 (Y4 c1 (nat_of .i64 h5) h7 c11) ?_
      obtain rfl := Zi H12
      exact ZE0
    · refine Z1 (Y4 c1 (nat_of .i64 h5) h7 c11) ?_
      rcases ite_inv H12 with ⟨c13, H14⟩ | ⟨c13, H14⟩
      · refine Z1 (Y5 c1 (nat_of .i64 h5) h7 c11 c13) ?_
        refine Rd_endF (by rfl) ?_
        refine Z1 (Y5 c1 (nat_of .i64 h5) h7 c11 c13) ?_
        obtain rfl := Zi H14
        exact ZE0
      · refine Z1 (Y5 c1 (nat_of .i64 h5) h7 c11 c13) ?_
        rcases ite_inv H14 with ⟨c15, H16⟩ | ⟨c15, H16⟩
        · refine Z1 (Y6 c1 (nat_of .i64 h5) h7 c11 c13 c15) ?_
          refine Rd_endF (by rfl) ?_
          refine Z1 (Y6 c1 (nat_of .i64 h5) h7 c11 c13 c15) ?_
          obtain rfl := Zi H16
          exact ZE0
        · refine Z1 (Y6 c1 (nat_of .i64 h5) h7 c11 c13 c15) ?_
          rcases ite_inv H16 with ⟨c17, H18⟩ | ⟨c17, H18⟩
          · obtain ⟨l, b19, H20⟩ := bind_inv H18
            obtain ⟨h21, h22, h23, h24⟩ := slc_inv b19
            have h25 : 1 ≤ (List.length t0.words) := by omega
            have h26 : (List.length t0.words) ≤ (List.length t0.words) := by omega
            have h27 : List.drop (1) (List.map eGWord t0.words) = List.map eGWord l := by rw [h24]; simp [List.map_drop, List.map_take]
            try simp only [Int.toNat_natCast] at h25 h26 h27
            refine Z1 (Y2 (Y6 c1 (nat_of .i64 h5) h7 c11 c13 c15) (Y6 c17 (nat_of .i64 h21) h25 h26 h27 (chk_map (n := 2) (f := eGWord) (fun _ => rfl) t0.words))) ?_
            obtain ⟨e_, E28, H29⟩ := bind_inv H20
            refine onCall_inl (InlOK.mono (inl_runRJ (α := { y : Int × Int × ByteArray × ByteArray × ByteArray × List GEntry // e_ = y }) tab_ok Tryd.func50 rfl (by kernel_rfl) (by kernel_rfl) (by simp [Tryd.f50]) (fun | ⟨⟨t42, t52, o4913, o4933, o4943, o4952⟩, _⟩ => ⟨upd 4 (.v (.int .i64 t42)) (upd 5 (.v (.int .i64 t52)) noFr), upd 0 (some (.bx [.v (.int .i64 t0.at_), .d (.sl (List.map eGWord t0.words)) true])) (upd 1 (some (.bx [.v (.int .i64 0), .v (.string ByteArray.empty), .v (.slice none 0 0), .v (.string ByteArray.empty), .v (.string ByteArray.empty), .v (.slice none 0 0), .v (.int .i64 0)])) (upd 49 (some (.bx [.v (.int .i64 t25.1), .v (.string o4913), .v (.slice none 0 0), .v (.string o4933), .v (.string o4943), .d (.sl (List.map eGEntry o4952)) false, .v (.int .i64 t0.at_)])) noHp)), 61⟩) (fun | ⟨⟨t42, t52, o4913, o4933, o4943, o4952⟩, _⟩ => .tu [.v (.int .i64 t42), .v (.int .i64 t52)]) (by rintro ⟨⟨t42, t52, o4913, o4933, o4943, o4952⟩, he106⟩; first | ((simp -implicitDefEqProofs only [go_sem, Bool.false_and, Int.reduceToNat, Int.reduceLT, Int.reduceLE, Int.reduceBEq, Int.reduceBNe, Nat.reduceLT, Nat.reduceBEq, Int.reduceEq, Nat.reduceEqDiff, Nat.reduceAdd, Nat.reduceSub, Nat.reduceMul, Nat.reduceLeDiff, reduceCtorEq, ↓reduceIte, eGEntry, eGFile, eGWord, eGLine, Tryd.f50]) <;> rfl) | rfl) ?_) ?_)
            · unfold acls_Fact_C1_acls_owned at E28
              try dsimp only at E28
              refine runR_seq ?_
              refine ZT 1 ?_
              refine Z0 ?_
              refine runR_seq ?_
              refine runR_seq ?_
              refine ZT 1 ?_
              refine Z0 ?_
              obtain ⟨e_2, E30, H31⟩ := bind_inv E28
              refine runR_join (α := { y : ByteArray × ByteArray × ByteArray × List GEntry // e_2 = .inl y }) (fun | ⟨⟨o491, o493, o494, o495⟩, _⟩ => ⟨noFr, upd 0 (some (.bx [.v (.int .i64 t0.at_), .d (.sl (List.map eGWord t0.words)) true])) (upd 1 (some (.bx [.v (.int .i64 0), .v (.string ByteArray.empty), .v (.slice none 0 0), .v (.string ByteArray.empty), .v (.string ByteArray.empty), .v (.slice none 0 0), .v (.int .i64 0)])) (upd 49 (some (.bx [.v (.int .i64 t25.1), .v (.string o491), .v (.slice none 0 0), .v (.string o493), .v (.string o494), .d (.sl (List.map eGEntry o495)) false, .v (.int .i64 t0.at_)])) noHp)), 61⟩) ?_ ?_
              · refine runR_block ?_
                refine runR_loop (α := { q : Nat × (ByteArray × ByteArray × ByteArray × List GEntry × Int) // acls_Fact_L1 n t0 t25 l q.1 q.2 = some e_2 }) (fun | ⟨⟨c, ⟨out13, out32, out42, out5, t112⟩⟩, _⟩ => ⟨upd 0 (.pt 49 0) (upd 9 (.d (.sl (List.map eGWord l)) true) (upd 10 (.v (.int .i64 (l.length : Int))) (upd 11 (.v (.int .i64 t112)) noFr))), upd 0 (some (.bx [.v (.int .i64 t0.at_), .d (.sl (List.map eGWord t0.words)) true])) (upd 1 (some (.bx [.v (.int .i64 0), .v (.string ByteArray.empty), .v (.slice none 0 0), .v (.string ByteArray.empty), .v (.string ByteArray.empty), .v (.slice none 0 0), .v (.int .i64 0)])) (upd 49 (some (.bx [.v (.int .i64 t25.1), .v (.string out13), .v (.slice none 0 0), .v (.string out32), .v (.string out42), .d (.sl (List.map eGEntry out5)) false, .v (.int .i64 t0.at_)])) noHp)), 61⟩) (fun q => q.1.1) ⟨(n, (ByteArray.empty, ByteArray.empty, ByteArray.empty, [], 0)), E30⟩ ?_ ?_
                · exact WeakR.trans (m := ⟨upd 0 (.pt 49 0) (upd 9 (.d (.sl (List.map eGWord l)) true) (upd 10 (.v (.int .i64 (l.length : Int))) (upd 11 (.v (.int .i64 0)) (noFr)))), upd 0 (some (.bx [.v (.int .i64 t0.at_), .d (.sl (List.map eGWord t0.words)) true])) (upd 1 (some (.bx [.v (.int .i64 0), .v (.string ByteArray.empty), .v (.slice none 0 0), .v (.string ByteArray.empty), .v (.string ByteArray.empty), .v (.slice none 0 0), .v (.int .i64 0)])) (upd 49 (some (.bx [.v (.int .i64 t25.1), .v (.string ByteArray.empty), .v (.slice none 0 0), .v (.string ByteArray.empty), .v (.string ByteArray.empty), .d (.sl (List.map eGEntry [])) false, .v (.int .i64 t0.at_)])) (noHp))), 66⟩) (ZR []) (dat_mk (Nat.le_refl _) (df_upd (dv_same (by rfl)) (df_upd (dv_same (by rfl)) (df_upd (dv_same (by rfl)) (df_upd (dv_same (by rfl)) (df_no _))))) (dh_upd (dh_eq (by rfl)) (dh_upd (dh_eq (by rfl)) (dh_upd (dh_bx (by rfl) (dl_cons (dc_same (by rfl)) (dl_cons (dc_same (by rfl)) (dl_cons (dc_same (by rfl)) (dl_cons (dc_same (by rfl)) (dl_cons (dc_same (by rfl)) (dl_cons (dc_nil (f := eGEntry)) (dl_cons (dc_same (by rfl)) dl_nil)))))))) dh_no))))
                · rintro ⟨⟨c, ⟨out13, out32, out42, out5, t112⟩⟩, L32⟩
                  rcases c with _ | c
                  · exact nomatch (show none = some _ from L32)
                  · unfold acls_Fact_L1 at L32
                    try dsimp only at L32
                    refine ZT 1 ?_
                    refine Z0 ?_
                    rcases ite_inv L32 with ⟨c75, H76⟩ | ⟨c75, H76⟩
                    · obtain ⟨x4, b77, H78⟩ := bind_inv H76
                      obtain ⟨h79, h80⟩ := idx_inv b77
                      try simp only [Int.reduceToNat, Int.toNat_natCast] at h80
                      have h81 := map_at eGWord h80
                      refine Z1 (Y3 c75 (nat_of .i64 h79) h81) ?_
                      rcases ite_inv H78 with ⟨c83, H84⟩ | ⟨c83, H84⟩
                      · obtain ⟨t333, b85, H86⟩ := bind_inv H84
                        refine Z1 (Y4 c75 (nat_of .i64 h79) h81 c83) ?_
                        refine ZD0 (acls_Path_ok b85) ?_
                        refine Z1 (Y4 c75 (nat_of .i64 h79) h81 c83) ?_
                        refine Rd_endF (by rfl) ?_
                        refine Z1 (Y4 c75 (nat_of .i64 h79) h81 c83) ?_
                        rcases ite_inv H86 with ⟨c87, H88⟩ | ⟨c87, H88⟩
                        · refine Z1 (Y5 c75 (nat_of .i64 h79) h81 c83 c87) ?_
                          exact ⟨⟨(c, (x4.text, out32, out42, out5, (IntKind.i64.wrap (t112 + 1)))), H88⟩, ZR [], Nat.lt_succ_self _⟩
                        · refine Z1 (Y5 c75 (nat_of .i64 h79) h81 c83 c87) ?_
                          obtain rfl := Option.some.inj H88
                          obtain rfl := Option.some.inj H31
                          exact endJ_ret ⟨(x4.at_, 15, x4.text, out32, out42, out5), rfl⟩ (ZR [])
                      · refine Z1 (Y4 c75 (nat_of .i64 h79) h81 c83) ?_
                        rcases ite_inv H84 with ⟨c89, H90⟩ | ⟨c89, H90⟩
                        · obtain ⟨t432, b91, H92⟩ := bind_inv H90
                          refine Z1 (Y5 c75 (nat_of .i64 h79) h81 c83 c89) ?_
                          refine ZD0 (atom_Name_ok b91) ?_
                          refine Z1 (Y5 c75 (nat_of .i64 h79) h81 c83 c89) ?_
                          refine Rd_endF (by rfl) ?_
                          refine Z1 (Y5 c75 (nat_of .i64 h79) h81 c83 c89) ?_
                          rcases ite_inv H92 with ⟨c93, H94⟩ | ⟨c93, H94⟩
                          · refine Z1 (Y6 c75 (nat_of .i64 h79) h81 c83 c89 c93) ?_
                            exact ⟨⟨(c, (out13, x4.text, out42, out5, (IntKind.i64.wrap (t112 + 1)))), H94⟩, ZR [], Nat.lt_succ_self _⟩
                          · refine Z1 (Y6 c75 (nat_of .i64 h79) h81 c83 c89 c93) ?_
                            obtain rfl := Option.some.inj H94
                            obtain rfl := Option.some.inj H31
                            exact endJ_ret ⟨(x4.at_, 15, out13, x4.text, out42, out5), rfl⟩ (ZR [])
                        · refine Z1 (Y5 c75 (nat_of .i64 h79) h81 c83 c89) ?_
                          rcases ite_inv H90 with ⟨c95, H96⟩ | ⟨c95, H96⟩
                          · obtain ⟨t532, b97, H98⟩ := bind_inv H96
                            refine Z1 (Y6 c75 (nat_of .i64 h79) h81 c83 c89 c95) ?_
                            refine ZD0 (atom_Name_ok b97) ?_
                            refine Z1 (Y6 c75 (nat_of .i64 h79) h81 c83 c89 c95) ?_
                            refine Rd_endF (by rfl) ?_
                            refine Z1 (Y6 c75 (nat_of .i64 h79) h81 c83 c89 c95) ?_
                            rcases ite_inv H98 with ⟨c99, H100⟩ | ⟨c99, H100⟩
                            · refine Z1 (Y2 (Y6 c75 (nat_of .i64 h79) h81 c83 c89 c95) c99) ?_
                              exact ⟨⟨(c, (out13, out32, x4.text, out5, (IntKind.i64.wrap (t112 + 1)))), H100⟩, ZR [], Nat.lt_succ_self _⟩
                            · refine Z1 (Y2 (Y6 c75 (nat_of .i64 h79) h81 c83 c89 c95) c99) ?_
                              obtain rfl := Option.some.inj H100
                              obtain rfl := Option.some.inj H31
                              exact endJ_ret ⟨(x4.at_, 15, out13, out32, x4.text, out5), rfl⟩ (ZR [])
                          · obtain ⟨t212, b101, H102⟩ := bind_inv H96
                            refine Z1 (Y6 c75 (nat_of .i64 h79) h81 c83 c89 c95) ?_
                            refine ZC0 (acls_Entries_ok b101) ?_
                            refine Z1 (Y6 c75 (nat_of .i64 h79) h81 c83 c89 c95) ?_
                            rcases ite_inv H102 with ⟨c103, H104⟩ | ⟨c103, H104⟩
                            · refine Z1 (Y2 (Y6 c75 (nat_of .i64 h79) h81 c83 c89 c95) c103) ?_
                              exact ⟨⟨(c, (out13, out32, out42, t212.1, (IntKind.i64.wrap (t112 + 1)))), H104⟩, ZR [], Nat.lt_succ_self _⟩
                            · refine Z1 (Y2 (Y6 c75 (nat_of .i64 h79) h81 c83 c89 c95) c103) ?_
                              obtain rfl := Option.some.inj H104
                              obtain rfl := Option.some.inj H31
                              exact endJ_ret ⟨(x4.at_, 15, out13, out32, out42, t212.1), rfl⟩ (ZR [])
                    · refine Z1 c75 ?_
                      obtain rfl := Zi H76
                      exact ⟨⟨(out13, out32, out42, out5), rfl⟩, ZR []⟩
              · rintro ⟨⟨o491, o493, o494, o495⟩, he105⟩
                replace he105 := he105.symm
                subst he105
                try dsimp only at H31
                refine ZT 1 ?_
                refine Z0 ?_
                obtain rfl := Option.some.inj H31
                exact endJ_ret ⟨(0, 0, o491, o493, o494, o495), rfl⟩ (ZR [])
            rintro v107 hp108 nx109 ⟨⟨⟨t42, t52, o4913, o4933, o4943, o4952⟩, he106⟩, rfl, rfl, rfl⟩
            replace he106 := he106.symm
            subst he106
            try dsimp only at H29
            dsimp only
            refine Z0 ?_
            rcases ite_inv H29 with ⟨c110, H111⟩ | ⟨c110, H111⟩
            · refine Z1 c110 ?_
              obtain rfl := Zi H111
              exact ZE0
            · refine Z1 c110 ?_
              obtain rfl := Zi H111
              exact ZE0
          · refine Z1 (Y2 (Y6 c1 (nat_of .i64 h5) h7 c11 c13 c15) c17) ?_
            rcases ite_inv H18 with ⟨c112, H113⟩ | ⟨c112, H113⟩
            · obtain ⟨l2, b114, H115⟩ := bind_inv H113
              obtain ⟨h116, h117, h118, h119⟩ := slc_inv b114
              have h120 : 1 ≤ (List.length t0.words) := by omega
              have h121 : (List.length t0.words) ≤ (List.length t0.words) := by omega
              have h122 : List.drop (1) (List.map eGWord t0.words) = List.map eGWord l2 := by rw [h119]; simp [List.map_drop, List.map_take]
              try simp only [Int.toNat_natCast] at h120 h121 h122
              refine Z1 (Y3 (Y6 c1 (nat_of .i64 h5) h7 c11 c13 c15) (Y6 c17 c112 (nat_of .i64 h116) h120 h121 h122) (chk_map (n := 2) (f := eGWord) (fun _ => rfl) t0.words)) ?_
              obtain ⟨e_3, E123, H124⟩ := bind_inv H115
              refine onCall_inl (InlOK.mono (inl_runRJ (α := { y : Int × Int × ByteArray × ByteArray × ByteArray × List GEntry // e_3 = y }) tab_ok Tryd.func50 rfl (by kernel_rfl) (by kernel_rfl) (by simp [Tryd.f50]) (fun | ⟨⟨t45, t55, o4916, o4936, o4946, o4954⟩, _⟩ => ⟨upd 4 (.v (.int .i64 t45)) (upd 5 (.v (.int .i64 t55)) noFr), upd 0 (some (.bx [.v (.int .i64 t0.at_), .d (.sl (List.map eGWord t0.words)) true])) (upd 1 (some (.bx [.v (.int .i64 0), .v (.string ByteArray.empty), .v (.slice none 0 0), .v (.string ByteArray.empty), .v (.string ByteArray.empty), .v (.slice none 0 0), .v (.int .i64 0)])) (upd 49 (some (.bx [.v (.int .i64 t25.1), .v (.string o4916), .v (.slice none 0 0), .v (.string o4936), .v (.string o4946), .d (.sl (List.map eGEntry o4954)) false, .v (.int .i64 t0.at_)])) noHp)), 61⟩) (fun | ⟨⟨t45, t55, o4916, o4936, o4946, o4954⟩, _⟩ => .tu [.v (.int .i64 t45), .v (.int .i64 t55)]) (by rintro ⟨⟨t45, t55, o4916, o4936, o4946, o4954⟩, he201⟩; first | ((simp -implicitDefEqProofs only [go_sem, Bool.false_and, Int.reduceToNat, Int.reduceLT, Int.reduceLE, Int.reduceBEq, Int.reduceBNe, Nat.reduceLT, Nat.reduceBEq, Int.reduceEq, Nat.reduceEqDiff, Nat.reduceAdd, Nat.reduceSub, Nat.reduceMul, Nat.reduceLeDiff, reduceCtorEq, ↓reduceIte, eGEntry, eGFile, eGWord, eGLine, Tryd.f50]) <;> rfl) | rfl) ?_) ?_)
              · unfold acls_Fact_C2_acls_owned at E123
                try dsimp only at E123
                refine runR_seq ?_
                refine ZT 1 ?_
                refine Z0 ?_
                refine runR_seq ?_
                refine runR_seq ?_
                refine ZT 1 ?_
                refine Z0 ?_
                obtain ⟨e_4, E125, H126⟩ := bind_inv E123
                refine runR_join (α := { y : ByteArray × ByteArray × ByteArray × List GEntry // e_4 = .inl y }) (fun | ⟨⟨o4914, o4934, o4944, o4953⟩, _⟩ => ⟨noFr, upd 0 (some (.bx [.v (.int .i64 t0.at_), .d (.sl (List.map eGWord t0.words)) true])) (upd 1 (some (.bx [.v (.int .i64 0), .v (.string ByteArray.empty), .v (.slice none 0 0), .v (.string ByteArray.empty), .v (.string ByteArray.empty), .v (.slice none 0 0), .v (.int .i64 0)])) (upd 49 (some (.bx [.v (.int .i64 t25.1), .v (.string o4914), .v (.slice none 0 0), .v (.string o4934), .v (.string o4944), .d (.sl (List.map eGEntry o4953)) false, .v (.int .i64 t0.at_)])) noHp)), 61⟩) ?_ ?_
                · refine runR_block ?_
                  refine runR_loop (α := { q : Nat × (ByteArray × ByteArray × ByteArray × List GEntry × Int) // acls_Fact_L2 n t0 t25 l2 q.1 q.2 = some e_4 }) (fun | ⟨⟨c, ⟨out18, out36, out46, out53, t115⟩⟩, _⟩ => ⟨upd 0 (.pt 49 0) (upd 9 (.d (.sl (List.map eGWord l2)) true) (upd 10 (.v (.int .i64 (l2.length : Int))) (upd 11 (.v (.int .i64 t115)) noFr))), upd 0 (some (.bx [.v (.int .i64 t0.at_), .d (.sl (List.map eGWord t0.words)) true])) (upd 1 (some (.bx [.v (.int .i64 0), .v (.string ByteArray.empty), .v (.slice none 0 0), .v (.string ByteArray.empty), .v (.string ByteArray.empty), .v (.slice none 0 0), .v (.int .i64 0)])) (upd 49 (some (.bx [.v (.int .i64 t25.1), .v (.string out18), .v (.slice none 0 0), .v (.string out36), .v (.string out46), .d (.sl (List.map eGEntry out53)) false, .v (.int .i64 t0.at_)])) noHp)), 61⟩) (fun q => q.1.1) ⟨(n, (ByteArray.empty, ByteArray.empty, ByteArray.empty, [], 0)), E125⟩ ?_ ?_
                  · exact WeakR.trans (m := ⟨upd 0 (.pt 49 0) (upd 9 (.d (.sl (List.map eGWord l2)) true) (upd 10 (.v (.int .i64 (l2.length : Int))) (upd 11 (.v (.int .i64 0)) (noFr)))), upd 0 (some (.bx [.v (.int .i64 t0.at_), .d (.sl (List.map eGWord t0.words)) true])) (upd 1 (some (.bx [.v (.int .i64 0), .v (.string ByteArray.empty), .v (.slice none 0 0), .v (.string ByteArray.empty), .v (.string ByteArray.empty), .v (.slice none 0 0), .v (.int .i64 0)])) (upd 49 (some (.bx [.v (.int .i64 t25.1), .v (.string ByteArray.empty), .v (.slice none 0 0), .v (.string ByteArray.empty), .v (.string ByteArray.empty), .d (.sl (List.map eGEntry [])) false, .v (.int .i64 t0.at_)])) (noHp))), 66⟩) (ZR []) (dat_mk (Nat.le_refl _) (df_upd (dv_same (by rfl)) (df_upd (dv_same (by rfl)) (df_upd (dv_same (by rfl)) (df_upd (dv_same (by rfl)) (df_no _))))) (dh_upd (dh_eq (by rfl)) (dh_upd (dh_eq (by rfl)) (dh_upd (dh_bx (by rfl) (dl_cons (dc_same (by rfl)) (dl_cons (dc_same (by rfl)) (dl_cons (dc_same (by rfl)) (dl_cons (dc_same (by rfl)) (dl_cons (dc_same (by rfl)) (dl_cons (dc_nil (f := eGEntry)) (dl_cons (dc_same (by rfl)) dl_nil)))))))) dh_no))))
                  · rintro ⟨⟨c, ⟨out18, out36, out46, out53, t115⟩⟩, L127⟩
                    rcases c with _ | c
                    · exact nomatch (show none = some _ from L127)
                    · unfold acls_Fact_L2 at L127
                      try dsimp only at L127
                      refine ZT 1 ?_
                      refine Z0 ?_
                      rcases ite_inv L127 with ⟨c170, H171⟩ | ⟨c170, H171⟩
                      · obtain ⟨x7, b172, H173⟩ := bind_inv H171
                        obtain ⟨h174, h175⟩ := idx_inv b172
                        try simp only [Int.reduceToNat, Int.toNat_natCast] at h175
                        have h176 := map_at eGWord h175
                        refine Z1 (Y3 c170 (nat_of .i64 h174) h176) ?_
                        rcases ite_inv H173 with ⟨c178, H179⟩ | ⟨c178, H179⟩
                        · obtain ⟨t336, b180, H181⟩ := bind_inv H179
                          refine Z1 (Y4 c170 (nat_of .i64 h174) h176 c178) ?_
                          refine ZD0 (acls_Path_ok b180) ?_
                          refine Z1 (Y4 c170 (nat_of .i64 h174) h176 c178) ?_
                          refine Rd_endF (by rfl) ?_
                          refine Z1 (Y4 c170 (nat_of .i64 h174) h176 c178) ?_
                          rcases ite_inv H181 with ⟨c182, H183⟩ | ⟨c182, H183⟩
                          · refine Z1 (Y5 c170 (nat_of .i64 h174) h176 c178 c182) ?_
                            exact ⟨⟨(c, (x7.text, out36, out46, out53, (IntKind.i64.wrap (t115 + 1)))), H183⟩, ZR [], Nat.lt_succ_self _⟩
                          · refine Z1 (Y5 c170 (nat_of .i64 h174) h176 c178 c182) ?_
                            obtain rfl := Option.some.inj H183
                            obtain rfl := Option.some.inj H126
                            exact endJ_ret ⟨(x7.at_, 15, x7.text, out36, out46, out53), rfl⟩ (ZR [])
                        · refine Z1 (Y4 c170 (nat_of .i64 h174) h176 c178) ?_
                          rcases ite_inv H179 with ⟨c184, H185⟩ | ⟨c184, H185⟩
                          · obtain ⟨t434, b186, H187⟩ := bind_inv H185
                            refine Z1 (Y5 c170 (nat_of .i64 h174) h176 c178 c184) ?_
                            refine ZD0 (atom_Name_ok b186) ?_
                            refine Z1 (Y5 c170 (nat_of .i64 h174) h176 c178 c184) ?_
                            refine Rd_endF (by rfl) ?_
                            refine Z1 (Y5 c170 (nat_of .i64 h174) h176 c178 c184) ?_
                            rcases ite_inv H187 with ⟨c188, H189⟩ | ⟨c188, H189⟩
                            · refine Z1 (Y6 c170 (nat_of .i64 h174) h176 c178 c184 c188) ?_
                              exact ⟨⟨(c, (out18, x7.text, out46, out53, (IntKind.i64.wrap (t115 + 1)))), H189⟩, ZR [], Nat.lt_succ_self _⟩
                            · refine Z1 (Y6 c170 (nat_of .i64 h174) h176 c178 c184 c188) ?_
                              obtain rfl := Option.some.inj H189
                              obtain rfl := Option.some.inj H126
                              exact endJ_ret ⟨(x7.at_, 15, out18, x7.text, out46, out53), rfl⟩ (ZR [])
                          · refine Z1 (Y5 c170 (nat_of .i64 h174) h176 c178 c184) ?_
                            rcases ite_inv H185 with ⟨c190, H191⟩ | ⟨c190, H191⟩
                            · obtain ⟨t534, b192, H193⟩ := bind_inv H191
                              refine Z1 (Y6 c170 (nat_of .i64 h174) h176 c178 c184 c190) ?_
                              refine ZD0 (atom_Name_ok b192) ?_
                              refine Z1 (Y6 c170 (nat_of .i64 h174) h176 c178 c184 c190) ?_
                              refine Rd_endF (by rfl) ?_
                              refine Z1 (Y6 c170 (nat_of .i64 h174) h176 c178 c184 c190) ?_
                              rcases ite_inv H193 with ⟨c194, H195⟩ | ⟨c194, H195⟩
                              · refine Z1 (Y2 (Y6 c170 (nat_of .i64 h174) h176 c178 c184 c190) c194) ?_
                                exact ⟨⟨(c, (out18, out36, x7.text, out53, (IntKind.i64.wrap (t115 + 1)))), H195⟩, ZR [], Nat.lt_succ_self _⟩
                              · refine Z1 (Y2 (Y6 c170 (nat_of .i64 h174) h176 c178 c184 c190) c194) ?_
                                obtain rfl := Option.some.inj H195
                                obtain rfl := Option.some.inj H126
                                exact endJ_ret ⟨(x7.at_, 15, out18, out36, x7.text, out53), rfl⟩ (ZR [])
                            · obtain ⟨t214, b196, H197⟩ := bind_inv H191
                              refine Z1 (Y6 c170 (nat_of .i64 h174) h176 c178 c184 c190) ?_
                              refine ZC0 (acls_Entries_ok b196) ?_
                              refine Z1 (Y6 c170 (nat_of .i64 h174) h176 c178 c184 c190) ?_
                              rcases ite_inv H197 with ⟨c198, H199⟩ | ⟨c198, H199⟩
                              · refine Z1 (Y2 (Y6 c170 (nat_of .i64 h174) h176 c178 c184 c190) c198) ?_
                                exact ⟨⟨(c, (out18, out36, out46, t214.1, (IntKind.i64.wrap (t115 + 1)))), H199⟩, ZR [], Nat.lt_succ_self _⟩
                              · refine Z1 (Y2 (Y6 c170 (nat_of .i64 h174) h176 c178 c184 c190) c198) ?_
                                obtain rfl := Option.some.inj H199
                                obtain rfl := Option.some.inj H126
                                exact endJ_ret ⟨(x7.at_, 15, out18, out36, out46, t214.1), rfl⟩ (ZR [])
                      · refine Z1 c170 ?_
                        obtain rfl := Zi H171
                        exact ⟨⟨(out18, out36, out46, out53), rfl⟩, ZR []⟩
                · rintro ⟨⟨o4914, o4934, o4944, o4953⟩, he200⟩
                  replace he200 := he200.symm
                  subst he200
                  try dsimp only at H126
                  refine ZT 1 ?_
                  refine Z0 ?_
                  obtain rfl := Option.some.inj H126
                  exact endJ_ret ⟨(0, 0, o4914, o4934, o4944, o4953), rfl⟩ (ZR [])
              rintro v202 hp203 nx204 ⟨⟨⟨t45, t55, o4916, o4936, o4946, o4954⟩, he201⟩, rfl, rfl, rfl⟩
              replace he201 := he201.symm
              subst he201
              try dsimp only at H124
              dsimp only
              refine Z0 ?_
              rcases ite_inv H124 with ⟨c205, H206⟩ | ⟨c205, H206⟩
              · refine Z1 c205 ?_
                obtain rfl := Zi H206
                exact ZE0
              · refine Z1 c205 ?_
                obtain rfl := Zi H206
                exact ZE0
            · obtain ⟨l3, b207, H208⟩ := bind_inv H113
              obtain ⟨h209, h210, h211, h212⟩ := slc_inv b207
              have h213 : 1 ≤ (List.length t0.words) := by omega
              have h214 : (List.length t0.words) ≤ (List.length t0.words) := by omega
              have h215 : List.drop (1) (List.map eGWord t0.words) = List.map eGWord l3 := by rw [h212]; simp [List.map_drop, List.map_take]
              try simp only [Int.toNat_natCast] at h213 h214 h215
              refine Z1 (Y3 (Y6 c1 (nat_of .i64 h5) h7 c11 c13 c15) (Y6 c17 c112 (nat_of .i64 h209) h213 h214 h215) (chk_map (n := 2) (f := eGWord) (fun _ => rfl) t0.words)) ?_
              obtain ⟨e_5, E216, H217⟩ := bind_inv H208
              refine onCall_inl (InlOK.mono (inl_runRJ (α := { y : Int × Int × ByteArray × List ByteArray // e_5 = y } × Nat) tab_ok Tryd.func49 rfl (by kernel_rfl) (by kernel_rfl) (by simp [Tryd.f49]) (fun | ⟨⟨⟨t46, t56, o4812, o4822⟩, _⟩, g4⟩ => ⟨upd 4 (.v (.int .i64 t46)) (upd 5 (.v (.int .i64 t56)) noFr), upd 0 (some (.bx [.v (.int .i64 t0.at_), .d (.sl (List.map eGWord t0.words)) true])) (upd 1 (some (.bx [.v (.int .i64 0), .v (.string ByteArray.empty), .v (.slice none 0 0), .v (.string ByteArray.empty), .v (.string ByteArray.empty), .v (.slice none 0 0), .v (.int .i64 0)])) (upd 48 (some (.bx [.v (.int .i64 t25.1), .v (.string o4812), accV 60 g4 (List.map eS o4822), .v (.string ByteArray.empty), .v (.string ByteArray.empty), .v (.slice none 0 0), .v (.int .i64 t0.at_)])) (upd 60 (accO 1 g4 false (List.map eS o4822)) noHp))), 61⟩) (fun | ⟨⟨⟨t46, t56, o4812, o4822⟩, _⟩, g4⟩ => .tu [.v (.int .i64 t46), .v (.int .i64 t56)]) (by rintro ⟨⟨⟨t46, t56, o4812, o4822⟩, he270⟩, g4⟩; first | ((simp -implicitDefEqProofs only [go_sem, Bool.false_and, Int.reduceToNat, Int.reduceLT, Int.reduceLE, Int.reduceBEq, Int.reduceBNe, Nat.reduceLT, Nat.reduceBEq, Int.reduceEq, Nat.reduceEqDiff, Nat.reduceAdd, Nat.reduceSub, Nat.reduceMul, Nat.reduceLeDiff, reduceCtorEq, ↓reduceIte, eGEntry, eGFile, eGWord, eGLine, Tryd.f49]) <;> rfl) | rfl) ?_) ?_)
              · unfold acls_Fact_C3_acls_named at E216
                try dsimp only at E216
                refine runR_seq ?_
                refine ZT 1 ?_
                refine Z0 ?_
                refine runR_seq ?_
                refine runR_seq ?_
                refine ZT 1 ?_
                refine Z0 ?_
                obtain ⟨e_6, E218, H219⟩ := bind_inv E216
                refine runR_join (α := { y : ByteArray × List ByteArray // e_6 = .inl y } × Nat) (fun | ⟨⟨⟨o481, o482⟩, _⟩, g3⟩ => ⟨noFr, upd 0 (some (.bx [.v (.int .i64 t0.at_), .d (.sl (List.map eGWord t0.words)) true])) (upd 1 (some (.bx [.v (.int .i64 0), .v (.string ByteArray.empty), .v (.slice none 0 0), .v (.string ByteArray.empty), .v (.string ByteArray.empty), .v (.slice none 0 0), .v (.int .i64 0)])) (upd 48 (some (.bx [.v (.int .i64 t25.1), .v (.string o481), accV 60 g3 (List.map eS o482), .v (.string ByteArray.empty), .v (.string ByteArray.empty), .v (.slice none 0 0), .v (.int .i64 t0.at_)])) (upd 60 (accO 1 g3 false (List.map eS o482)) noHp))), 61⟩) ?_ ?_
                · refine runR_block ?_
                  refine runR_loop (α := { q : (Nat × (ByteArray × List ByteArray × Int)) × Nat // acls_Fact_L3 n t0 t25 l3 q.1.1 q.1.2 = some e_6 }) (fun | ⟨⟨⟨c, ⟨out112, out2, t102⟩⟩, g⟩, _⟩ => ⟨upd 0 (.pt 48 0) (upd 8 (.d (.sl (List.map eGWord l3)) true) (upd 9 (.v (.int .i64 (l3.length : Int))) (upd 10 (.v (.int .i64 t102)) noFr))), upd 0 (some (.bx [.v (.int .i64 t0.at_), .d (.sl (List.map eGWord t0.words)) true])) (upd 1 (some (.bx [.v (.int .i64 0), .v (.string ByteArray.empty), .v (.slice none 0 0), .v (.string ByteArray.empty), .v (.string ByteArray.empty), .v (.slice none 0 0), .v (.int .i64 0)])) (upd 48 (some (.bx [.v (.int .i64 t25.1), .v (.string out112), accV 60 g (List.map eS out2), .v (.string ByteArray.empty), .v (.string ByteArray.empty), .v (.slice none 0 0), .v (.int .i64 t0.at_)])) (upd 60 (accO 1 g false (List.map eS out2)) noHp))), 61⟩) (fun q => q.1.1.1) ⟨((n, (ByteArray.empty, [], 0)), 0), E218⟩ ?_ ?_
                  · exact ZR []
                  · rintro ⟨⟨⟨c, ⟨out112, out2, t102⟩⟩, g⟩, L220⟩
                    rcases c with _ | c
                    · exact nomatch (show none = some _ from L220)
                    · unfold acls_Fact_L3 at L220
                      try dsimp only at L220
                      refine ZT 1 ?_
                      refine Z0 ?_
                      rcases ite_inv L220 with ⟨c247, H248⟩ | ⟨c247, H248⟩
                      · obtain ⟨x10, b249, H250⟩ := bind_inv H248
                        obtain ⟨h251, h252⟩ := idx_inv b249
                        try simp only [Int.reduceToNat, Int.toNat_natCast] at h252
                        have h253 := map_at eGWord h252
                        obtain ⟨t173, b255, H256⟩ := bind_inv H250
                        refine Z1 (Y3 c247 (nat_of .i64 h251) h253) ?_
                        refine ZC0 (atom_Name_ok b255) ?_
                        refine Z1 (Y3 c247 (nat_of .i64 h251) h253) ?_
                        rcases ite_inv H256 with ⟨c257, H258⟩ | ⟨c257, H258⟩
                        · refine Z1 (Y4 c247 (nat_of .i64 h251) h253 c257) ?_
                          rcases ite_inv H258 with ⟨c259, H260⟩ | ⟨c259, H260⟩
                          · refine Z1 (Y5 c247 (nat_of .i64 h251) h253 c257 c259) ?_
                            exact ⟨⟨((c, (x10.text, out2, (IntKind.i64.wrap (t102 + 1)))), g), H260⟩, ZR [(60, 60)], Nat.lt_succ_self _⟩
                          · obtain ⟨l4, b261, H262⟩ := bind_inv H260
                            obtain ⟨h263, h264⟩ := app_inv b261
                            have h263 : out2.length + 1 ≤ 4294967296 := h263
                            have h265 : List.map eS out2 ++ [[.v (.string x10.text)]] = List.map eS l4 := app_map eS h264
                            have h266 : out2.length + 1 = l4.length := app_len h264
                            have h267 : l4.length ≤ 4294967296 := by omega
                            have q268 : 0 < l4.length := by omega
                            refine Z1 (Y2 (Y6 c247 (nat_of .i64 h251) h253 c257 c259 h263) (Y3 h265 h266 h267)) ?_
                            refine Rd_endF (by (cases out2 <;> rfl)) ?_
                            refine Z1 (Y2 (Y6 c247 (nat_of .i64 h251) h253 c257 c259 h263) (Y3 h265 h266 h267)) ?_
                            rcases out2 with _ | ⟨q0, q1⟩
                            · try simp only [List.map_nil, accI, accN]
                              exact ⟨⟨((c, (out112, l4, (IntKind.i64.wrap (t102 + 1)))), 0), H262⟩, ZR [(60, 82)], Nat.lt_succ_self _⟩
                            · try simp only [List.map_cons, accI, accN]
                              exact ⟨⟨((c, (out112, l4, (IntKind.i64.wrap (t102 + 1)))), (g + 1)), H262⟩, ZR [(60, 60)], Nat.lt_succ_self _⟩
                        · refine Z1 (Y4 c247 (nat_of .i64 h251) h253 c257) ?_
                          obtain rfl := Option.some.inj H258
                          obtain rfl := Option.some.inj H219
                          exact endJ_ret ⟨⟨(x10.at_, 15, out112, out2), rfl⟩, g⟩ (ZR [(60, 60)])
                      · refine Z1 c247 ?_
                        obtain rfl := Zi H248
                        exact ⟨⟨⟨(out112, out2), rfl⟩, g⟩, ZR [(60, 60)]⟩
                · rintro ⟨⟨⟨o481, o482⟩, he269⟩, g3⟩
                  replace he269 := he269.symm
                  subst he269
                  try dsimp only at H219
                  refine ZT 1 ?_
                  refine Z0 ?_
                  obtain rfl := Option.some.inj H219
                  exact endJ_ret ⟨⟨(0, 0, o481, o482), rfl⟩, g3⟩ (ZR [(60, 60)])
              rintro v271 hp272 nx273 ⟨⟨⟨⟨t46, t56, o4812, o4822⟩, he270⟩, g4⟩, rfl, rfl, rfl⟩
              replace he270 := he270.symm
              subst he270
              try dsimp only at H217
              dsimp only
              refine Z0 ?_
              rcases ite_inv H217 with ⟨c274, H275⟩ | ⟨c274, H275⟩
              · refine Z1 c274 ?_
                obtain rfl := Zi H275
                exact ZE0
              · refine Z1 c274 ?_
                obtain rfl := Zi H275
                exact ZE1 c274
def acls_Parse_L1 (n : Nat) (t16 : List GLine × Int × Int) : Nat → (List GFile × Int) → Option ((List GFile) ⊕ (List GFile × Int × Int))
  | 0, _ => none
  | c + 1, (out, t26) =>
    (if (decide (t26 < (t16.1.length : Int))) then
      (idx t16.1 t26).bind fun x2 =>
      (if (decide (2000 ≤ t26)) then
        some (.inr ([], x2.at_, 8))
      else
        (acls_Fact n x2).bind fun t372 =>
        (if (t372.2.2 != 0) then
          some (.inr ([], t372.2.1, t372.2.2))
        else
          (app out [(⟨t372.1.kind, t372.1.name, t372.1.users, t372.1.owner, t372.1.group, t372.1.acl, t372.1.at_⟩ : GFile)]).bind fun l =>
          acls_Parse_L1 n t16 c (l, (IntKind.i64.wrap (t26 + 1)))))
    else
      some (.inl out))

def acls_Parse (n : Nat) (s : ByteArray) : Option (List GFile × Int × Int) :=
  (line_Lines n s).bind fun t16 =>
  (if (t16.2.2 != 0) then
    some ([], t16.2.1, t16.2.2)
  else
    (
      acls_Parse_L1 n t16 n ([], 0) : Option ((List GFile) ⊕ (List GFile × Int × Int))).bind fun
      | .inl out3 =>
        some (out3, 0, 0)
      | .inr r => some r)
theorem acls_Parse_ok {n : Nat} {s : ByteArray} {r : List GFile × Int × Int} (H : acls_Parse n s = some r) : PureOK Tryd.prog 8 [D.v (.string s)] (D.tu [D.sl (List.map eGFile r.1), D.v (.int .i64 r.2.1), D.v (.int .i64 r.2.2)]) true := by
  unfold acls_Parse at H
  refine ZP tab_ok fol (rs := #[.tmp 2, .tmp 3, .tmp 4]) Tryd.func8 ?_
  refine runR_seq ?_
  refine ZT 1 ?_
  refine Z0 ?_
  refine runR_seq ?_
  refine ZT 1 ?_
  obtain ⟨t16, b1, H2⟩ := bind_inv H
  refine Z0 ?_
  refine ZC0 (line_Lines_ok b1) ?_
  refine Z0 ?_
  refine runR_seq ?_
  refine ZT 1 ?_
  refine Z0 ?_
  rcases ite_inv H2 with ⟨c3, H4⟩ | ⟨c3, H4⟩
  · refine Z1 c3 ?_
    obtain rfl := Zi H4
    exact ZE0
  · refine Z1 c3 ?_
    refine runR_seq ?_
    refine ZT 1 ?_
    refine Z1 c3 ?_
    refine runR_seq ?_
    refine runR_seq ?_
    refine ZT 1 ?_
    refine Z1 c3 ?_
    obtain ⟨e_, E5, H6⟩ := bind_inv H4
    refine runR_join (α := { y : List GFile // e_ = .inl y } × Nat) (fun | ⟨⟨out3, _⟩, g3⟩ => ⟨upd 8 (accV 0 g3 (List.map eGFile out3)) noFr, upd 0 (accO 7 g3 false (List.map eGFile out3)) noHp, 1⟩) ?_ ?_
    · refine runR_block ?_
      refine runR_loop (α := { q : (Nat × (List GFile × Int)) × Nat // acls_Parse_L1 n t16 q.1.1 q.1.2 = some e_ }) (fun | ⟨⟨⟨c, ⟨out, t26⟩⟩, g⟩, _⟩ => ⟨upd 8 (accV 0 g (List.map eGFile out)) (upd 24 (.d (.sl (List.map eGLine t16.1)) false) (upd 25 (.v (.int .i64 (t16.1.length : Int))) (upd 26 (.v (.int .i64 t26)) noFr))), upd 0 (accO 7 g false (List.map eGFile out)) noHp, 1⟩) (fun q => q.1.1.1) ⟨((n, ([], 0)), 0), E5⟩ ?_ ?_
      · exact ZR []
      · rintro ⟨⟨⟨c, ⟨out, t26⟩⟩, g⟩, L7⟩
        rcases c with _ | c
        · exact nomatch (show none = some _ from L7)
        · unfold acls_Parse_L1 at L7
          try dsimp only at L7
          refine ZT 1 ?_
          refine Z0 ?_
          rcases ite_inv L7 with ⟨c20, H21⟩ | ⟨c20, H21⟩
          · obtain ⟨x2, b22, H23⟩ := bind_inv H21
            obtain ⟨h24, h25⟩ := idx_inv b22
            try simp only [Int.reduceToNat, Int.toNat_natCast] at h25
            have h26 := map_at eGLine h25
            refine Z1 (Y3 c20 (nat_of .i64 h24) h26) ?_
            rcases ite_inv H23 with ⟨c28, H29⟩ | ⟨c28, H29⟩
            · refine Z1 (Y4 c20 (nat_of .i64 h24) h26 c28) ?_
              refine Rd_endF (by rfl) ?_
              refine Z1 (Y4 c20 (nat_of .i64 h24) h26 c28) ?_
              obtain rfl := Zi H29
              obtain rfl := Zi H6
              exact ZE0
            · obtain ⟨t372, b30, H31⟩ := bind_inv H29
              refine Z1 (Y4 c20 (nat_of .i64 h24) h26 c28) ?_
              refine ZC0 (acls_Fact_ok b30) ?_
              refine Z1 (Y4 c20 (nat_of .i64 h24) h26 c28) ?_
              rcases ite_inv H31 with ⟨c32, H33⟩ | ⟨c32, H33⟩
              · refine Z1 (Y5 c20 (nat_of .i64 h24) h26 c28 c32) ?_
                obtain rfl := Zi H33
                obtain rfl := Zi H6
                exact ZE0
              · obtain ⟨l, b34, H35⟩ := bind_inv H33
                obtain ⟨h36, h37⟩ := app_inv b34
                have h36 : out.length + 1 ≤ 4294967296 := h36
                have h38 : List.map eGFile out ++ [[.v (.int .i64 t372.1.kind), .v (.string t372.1.name), .sl (List.map eS t372.1.users), .v (.string t372.1.owner), .v (.string t372.1.group), .sl (List.map eGEntry t372.1.acl), .v (.int .i64 t372.1.at_)]] = List.map eGFile l := app_map eGFile h37
                have h39 : out.length + 1 = l.length := app_len h37
                have h40 : l.length ≤ 4294967296 := by omega
                have q41 : 0 < l.length := by omega
                refine Z1 (Y2 (Y6 c20 (nat_of .i64 h24) h26 c28 c32 h36) (Y3 h38 h39 h40)) ?_
                rcases out with _ | ⟨q0, q1⟩
                · try simp only [List.map_nil, accI, accN]
                  exact ⟨⟨((c, (l, (IntKind.i64.wrap (t26 + 1)))), 0), H35⟩, ZR [(0, 25)], Nat.lt_succ_self _⟩
                · try simp only [List.map_cons, accI, accN]
                  exact ⟨⟨((c, (l, (IntKind.i64.wrap (t26 + 1)))), (g + 1)), H35⟩, ZR [(0, 0)], Nat.lt_succ_self _⟩
          · refine Z1 c20 ?_
            obtain rfl := Zi H21
            exact ⟨⟨⟨out, rfl⟩, g⟩, ZR [(0, 0)]⟩
    · rintro ⟨⟨out3, he42⟩, g3⟩
      replace he42 := he42.symm
      subst he42
      try dsimp only at H6
      refine ZT 1 ?_
      refine Z0 ?_
      obtain rfl := Zi H6
      exact ZE0
def slices_Equal_string_L1 (n : Nat) (s1 : List ByteArray) (s2 : List ByteArray) : Nat → Int → Option ((Unit) ⊕ Bool)
  | 0, _ => none
  | c + 1, t13 =>
    (if (decide (t13 < (s1.length : Int))) then
      (idx s1 t13).bind fun x3 =>
      (idx s2 t13).bind fun x4 =>
      (if (x3.toList == x4.toList) then
        slices_Equal_string_L1 n s1 s2 c (IntKind.i64.wrap (t13 + 1))
      else
        some (.inr false))
    else
      some (.inl ()))

def slices_Equal_string (n : Nat) (s1 : List ByteArray) (s2 : List ByteArray) : Option Bool :=
  (if ((s1.length : Int) != (s2.length : Int)) then
    some false
  else
    (
      slices_Equal_string_L1 n s1 s2 n 0 : Option ((Unit) ⊕ Bool)).bind fun
      | .inl _ =>
        some true
      | .inr r => some r)
theorem slices_Equal_string_ok {n : Nat} {s1 : List ByteArray} {s2 : List ByteArray} {r : Bool} (H : slices_Equal_string n s1 s2 = some r) : PureOK Tryd.prog 71 [D.sl (List.map eS s1), D.sl (List.map eS s2)] (D.v (.bool r)) true := by
  unfold slices_Equal_string at H
  refine ZP tab_ok fol (rs := #[.tmp 4]) Tryd.func71 ?_
  refine runR_seq ?_
  refine ZT 1 ?_
  refine Z0 ?_
  refine runR_seq ?_
  refine ZT 1 ?_
  refine Z0 ?_
  rcases ite_inv H with ⟨c1, H2⟩ | ⟨c1, H2⟩
  · refine Z1 c1 ?_
    obtain rfl := Zi H2
    exact ZE0
  · refine Z1 c1 ?_
    refine runR_seq ?_
    refine runR_seq ?_
    refine ZT 1 ?_
    refine Z1 c1 ?_
    obtain ⟨e_, E3, H4⟩ := bind_inv H2
    refine runR_join (α := { y : Unit // e_ = .inl y }) (fun | ⟨_, _⟩ => ⟨noFr, noHp, 0⟩) ?_ ?_
    · refine runR_block ?_
      refine runR_loop (α := { q : Nat × Int // slices_Equal_string_L1 n s1 s2 q.1 q.2 = some e_ }) (fun | ⟨⟨c, t13⟩, _⟩ => ⟨upd 0 (.d (.sl (List.map eS s1)) true) (upd 1 (.d (.sl (List.map eS s2)) true) (upd 12 (.v (.int .i64 (s1.length : Int))) (upd 13 (.v (.int .i64 t13)) noFr))), noHp, 0⟩) (fun q => q.1.1) ⟨(n, 0), E3⟩ ?_ ?_
      · exact ZR []
      · rintro ⟨⟨c, t13⟩, L5⟩
        rcases c with _ | c
        · exact nomatch (show none = some _ from L5)
        · unfold slices_Equal_string_L1 at L5
          try dsimp only at L5
          refine ZT 1 ?_
          refine Z0 ?_
          rcases ite_inv L5 with ⟨c22, H23⟩ | ⟨c22, H23⟩
          · obtain ⟨x3, b24, H25⟩ := bind_inv H23
            obtain ⟨h26, h27⟩ := idx_inv b24
            try simp only [Int.reduceToNat, Int.toNat_natCast] at h27
            have h28 := map_at eS h27
            obtain ⟨x4, b30, H31⟩ := bind_inv H25
            obtain ⟨h32, h33⟩ := idx_inv b30
            try simp only [Int.reduceToNat, Int.toNat_natCast] at h33
            have h34 := map_at eS h33
            refine Z1 (Y5 c22 (nat_of .i64 h26) h28 (nat_of .i64 h32) h34) ?_
            refine Rd_endF (by rfl) ?_
            refine Z1 (Y5 c22 (nat_of .i64 h26) h28 (nat_of .i64 h32) h34) ?_
            rcases ite_inv H31 with ⟨c36, H37⟩ | ⟨c36, H37⟩
            · refine Z1 (Y6 c22 (nat_of .i64 h26) h28 (nat_of .i64 h32) h34 c36) ?_
              exact ⟨⟨(c, (IntKind.i64.wrap (t13 + 1))), H37⟩, ZR [], Nat.lt_succ_self _⟩
            · refine Z1 (Y6 c22 (nat_of .i64 h26) h28 (nat_of .i64 h32) h34 c36) ?_
              obtain rfl := Zi H37
              obtain rfl := Zi H4
              exact ZE0
          · refine Z1 c22 ?_
            obtain rfl := Zi H23
            exact ⟨⟨(), rfl⟩, ZR []⟩
    · rintro ⟨_, he38⟩
      replace he38 := he38.symm
      subst he38
      try dsimp only at H4
      refine ZT 1 ?_
      refine Z0 ?_
      obtain rfl := Zi H4
      exact ZE0
def acls_same (n : Nat) (a : GFile) (b : GFile) : Option Bool :=
  (if (a.kind == b.kind) then
    (if (a.name.toList == b.name.toList) then
      (if (a.owner.toList == b.owner.toList) then
        (if (a.group.toList == b.group.toList) then
          (slices_Equal_string n a.users b.users).bind fun t36 =>
          (if t36 then
            (slices_Equal_Entry n a.acl b.acl).bind fun t43 =>
            some t43
          else
            some false)
        else
          some false)
      else
        some false)
    else
      some false)
  else
    some false)
theorem acls_same_ok {n : Nat} {a : GFile} {b : GFile} {r : Bool} (H : acls_same n a b = some r) : PureOK Tryd.prog 54 [D.ag (eGFile a), D.ag (eGFile b)] (D.v (.bool r)) true := by
  unfold acls_same at H
  refine ZP tab_ok fol (rs := #[.tmp 4]) Tryd.func54 ?_
  refine ZT 1 ?_
  refine Z0 ?_
  rcases ite_inv H with ⟨c1, H2⟩ | ⟨c1, H2⟩
  · refine Z1 c1 ?_
    rcases ite_inv H2 with ⟨c3, H4⟩ | ⟨c3, H4⟩
    · refine Z1 (Y2 c1 c3) ?_
      rcases ite_inv H4 with ⟨c5, H6⟩ | ⟨c5, H6⟩
      · refine Z1 (Y3 c1 c3 c5) ?_
        rcases ite_inv H6 with ⟨c7, H8⟩ | ⟨c7, H8⟩
        · obtain ⟨t36, b9, H10⟩ := bind_inv H8
          refine Z1 (Y4 c1 c3 c5 c7) ?_
          refine ZC0 (slices_Equal_string_ok b9) ?_
          refine Z1 (Y4 c1 c3 c5 c7) ?_
          rcases ite_inv H10 with ⟨c11, H12⟩ | ⟨c11, H12⟩
          · obtain ⟨t43, b13, H14⟩ := bind_inv H12
            refine Z1 (Y5 c1 c3 c5 c7 c11) ?_
            refine ZC0 (slices_Equal_Entry_ok b13) ?_
            refine Z1 (Y5 c1 c3 c5 c7 c11) ?_
            obtain rfl := Zi H14
            exact ZE0
          · refine Z1 (Y5 c1 c3 c5 c7 c11) ?_
            obtain rfl := Zi H12
            exact ZE0
        · refine Z1 (Y4 c1 c3 c5 c7) ?_
          obtain rfl := Zi H8
          exact ZE0
      · refine Z1 (Y3 c1 c3 c5) ?_
        obtain rfl := Zi H6
        exact ZE0
    · refine Z1 (Y2 c1 c3) ?_
      obtain rfl := Zi H4
      exact ZE0
  · refine Z1 c1 ?_
    obtain rfl := Zi H2
    exact ZE0
def slices_EqualFunc___api_File___api_File_api_File_api_File___acls_same_L1 (n : Nat) (s1 : List GFile) (s2 : List GFile) : Nat → Int → Option ((Unit) ⊕ Bool)
  | 0, _ => none
  | c + 1, t17 =>
    (if (decide (t17 < (s1.length : Int))) then
      (idx s1 t17).bind fun x3 =>
      (idx s2 t17).bind fun x4 =>
      (acls_same n x3 x4).bind fun t292 =>
      (if t292 then
        slices_EqualFunc___api_File___api_File_api_File_api_File___acls_same_L1 n s1 s2 c (IntKind.i64.wrap (t17 + 1))
      else
        some (.inr false))
    else
      some (.inl ()))

def slices_EqualFunc___api_File___api_File_api_File_api_File___acls_same (n : Nat) (s1 : List GFile) (s2 : List GFile) : Option Bool :=
  (if ((s1.length : Int) != (s2.length : Int)) then
    some false
  else
    (
      slices_EqualFunc___api_File___api_File_api_File_api_File___acls_same_L1 n s1 s2 n 0 : Option ((Unit) ⊕ Bool)).bind fun
      | .inl _ =>
        some true
      | .inr r => some r)
theorem slices_EqualFunc___api_File___api_File_api_File_api_File___acls_same_ok {n : Nat} {s1 : List GFile} {s2 : List GFile} {r : Bool} (H : slices_EqualFunc___api_File___api_File_api_File_api_File___acls_same n s1 s2 = some r) : PureA Tryd.prog 53 [.d (D.sl (List.map eGFile s1)), .d (D.sl (List.map eGFile s2)), .fn 54 []] (D.v (.bool r)) true := by
  unfold slices_EqualFunc___api_File___api_File_api_File_api_File___acls_same at H
  refine ZPA tab_ok fol (rs := #[.tmp 6]) Tryd.func53 ?_
  refine runR_seq ?_
  refine ZT 1 ?_
  refine Z0 ?_
  refine runR_seq ?_
  refine ZT 1 ?_
  refine Z0 ?_
  rcases ite_inv H with ⟨c1, H2⟩ | ⟨c1, H2⟩
  · refine Z1 c1 ?_
    obtain rfl := Zi H2
    exact ZE0
  · refine Z1 c1 ?_
    refine runR_seq ?_
    refine runR_seq ?_
    refine ZT 1 ?_
    refine Z1 c1 ?_
    obtain ⟨e_, E3, H4⟩ := bind_inv H2
    refine runR_join (α := { y : Unit // e_ = .inl y }) (fun | ⟨_, _⟩ => ⟨noFr, noHp, 0⟩) ?_ ?_
    · refine runR_block ?_
      refine runR_loop (α := { q : Nat × Int // slices_EqualFunc___api_File___api_File_api_File_api_File___acls_same_L1 n s1 s2 q.1 q.2 = some e_ }) (fun | ⟨⟨c, t17⟩, _⟩ => ⟨upd 1 (.d (.sl (List.map eGFile s2)) true) (upd 2 (.fn 54 []) (upd 15 (.d (.sl (List.map eGFile s1)) true) (upd 16 (.v (.int .i64 (s1.length : Int))) (upd 17 (.v (.int .i64 t17)) noFr)))), noHp, 0⟩) (fun q => q.1.1) ⟨(n, 0), E3⟩ ?_ ?_
      · exact ZR []
      · rintro ⟨⟨c, t17⟩, L5⟩
        rcases c with _ | c
        · exact nomatch (show none = some _ from L5)
        · unfold slices_EqualFunc___api_File___api_File_api_File_api_File___acls_same_L1 at L5
          try dsimp only at L5
          refine ZT 1 ?_
          refine Z0 ?_
          rcases ite_inv L5 with ⟨c24, H25⟩ | ⟨c24, H25⟩
          · obtain ⟨x3, b26, H27⟩ := bind_inv H25
            obtain ⟨h28, h29⟩ := idx_inv b26
            try simp only [Int.reduceToNat, Int.toNat_natCast] at h29
            have h30 := map_at eGFile h29
            obtain ⟨x4, b32, H33⟩ := bind_inv H27
            obtain ⟨h34, h35⟩ := idx_inv b32
            try simp only [Int.reduceToNat, Int.toNat_natCast] at h35
            have h36 := map_at eGFile h35
            obtain ⟨t292, b38, H39⟩ := bind_inv H33
            refine Z1 (Y5 c24 (nat_of .i64 h28) h30 (nat_of .i64 h34) h36) ?_
            refine ZC0 (acls_same_ok b38) ?_
            refine Z1 (Y5 c24 (nat_of .i64 h28) h30 (nat_of .i64 h34) h36) ?_
            rcases ite_inv H39 with ⟨c40, H41⟩ | ⟨c40, H41⟩
            · refine Z1 (Y6 c24 (nat_of .i64 h28) h30 (nat_of .i64 h34) h36 c40) ?_
              exact ⟨⟨(c, (IntKind.i64.wrap (t17 + 1))), H41⟩, ZR [], Nat.lt_succ_self _⟩
            · refine Z1 (Y6 c24 (nat_of .i64 h28) h30 (nat_of .i64 h34) h36 c40) ?_
              obtain rfl := Zi H41
              obtain rfl := Zi H4
              exact ZE0
          · refine Z1 c24 ?_
            obtain rfl := Zi H25
            exact ⟨⟨(), rfl⟩, ZR []⟩
    · rintro ⟨_, he42⟩
      replace he42 := he42.symm
      subst he42
      try dsimp only at H4
      refine ZT 1 ?_
      refine Z0 ?_
      obtain rfl := Zi H4
      exact ZE0
def acls_Same (n : Nat) (a : List GFile) (b : List GFile) : Option Bool :=
  (slices_EqualFunc___api_File___api_File_api_File_api_File___acls_same n a b).bind fun t7 =>
  some t7
theorem acls_Same_ok {n : Nat} {a : List GFile} {b : List GFile} {r : Bool} (H : acls_Same n a b = some r) : PureOK Tryd.prog 27 [D.sl (List.map eGFile a), D.sl (List.map eGFile b)] (D.v (.bool r)) true := by
  unfold acls_Same at H
  refine ZP tab_ok fol (rs := #[.tmp 4]) Tryd.func27 ?_
  refine ZT 1 ?_
  obtain ⟨t7, b1, H2⟩ := bind_inv H
  refine Z0 ?_
  refine ZA0 (slices_EqualFunc___api_File___api_File_api_File_api_File___acls_same_ok b1) ?_
  refine Z0 ?_
  obtain rfl := Zi H2
  exact ZE0
end Go.Proofs.YtkikhbfdadambaaDoor.Ab
