/-
  Functions, read off the code.
-/
import Derived.Test.YtkikhbfdadambaaDoorAcs
import Derived.Test.YtkikhbfdadambaaDoorAwa
namespace Go.Proofs.YtkikhbfdadambaaDoor.Ab
open Go.RowKit
def law17_AclsForms_L1 (n : Nat) (t1 : Int) : Nat → (ByteArray × Int) → Option (ByteArray)
  | 0, _ => none
  | c + 1, (t5, t6) =>
    (if (decide (t6 < 3)) then
      grd (decide (0 ≤ (IntKind.u64.wrap t6))) <|
      (if ((IntKind.i64.wrap (an (IntKind.i64.wrap (an t1 7 : Int)) (sh 4 (Int.toNat (IntKind.u64.wrap t6))) : Int)) != 0) then
        (bslc ({ data := #[114, 119, 120] }) t6 (IntKind.i64.wrap (t6 + 1))).bind fun s4 =>
        (cat t5 s4).bind fun s5 =>
        law17_AclsForms_L1 n t1 c (s5, (IntKind.i64.wrap (t6 + 1)))
      else
        (cat t5 ({ data := #[45] })).bind fun s6 =>
        law17_AclsForms_L1 n t1 c (s6, (IntKind.i64.wrap (t6 + 1))))
    else
      some t5)

def law17_AclsForms (n : Nat) (t0 : Int) (t1 : Int) : Option Bool :=
  (
    law17_AclsForms_L1 n t1 n ({ data := #[] }, 0) : Option (ByteArray)).bind fun t53 =>
  (idx [(⟨{ data := #[117, 58, 58] }, true, (⟨1, false, ByteArray.empty, 0⟩ : GEntry)⟩ : S_s_ok_e), (⟨{ data := #[117, 58, 97, 58] }, true, (⟨2, false, { data := #[97] }, 0⟩ : GEntry)⟩ : S_s_ok_e), (⟨{ data := #[103, 58, 58] }, true, (⟨3, false, ByteArray.empty, 0⟩ : GEntry)⟩ : S_s_ok_e), (⟨{ data := #[103, 58, 97, 45, 49, 58] }, true, (⟨4, false, { data := #[97, 45, 49] }, 0⟩ : GEntry)⟩ : S_s_ok_e), (⟨{ data := #[109, 58, 58] }, true, (⟨5, false, ByteArray.empty, 0⟩ : GEntry)⟩ : S_s_ok_e), (⟨{ data := #[111, 58, 58] }, true, (⟨6, false, ByteArray.empty, 0⟩ : GEntry)⟩ : S_s_ok_e), (⟨{ data := #[100, 58, 117, 58, 97, 58] }, true, (⟨2, true, { data := #[97] }, 0⟩ : GEntry)⟩ : S_s_ok_e), (⟨{ data := #[100, 58, 111, 58, 58] }, true, (⟨6, true, ByteArray.empty, 0⟩ : GEntry)⟩ : S_s_ok_e), (⟨{ data := #[120, 58, 58] }, false, (⟨0, false, ByteArray.empty, 0⟩ : GEntry)⟩ : S_s_ok_e), (⟨{ data := #[117, 58] }, false, (⟨0, false, ByteArray.empty, 0⟩ : GEntry)⟩ : S_s_ok_e), (⟨{ data := #[117, 58, 65, 58] }, false, (⟨0, false, ByteArray.empty, 0⟩ : GEntry)⟩ : S_s_ok_e), (⟨{ data := #[109, 58, 97, 58] }, false, (⟨0, false, ByteArray.empty, 0⟩ : GEntry)⟩ : S_s_ok_e), (⟨{ data := #[111, 58, 97, 58] }, false, (⟨0, false, ByteArray.empty, 0⟩ : GEntry)⟩ : S_s_ok_e), (⟨{ data := #[100, 58, 100, 58, 117, 58, 58] }, false, (⟨0, false, ByteArray.empty, 0⟩ : GEntry)⟩ : S_s_ok_e), (⟨{ data := #[100, 58] }, false, (⟨0, false, ByteArray.empty, 0⟩ : GEntry)⟩ : S_s_ok_e), (⟨{ data := #[117, 58, 58, 97, 58] }, false, (⟨0, false, ByteArray.empty, 0⟩ : GEntry)⟩ : S_s_ok_e), (⟨{ data := #[] }, false, (⟨0, false, ByteArray.empty, 0⟩ : GEntry)⟩ : S_s_ok_e), (⟨{ data := #[32, 117, 58, 58] }, false, (⟨0, false, ByteArray.empty, 0⟩ : GEntry)⟩ : S_s_ok_e)] (Int.tmod (IntKind.i64.wrap (an t0 255 : Int)) 18)).bind fun x =>
  (cat x.s t53).bind fun s7 =>
  (acls_Entries n s7).bind fun t90 =>
  (bslc t53 0 2).bind fun s8 =>
  (cat x.s s8).bind fun s9 =>
  (acls_Entries n s9).bind fun t99 =>
  (cat s7 ({ data := #[44] })).bind fun s10 =>
  (acls_Entries n s10).bind fun t108 =>
  (cat s10 x.s).bind fun s11 =>
  (cat s11 t53).bind fun s12 =>
  (acls_Entries n s12).bind fun t122 =>
  (if x.ok then
    (if t90.2 then
      (if ((t90.1.length : Int) == 1) then
        (idx t90.1 0).bind fun x2 =>
        (if ((x2.kind == x.e_.kind) && ((x2.default == x.e_.default) && ((x2.name == x.e_.name) && (x2.bits == (IntKind.i64.wrap (an t1 7 : Int)))))) then
          (if t99.2 then
            some false
          else
            (if t108.2 then
              some false
            else
              (if t122.2 then
                (law17_awake n).bind fun t168 =>
                some t168
              else
                some false)))
        else
          some false)
      else
        some false)
    else
      some false)
  else
    (
      (if t90.2 then
        some false
      else
        (if ((t90.1.length : Int) == 0) then
          (if t122.2 then
            some false
          else
            (law17_awake n).bind fun t140 =>
            some t140)
        else
          some false)) : Option (Bool)).bind fun t4 =>
    some t4)
set_option maxHeartbeats 8000000 in
theorem law17_AclsForms_ok {n : Nat} {t0 : Int} {t1 : Int} {r : Bool} (H : law17_AclsForms n t0 t1 = some r) : PureOK Tryd.prog 3 [D.v (.int .i64 t0), D.v (.int .i64 t1)] (D.v (.bool r)) true := by
  unfold law17_AclsForms at H
  refine ZP tab_ok fol (rs := #[.tmp 4]) Tryd.func3 ?_
  refine runR_seq ?_
  refine ZT 1 ?_
  refine Z0 ?_
  refine runR_seq ?_
  refine ZT 1 ?_
  refine Z0 ?_
  refine runR_seq ?_
  refine ZT 1 ?_
  refine Z0 ?_
  refine runR_seq ?_
  refine runR_seq ?_
  refine ZT 1 ?_
  refine Z0 ?_
  obtain ⟨e_, E1, H2⟩ := bind_inv H
  refine runR_join (α := { y : ByteArray // e_ = y }) (fun | ⟨t53, _⟩ => ⟨upd 0 (.v (.int .i64 t0)) (upd 1 (.v (.int .i64 (IntKind.i64.wrap (an t1 7 : Int)))) (upd 5 (.v (.string t53)) noFr)), noHp, 0⟩) ?_ ?_
  · refine runR_block ?_
    refine runR_loop (α := { q : Nat × (ByteArray × Int) // law17_AclsForms_L1 n t1 q.1 q.2 = some e_ }) (fun | ⟨⟨c, ⟨t5, t6⟩⟩, _⟩ => ⟨upd 0 (.v (.int .i64 t0)) (upd 1 (.v (.int .i64 (IntKind.i64.wrap (an t1 7 : Int)))) (upd 5 (.v (.string t5)) (upd 6 (.v (.int .i64 t6)) noFr))), noHp, 0⟩) (fun q => q.1.1) ⟨(n, ({ data := #[] }, 0)), E1⟩ ?_ ?_
    · exact ZR []
    · rintro ⟨⟨c, ⟨t5, t6⟩⟩, L3⟩
      rcases c with _ | c
      · exact nomatch (show none = some _ from L3)
      · unfold law17_AclsForms_L1 at L3
        try dsimp only at L3
        refine ZT 1 ?_
        refine Z0 ?_
        rcases ite_inv L3 with ⟨c26, H27⟩ | ⟨c26, H27⟩
        · obtain ⟨g28, H29⟩ := grd_inv H27
          have g28 : ¬ (IntKind.u64.wrap t6) < 0 := by have := of_decide_eq_true g28; omega
          refine Z1 (Y2 c26 g28) ?_
          rcases ite_inv H29 with ⟨c30, H31⟩ | ⟨c30, H31⟩
          · obtain ⟨s4, b32, H33⟩ := bind_inv H31
            obtain ⟨h34, h35, h36, h37⟩ := bslc_inv b32
            have h38 : Int.toNat t6 ≤ Int.toNat (IntKind.i64.wrap (t6 + 1)) := by omega
            have h39 : Int.toNat (IntKind.i64.wrap (t6 + 1)) ≤ (ByteArray.size ({ data := #[114, 119, 120] })) := by omega
            have h40 : ByteArray.extract ({ data := #[114, 119, 120] }) (Int.toNat t6) (Int.toNat (IntKind.i64.wrap (t6 + 1))) = s4 := h37.symm
            have h41 : Int.toNat (IntKind.i64.wrap (t6 + 1)) ≤ 3 := h39
            try simp only [Int.toNat_natCast] at h38 h41 h40
            obtain ⟨s5, b42, H43⟩ := bind_inv H33
            obtain ⟨h44, h45⟩ := cat_inv b42
            refine Z1 (Y2 (Y6 c26 g28 c30 (nat_of .i64 h34) (nat_of .i64 (Int.le_trans h34 h35)) h38) (Y4 h41 h40 h44 h45)) ?_
            exact ⟨⟨(c, (s5, (IntKind.i64.wrap (t6 + 1)))), H43⟩, ZR [], Nat.lt_succ_self _⟩
          · obtain ⟨s6, b46, H47⟩ := bind_inv H31
            obtain ⟨h48, h49⟩ := cat_inv b46
            have h50 : t5.size + 1 ≤ maxLen := h48
            refine Z1 (Y6 c26 g28 c30 h48 h49 h50) ?_
            exact ⟨⟨(c, (s6, (IntKind.i64.wrap (t6 + 1)))), H47⟩, ZR [], Nat.lt_succ_self _⟩
        · refine Z1 c26 ?_
          obtain rfl := Zi H27
          exact ⟨⟨t5, rfl⟩, ZR []⟩
  · rintro ⟨t53, he128⟩
    replace he128 := he128.symm
    subst he128
    try dsimp only at H2
    refine runR_seq ?_
    refine ZT 1 ?_
    refine Z0 ?_
    refine runR_seq ?_
    refine ZT 1 ?_
    obtain ⟨x, b51, H52⟩ := bind_inv H2
    obtain ⟨h53, h54⟩ := idx_inv b51
    try simp only [Int.reduceToNat, Int.toNat_natCast] at h54
    have h55 := map_at eS_s_ok_e h54
    simp only [List.map_cons, List.map_nil, eS_s_ok_e] at h55
    have h56 := at_lt h54
    simp only [List.length_cons, List.length_nil, Nat.reduceAdd] at h56
    refine Z1 (Y3 (nat_of .i64 h53) h55 h56) ?_
    refine runR_seq ?_
    refine ZT 1 ?_
    refine Z1 (Y3 (nat_of .i64 h53) h55 h56) ?_
    refine runR_seq ?_
    refine ZT 1 ?_
    obtain ⟨s7, b57, H58⟩ := bind_inv H52
    obtain ⟨h59, h60⟩ := cat_inv b57
    obtain ⟨t90, b61, H62⟩ := bind_inv H58
    refine Z1 (Y5 (nat_of .i64 h53) h55 h56 h59 h60) ?_
    refine ZC0 (acls_Entries_ok b61) ?_
    refine Z1 (Y5 (nat_of .i64 h53) h55 h56 h59 h60) ?_
    refine runR_seq ?_
    refine ZT 1 ?_
    obtain ⟨s8, b63, H64⟩ := bind_inv H62
    obtain ⟨h65, h66, h67, h68⟩ := bslc_inv b63
    have h69 : 0 ≤ 2 := by omega
    have h70 : 2 ≤ t53.size := by omega
    have h71 : ByteArray.extract t53 (0) (2) = s8 := h68.symm
    try simp only [Int.toNat_natCast] at h69 h70 h71
    obtain ⟨s9, b72, H73⟩ := bind_inv H64
    obtain ⟨h74, h75⟩ := cat_inv b72
    obtain ⟨t99, b76, H77⟩ := bind_inv H73
    refine Z1 (Y2 (Y6 (nat_of .i64 h53) h55 h56 h59 h60 (nat_of .i64 (Int.le_trans h65 h66))) (Y5 h69 h70 h71 h74 h75)) ?_
    refine ZD0 (acls_Entries_ok b76) ?_
    refine Z1 (Y2 (Y6 (nat_of .i64 h53) h55 h56 h59 h60 (nat_of .i64 (Int.le_trans h65 h66))) (Y5 h69 h70 h71 h74 h75)) ?_
    refine Rd_endF (by rfl) ?_
    refine Z1 (Y2 (Y6 (nat_of .i64 h53) h55 h56 h59 h60 (nat_of .i64 (Int.le_trans h65 h66))) (Y5 h69 h70 h71 h74 h75)) ?_
    refine runR_seq ?_
    refine ZT 1 ?_
    obtain ⟨s10, b78, H79⟩ := bind_inv H77
    obtain ⟨h80, h81⟩ := cat_inv b78
    have h82 : s7.size + 1 ≤ maxLen := h80
    obtain ⟨t108, b83, H84⟩ := bind_inv H79
    refine Z1 (Y3 (Y6 (nat_of .i64 h53) h55 h56 h59 h60 (nat_of .i64 (Int.le_trans h65 h66))) (Y6 h69 h70 h71 h74 h75 h80) (Y2 h81 h82)) ?_
    refine ZC0 (acls_Entries_ok b83) ?_
    refine Z1 (Y3 (Y6 (nat_of .i64 h53) h55 h56 h59 h60 (nat_of .i64 (Int.le_trans h65 h66))) (Y6 h69 h70 h71 h74 h75 h80) (Y2 h81 h82)) ?_
    refine runR_seq ?_
    refine ZT 1 ?_
    obtain ⟨s11, b85, H86⟩ := bind_inv H84
    obtain ⟨h87, h88⟩ := cat_inv b85
    obtain ⟨s12, b89, H90⟩ := bind_inv H86
    obtain ⟨h91, h92⟩ := cat_inv b89
    obtain ⟨t122, b93, H94⟩ := bind_inv H90
    refine Z1 (Y3 (Y6 (nat_of .i64 h53) h55 h56 h59 h60 (nat_of .i64 (Int.le_trans h65 h66))) (Y6 h69 h70 h71 h74 h75 h80) (Y6 h81 h82 h87 h88 h91 h92)) ?_
    refine ZC0 (acls_Entries_ok b93) ?_
    refine Z1 (Y3 (Y6 (nat_of .i64 h53) h55 h56 h59 h60 (nat_of .i64 (Int.le_trans h65 h66))) (Y6 h69 h70 h71 h74 h75 h80) (Y6 h81 h82 h87 h88 h91 h92)) ?_
    refine runR_seq ?_
    refine runR_seq ?_
    refine ZT 1 ?_
    refine Z1 (Y3 (Y6 (nat_of .i64 h53) h55 h56 h59 h60 (nat_of .i64 (Int.le_trans h65 h66))) (Y6 h69 h70 h71 h74 h75 h80) (Y6 h81 h82 h87 h88 h91 h92)) ?_
    rcases ite_inv H94 with ⟨c95, H96⟩ | ⟨c95, H96⟩
    · refine runR_condF (by rfl) (by rw [c95]; rfl) ?_
      refine Z1 (Y4 (Y6 (nat_of .i64 h53) h55 h56 h59 h60 (nat_of .i64 (Int.le_trans h65 h66))) (Y6 h69 h70 h71 h74 h75 h80) (Y6 h81 h82 h87 h88 h91 h92) c95) ?_
      refine ZT 2 ?_
      refine Z1 (Y4 (Y6 (nat_of .i64 h53) h55 h56 h59 h60 (nat_of .i64 (Int.le_trans h65 h66))) (Y6 h69 h70 h71 h74 h75 h80) (Y6 h81 h82 h87 h88 h91 h92) c95) ?_
      rcases ite_inv H96 with ⟨c97, H98⟩ | ⟨c97, H98⟩
      · refine Z1 (Y4 (Y6 (nat_of .i64 h53) h55 h56 h59 h60 (nat_of .i64 (Int.le_trans h65 h66))) (Y6 h69 h70 h71 h74 h75 h80) (Y6 h81 h82 h87 h88 h91 h92) (Y2 c95 c97)) ?_
        rcases ite_inv H98 with ⟨c99, H100⟩ | ⟨c99, H100⟩
        · obtain ⟨x2, b101, H102⟩ := bind_inv H100
          obtain ⟨h103, h104⟩ := idx_inv b101
          try simp only [Int.reduceToNat, Int.toNat_natCast] at h104
          have h105 := map_at eGEntry h104
          refine Z1 (Y4 (Y6 (nat_of .i64 h53) h55 h56 h59 h60 (nat_of .i64 (Int.le_trans h65 h66))) (Y6 h69 h70 h71 h74 h75 h80) (Y6 h81 h82 h87 h88 h91 h92) (Y5 c95 c97 c99 (nat_of .i64 h103) h105)) ?_
          rcases ite_inv H102 with ⟨c107, H108⟩ | ⟨c107, H108⟩
          · refine Z1 (Y4 (Y6 (nat_of .i64 h53) h55 h56 h59 h60 (nat_of .i64 (Int.le_trans h65 h66))) (Y6 h69 h70 h71 h74 h75 h80) (Y6 h81 h82 h87 h88 h91 h92) (Y6 c95 c97 c99 (nat_of .i64 h103) h105 c107)) ?_
            rcases ite_inv H108 with ⟨c109, H110⟩ | ⟨c109, H110⟩
            · refine Z1 (Y5 (Y6 (nat_of .i64 h53) h55 h56 h59 h60 (nat_of .i64 (Int.le_trans h65 h66))) (Y6 h69 h70 h71 h74 h75 h80) (Y6 h81 h82 h87 h88 h91 h92) (Y6 c95 c97 c99 (nat_of .i64 h103) h105 c107) c109) ?_
              refine Rd_endF (by kernel_rfl) ?_
              refine Z1 (Y5 (Y6 (nat_of .i64 h53) h55 h56 h59 h60 (nat_of .i64 (Int.le_trans h65 h66))) (Y6 h69 h70 h71 h74 h75 h80) (Y6 h81 h82 h87 h88 h91 h92) (Y6 c95 c97 c99 (nat_of .i64 h103) h105 c107) c109) ?_
              obtain rfl := Zi H110
              exact ZE0
            · refine Z1 (Y5 (Y6 (nat_of .i64 h53) h55 h56 h59 h60 (nat_of .i64 (Int.le_trans h65 h66))) (Y6 h69 h70 h71 h74 h75 h80) (Y6 h81 h82 h87 h88 h91 h92) (Y6 c95 c97 c99 (nat_of .i64 h103) h105 c107) c109) ?_
              rcases ite_inv H110 with ⟨c111, H112⟩ | ⟨c111, H112⟩
              · refine Z1 (Y5 (Y6 (nat_of .i64 h53) h55 h56 h59 h60 (nat_of .i64 (Int.le_trans h65 h66))) (Y6 h69 h70 h71 h74 h75 h80) (Y6 h81 h82 h87 h88 h91 h92) (Y6 c95 c97 c99 (nat_of .i64 h103) h105 c107) (Y2 c109 c111)) ?_
                refine Rd_endF (by kernel_rfl) ?_
                refine Z1 (Y5 (Y6 (nat_of .i64 h53) h55 h56 h59 h60 (nat_of .i64 (Int.le_trans h65 h66))) (Y6 h69 h70 h71 h74 h75 h80) (Y6 h81 h82 h87 h88 h91 h92) (Y6 c95 c97 c99 (nat_of .i64 h103) h105 c107) (Y2 c109 c111)) ?_
                obtain rfl := Zi H112
                exact ZE0
              · refine Z1 (Y5 (Y6 (nat_of .i64 h53) h55 h56 h59 h60 (nat_of .i64 (Int.le_trans h65 h66))) (Y6 h69 h70 h71 h74 h75 h80) (Y6 h81 h82 h87 h88 h91 h92) (Y6 c95 c97 c99 (nat_of .i64 h103) h105 c107) (Y2 c109 c111)) ?_
                rcases ite_inv H112 with ⟨c113, H114⟩ | ⟨c113, H114⟩
                · obtain ⟨t168, b115, H116⟩ := bind_inv H114
                  refine Z1 (Y5 (Y6 (nat_of .i64 h53) h55 h56 h59 h60 (nat_of .i64 (Int.le_trans h65 h66))) (Y6 h69 h70 h71 h74 h75 h80) (Y6 h81 h82 h87 h88 h91 h92) (Y6 c95 c97 c99 (nat_of .i64 h103) h105 c107) (Y3 c109 c111 c113)) ?_
                  refine ZD0 (law17_awake_ok b115) ?_
                  refine Z1 (Y5 (Y6 (nat_of .i64 h53) h55 h56 h59 h60 (nat_of .i64 (Int.le_trans h65 h66))) (Y6 h69 h70 h71 h74 h75 h80) (Y6 h81 h82 h87 h88 h91 h92) (Y6 c95 c97 c99 (nat_of .i64 h103) h105 c107) (Y3 c109 c111 c113)) ?_
                  refine Rd_endF (by kernel_rfl) ?_
                  refine Z1 (Y5 (Y6 (nat_of .i64 h53) h55 h56 h59 h60 (nat_of .i64 (Int.le_trans h65 h66))) (Y6 h69 h70 h71 h74 h75 h80) (Y6 h81 h82 h87 h88 h91 h92) (Y6 c95 c97 c99 (nat_of .i64 h103) h105 c107) (Y3 c109 c111 c113)) ?_
                  obtain rfl := Zi H116
                  exact ZE0
                · refine Z1 (Y5 (Y6 (nat_of .i64 h53) h55 h56 h59 h60 (nat_of .i64 (Int.le_trans h65 h66))) (Y6 h69 h70 h71 h74 h75 h80) (Y6 h81 h82 h87 h88 h91 h92) (Y6 c95 c97 c99 (nat_of .i64 h103) h105 c107) (Y3 c109 c111 c113)) ?_
                  refine Rd_endF (by kernel_rfl) ?_
                  refine Z1 (Y5 (Y6 (nat_of .i64 h53) h55 h56 h59 h60 (nat_of .i64 (Int.le_trans h65 h66))) (Y6 h69 h70 h71 h74 h75 h80) (Y6 h81 h82 h87 h88 h91 h92) (Y6 c95 c97 c99 (nat_of .i64 h103) h105 c107) (Y3 c109 c111 c113)) ?_
                  obtain rfl := Zi H114
                  exact ZE0
          · refine Z1 (Y4 (Y6 (nat_of .i64 h53) h55 h56 h59 h60 (nat_of .i64 (Int.le_trans h65 h66))) (Y6 h69 h70 h71 h74 h75 h80) (Y6 h81 h82 h87 h88 h91 h92) (Y6 c95 c97 c99 (nat_of .i64 h103) h105 c107)) ?_
            refine Rd_endF (by kernel_rfl) ?_
            refine Z1 (Y4 (Y6 (nat_of .i64 h53) h55 h56 h59 h60 (nat_of .i64 (Int.le_trans h65 h66))) (Y6 h69 h70 h71 h74 h75 h80) (Y6 h81 h82 h87 h88 h91 h92) (Y6 c95 c97 c99 (nat_of .i64 h103) h105 c107)) ?_
            obtain rfl := Zi H108
            exact ZE0
        · refine Z1 (Y4 (Y6 (nat_of .i64 h53) h55 h56 h59 h60 (nat_of .i64 (Int.le_trans h65 h66))) (Y6 h69 h70 h71 h74 h75 h80) (Y6 h81 h82 h87 h88 h91 h92) (Y3 c95 c97 c99)) ?_
          refine Rd_endF (by kernel_rfl) ?_
          refine Z1 (Y4 (Y6 (nat_of .i64 h53) h55 h56 h59 h60 (nat_of .i64 (Int.le_trans h65 h66))) (Y6 h69 h70 h71 h74 h75 h80) (Y6 h81 h82 h87 h88 h91 h92) (Y3 c95 c97 c99)) ?_
          obtain rfl := Zi H100
          exact ZE0
      · refine Z1 (Y4 (Y6 (nat_of .i64 h53) h55 h56 h59 h60 (nat_of .i64 (Int.le_trans h65 h66))) (Y6 h69 h70 h71 h74 h75 h80) (Y6 h81 h82 h87 h88 h91 h92) (Y2 c95 c97)) ?_
        refine Rd_endF (by kernel_rfl) ?_
        refine Z1 (Y4 (Y6 (nat_of .i64 h53) h55 h56 h59 h60 (nat_of .i64 (Int.le_trans h65 h66))) (Y6 h69 h70 h71 h74 h75 h80) (Y6 h81 h82 h87 h88 h91 h92) (Y2 c95 c97)) ?_
        obtain rfl := Zi H98
        exact ZE0
    · refine runR_condT (by rfl) (by rw [c95]; rfl) ?_
      refine Z1 (Y4 (Y6 (nat_of .i64 h53) h55 h56 h59 h60 (nat_of .i64 (Int.le_trans h65 h66))) (Y6 h69 h70 h71 h74 h75 h80) (Y6 h81 h82 h87 h88 h91 h92) c95) ?_
      refine runR_seq ?_
      obtain ⟨e_2, E117, H118⟩ := bind_inv H96
      refine runR_join (α := { y : Bool // e_2 = y }) (fun | ⟨t4, _⟩ => ⟨upd 4 (.v (.bool t4)) noFr, noHp, 0⟩) ?_ ?_
      · refine ZT 1 ?_
        refine Z0 ?_
        rcases ite_inv E117 with ⟨c119, H120⟩ | ⟨c119, H120⟩
        · refine Z1 c119 ?_
          obtain rfl := Zi H120
          exact ⟨⟨false, rfl⟩, ZR []⟩
        · refine Z1 c119 ?_
          rcases ite_inv H120 with ⟨c121, H122⟩ | ⟨c121, H122⟩
          · refine Z1 (Y2 c119 c121) ?_
            rcases ite_inv H122 with ⟨c123, H124⟩ | ⟨c123, H124⟩
            · refine Z1 (Y3 c119 c121 c123) ?_
              obtain rfl := Zi H124
              exact ⟨⟨false, rfl⟩, ZR []⟩
            · obtain ⟨t140, b125, H126⟩ := bind_inv H124
              refine Z1 (Y3 c119 c121 c123) ?_
              refine ZC0 (law17_awake_ok b125) ?_
              refine Z1 (Y3 c119 c121 c123) ?_
              obtain rfl := Zi H126
              exact ⟨⟨t140, rfl⟩, ZR []⟩
          · refine Z1 (Y2 c119 c121) ?_
            obtain rfl := Zi H122
            exact ⟨⟨false, rfl⟩, ZR []⟩
      · rintro ⟨t4, he127⟩
        replace he127 := he127.symm
        subst he127
        try dsimp only at H118
        refine ZT 1 ?_
        refine Z0 ?_
        obtain rfl := Zi H118
        exact ZE0
end Go.Proofs.YtkikhbfdadambaaDoor.Ab
