/-
 Functions, read off the code.
-/
import Derived.Test.YtkkhgdmmbhpckaaGreatScb
namespace Go.Proofs.YtkkhgdmmbhpckaaGreat.Ab
open Go.RowKit
def law13_Line (n : Nat) (t0 : Int) : Option ByteArray :=
 (idx [{ data := #[117] }, { data := #[118] }, { data := #[119] }] (Int.tmod (IntKind.i64.wrap (an (sh t0 8) 255 : Int)) 3)).bind fun x =>
 (idx [{ data := #[114] }, { data := #[115] }, { data := #[116] }, { data := #[113] }] (IntKind.i64.wrap (an (sh t0 16) 3 : Int))).bind fun x2 =>
 (idx [{ data := #[114] }, { data := #[115] }, { data := #[116] }, { data := #[113] }] (IntKind.i64.wrap (an (sh t0 18) 3 : Int))).bind fun x3 =>
 (law1_Nm n (sh t0 20)).bind fun t28 =>
 (
  (if ((Int.tmod (IntKind.i64.wrap (an t0 255 : Int)) 24) == 0) then
   some true
  else
   (if ((Int.tmod (IntKind.i64.wrap (an t0 255 : Int)) 24) == 1) then
    some true
   else
    some ((Int.tmod (IntKind.i64.wrap (an t0 255 : Int)) 24) == 2))) : Option (Bool)).bind fun t32 =>
 (if t32 then
  (cat ({ data := #[97, 115, 115, 105, 103, 110, 32] }) x).bind fun s =>
  (cat s ({ data := #[32] })).bind fun s2 =>
  (cat s2 x2).bind fun s3 =>
  some s3
 else
  (
   (if ((Int.tmod (IntKind.i64.wrap (an t0 255 : Int)) 24) == 3) then
    some true
   else
    (if ((Int.tmod (IntKind.i64.wrap (an t0 255 : Int)) 24) == 4) then
     some true
    else
     some ((Int.tmod (IntKind.i64.wrap (an t0 255 : Int)) 24) == 5))) : Option (Bool)).bind fun t41 =>
  (if t41 then
   (cat ({ data := #[105, 110, 104, 101, 114, 105, 116, 32] }) x2).bind fun s4 =>
   (cat s4 ({ data := #[32] })).bind fun s5 =>
   (cat s5 x3).bind fun s6 =>
   some s6
  else
   (
    (if ((Int.tmod (IntKind.i64.wrap (an t0 255 : Int)) 24) == 6) then
     some true
    else
     (if ((Int.tmod (IntKind.i64.wrap (an t0 255 : Int)) 24) == 7) then
      some true
     else
      (if ((Int.tmod (IntKind.i64.wrap (an t0 255 : Int)) 24) == 8) then
       some true
      else
       some ((Int.tmod (IntKind.i64.wrap (an t0 255 : Int)) 24) == 9)))) : Option (Bool)).bind fun t50 =>
   (if t50 then
    (cat ({ data := #[103, 114, 97, 110, 116, 32] }) x2).bind fun s7 =>
    (cat s7 ({ data := #[32] })).bind fun s8 =>
    (idx [{ data := #[114, 101, 97, 100] }, { data := #[100, 111] }] (IntKind.i64.wrap (an (sh t0 23) 1 : Int))).bind fun x4 =>
    (cat s8 x4).bind fun s9 =>
    (cat s9 ({ data := #[32] })).bind fun s10 =>
    (cat s10 t28).bind fun s11 =>
    some s11
   else
    (if ((Int.tmod (IntKind.i64.wrap (an t0 255 : Int)) 24) == 10) then
     (cat ({ data := #[115, 115, 100, 32] }) t28).bind fun s12 =>
     (cat s12 ({ data := #[32] })).bind fun s13 =>
     (idx [{ data := #[50] }, { data := #[51] }] (IntKind.i64.wrap (an (sh t0 23) 1 : Int))).bind fun x5 =>
     (cat s13 x5).bind fun s14 =>
     (cat s14 ({ data := #[32] })).bind fun s15 =>
     (cat s15 x2).bind fun s16 =>
     (cat s16 ({ data := #[32] })).bind fun s17 =>
     (cat s17 x3).bind fun s18 =>
     (cat s18 ({ data := #[32] })).bind fun s19 =>
     (idx [{ data := #[114] }, { data := #[115] }, { data := #[116] }, { data := #[113] }] (IntKind.i64.wrap (an (sh t0 24) 3 : Int))).bind fun x6 =>
     (cat s19 x6).bind fun s20 =>
     some s20
    else
     (
      (if ((Int.tmod (IntKind.i64.wrap (an t0 255 : Int)) 24) == 11) then
       some true
      else
       some ((Int.tmod (IntKind.i64.wrap (an t0 255 : Int)) 24) == 12)) : Option (Bool)).bind fun t94 =>
     (if t94 then
      (cat ({ data := #[100, 115, 100, 32] }) t28).bind fun s21 =>
      (cat s21 ({ data := #[32, 50, 32] })).bind fun s22 =>
      (cat s22 x2).bind fun s23 =>
      (cat s23 ({ data := #[32] })).bind fun s24 =>
      (cat s24 x3).bind fun s25 =>
      some s25
     else
      (
       (if ((Int.tmod (IntKind.i64.wrap (an t0 255 : Int)) 24) == 13) then
        some true
       else
        (if ((Int.tmod (IntKind.i64.wrap (an t0 255 : Int)) 24) == 14) then
         some true
        else
         some ((Int.tmod (IntKind.i64.wrap (an t0 255 : Int)) 24) == 15))) : Option (Bool)).bind fun t105 =>
      (if t105 then
       (cat ({ data := #[115, 101, 115, 115, 105, 111, 110, 32] }) t28).bind fun s26 =>
       (cat s26 ({ data := #[32] })).bind fun s27 =>
       (cat s27 x).bind fun s28 =>
       (cat s28 ({ data := #[32] })).bind fun s29 =>
       (cat s29 x2).bind fun s30 =>
       some s30
      else
       (if ((Int.tmod (IntKind.i64.wrap (an t0 255 : Int)) 24) == 16) then
        (cat ({ data := #[115, 101, 115, 115, 105, 111, 110, 32] }) t28).bind fun s31 =>
        (cat s31 ({ data := #[32] })).bind fun s32 =>
        (cat s32 x).bind fun s33 =>
        (cat s33 ({ data := #[32] })).bind fun s34 =>
        (cat s34 x2).bind fun s35 =>
        (cat s35 ({ data := #[32] })).bind fun s36 =>
        (cat s36 x3).bind fun s37 =>
        some s37
       else
        (if ((Int.tmod (IntKind.i64.wrap (an t0 255 : Int)) 24) == 17) then
         (cat ({ data := #[117, 115, 101, 114, 32] }) t28).bind fun s38 =>
         some s38
        else
         (if ((Int.tmod (IntKind.i64.wrap (an t0 255 : Int)) 24) == 18) then
          (cat ({ data := #[114, 111, 108, 101, 32] }) t28).bind fun s39 =>
          some s39
         else
          (if ((Int.tmod (IntKind.i64.wrap (an t0 255 : Int)) 24) == 19) then
           (idx [{ data := #[117, 115, 101, 114] }, { data := #[114, 111, 108, 101, 32, 65] }, { data := #[115, 115, 100, 32, 97, 32, 49, 32, 114, 32, 115] }, { data := #[100, 115, 100, 32, 97, 32, 48, 50, 32, 114, 32, 115] }, { data := #[103, 114, 97, 110, 116, 32, 114] }, { data := #[105, 110, 104, 101, 114, 105, 116, 32, 114, 32, 115, 32, 116] }, { data := #[117, 115, 101, 114, 32, 97, 32, 98] }, { data := #[115, 101, 115, 115, 105, 111, 110, 32, 97] }] (IntKind.i64.wrap (an (sh t0 8) 7 : Int))).bind fun x7 =>
           some x7
          else
           (if ((Int.tmod (IntKind.i64.wrap (an t0 255 : Int)) 24) == 20) then
            some ({ data := #[35, 32, 97, 32, 110, 111, 116, 101] })
           else
            (cat ({ data := #[97, 115, 115, 105, 103, 110, 32] }) x).bind fun s40 =>
            (cat s40 ({ data := #[32] })).bind fun s41 =>
            (cat s41 x3).bind fun s42 =>
            some s42)))))))))))
set_option maxHeartbeats 8000000 in
theorem law13_Line_ok {n : Nat} {t0 : Int} {r : ByteArray} (H : law13_Line n t0 = some r) : PureOK Tryz.prog 49 [D.v (.int .i64 t0)] (D.v (.string r)) true := by
 unfold law13_Line at H
 refine pure_runR (tab := tab) tab_ok Tryz.func49 rfl (by kernel_rfl) (by kernel_rfl) (by simp [Tryz.f49]) ?_
 refine runR_seq ?_
 refine runR_take tab_ok fol 1 ?_
 try simp -implicitDefEqProofs only [go_sem]
 refine runR_seq ?_
 refine runR_take tab_ok fol 1 ?_
 obtain ⟨x, b1, H2⟩ := bind_inv H
 obtain ⟨h3, h4⟩ := idx_inv b1
 try simp only [Int.reduceToNat, Int.toNat_natCast] at h4
 have h5 := map_at eS h4
 simp only [List.map_cons, List.map_nil, eS] at h5
 have h6 := at_lt h4
 simp only [List.length_cons, List.length_nil, Nat.reduceAdd] at h6
 obtain ⟨x2, b7, H8⟩ := bind_inv H2
 obtain ⟨h9, h10⟩ := idx_inv b7
 try simp only [Int.reduceToNat, Int.toNat_natCast] at h10
 have h11 := map_at eS h10
 simp only [List.map_cons, List.map_nil, eS] at h11
 have h12 := at_lt h10
 simp only [List.length_cons, List.length_nil, Nat.reduceAdd] at h12
 obtain ⟨x3, b13, H14⟩ := bind_inv H8
 obtain ⟨h15, h16⟩ := idx_inv b13
 try simp only [Int.reduceToNat, Int.toNat_natCast] at h16
 have h17 := map_at eS h16
 simp only [List.map_cons, List.map_nil, eS] at h17
 have h18 := at_lt h16
 simp only [List.length_cons, List.length_nil, Nat.reduceAdd] at h18
 try simp -implicitDefEqProofs only [go_sem, Int.reduceToNat, Int.reduceLT, Nat.reduceLT, Int.reduceEq, Nat.reduceEqDiff, Nat.reduceAdd, Nat.reduceLeDiff, reduceCtorEq, ↓reduceIte, nat_of .i64 h3, h5, h6, nat_of .i64 h9, h11, h12, nat_of .i64 h15, h17, h18]
 refine Rd_endF (by rfl) ?_
 try simp -implicitDefEqProofs only [go_sem]
 refine runR_seq ?_
 refine runR_take tab_ok fol 1 ?_
 obtain ⟨t28, b19, H20⟩ := bind_inv H14
 try simp -implicitDefEqProofs only [go_sem, Int.reduceToNat, Int.reduceLT, Nat.reduceAdd, reduceCtorEq, ↓reduceIte]
 refine onCall_pure (by rfl) (law1_Nm_ok b19) (by exact .inr rfl) ?_
 try simp -implicitDefEqProofs only [go_sem, Bool.false_and, Nat.reduceAdd, ↓reduceIte]
 refine runR_seq ?_
 refine runR_seq ?_
 refine runR_take tab_ok fol 1 ?_
 try simp -implicitDefEqProofs only [go_sem, Int.reduceEq, Nat.reduceAdd, reduceCtorEq, ↓reduceIte]
 refine runR_block ?_
 refine runR_seq ?_
 refine runR_seq ?_
 refine runR_take tab_ok fol 1 ?_
 try simp -implicitDefEqProofs only [go_sem, Nat.reduceAdd, ↓reduceIte]
 obtain ⟨e_, E21, H22⟩ := bind_inv H20
 refine runR_join (α := { y : Bool // e_ = y }) (fun | ⟨t32, _⟩ => ⟨upd 0 (.v (.int .i64 t0)) (upd 3 (.v (.string x)) (upd 4 (.v (.string x2)) (upd 5 (.v (.string x3)) (upd 6 (.v (.string t28)) (upd 31 (.v (.int .i64 (Int.tmod (IntKind.i64.wrap (an t0 255 : Int)) 24))) (upd 32 (.v (.bool t32)) noFr)))))), noHp, 0⟩) ?_ ?_
 ·refine runR_take tab_ok fol 1 ?_
  try simp -implicitDefEqProofs only [go_sem, ↓reduceIte]
  rcases ite_inv E21 with ⟨c23, H24⟩ | ⟨c23, H24⟩
  ·try simp -implicitDefEqProofs only [go_sem, c23]
   obtain rfl := Option.some.inj H24
   exact ⟨⟨true, rfl⟩, ren_mk [] (by rfl) (ru_ (ru_ (ru_ (ru_ (ru_ (ru_ (ru_ (rf_no _)))))))) (rh_no _)⟩
  ·try simp -implicitDefEqProofs only [go_sem, Nat.reduceEqDiff, Nat.reduceAdd, ↓reduceIte, c23]
   rcases ite_inv H24 with ⟨c25, H26⟩ | ⟨c25, H26⟩
   ·try simp -implicitDefEqProofs only [go_sem, c25]
    obtain rfl := Option.some.inj H26
    exact ⟨⟨true, rfl⟩, ren_mk [] (by rfl) (ru_ (ru_ (ru_ (ru_ (ru_ (ru_ (ru_ (rf_no _)))))))) (rh_no _)⟩
   ·try simp -implicitDefEqProofs only [go_sem, Nat.reduceEqDiff, Nat.reduceAdd, ↓reduceIte, c25]
    obtain rfl := Option.some.inj H26
    exact ⟨⟨((Int.tmod (IntKind.i64.wrap (an t0 255 : Int)) 24) == 2), rfl⟩, ren_mk [] (by rfl) (ru_ (ru_ (ru_ (ru_ (ru_ (ru_ (ru_ (rf_no _)))))))) (rh_no _)⟩
 ·rintro ⟨t32, he295⟩
  replace he295 := he295.symm
  subst he295
  try dsimp only at H22
  rcases ite_inv H22 with ⟨c27, H28⟩ | ⟨c27, H28⟩
  ·refine runR_condT (by rfl) c27 ?_
   try simp -implicitDefEqProofs only [go_sem, c27]
   refine runR_take tab_ok fol 3 ?_
   obtain ⟨s, b29, H30⟩ := bind_inv H28
   obtain ⟨h31, h32⟩ := cat_inv b29
   have h33 : 7 + x.size ≤ maxLen := h31
   obtain ⟨s2, b34, H35⟩ := bind_inv H30
   obtain ⟨h36, h37⟩ := cat_inv b34
   have h38 : s.size + 1 ≤ maxLen := h36
   obtain ⟨s3, b39, H40⟩ := bind_inv H35
   obtain ⟨h41, h42⟩ := cat_inv b39
   try simp -implicitDefEqProofs only [go_sem, Nat.reduceEqDiff, Nat.reduceAdd, reduceCtorEq, ↓reduceIte, h32, h33, h37, h38, h41, h42]
   obtain rfl := Option.some.inj H40
   exact end_pure (by simp -implicitDefEqProofs only [go_sem, ↓reduceIte, Tryz.f49] <;> rfl) (by rfl) rfl (by intro h; rfl)
  ·refine runR_condF (by rfl) c27 ?_
   try simp -implicitDefEqProofs only [go_sem, c27]
   refine runR_seq ?_
   refine runR_seq ?_
   refine runR_take tab_ok fol 1 ?_
   try simp -implicitDefEqProofs only [go_sem, Nat.reduceEqDiff, Nat.reduceAdd, reduceCtorEq, ↓reduceIte]
   obtain ⟨e_2, E43, H44⟩ := bind_inv H28
   refine runR_join (α := { y : Bool // e_2 = y }) (fun | ⟨t41, _⟩ => ⟨upd 0 (.v (.int .i64 t0)) (upd 3 (.v (.string x)) (upd 4 (.v (.string x2)) (upd 5 (.v (.string x3)) (upd 6 (.v (.string t28)) (upd 31 (.v (.int .i64 (Int.tmod (IntKind.i64.wrap (an t0 255 : Int)) 24))) (upd 41 (.v (.bool t41)) noFr)))))), noHp, 0⟩) ?_ ?_
   ·refine runR_take tab_ok fol 1 ?_
    try simp -implicitDefEqProofs only [go_sem, ↓reduceIte]
    rcases ite_inv E43 with ⟨c45, H46⟩ | ⟨c45, H46⟩
    ·try simp -implicitDefEqProofs only [go_sem, c45]
     obtain rfl := Option.some.inj H46
     exact ⟨⟨true, rfl⟩, ren_mk [] (by rfl) (ru_ (ru_ (ru_ (ru_ (ru_ (ru_ (ru_ (rf_no _)))))))) (rh_no _)⟩
    ·try simp -implicitDefEqProofs only [go_sem, Nat.reduceEqDiff, Nat.reduceAdd, reduceCtorEq, ↓reduceIte, c45]
     rcases ite_inv H46 with ⟨c47, H48⟩ | ⟨c47, H48⟩
     ·try simp -implicitDefEqProofs only [go_sem, c47]
      obtain rfl := Option.some.inj H48
      exact ⟨⟨true, rfl⟩, ren_mk [] (by rfl) (ru_ (ru_ (ru_ (ru_ (ru_ (ru_ (ru_ (rf_no _)))))))) (rh_no _)⟩
     ·try simp -implicitDefEqProofs only [go_sem, Nat.reduceEqDiff, Nat.reduceAdd, reduceCtorEq, ↓reduceIte, c47]
      obtain rfl := Option.some.inj H48
      exact ⟨⟨((Int.tmod (IntKind.i64.wrap (an t0 255 : Int)) 24) == 5), rfl⟩, ren_mk [] (by rfl) (ru_ (ru_ (ru_ (ru_ (ru_ (ru_ (ru_ (rf_no _)))))))) (rh_no _)⟩
   ·rintro ⟨t41, he294⟩
    replace he294 := he294.symm
    subst he294
    try dsimp only at H44
    rcases ite_inv H44 with ⟨c49, H50⟩ | ⟨c49, H50⟩
    ·refine runR_condT (by rfl) c49 ?_
     try simp -implicitDefEqProofs only [go_sem, c49]
     refine runR_take tab_ok fol 3 ?_
     obtain ⟨s4, b51, H52⟩ := bind_inv H50
     obtain ⟨h53, h54⟩ := cat_inv b51
     have h55 : 8 + x2.size ≤ maxLen := h53
     obtain ⟨s5, b56, H57⟩ := bind_inv H52
     obtain ⟨h58, h59⟩ := cat_inv b56
     have h60 : s4.size + 1 ≤ maxLen := h58
     obtain ⟨s6, b61, H62⟩ := bind_inv H57
     obtain ⟨h63, h64⟩ := cat_inv b61
     try simp -implicitDefEqProofs only [go_sem, Nat.reduceEqDiff, Nat.reduceAdd, reduceCtorEq, ↓reduceIte, h54, h55, h59, h60, h63, h64]
     obtain rfl := Option.some.inj H62
     exact end_pure (by simp -implicitDefEqProofs only [go_sem, ↓reduceIte, Tryz.f49] <;> rfl) (by rfl) rfl (by intro h; rfl)
    ·refine runR_condF (by rfl) c49 ?_
     try simp -implicitDefEqProofs only [go_sem, c49]
     refine runR_seq ?_
     refine runR_seq ?_
     refine runR_take tab_ok fol 1 ?_
     try simp -implicitDefEqProofs only [go_sem, Nat.reduceEqDiff, Nat.reduceAdd, reduceCtorEq, ↓reduceIte]
     obtain ⟨e_3, E65, H66⟩ := bind_inv H50
     refine runR_join (α := { y : Bool // e_3 = y }) (fun | ⟨t50, _⟩ => ⟨upd 0 (.v (.int .i64 t0)) (upd 3 (.v (.string x)) (upd 4 (.v (.string x2)) (upd 5 (.v (.string x3)) (upd 6 (.v (.string t28)) (upd 31 (.v (.int .i64 (Int.tmod (IntKind.i64.wrap (an t0 255 : Int)) 24))) (upd 50 (.v (.bool t50)) noFr)))))), noHp, 0⟩) ?_ ?_
     ·refine runR_take tab_ok fol 1 ?_
      try simp -implicitDefEqProofs only [go_sem, ↓reduceIte]
      rcases ite_inv E65 with ⟨c67, H68⟩ | ⟨c67, H68⟩
      ·try simp -implicitDefEqProofs only [go_sem, c67]
       obtain rfl := Option.some.inj H68
       exact ⟨⟨true, rfl⟩, ren_mk [] (by rfl) (ru_ (ru_ (ru_ (ru_ (ru_ (ru_ (ru_ (rf_no _)))))))) (rh_no _)⟩
      ·try simp -implicitDefEqProofs only [go_sem, Nat.reduceEqDiff, Nat.reduceAdd, reduceCtorEq, ↓reduceIte, c67]
       rcases ite_inv H68 with ⟨c69, H70⟩ | ⟨c69, H70⟩
       ·try simp -implicitDefEqProofs only [go_sem, c69]
        obtain rfl := Option.some.inj H70
        exact ⟨⟨true, rfl⟩, ren_mk [] (by rfl) (ru_ (ru_ (ru_ (ru_ (ru_ (ru_ (ru_ (rf_no _)))))))) (rh_no _)⟩
       ·try simp -implicitDefEqProofs only [go_sem, Nat.reduceEqDiff, Nat.reduceAdd, reduceCtorEq, ↓reduceIte, c69]
        rcases ite_inv H70 with ⟨c71, H72⟩ | ⟨c71, H72⟩
        ·try simp -implicitDefEqProofs only [go_sem, c71]
         obtain rfl := Option.some.inj H72
         exact ⟨⟨true, rfl⟩, ren_mk [] (by rfl) (ru_ (ru_ (ru_ (ru_ (ru_ (ru_ (ru_ (rf_no _)))))))) (rh_no _)⟩
        ·try simp -implicitDefEqProofs only [go_sem, Nat.reduceEqDiff, Nat.reduceAdd, reduceCtorEq, ↓reduceIte, c71]
         obtain rfl := Option.some.inj H72
         exact ⟨⟨((Int.tmod (IntKind.i64.wrap (an t0 255 : Int)) 24) == 9), rfl⟩, ren_mk [] (by rfl) (ru_ (ru_ (ru_ (ru_ (ru_ (ru_ (ru_ (rf_no _)))))))) (rh_no _)⟩
     ·rintro ⟨t50, he293⟩
      replace he293 := he293.symm
      subst he293
      try dsimp only at H66
      rcases ite_inv H66 with ⟨c73, H74⟩ | ⟨c73, H74⟩
      ·refine runR_condT (by rfl) c73 ?_
       try simp -implicitDefEqProofs only [go_sem, c73]
       refine runR_take tab_ok fol 3 ?_
       obtain ⟨s7, b75, H76⟩ := bind_inv H74
       obtain ⟨h77, h78⟩ := cat_inv b75
       have h79 : 6 + x2.size ≤ maxLen := h77
       obtain ⟨s8, b80, H81⟩ := bind_inv H76
       obtain ⟨h82, h83⟩ := cat_inv b80
       have h84 : s7.size + 1 ≤ maxLen := h82
       obtain ⟨x4, b85, H86⟩ := bind_inv H81
       obtain ⟨h87, h88⟩ := idx_inv b85
       try simp only [Int.reduceToNat, Int.toNat_natCast] at h88
       have h89 := map_at eS h88
       simp only [List.map_cons, List.map_nil, eS] at h89
       have h90 := at_lt h88
       simp only [List.length_cons, List.length_nil, Nat.reduceAdd] at h90
       obtain ⟨s9, b91, H92⟩ := bind_inv H86
       obtain ⟨h93, h94⟩ := cat_inv b91
       obtain ⟨s10, b95, H96⟩ := bind_inv H92
       obtain ⟨h97, h98⟩ := cat_inv b95
       have h99 : s9.size + 1 ≤ maxLen := h97
       obtain ⟨s11, b100, H101⟩ := bind_inv H96
       obtain ⟨h102, h103⟩ := cat_inv b100
       try simp -implicitDefEqProofs only [go_sem, Int.reduceToNat, Int.reduceLT, Nat.reduceLT, Nat.reduceEqDiff, Nat.reduceAdd, Nat.reduceLeDiff, reduceCtorEq, ↓reduceIte, h78, h79, h83, h84, nat_of .i64 h87, h89, h90, h93, h94, h98, h99, h102, h103]
       obtain rfl := Option.some.inj H101
       exact end_pure (by simp -implicitDefEqProofs only [go_sem, ↓reduceIte, Tryz.f49] <;> rfl) (by rfl) rfl (by intro h; rfl)
      ·refine runR_condF (by rfl) c73 ?_
       try simp -implicitDefEqProofs only [go_sem, c73]
       refine runR_seq ?_
       refine runR_take tab_ok fol 1 ?_
       try simp -implicitDefEqProofs only [go_sem, Nat.reduceEqDiff, Nat.reduceAdd, reduceCtorEq, ↓reduceIte]
       rcases ite_inv H74 with ⟨c104, H105⟩ | ⟨c104, H105⟩
       ·refine runR_condT (by rfl) c104 ?_
        try simp -implicitDefEqProofs only [go_sem, c104]
        refine runR_take tab_ok fol 3 ?_
        obtain ⟨s12, b106, H107⟩ := bind_inv H105
        obtain ⟨h108, h109⟩ := cat_inv b106
        have h110 : 4 + t28.size ≤ maxLen := h108
        obtain ⟨s13, b111, H112⟩ := bind_inv H107
        obtain ⟨h113, h114⟩ := cat_inv b111
        have h115 : s12.size + 1 ≤ maxLen := h113
        obtain ⟨x5, b116, H117⟩ := bind_inv H112
        obtain ⟨h118, h119⟩ := idx_inv b116
        try simp only [Int.reduceToNat, Int.toNat_natCast] at h119
        have h120 := map_at eS h119
        simp only [List.map_cons, List.map_nil, eS] at h120
        have h121 := at_lt h119
        simp only [List.length_cons, List.length_nil, Nat.reduceAdd] at h121
        obtain ⟨s14, b122, H123⟩ := bind_inv H117
        obtain ⟨h124, h125⟩ := cat_inv b122
        obtain ⟨s15, b126, H127⟩ := bind_inv H123
        obtain ⟨h128, h129⟩ := cat_inv b126
        have h130 : s14.size + 1 ≤ maxLen := h128
        obtain ⟨s16, b131, H132⟩ := bind_inv H127
        obtain ⟨h133, h134⟩ := cat_inv b131
        obtain ⟨s17, b135, H136⟩ := bind_inv H132
        obtain ⟨h137, h138⟩ := cat_inv b135
        have h139 : s16.size + 1 ≤ maxLen := h137
        obtain ⟨s18, b140, H141⟩ := bind_inv H136
        obtain ⟨h142, h143⟩ := cat_inv b140
        obtain ⟨s19, b144, H145⟩ := bind_inv H141
        obtain ⟨h146, h147⟩ := cat_inv b144
        have h148 : s18.size + 1 ≤ maxLen := h146
        obtain ⟨x6, b149, H150⟩ := bind_inv H145
        obtain ⟨h151, h152⟩ := idx_inv b149
        try simp only [Int.reduceToNat, Int.toNat_natCast] at h152
        have h153 := map_at eS h152
        simp only [List.map_cons, List.map_nil, eS] at h153
        have h154 := at_lt h152
        simp only [List.length_cons, List.length_nil, Nat.reduceAdd] at h154
        obtain ⟨s20, b155, H156⟩ := bind_inv H150
        obtain ⟨h157, h158⟩ := cat_inv b155
        try simp -implicitDefEqProofs only [go_sem, Int.reduceToNat, Int.reduceLT, Nat.reduceLT, Nat.reduceEqDiff, Nat.reduceAdd, Nat.reduceLeDiff, reduceCtorEq, ↓reduceIte, h109, h110, h114, h115, nat_of .i64 h118, h120, h121, h124, h125, h129, h130, h133, h134, h138, h139, h142, h143, h147, h148, nat_of .i64 h151, h153, h154, h157, h158]
        refine Rd_endF (by rfl) ?_
        try simp -implicitDefEqProofs only [go_sem]
        obtain rfl := Option.some.inj H156
        exact end_pure (by simp -implicitDefEqProofs only [go_sem, ↓reduceIte, Tryz.f49] <;> rfl) (by rfl) rfl (by intro h; rfl)
       ·refine runR_condF (by rfl) c104 ?_
        try simp -implicitDefEqProofs only [go_sem, c104]
        refine runR_seq ?_
        refine runR_seq ?_
        refine runR_take tab_ok fol 1 ?_
        try simp -implicitDefEqProofs only [go_sem, Nat.reduceEqDiff, Nat.reduceAdd, reduceCtorEq, ↓reduceIte]
        obtain ⟨e_4, E159, H160⟩ := bind_inv H105
        refine runR_join (α := { y : Bool // e_4 = y }) (fun | ⟨t94, _⟩ => ⟨upd 0 (.v (.int .i64 t0)) (upd 3 (.v (.string x)) (upd 4 (.v (.string x2)) (upd 5 (.v (.string x3)) (upd 6 (.v (.string t28)) (upd 31 (.v (.int .i64 (Int.tmod (IntKind.i64.wrap (an t0 255 : Int)) 24))) (upd 94 (.v (.bool t94)) noFr)))))), noHp, 0⟩) ?_ ?_
        ·refine runR_take tab_ok fol 1 ?_
         try simp -implicitDefEqProofs only [go_sem, ↓reduceIte]
         rcases ite_inv E159 with ⟨c161, H162⟩ | ⟨c161, H162⟩
         ·try simp -implicitDefEqProofs only [go_sem, c161]
          obtain rfl := Option.some.inj H162
          exact ⟨⟨true, rfl⟩, ren_mk [] (by rfl) (ru_ (ru_ (ru_ (ru_ (ru_ (ru_ (ru_ (rf_no _)))))))) (rh_no _)⟩
         ·try simp -implicitDefEqProofs only [go_sem, Nat.reduceEqDiff, Nat.reduceAdd, reduceCtorEq, ↓reduceIte, c161]
          obtain rfl := Option.some.inj H162
          exact ⟨⟨((Int.tmod (IntKind.i64.wrap (an t0 255 : Int)) 24) == 12), rfl⟩, ren_mk [] (by rfl) (ru_ (ru_ (ru_ (ru_ (ru_ (ru_ (ru_ (rf_no _)))))))) (rh_no _)⟩
        ·rintro ⟨t94, he292⟩
         replace he292 := he292.symm
         subst he292
         try dsimp only at H160
         rcases ite_inv H160 with ⟨c163, H164⟩ | ⟨c163, H164⟩
         ·refine runR_condT (by rfl) c163 ?_
          try simp -implicitDefEqProofs only [go_sem, c163]
          refine runR_take tab_ok fol 3 ?_
          obtain ⟨s21, b165, H166⟩ := bind_inv H164
          obtain ⟨h167, h168⟩ := cat_inv b165
          have h169 : 4 + t28.size ≤ maxLen := h167
          obtain ⟨s22, b170, H171⟩ := bind_inv H166
          obtain ⟨h172, h173⟩ := cat_inv b170
          have h174 : s21.size + 3 ≤ maxLen := h172
          obtain ⟨s23, b175, H176⟩ := bind_inv H171
          obtain ⟨h177, h178⟩ := cat_inv b175
          obtain ⟨s24, b179, H180⟩ := bind_inv H176
          obtain ⟨h181, h182⟩ := cat_inv b179
          have h183 : s23.size + 1 ≤ maxLen := h181
          obtain ⟨s25, b184, H185⟩ := bind_inv H180
          obtain ⟨h186, h187⟩ := cat_inv b184
          try simp -implicitDefEqProofs only [go_sem, Nat.reduceEqDiff, Nat.reduceAdd, reduceCtorEq, ↓reduceIte, h168, h169, h173, h174, h177, h178, h182, h183, h186, h187]
          obtain rfl := Option.some.inj H185
          exact end_pure (by simp -implicitDefEqProofs only [go_sem, ↓reduceIte, Tryz.f49] <;> rfl) (by rfl) rfl (by intro h; rfl)
         ·refine runR_condF (by rfl) c163 ?_
          try simp -implicitDefEqProofs only [go_sem, c163]
          refine runR_seq ?_
          refine runR_seq ?_
          refine runR_take tab_ok fol 1 ?_
          try simp -implicitDefEqProofs only [go_sem, Nat.reduceEqDiff, Nat.reduceAdd, reduceCtorEq, ↓reduceIte]
          obtain ⟨e_5, E188, H189⟩ := bind_inv H164
          refine runR_join (α := { y : Bool // e_5 = y }) (fun | ⟨t105, _⟩ => ⟨upd 0 (.v (.int .i64 t0)) (upd 3 (.v (.string x)) (upd 4 (.v (.string x2)) (upd 5 (.v (.string x3)) (upd 6 (.v (.string t28)) (upd 31 (.v (.int .i64 (Int.tmod (IntKind.i64.wrap (an t0 255 : Int)) 24))) (upd 105 (.v (.bool t105)) noFr)))))), noHp, 0⟩) ?_ ?_
          ·refine runR_take tab_ok fol 1 ?_
           try simp -implicitDefEqProofs only [go_sem, ↓reduceIte]
           rcases ite_inv E188 with ⟨c190, H191⟩ | ⟨c190, H191⟩
           ·try simp -implicitDefEqProofs only [go_sem, c190]
            obtain rfl := Option.some.inj H191
            exact ⟨⟨true, rfl⟩, ren_mk [] (by rfl) (ru_ (ru_ (ru_ (ru_ (ru_ (ru_ (ru_ (rf_no _)))))))) (rh_no _)⟩
           ·try simp -implicitDefEqProofs only [go_sem, Nat.reduceEqDiff, Nat.reduceAdd, reduceCtorEq, ↓reduceIte, c190]
            rcases ite_inv H191 with ⟨c192, H193⟩ | ⟨c192, H193⟩
            ·try simp -implicitDefEqProofs only [go_sem, c192]
             obtain rfl := Option.some.inj H193
             exact ⟨⟨true, rfl⟩, ren_mk [] (by rfl) (ru_ (ru_ (ru_ (ru_ (ru_ (ru_ (ru_ (rf_no _)))))))) (rh_no _)⟩
            ·try simp -implicitDefEqProofs only [go_sem, Nat.reduceEqDiff, Nat.reduceAdd, reduceCtorEq, ↓reduceIte, c192]
             obtain rfl := Option.some.inj H193
             exact ⟨⟨((Int.tmod (IntKind.i64.wrap (an t0 255 : Int)) 24) == 15), rfl⟩, ren_mk [] (by rfl) (ru_ (ru_ (ru_ (ru_ (ru_ (ru_ (ru_ (rf_no _)))))))) (rh_no _)⟩
          ·rintro ⟨t105, he291⟩
           replace he291 := he291.symm
           subst he291
           try dsimp only at H189
           refine runR_take tab_ok fol 3 ?_
           try simp -implicitDefEqProofs only [go_sem, Nat.reduceEqDiff, reduceCtorEq, ↓reduceIte]
           rcases ite_inv H189 with ⟨c194, H195⟩ | ⟨c194, H195⟩
           ·obtain ⟨s26, b196, H197⟩ := bind_inv H195
            obtain ⟨h198, h199⟩ := cat_inv b196
            have h200 : 8 + t28.size ≤ maxLen := h198
            obtain ⟨s27, b201, H202⟩ := bind_inv H197
            obtain ⟨h203, h204⟩ := cat_inv b201
            have h205 : s26.size + 1 ≤ maxLen := h203
            obtain ⟨s28, b206, H207⟩ := bind_inv H202
            obtain ⟨h208, h209⟩ := cat_inv b206
            obtain ⟨s29, b210, H211⟩ := bind_inv H207
            obtain ⟨h212, h213⟩ := cat_inv b210
            have h214 : s28.size + 1 ≤ maxLen := h212
            obtain ⟨s30, b215, H216⟩ := bind_inv H211
            obtain ⟨h217, h218⟩ := cat_inv b215
            try simp -implicitDefEqProofs only [go_sem, Nat.reduceEqDiff, Nat.reduceAdd, reduceCtorEq, ↓reduceIte, c194, h199, h200, h204, h205, h208, h209, h213, h214, h217, h218]
            obtain rfl := Option.some.inj H216
            exact end_pure (by simp -implicitDefEqProofs only [go_sem, ↓reduceIte, Tryz.f49] <;> rfl) (by rfl) rfl (by intro h; rfl)
           ·try simp -implicitDefEqProofs only [go_sem, Nat.reduceEqDiff, Nat.reduceAdd, reduceCtorEq, ↓reduceIte, c194]
            rcases ite_inv H195 with ⟨c219, H220⟩ | ⟨c219, H220⟩
            ·obtain ⟨s31, b221, H222⟩ := bind_inv H220
             obtain ⟨h223, h224⟩ := cat_inv b221
             have h225 : 8 + t28.size ≤ maxLen := h223
             obtain ⟨s32, b226, H227⟩ := bind_inv H222
             obtain ⟨h228, h229⟩ := cat_inv b226
             have h230 : s31.size + 1 ≤ maxLen := h228
             obtain ⟨s33, b231, H232⟩ := bind_inv H227
             obtain ⟨h233, h234⟩ := cat_inv b231
             obtain ⟨s34, b235, H236⟩ := bind_inv H232
             obtain ⟨h237, h238⟩ := cat_inv b235
             have h239 : s33.size + 1 ≤ maxLen := h237
             obtain ⟨s35, b240, H241⟩ := bind_inv H236
             obtain ⟨h242, h243⟩ := cat_inv b240
             obtain ⟨s36, b244, H245⟩ := bind_inv H241
             obtain ⟨h246, h247⟩ := cat_inv b244
             have h248 : s35.size + 1 ≤ maxLen := h246
             obtain ⟨s37, b249, H250⟩ := bind_inv H245
             obtain ⟨h251, h252⟩ := cat_inv b249
             try simp -implicitDefEqProofs only [go_sem, Nat.reduceEqDiff, Nat.reduceAdd, reduceCtorEq, ↓reduceIte, c219, h224, h225, h229, h230, h233, h234, h238, h239, h242, h243, h247, h248, h251, h252]
             obtain rfl := Option.some.inj H250
             exact end_pure (by simp -implicitDefEqProofs only [go_sem, ↓reduceIte, Tryz.f49] <;> rfl) (by rfl) rfl (by intro h; rfl)
            ·try simp -implicitDefEqProofs only [go_sem, Nat.reduceEqDiff, Nat.reduceAdd, reduceCtorEq, ↓reduceIte, c219]
             rcases ite_inv H220 with ⟨c253, H254⟩ | ⟨c253, H254⟩
             ·obtain ⟨s38, b255, H256⟩ := bind_inv H254
              obtain ⟨h257, h258⟩ := cat_inv b255
              have h259 : 5 + t28.size ≤ maxLen := h257
              try simp -implicitDefEqProofs only [go_sem, Nat.reduceEqDiff, Nat.reduceAdd, reduceCtorEq, ↓reduceIte, c253, h258, h259]
              obtain rfl := Option.some.inj H256
              exact end_pure (by simp -implicitDefEqProofs only [go_sem, ↓reduceIte, Tryz.f49] <;> rfl) (by rfl) rfl (by intro h; rfl)
             ·try simp -implicitDefEqProofs only [go_sem, Nat.reduceEqDiff, Nat.reduceAdd, reduceCtorEq, ↓reduceIte, c253]
              rcases ite_inv H254 with ⟨c260, H261⟩ | ⟨c260, H261⟩
              ·obtain ⟨s39, b262, H263⟩ := bind_inv H261
               obtain ⟨h264, h265⟩ := cat_inv b262
               have h266 : 5 + t28.size ≤ maxLen := h264
               try simp -implicitDefEqProofs only [go_sem, Nat.reduceEqDiff, Nat.reduceAdd, reduceCtorEq, ↓reduceIte, c260, h265, h266]
               obtain rfl := Option.some.inj H263
               exact end_pure (by simp -implicitDefEqProofs only [go_sem, ↓reduceIte, Tryz.f49] <;> rfl) (by rfl) rfl (by intro h; rfl)
              ·try simp -implicitDefEqProofs only [go_sem, Nat.reduceEqDiff, Nat.reduceAdd, reduceCtorEq, ↓reduceIte, c260]
               rcases ite_inv H261 with ⟨c267, H268⟩ | ⟨c267, H268⟩
               ·obtain ⟨x7, b269, H270⟩ := bind_inv H268
                obtain ⟨h271, h272⟩ := idx_inv b269
                try simp only [Int.reduceToNat, Int.toNat_natCast] at h272
                have h273 := map_at eS h272
                simp only [List.map_cons, List.map_nil, eS] at h273
                have h274 := at_lt h272
                simp only [List.length_cons, List.length_nil, Nat.reduceAdd] at h274
                try simp -implicitDefEqProofs only [go_sem, Int.reduceToNat, Int.reduceLT, Nat.reduceLT, Nat.reduceEqDiff, Nat.reduceAdd, Nat.reduceLeDiff, reduceCtorEq, ↓reduceIte, c267, nat_of .i64 h271, h273, h274]
                obtain rfl := Option.some.inj H270
                exact end_pure (by simp -implicitDefEqProofs only [go_sem, ↓reduceIte, Tryz.f49] <;> rfl) (by rfl) rfl (by intro h; rfl)
               ·try simp -implicitDefEqProofs only [go_sem, Nat.reduceEqDiff, Nat.reduceAdd, reduceCtorEq, ↓reduceIte, c267]
                rcases ite_inv H268 with ⟨c275, H276⟩ | ⟨c275, H276⟩
                ·try simp -implicitDefEqProofs only [go_sem, Nat.reduceAdd, c275]
                 obtain rfl := Option.some.inj H276
                 exact end_pure (by simp -implicitDefEqProofs only [go_sem, ↓reduceIte, Tryz.f49] <;> rfl) (by rfl) rfl (by intro h; rfl)
                ·obtain ⟨s40, b277, H278⟩ := bind_inv H276
                 obtain ⟨h279, h280⟩ := cat_inv b277
                 have h281 : 7 + x.size ≤ maxLen := h279
                 obtain ⟨s41, b282, H283⟩ := bind_inv H278
                 obtain ⟨h284, h285⟩ := cat_inv b282
                 have h286 : s40.size + 1 ≤ maxLen := h284
                 obtain ⟨s42, b287, H288⟩ := bind_inv H283
                 obtain ⟨h289, h290⟩ := cat_inv b287
                 try simp -implicitDefEqProofs only [go_sem, Nat.reduceEqDiff, Nat.reduceAdd, reduceCtorEq, ↓reduceIte, c275, h280, h281, h285, h286, h289, h290]
                 obtain rfl := Option.some.inj H288
                 exact end_pure (by simp -implicitDefEqProofs only [go_sem, ↓reduceIte, Tryz.f49] <;> rfl) (by rfl) rfl (by intro h; rfl)
def law13_File_L1 (n : Nat) (l : List Int) : Nat → (Bool × ByteArray × Int) → Option (ByteArray)
 | 0, _ => none
 | c + 1, (whole4, s4, i) =>
  (
   (if (decide (i < (l.length : Int))) then
    some (decide (i < 30))
   else
    some false) : Option (Bool)).bind fun t162 =>
  (if t162 then
   (idx l i).bind fun x3 =>
   (
    (if whole4 then
     (if ((Int.tmod (IntKind.i64.wrap (an x3 255 : Int)) 24) == 19) then
      some (true, (decide (0 < (IntKind.i64.wrap (an (sh x3 11) 3 : Int)))))
     else
      some (true, false))
    else
     some (false, false)) : Option (Bool × Bool)).bind fun (whole5, t352) =>
   (if t352 then
    law13_File_L1 n l c (whole5, s4, (IntKind.i64.wrap (i + 1)))
   else
    (idx l i).bind fun x4 =>
    (law13_Line n x4).bind fun t412 =>
    (cat s4 t412).bind fun s5 =>
    (cat s5 ({ data := #[10] })).bind fun s6 =>
    law13_File_L1 n l c (whole5, s6, (IntKind.i64.wrap (i + 1))))
  else
   some s4)

def law13_File (n : Nat) (l : List Int) (whole : Bool) : Option ByteArray :=
 (
  (if whole then
   some (true, { data := #[117, 115, 101, 114, 32, 117, 10, 117, 115, 101, 114, 32, 118, 10, 117, 115, 101, 114, 32, 119, 10, 114, 111, 108, 101, 32, 114, 10, 114, 111, 108, 101, 32, 115, 10, 114, 111, 108, 101, 32, 116, 10, 114, 111, 108, 101, 32, 113, 10] })
  else
   some (false, { data := #[] })) : Option (Bool × ByteArray)).bind fun (whole2, s) =>
 (
  law13_File_L1 n l n (whole2, s, 0) : Option (ByteArray)).bind fun s8 =>
 some s8
theorem law13_File_ok {n : Nat} {l : List Int} {whole : Bool} {r : ByteArray} (H : law13_File n l whole = some r) : PureOK Tryz.prog 25 [D.sl (List.map eI l), D.v (.bool whole)] (D.v (.string r)) true := by
 unfold law13_File at H
 refine pure_runR (tab := tab) tab_ok Tryz.func25 rfl (by kernel_rfl) (by kernel_rfl) (by simp [Tryz.f25]) ?_
 refine runR_seq ?_
 refine runR_take tab_ok fol 1 ?_
 try simp -implicitDefEqProofs only [go_sem]
 refine runR_seq ?_
 refine runR_take tab_ok fol 1 ?_
 try simp -implicitDefEqProofs only [go_sem, Nat.reduceAdd]
 refine runR_seq ?_
 refine runR_seq ?_
 refine runR_take tab_ok fol 1 ?_
 try simp -implicitDefEqProofs only [go_sem, Nat.reduceEqDiff, Nat.reduceAdd, ↓reduceIte]
 obtain ⟨e_, E1, H2⟩ := bind_inv H
 refine runR_join (α := { y : Bool × ByteArray // e_ = y }) (fun | ⟨⟨whole2, s⟩, _⟩ => ⟨upd 0 (.d (.sl (List.map eI l)) true) (upd 1 (.v (.bool whole2)) (upd 5 (.v (.string s)) noFr)), noHp, 0⟩) ?_ ?_
 ·refine runR_take tab_ok fol 1 ?_
  try simp -implicitDefEqProofs only [go_sem, ↓reduceIte]
  rcases ite_inv E1 with ⟨c3, H4⟩ | ⟨c3, H4⟩
  ·try simp -implicitDefEqProofs only [go_sem, Nat.reduceAdd, c3]
   obtain rfl := Option.some.inj H4
   exact ⟨⟨(true, { data := #[117, 115, 101, 114, 32, 117, 10, 117, 115, 101, 114, 32, 118, 10, 117, 115, 101, 114, 32, 119, 10, 114, 111, 108, 101, 32, 114, 10, 114, 111, 108, 101, 32, 115, 10, 114, 111, 108, 101, 32, 116, 10, 114, 111, 108, 101, 32, 113, 10] }), rfl⟩, ren_mk [] (by rfl) (ru_ (ru_ (ru_ (rf_no _)))) (rh_no _)⟩
  ·try simp -implicitDefEqProofs only [go_sem, c3]
   obtain rfl := Option.some.inj H4
   exact ⟨⟨(false, { data := #[] }), rfl⟩, ren_mk [] (by rfl) (ru_ (ru_ (ru_ (rf_no _)))) (rh_no _)⟩
 ·rintro ⟨⟨whole2, s⟩, he87⟩
  replace he87 := he87.symm
  subst he87
  try dsimp only at H2
  refine runR_seq ?_
  refine runR_seq ?_
  refine runR_take tab_ok fol 1 ?_
  try simp -implicitDefEqProofs only [go_sem]
  obtain ⟨e_2, E5, H6⟩ := bind_inv H2
  refine runR_join (α := { y : ByteArray // e_2 = y }) (fun | ⟨s8, _⟩ => ⟨upd 5 (.v (.string s8)) noFr, noHp, 0⟩) ?_ ?_
  ·refine runR_block ?_
   refine runR_loop (α := { q : Nat × (Bool × ByteArray × Int) // law13_File_L1 n l q.1 q.2 = some e_2 }) (fun | ⟨⟨c, ⟨whole4, s4, i⟩⟩, _⟩ => ⟨upd 0 (.d (.sl (List.map eI l)) true) (upd 1 (.v (.bool whole4)) (upd 5 (.v (.string s4)) (upd 6 (.v (.int .i64 i)) noFr))), noHp, 0⟩) (fun q => q.1.1) ⟨(n, (whole2, s, 0)), E5⟩ ?_ ?_
   ·exact ren_mk [] (by rfl) (ru_ (ru_ (ru_ (ru_ (rf_no _))))) (rh_no _)
   ·rintro ⟨⟨c, ⟨whole4, s4, i⟩⟩, L7⟩
    rcases c with _ | c
    ·exact nomatch (show none = some _ from L7)
    ·unfold law13_File_L1 at L7
     try dsimp only at L7
     refine runR_seq ?_
     refine runR_seq ?_
     obtain ⟨e_5, E47, H48⟩ := bind_inv L7
     refine runR_join (α := { y : Bool // e_5 = y }) (fun | ⟨t162, _⟩ => ⟨upd 0 (.d (.sl (List.map eI l)) true) (upd 1 (.v (.bool whole4)) (upd 5 (.v (.string s4)) (upd 6 (.v (.int .i64 i)) (upd 16 (.v (.bool t162)) noFr)))), noHp, 0⟩) ?_ ?_
     ·refine runR_take tab_ok fol 1 ?_
      try simp -implicitDefEqProofs only [go_sem, Nat.reduceEqDiff, Nat.reduceAdd, reduceCtorEq, ↓reduceIte]
      rcases ite_inv E47 with ⟨c49, H50⟩ | ⟨c49, H50⟩
      ·try simp -implicitDefEqProofs only [go_sem, Nat.reduceEqDiff, Nat.reduceAdd, reduceCtorEq, ↓reduceIte, c49]
       obtain rfl := Option.some.inj H50
       exact ⟨⟨(decide (i < 30)), rfl⟩, ren_mk [] (by rfl) (ru_ (ru_ (ru_ (ru_ (ru_ (rf_no _)))))) (rh_no _)⟩
      ·try simp -implicitDefEqProofs only [go_sem, Nat.reduceEqDiff, Nat.reduceAdd, ↓reduceIte, c49]
       obtain rfl := Option.some.inj H50
       exact ⟨⟨false, rfl⟩, ren_mk [] (by rfl) (ru_ (ru_ (ru_ (ru_ (ru_ (rf_no _)))))) (rh_no _)⟩
     ·rintro ⟨t162, he85⟩
      replace he85 := he85.symm
      subst he85
      try dsimp only at H48
      refine runR_take tab_ok fol 1 ?_
      try simp -implicitDefEqProofs only [go_sem, Nat.reduceEqDiff, reduceCtorEq, ↓reduceIte]
      rcases ite_inv H48 with ⟨c51, H52⟩ | ⟨c51, H52⟩
      ·try simp -implicitDefEqProofs only [go_sem, c51]
       refine runR_seq ?_
       refine runR_block ?_
       refine runR_seq ?_
       refine runR_seq ?_
       refine runR_take tab_ok fol 1 ?_
       obtain ⟨x3, b53, H54⟩ := bind_inv H52
       obtain ⟨h55, h56⟩ := idx_inv b53
       try simp only [Int.reduceToNat, Int.toNat_natCast] at h56
       have h57 := map_at eI h56
       try simp -implicitDefEqProofs only [go_sem, Nat.reduceEqDiff, Nat.reduceAdd, reduceCtorEq, ↓reduceIte, nat_of .i64 h55, h57]
       refine runR_seq ?_
       obtain ⟨e_6, E59, H60⟩ := bind_inv H54
       refine runR_join (α := { y : Bool × Bool // e_6 = y }) (fun | ⟨⟨whole5, t352⟩, _⟩ => ⟨upd 0 (.d (.sl (List.map eI l)) true) (upd 1 (.v (.bool whole5)) (upd 5 (.v (.string s4)) (upd 6 (.v (.int .i64 i)) (upd 35 (.v (.bool t352)) noFr)))), noHp, 0⟩) ?_ ?_
       ·refine runR_take tab_ok fol 1 ?_
        try simp -implicitDefEqProofs only [go_sem, Nat.reduceEqDiff, Nat.reduceAdd, reduceCtorEq, ↓reduceIte]
        rcases ite_inv E59 with ⟨c61, H62⟩ | ⟨c61, H62⟩
        ·try simp -implicitDefEqProofs only [go_sem, Int.reduceEq, Nat.reduceEqDiff, Nat.reduceAdd, ↓reduceIte, c61]
         rcases ite_inv H62 with ⟨c63, H64⟩ | ⟨c63, H64⟩
         ·try simp -implicitDefEqProofs only [go_sem, Int.reduceToNat, Int.reduceLT, Nat.reduceEqDiff, Nat.reduceAdd, ↓reduceIte, c63]
          obtain rfl := Option.some.inj H64
          exact ⟨⟨(true, (decide (0 < (IntKind.i64.wrap (an (sh x3 11) 3 : Int))))), rfl⟩, ren_mk [] (by rfl) (ru_ (ru_ (ru_ (ru_ (ru_ (rf_no _)))))) (rh_no _)⟩
         ·try simp -implicitDefEqProofs only [go_sem, Nat.reduceEqDiff, Nat.reduceAdd, ↓reduceIte, c63]
          obtain rfl := Option.some.inj H64
          exact ⟨⟨(true, false), rfl⟩, ren_mk [] (by rfl) (ru_ (ru_ (ru_ (ru_ (ru_ (rf_no _)))))) (rh_no _)⟩
        ·try simp -implicitDefEqProofs only [go_sem, Nat.reduceEqDiff, Nat.reduceAdd, ↓reduceIte, c61]
         obtain rfl := Option.some.inj H62
         exact ⟨⟨(false, false), rfl⟩, ren_mk [] (by rfl) (ru_ (ru_ (ru_ (ru_ (ru_ (rf_no _)))))) (rh_no _)⟩
       ·rintro ⟨⟨whole5, t352⟩, he84⟩
        replace he84 := he84.symm
        subst he84
        try dsimp only at H60
        refine runR_take tab_ok fol 4 ?_
        try simp -implicitDefEqProofs only [go_sem, Nat.reduceEqDiff, reduceCtorEq, ↓reduceIte]
        rcases ite_inv H60 with ⟨c65, H66⟩ | ⟨c65, H66⟩
        ·try simp -implicitDefEqProofs only [go_sem, Nat.reduceEqDiff, Nat.reduceAdd, reduceCtorEq, ↓reduceIte, c65]
         exact ⟨⟨(c, (whole5, s4, (IntKind.i64.wrap (i + 1)))), H66⟩, ren_mk [] (by rfl) (ru_ (ru_ (ru_ (ru_ (rf_no _))))) (rh_no _), Nat.lt_succ_self _⟩
        ·obtain ⟨x4, b67, H68⟩ := bind_inv H66
         obtain ⟨h69, h70⟩ := idx_inv b67
         try simp only [Int.reduceToNat, Int.toNat_natCast] at h70
         have h71 := map_at eI h70
         obtain ⟨t412, b73, H74⟩ := bind_inv H68
         try simp -implicitDefEqProofs only [go_sem, Nat.reduceEqDiff, Nat.reduceAdd, reduceCtorEq, ↓reduceIte, c65, nat_of .i64 h69, h71]
         refine onCall_pure (by rfl) (law13_Line_ok b73) (by exact .inr rfl) ?_
         obtain ⟨s5, b75, H76⟩ := bind_inv H74
         obtain ⟨h77, h78⟩ := cat_inv b75
         obtain ⟨s6, b79, H80⟩ := bind_inv H76
         obtain ⟨h81, h82⟩ := cat_inv b79
         have h83 : s5.size + 1 ≤ maxLen := h81
         try simp -implicitDefEqProofs only [go_sem, Bool.false_and, Nat.reduceEqDiff, Nat.reduceAdd, reduceCtorEq, ↓reduceIte, h77, h78, h82, h83]
         exact ⟨⟨(c, (whole5, s6, (IntKind.i64.wrap (i + 1)))), H80⟩, ren_mk [] (by rfl) (ru_ (ru_ (ru_ (ru_ (rf_no _))))) (rh_no _), Nat.lt_succ_self _⟩
      ·try simp -implicitDefEqProofs only [go_sem, ↓reduceIte, c51]
       obtain rfl := Option.some.inj H52
       exact ⟨⟨s4, rfl⟩, ren_mk [] (by rfl) (ru_ (rf_no _)) (rh_no _)⟩
  ·rintro ⟨s8, he86⟩
   replace he86 := he86.symm
   subst he86
   try dsimp only at H6
   refine runR_take tab_ok fol 1 ?_
   try simp -implicitDefEqProofs only [go_sem, Nat.reduceAdd, ↓reduceIte]
   obtain rfl := Option.some.inj H6
   exact end_pure (by simp -implicitDefEqProofs only [go_sem, ↓reduceIte, Tryz.f25] <;> rfl) (by rfl) rfl (by intro h; rfl)
def ref1_SameTexts_L1 (n : Nat) (a : List ByteArray) (b : List ByteArray) : Nat → Int → Option ((Unit) ⊕ Bool)
 | 0, _ => none
 | c + 1, i =>
  (if (decide (i < (a.length : Int))) then
   (idx a i).bind fun x3 =>
   (idx b i).bind fun x4 =>
   (if (x3.toList == x4.toList) then
    ref1_SameTexts_L1 n a b c (IntKind.i64.wrap (i + 1))
   else
    some (.inr false))
  else
   some (.inl ()))

def ref1_SameTexts (n : Nat) (a : List ByteArray) (b : List ByteArray) : Option Bool :=
 (if ((a.length : Int) != (b.length : Int)) then
  some false
 else
  (
   ref1_SameTexts_L1 n a b n 0 : Option ((Unit) ⊕ Bool)).bind fun
   | .inl _ =>
    some true
   | .inr r => some r)
theorem ref1_SameTexts_ok {n : Nat} {a : List ByteArray} {b : List ByteArray} {r : Bool} (H : ref1_SameTexts n a b = some r) : PureOK Tryz.prog 21 [D.sl (List.map eS a), D.sl (List.map eS b)] (D.v (.bool r)) true := by
 unfold ref1_SameTexts at H
 refine pure_runR (tab := tab) tab_ok Tryz.func21 rfl (by kernel_rfl) (by kernel_rfl) (by simp [Tryz.f21]) ?_
 refine runR_seq ?_
 refine runR_take tab_ok fol 1 ?_
 try simp -implicitDefEqProofs only [go_sem]
 refine runR_seq ?_
 refine runR_take tab_ok fol 1 ?_
 try simp -implicitDefEqProofs only [go_sem, Nat.reduceEqDiff, Nat.reduceAdd, reduceCtorEq, ↓reduceIte]
 rcases ite_inv H with ⟨c1, H2⟩ | ⟨c1, H2⟩
 ·try simp -implicitDefEqProofs only [go_sem, Nat.reduceAdd, c1]
  obtain rfl := Option.some.inj H2
  exact end_pure (by simp -implicitDefEqProofs only [go_sem, ↓reduceIte, Tryz.f21] <;> rfl) (by rfl) rfl (by intro h; rfl)
 ·try simp -implicitDefEqProofs only [go_sem, c1]
  refine runR_seq ?_
  refine runR_seq ?_
  refine runR_take tab_ok fol 1 ?_
  try simp -implicitDefEqProofs only [go_sem, Nat.reduceAdd]
  obtain ⟨e_, E3, H4⟩ := bind_inv H2
  refine runR_join (α := { y : Unit // e_ = .inl y }) (fun | ⟨_, _⟩ => ⟨noFr, noHp, 0⟩) ?_ ?_
  ·refine runR_block ?_
   refine runR_loop (α := { q : Nat × Int // ref1_SameTexts_L1 n a b q.1 q.2 = some e_ }) (fun | ⟨⟨c, i⟩, _⟩ => ⟨upd 0 (.d (.sl (List.map eS a)) true) (upd 1 (.d (.sl (List.map eS b)) true) (upd 5 (.v (.int .i64 i)) noFr)), noHp, 0⟩) (fun q => q.1.1) ⟨(n, 0), E3⟩ ?_ ?_
   ·exact ren_mk [] (by rfl) (ru_ (ru_ (ru_ (rf_no _)))) (rh_no _)
   ·rintro ⟨⟨c, i⟩, L5⟩
    rcases c with _ | c
    ·exact nomatch (show none = some _ from L5)
    ·unfold ref1_SameTexts_L1 at L5
     try dsimp only at L5
     refine runR_take tab_ok fol 1 ?_
     try simp -implicitDefEqProofs only [go_sem, Nat.reduceEqDiff, Nat.reduceAdd, reduceCtorEq, ↓reduceIte]
     rcases ite_inv L5 with ⟨c22, H23⟩ | ⟨c22, H23⟩
     ·obtain ⟨x3, b24, H25⟩ := bind_inv H23
      obtain ⟨h26, h27⟩ := idx_inv b24
      try simp only [Int.reduceToNat, Int.toNat_natCast] at h27
      have h28 := map_at eS h27
      obtain ⟨x4, b30, H31⟩ := bind_inv H25
      obtain ⟨h32, h33⟩ := idx_inv b30
      try simp only [Int.reduceToNat, Int.toNat_natCast] at h33
      have h34 := map_at eS h33
      try simp -implicitDefEqProofs only [go_sem, Nat.reduceEqDiff, Nat.reduceAdd, reduceCtorEq, ↓reduceIte, c22, nat_of .i64 h26, h28, h34]
      refine Rd_endF (by rfl) ?_
      try simp -implicitDefEqProofs only [go_sem, ↓reduceIte]
      rcases ite_inv H31 with ⟨c36, H37⟩ | ⟨c36, H37⟩
      ·try simp -implicitDefEqProofs only [go_sem, Nat.reduceEqDiff, Nat.reduceAdd, reduceCtorEq, ↓reduceIte, c36]
       exact ⟨⟨(c, (IntKind.i64.wrap (i + 1))), H37⟩, ren_mk [] (by rfl) (ru_ (ru_ (ru_ (rf_no _)))) (rh_no _), Nat.lt_succ_self _⟩
      ·try simp -implicitDefEqProofs only [go_sem, Nat.reduceAdd, c36]
       obtain rfl := Option.some.inj H37
       obtain rfl := Option.some.inj H4
       exact end_pure (by simp -implicitDefEqProofs only [go_sem, ↓reduceIte, Tryz.f21] <;> rfl) (by rfl) rfl (by intro h; rfl)
     ·try simp -implicitDefEqProofs only [go_sem, ↓reduceIte, c22]
      obtain rfl := Option.some.inj H23
      exact ⟨⟨(), rfl⟩, ren_mk [] (by rfl) (rf_no _) (rh_no _)⟩
  ·rintro ⟨_, he38⟩
   replace he38 := he38.symm
   subst he38
   try dsimp only at H4
   refine runR_take tab_ok fol 1 ?_
   try simp -implicitDefEqProofs only [go_sem]
   obtain rfl := Option.some.inj H4
   exact end_pure (by simp -implicitDefEqProofs only [go_sem, ↓reduceIte, Tryz.f21] <;> rfl) (by rfl) rfl (by intro h; rfl)
end Go.Proofs.YtkkhgdmmbhpckaaGreat.Ab
