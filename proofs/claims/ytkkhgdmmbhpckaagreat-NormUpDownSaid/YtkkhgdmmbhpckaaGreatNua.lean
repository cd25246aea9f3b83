/-
 Functions, read off the code.
-/
import Derived.Test.YtkkhgdmmbhpckaaGreatOnn
import Derived.Test.YtkkhgdmmbhpckaaGreatSot
import Derived.Test.YtkkhgdmmbhpckaaGreatNak
namespace Go.Proofs.YtkkhgdmmbhpckaaGreat.Ab
open Go.RowKit
def law14_NormUpDown_c1 (_ : Nat) (i : Int) : Option ByteArray :=
 (bslc ({ data := #[97, 98, 99, 100, 101, 102, 103, 104] }) (IntKind.i64.wrap (an i 7 : Int)) (IntKind.i64.wrap ((IntKind.i64.wrap (an i 7 : Int)) + 1))).bind fun s =>
 some s
theorem law14_NormUpDown_c1_ok {n : Nat} {i : Int} {r : ByteArray} (H : law14_NormUpDown_c1 n i = some r) : PureOK Tryz.prog 7 [D.v (.int .i64 i)] (D.v (.string r)) true := by
 unfold law14_NormUpDown_c1 at H
 refine ZP tab_ok fol (rs := #[.tmp 2]) Tryz.func7 ?_
 refine ZT 1 ?_
 obtain ⟨s, b1, H2⟩ := zbi H
 obtain ⟨h3, h4, h5, h6⟩ := zbs b1
 have h7 : Int.toNat (IntKind.i64.wrap (an i 7 : Int)) ≤ Int.toNat (IntKind.i64.wrap ((IntKind.i64.wrap (an i 7 : Int)) + 1)) := by omega
 have h8 : Int.toNat (IntKind.i64.wrap ((IntKind.i64.wrap (an i 7 : Int)) + 1)) ≤ (ByteArray.size ({ data := #[97, 98, 99, 100, 101, 102, 103, 104] })) := by omega
 have h9 : ByteArray.extract ({ data := #[97, 98, 99, 100, 101, 102, 103, 104] }) (Int.toNat (IntKind.i64.wrap (an i 7 : Int))) (Int.toNat (IntKind.i64.wrap ((IntKind.i64.wrap (an i 7 : Int)) + 1))) = s := h6.symm
 have h10 : Int.toNat (IntKind.i64.wrap ((IntKind.i64.wrap (an i 7 : Int)) + 1)) ≤ 8 := h8
 try simp only [Int.toNat_natCast] at h7 h10 h9
 refine Z1 (Y5 (zno .i64 h3) (zno .i64 (Int.le_trans h3 h4)) h7 h10 h9) ?_
 obtain rfl := Zi H2
 exact ZE0
def norm_reach_L2 (n : Nat) (next : List (ByteArray × (List ByteArray))) (x3 : ByteArray) : Nat → (List (ByteArray × Int) × List ByteArray × Int) → Option (List (ByteArray × Int) × List ByteArray)
 | 0, _ => none
 | c + 1, (seen5, out5, t283) =>
  (if (decide (t283 < (((mgetD x3 [] next)).length : Int))) then
   (idx (mgetD x3 [] next) t283).bind fun x5 =>
   (if ((mgetD x5 0 seen5) == 0) then
    (app out5 [x5]).bind fun l3 =>
    norm_reach_L2 n next x3 c ((mset x5 1 seen5), l3, (IntKind.i64.wrap (t283 + 1)))
   else
    norm_reach_L2 n next x3 c (seen5, out5, (IntKind.i64.wrap (t283 + 1))))
  else
   some (seen5, out5))
def norm_reach_L1 (n : Nat) (next : List (ByteArray × (List ByteArray))) : Nat → (List (ByteArray × Int) × List ByteArray × Int) → Option (List ByteArray)
 | 0, _ => none
 | c + 1, (seen4, out4, i) =>
  (if (decide (i < (out4.length : Int))) then
   (idx out4 i).bind fun x3 =>
   (
    norm_reach_L2 n next x3 n (seen4, out4, 0) : Option (List (ByteArray × Int) × List ByteArray)).bind fun (seen7, out7) =>
   norm_reach_L1 n next c (seen7, out7, (IntKind.i64.wrap (i + 1)))
  else
   some out4)
def norm_reach (n : Nat) (role : ByteArray) (next : List (ByteArray × (List ByteArray))) : Option (List ByteArray) :=
 (
  norm_reach_L1 n next n ((mset role 1 []), [role], 0) : Option (List ByteArray)).bind fun out9 =>
 (sort_T n out9).bind fun l4 =>
 some l4
theorem norm_reach_ok {n : Nat} {role : ByteArray} {next : List (ByteArray × (List ByteArray))} {r : List ByteArray} (H : norm_reach n role next = some r) : PureOK Tryz.prog 26 [D.v (.string role), D.mp (encMp Value.string false (eL eS) next)] (D.sl (List.map eS r)) true := by
 unfold norm_reach at H
 refine ZP tab_ok fol (rs := #[.tmp 4]) Tryz.func26 ?_
 refine zsq (ZT 1 ?_)
 refine Z0 ?_
 refine zsq (ZT 1 ?_)
 refine Z1 (fun _ => rfl : ∀ hp : Hp, upd 1 (some (AO.mo [] false)) hp = upd 1 (some (AO.mo (encM Value.string vI ([] : List (ByteArray × Int))) false)) hp) ?_
 refine zsq (ZT 1 ?_)
 refine Z1 (fun _ => rfl : ∀ hp : Hp, upd 1 (some (AO.mo [] false)) hp = upd 1 (some (AO.mo (encM Value.string vI ([] : List (ByteArray × Int))) false)) hp) ?_
 refine zsq (zsq ?_)
 refine ZT 1 ?_
 refine Z1 (fun _ => rfl : ∀ hp : Hp, upd 1 (some (AO.mo [] false)) hp = upd 1 (some (AO.mo (encM Value.string vI ([] : List (ByteArray × Int))) false)) hp) ?_
 obtain ⟨e_, E1, H2⟩ := zbi H
 refine zjn (α := { y : List ByteArray // e_ = y } × Nat) (fun | ⟨⟨out9, _⟩, g9⟩ => ⟨upd 6 (.so 0 g9 0 (out9.length)) noFr, upd 0 (some (.rw (List.map eS out9) 1 g9 false false)) noHp, 1⟩) ?_ ?_
 ·refine zbk ?_
  refine zlp (α := { q : (Nat × (List (ByteArray × Int) × List ByteArray × Int)) × Nat // norm_reach_L1 n next q.1.1 q.1.2 = some e_ }) (fun | ⟨⟨⟨c, ⟨seen4, out4, i⟩⟩, g4⟩, _⟩ => ⟨upd 1 (.d (.mp (encMp Value.string false (eL eS) next)) true) (upd 5 (.mo 0) (upd 6 (.so 1 g4 0 (out4.length)) (upd 7 (.v (.int .i64 i)) noFr))), upd 0 (some (.mo (encM Value.string vI seen4) false)) (upd 1 (some (.rw (List.map eS out4) 1 g4 false false)) noHp), 2⟩) (fun q => q.1.1.1) ⟨((n, ((mset role 1 []), [role], 0)), 0), E1⟩ ?_ ?_
  ·exact ren_mk [(0, 1), (1, 7)] (by rfl) (rf_upd (by rfl) (rf_upd (by rfl) (rf_upd (by rfl) (rf_upd (by rfl) (rf_no _))))) (rh_upd (rh_one (by rfl) (renO_encM (fun _ => rfl) _ _) (by rfl)) (rh_upd (rh_one (by rfl) (by rfl) (by rfl)) (rh_no _)))
  ·rintro ⟨⟨⟨c, ⟨seen4, out4, i⟩⟩, g4⟩, L3⟩
   rcases c with _ | c
   ·exact Zx L3
   ·unfold norm_reach_L1 at L3
    try dsimp only at L3
    refine zsq (ZT 1 ?_)
    refine Z0 ?_
    rcases zit L3 with ⟨c37, H38⟩ | ⟨c37, H38⟩
    ·refine Z1 c37 ?_
     refine zsq (zbk ?_)
     refine zsq (ZT 1 ?_)
     obtain ⟨x3, b39, H40⟩ := zbi H38
     obtain ⟨h41, h42⟩ := zix b39
     try simp only [Int.reduceToNat, Int.toNat_natCast] at h42
     have h43 := map_at eS h42
     have h44 := at_lt h42
     have h45 : lookA (false, [.string]) (.string x3) (.d (.sl []) true) false (dEnts true (encMp Value.string false (eL eS) next)) = some (.d (.sl (List.map eS (mgetD x3 [] next))) true, []) := lookD (b := true) (ag := false) (enc := (eL eS)) key_str x3 ([] : List ByteArray) false next
     refine Z1 (Y5 c37 (zno .i64 h41) h43 h44 h45) ?_
     obtain ⟨e_3, E46, H47⟩ := zbi H40
     refine zjn (α := { y : List (ByteArray × Int) × List ByteArray // e_3 = y } × Nat) (fun | ⟨⟨⟨seen7, out7⟩, _⟩, g7⟩ => ⟨upd 1 (.d (.mp (encMp Value.string false (eL eS) next)) true) (upd 5 (.mo 0) (upd 6 (.so 1 g7 0 (out7.length)) (upd 7 (.v (.int .i64 i)) noFr))), upd 0 (some (.mo (encM Value.string vI seen7) false)) (upd 1 (some (.rw (List.map eS out7) 1 g7 false false)) noHp), 2⟩) ?_ ?_
     ·refine zbk ?_
      refine zlp (α := { q : (Nat × (List (ByteArray × Int) × List ByteArray × Int)) × Nat // norm_reach_L2 n next x3 q.1.1 q.1.2 = some e_3 }) (fun | ⟨⟨⟨c, ⟨seen5, out5, t283⟩⟩, g5⟩, _⟩ => ⟨upd 1 (.d (.mp (encMp Value.string false (eL eS) next)) true) (upd 5 (.mo 0) (upd 6 (.so 1 g5 0 (out5.length)) (upd 7 (.v (.int .i64 i)) (upd 26 (.d (.sl (List.map eS (mgetD x3 [] next))) true) (upd 27 (.v (.int .i64 (((mgetD x3 [] next)).length : Int))) (upd 28 (.v (.int .i64 t283)) noFr)))))), upd 0 (some (.mo (encM Value.string vI seen5) false)) (upd 1 (some (.rw (List.map eS out5) 1 g5 false false)) noHp), 2⟩) (fun q => q.1.1.1) ⟨((n, (seen4, out4, 0)), g4), E46⟩ ?_ ?_
      ·exact ren_mk [(0, 0), (1, 1)] (by rfl) (rf_upd (by rfl) (rf_upd (by rfl) (rf_upd (by rfl) (rf_upd (by rfl) (rf_upd (by rfl) (rf_upd (by rfl) (rf_upd (by rfl) (rf_no _)))))))) (rh_upd (rh_one (by rfl) (renO_encM (fun _ => rfl) _ _) (by rfl)) (rh_upd (rh_one (by rfl) (by rfl) (by rfl)) (rh_no _)))
      ·rintro ⟨⟨⟨c, ⟨seen5, out5, t283⟩⟩, g5⟩, L48⟩
       rcases c with _ | c
       ·exact Zx L48
       ·unfold norm_reach_L2 at L48
        try dsimp only at L48
        refine ZT 1 ?_
        refine Z0 ?_
        rcases zit L48 with ⟨c67, H68⟩ | ⟨c67, H68⟩
        ·obtain ⟨x5, b69, H70⟩ := zbi H68
         obtain ⟨h71, h72⟩ := zix b69
         try simp only [Int.reduceToNat, Int.toNat_natCast] at h72
         have h73 := map_at eS h72
         refine Z1 (Y3 c67 (zno .i64 h71) h73) ?_
         rcases zit H70 with ⟨c75, H76⟩ | ⟨c75, H76⟩
         ·obtain ⟨l3, b77, H78⟩ := zbi H76
          obtain ⟨h79, h80⟩ := app_inv b77
          have h79 : out5.length + 1 ≤ 4294967296 := h79
          have h81 : List.map eS out5 ++ [[.v (.string x5)]] = List.map eS l3 := app_map eS h80
          have h82 : out5.length + 1 = l3.length := app_len h80
          have h83 : l3.length ≤ 4294967296 := by omega
          have q84 : 0 < l3.length := by omega
          refine Z1 (Y2 (Y6 c67 (zno .i64 h71) h73 c75 h79 h81) (Y2 h82 h83)) ?_
          exact ⟨⟨((c, ((mset x5 1 seen5), l3, (IntKind.i64.wrap (t283 + 1)))), (g5 + 1)), H78⟩, ren_mk [(0, 0), (1, 1)] (by rfl) (rf_upd (by rfl) (rf_upd (by rfl) (rf_upd (by rfl) (rf_upd (by rfl) (rf_upd (by rfl) (rf_upd (by rfl) (rf_upd (by rfl) (rf_no _)))))))) (rh_upd (rh_one (by rfl) (renO_encM (fun _ => rfl) _ _) (by rfl)) (rh_upd (rh_one (by rfl) (by rfl) (by rfl)) (rh_no _))), Nat.lt_succ_self _⟩
         ·refine Z1 (Y4 c67 (zno .i64 h71) h73 c75) ?_
          exact ⟨⟨((c, (seen5, out5, (IntKind.i64.wrap (t283 + 1)))), g5), H76⟩, ren_mk [(0, 0), (1, 1)] (by rfl) (rf_upd (by rfl) (rf_upd (by rfl) (rf_upd (by rfl) (rf_upd (by rfl) (rf_upd (by rfl) (rf_upd (by rfl) (rf_upd (by rfl) (rf_no _)))))))) (rh_upd (rh_one (by rfl) (renO_encM (fun _ => rfl) _ _) (by rfl)) (rh_upd (rh_one (by rfl) (by rfl) (by rfl)) (rh_no _))), Nat.lt_succ_self _⟩
        ·refine Z1 c67 ?_
         obtain rfl := Zi H68
         exact ⟨⟨⟨(seen5, out5), rfl⟩, g5⟩, ren_mk [(0, 0), (1, 1)] (by rfl) (rf_upd (by rfl) (rf_upd (by rfl) (rf_upd (by rfl) (rf_upd (by rfl) (rf_no _))))) (rh_upd (rh_one (by rfl) (renO_encM (fun _ => rfl) _ _) (by rfl)) (rh_upd (rh_one (by rfl) (by rfl) (by rfl)) (rh_no _)))⟩
     ·rintro ⟨⟨⟨seen7, out7⟩, he85⟩, g7⟩
      obtain rfl := he85.symm
      try dsimp only at H47
      refine Z0 ?_
      refine ZT 1 ?_
      refine Z0 ?_
      exact ⟨⟨((c, (seen7, out7, (IntKind.i64.wrap (i + 1)))), g7), H47⟩, ren_mk [(0, 0), (1, 1)] (by rfl) (rf_upd (by rfl) (rf_upd (by rfl) (rf_upd (by rfl) (rf_upd (by rfl) (rf_no _))))) (rh_upd (rh_one (by rfl) (renO_encM (fun _ => rfl) _ _) (by rfl)) (rh_upd (rh_one (by rfl) (by rfl) (by rfl)) (rh_no _))), Nat.lt_succ_self _⟩
    ·refine Z1 c37 ?_
     obtain rfl := Zi H38
     exact ⟨⟨⟨out4, rfl⟩, g4⟩, ZR [(0, 1)]⟩
 ·rintro ⟨⟨out9, he92⟩, g9⟩
  obtain rfl := he92.symm
  try dsimp only at H2
  refine ZT 1 ?_
  obtain ⟨l4, b89, H90⟩ := zbi H2
  refine Z0 ?_
  have h91 := sort_T_len b89
  refine onCall_inl (InlOK.mono (sort_T_in b89 (by first | rfl | (simp -implicitDefEqProofs only [go_sem, Bool.false_and, Int.reduceToNat, Int.reduceLT, Int.reduceLE, Int.reduceBEq, Int.reduceBNe, Nat.reduceLT, Nat.reduceBEq, Int.reduceEq, Nat.reduceEqDiff, Nat.reduceAdd, Nat.reduceSub, Nat.reduceMul, Nat.reduceLeDiff, reduceCtorEq, ↓reduceIte, eGPair, eGGrant, eGSod, eGSession]; done) | (simp -implicitDefEqProofs only [go_sem, Bool.false_and, Int.reduceToNat, Int.reduceLT, Int.reduceLE, Int.reduceBEq, Int.reduceBNe, Nat.reduceLT, Nat.reduceBEq, Int.reduceEq, Nat.reduceEqDiff, Nat.reduceAdd, Nat.reduceSub, Nat.reduceMul, Nat.reduceLeDiff, reduceCtorEq, ↓reduceIte, eGPair, eGGrant, eGSod, eGSession]; rfl))) ?_)
  rintro v86 hp87 nx88 ⟨rfl, rfl, rfl⟩
  try rw [h91]
  refine Z0 ?_
  obtain rfl := Zi H90
  exact ZE0
def norm_below_L1 (n : Nat) (l : List GPair) : Nat → (List (ByteArray × (List ByteArray)) × Int) → Option (List (ByteArray × (List ByteArray)))
 | 0, _ => none
 | c + 1, (out2, t9) =>
  (if (decide (t9 < (l.length : Int))) then
   (idx l t9).bind fun x2 =>
   grd (decide (out2.length ≤ 4294967296)) <|
   (
    grd (famG x2.a out2) <|
    some () : Option (Unit)).bind fun _ =>
   grd (decide ((madd x2.a [x2.b] out2).length ≤ 4294967296)) <|
   norm_below_L1 n l c ((madd x2.a [x2.b] out2), (IntKind.i64.wrap (t9 + 1)))
  else
   grd (decide (out2.length ≤ 4294967296)) <|
   some out2)
def norm_below_L1_f (_ : Nat) (_ : List GPair) (st : List (ByteArray × (List ByteArray))) (x2 : GPair) (k : (List (ByteArray × (List ByteArray))) → Option (List (ByteArray × (List ByteArray)))) : Option (List (ByteArray × (List ByteArray))) :=
 match st with
 | out2 =>
  grd (decide (out2.length ≤ 4294967296)) <|
  (
   grd (famG x2.a out2) <|
   some () : Option (Unit)).bind fun _ =>
  grd (decide ((madd x2.a [x2.b] out2).length ≤ 4294967296)) <|
  k (madd x2.a [x2.b] out2)
def norm_below_L1_e (_ : Nat) (_ : List GPair) (st : List (ByteArray × (List ByteArray))) : Option (List (ByteArray × (List ByteArray))) :=
 match st with
 | out2 => grd (decide (out2.length ≤ 4294967296)) <|
 some out2
theorem norm_below_L1_list (n : Nat) (l : List GPair) (hx : l.length < 4611686018427387904) (c : Nat) (st : List (ByteArray × (List ByteArray))) (ix : Nat) (hi : ix ≤ l.length) (hc : l.length - ix < c) : norm_below_L1 n l c (match st, (ix : Int) with | out2, ix => (out2, ix)) = foldK (norm_below_L1_f n l) (norm_below_L1_e n l) (l.drop ix) st :=
 loop_list (fun c st ix => norm_below_L1 n l c (match st, ix with | out2, ix => (out2, ix))) l (norm_below_L1_f n l) (norm_below_L1_e n l) (fun _ _ _ => rfl) hx c st ix hi hc
def norm_below (n : Nat) (l : List GPair) : Option (List (ByteArray × (List ByteArray))) :=
 (
  norm_below_L1 n l n (([] : List (ByteArray × (List ByteArray))), 0) : Option (List (ByteArray × (List ByteArray)))).bind fun out4 =>
 grd (decide (out4.length ≤ 4294967296)) <|
 some out4
theorem norm_below_ok {n : Nat} {l : List GPair} {r : List (ByteArray × (List ByteArray))} (H : norm_below n l = some r) : PureA Tryz.prog 27 [.d (D.sl (List.map eGPair l))] (D.mp (encMp Value.string false (eL eS) r)) true := by
 unfold norm_below at H
 refine ZPX tab_ok fol (rs := #[.tmp 2]) Tryz.func27 ?_
 refine zsq (ZT 1 ?_)
 refine Z0 ?_
 refine zsq (ZT 1 ?_)
 refine Z0 ?_
 refine zsq (zsq ?_)
 refine ZT 1 ?_
 refine Z0 ?_
 obtain ⟨e_, E1, H2⟩ := zbi H
 refine zjn (α := { y : List (ByteArray × (List ByteArray)) // e_ = y } × (Nat → Nat)) (fun | ⟨⟨out4, _⟩, g6⟩ => ⟨upd 3 (.mo 0) noFr, upd 0 (some (.mo (encF Value.string 4294967296 g6 out4) false)) (famH eS 1 4294967296 g6 out4 (noHp)), 8589934592⟩) ?_ ?_
 ·refine zbk ?_
  refine zlp (α := { q : (Nat × (List (ByteArray × (List ByteArray)) × Int)) × (Nat → Nat) // norm_below_L1 n l q.1.1 q.1.2 = some e_ }) (fun | ⟨⟨⟨c, ⟨out2, t9⟩⟩, g3⟩, _⟩ => ⟨upd 3 (.mo 0) (upd 7 (.d (.sl (List.map eGPair l)) true) (upd 8 (.v (.int .i64 (l.length : Int))) (upd 9 (.v (.int .i64 t9)) noFr))), upd 0 (some (.mo (encF Value.string 4294967296 g3 out2) false)) (famH eS 1 4294967296 g3 out2 (noHp)), 8589934592⟩) (fun q => q.1.1.1) ⟨((n, (([] : List (ByteArray × (List ByteArray))), 0)), (fun _ => 0)), E1⟩ ?_ ?_
  ·exact ren_mkF (R := 340282366920938463463374607431768211457) none (fun _ _ h => by cases h) [4294967296] [(0, 1)] (by rfl) (rf_upd (by rfl) (rf_upd (by rfl) (rf_upd (by rfl) (rf_upd (by rfl) (rf_no _))))) (rh_upd (rh_one (by rfl) (renO_fam (by rfl) (by simp) (fun _ _ h => by cases h) (by decide) rfl) (by rfl)) (rh_fam (by rfl) (by simp) (fun _ _ h => by cases h) rfl (fun j p h hj => by cases h) (rh_no _)))
  ·rintro ⟨⟨⟨c, ⟨out2, t9⟩⟩, g3⟩, L3⟩
   rcases c with _ | c
   ·exact Zx L3
   ·unfold norm_below_L1 at L3
    try dsimp only at L3
    refine zsq (ZT 1 ?_)
    refine Z0 ?_
    refine zsq (ZT 1 ?_)
    refine Z0 ?_
    rcases zit L3 with ⟨c54, H55⟩ | ⟨c54, H55⟩
    ·refine Z1 c54 ?_
     refine zsq (zbk ?_)
     refine zsq (ZT 1 ?_)
     obtain ⟨x2, b56, H57⟩ := zbi H55
     obtain ⟨h58, h59⟩ := zix b56
     try simp only [Int.reduceToNat, Int.toNat_natCast] at h59
     have h60 := map_at eGPair h59
     refine Z1 (Y3 c54 (zno .i64 h58) h60) ?_
     obtain ⟨g62, H63⟩ := grd_inv H57
     have h64 : out2.length ≤ 4294967296 := of_decide_eq_true g62
     obtain ⟨e_3, E65, H66⟩ := zbi H63
     refine zjn (α := { y : Unit // e_3 = y } × (Nat → Nat)) (fun | ⟨⟨_, _⟩, g4⟩ => ⟨upd 3 (.mo 0) (upd 7 (.d (.sl (List.map eGPair l)) true) (upd 8 (.v (.int .i64 (l.length : Int))) (upd 9 (.v (.int .i64 t9)) noFr))), upd 0 (some (.mo (encF Value.string 4294967296 g4 (madd x2.a [x2.b] out2)) false)) (famH eS 1 4294967296 g4 (madd x2.a [x2.b] out2) (noHp)), 8589934592⟩) ?_ ?_
     ·refine ZT 1 ?_
      obtain ⟨g67, H68⟩ := grd_inv E65
      obtain ⟨g69, g70⟩ := famG_inv g67
      refine Z0 ?_
      rcases find_cases (kv := Value.string) (B := 4294967296) (vs := g3) key_str x2.a out2 with ⟨n71, n72, n73⟩ | ⟨j2, xs2, o74, o75, o76, o77⟩
      ·have n78 : mfind (false, [.string]) (.string x2.a) (encF Value.string 4294967296 g3 out2) = some none := n72
       try simp -implicitDefEqProofs only [go_sem, Nat.reduceLT, Nat.reduceEqDiff, Nat.reduceAdd, Nat.reduceLeDiff, reduceCtorEq, ↓reduceIte, look_new n78, mput_new n78]
       refine Rd_endF (by kernel_rfl) ?_
       try simp -implicitDefEqProofs only [go_sem]
       obtain rfl := Zi H68
       exact ⟨⟨⟨(), rfl⟩, (vsUp (List.length out2) 0 g3)⟩, ren_mkF (R := 8589934607) (some (fid 4294967296 (List.length out2), 8589934607)) (fun _ _ h => by cases h; rfl) [4294967296] [(0, 0)] (by rfl) (rf_upd (by rfl) (rf_upd (by rfl) (rf_upd (by rfl) (rf_upd (by rfl) (rf_no _))))) (rh_upd (rh_one (by rfl) (renO_famN (by rfl) (by simp) g69 (by first | exact (n73 _) | rfl)) (by rfl)) (rh_famN (by rfl) (by simp) g69 (by first | exact (n73 _) | rfl) (fun j p h hj => by repeat (first | with_reducible exact famH_at h hj | (with_reducible refine at_upd ?_ ?_; rw [fid_eq]; omega) | (with_reducible refine at_fam ?_ ?_; rw [fid_eq]; omega))) (by rfl) (rh_no _)))⟩
      ·have o83 : mfind (false, [.string]) (.string x2.a) (encF Value.string 4294967296 g3 out2) = some (some (j2, .so (fid 4294967296 j2) (g3 j2) 0 xs2.length)) := o76
       have h79 : j2 < 4294967296 := Nat.lt_trans (List.getElem?_eq_some_iff.1 o74).1 g69
       have h80 : ∀ hp : Hp, famH eS 1 4294967296 g3 out2 hp (fid 4294967296 j2) = some (.rw (List.map eS xs2) 1 (g3 j2) false false) := fun _ => famH_at o74 h79
       have h81 : (encF Value.string 4294967296 g3 out2)[j2]? = some ((.string x2.a), .so (fid 4294967296 j2) (g3 j2) 0 xs2.length) := (encF_at _ _).trans (by rw [o74]; rfl)
       have h82 : xs2.length + 1 ≤ 4294967296 := by have := g70; simp only [mgetD, o75, Option.getD_some] at this; omega
       have h84 : ∀ (x y : Option AO) (g : Hp), upd (fid 4294967296 j2) x (upd 0 y g) = upd 0 y (upd (fid 4294967296 j2) x g) := fun _ _ _ => upd_swap (by rw [fid_eq]; omega)
       have h85 : ∀ (x y : Option AO) (g : Hp), upd (fid 4294967296 j2) x (upd 8589934595 y g) = upd 8589934595 y (upd (fid 4294967296 j2) x g) := fun _ _ _ => upd_swap (by rw [fid_eq]; omega)
       have h86 : ∀ c : Nat, 8589934592 ≤ c → (fid 4294967296 j2 = c) = False := fun c h => fid_hi h79 h
       have h87 : ∀ c : Nat, 8589934592 ≤ c → (c = fid 4294967296 j2) = False := fun c h => fid_hi' h79 h
       have h88 : ∀ (c : Nat) (x y : Option AO) (g : Hp), 8589934592 ≤ c → upd (fid 4294967296 j2) x (upd c y g) = upd c y (upd (fid 4294967296 j2) x g) := fun _ _ _ _ h => upd_swap (by rw [fid_eq]; omega)
       obtain ⟨zs2, h89⟩ : ∃ zs, xs2 ++ [x2.b] = zs := ⟨_, rfl⟩
       have h90 : List.map eS xs2 ++ [[.v (.string x2.b)]] = List.map eS zs2 := app_map eS h89
       have h91 : xs2.length + 1 = zs2.length := app_len h89
       have h92 : zs2.length ≤ 4294967296 := by omega
       have h93 : madd x2.a [x2.b] out2 = List.set out2 j2 (x2.a, zs2) := by rw [← h89]; exact o77 _
       have h94 : ∀ hp : Hp, upd (fid 4294967296 j2) (some (.rw (List.map eS zs2) 1 (g3 j2 + 1) false false)) (famH eS 1 4294967296 g3 out2 hp) = famH eS 1 4294967296 (vsUp j2 (g3 j2 + 1) g3) (List.set out2 j2 (x2.a, zs2)) hp := fun _ => famH_set (q := (x2.a, zs2)) o74 h79
       have h95 : List.set (encF Value.string 4294967296 g3 out2) j2 ((.string x2.a), .so (fid 4294967296 j2) (g3 j2 + 1) 0 zs2.length) = encF Value.string 4294967296 (vsUp j2 (g3 j2 + 1) g3) (List.set out2 j2 (x2.a, zs2)) := encF_set (q := (x2.a, zs2)) (List.getElem?_eq_some_iff.1 o74).1
       have h96 : (List.set out2 j2 (x2.a, zs2)).length ≤ 4294967296 := by rw [List.length_set]; exact Nat.le_of_lt g69
       try simp -implicitDefEqProofs only [go_sem, Nat.reduceLT, Nat.reduceEqDiff, Nat.reduceAdd, Nat.reduceLeDiff, reduceCtorEq, ↓reduceIte, look_old o83, mput_old o83, h80, h84, h85, h86, fid_lo, h88, h90, h91, h92, h94, h95]
       refine Rd_endJ (fid 4294967296 j2) 340282366920938463463374607431768211458 (by have := h79; rw [fid_eq]; unfold sent; omega) (by decide) (by simp [h87]) (by simp only [List.reverse_cons, List.reverse_nil, List.nil_append, List.cons_append, List.map_cons, List.map_nil, swRec, sw, Nat.reduceLeDiff, Nat.reduceLT, ↓reduceIte, fid_lo', h87]; kernel_rfl) ?_
       try simp -implicitDefEqProofs only [go_sem]
       obtain rfl := Zi H68
       exact ⟨⟨⟨(), rfl⟩, (vsUp j2 (g3 j2 + 1) g3)⟩, ren_mkF (R := 340282366920938463463374607431768211457) none (fun _ _ h => by cases h) [4294967296] [(0, 0)] (by rfl) (rf_upd (by rfl) (rf_upd (by rfl) (rf_upd (by rfl) (rf_upd (by rfl) (rf_no _))))) (rh_upd (rh_one (by rfl) (renO_fam (by rfl) (by simp) (fun _ _ h => by cases h) h96 (by first | exact h93 | rfl)) (by rfl)) (rh_fam (by rfl) (by simp) (fun _ _ h => by cases h) (by first | exact h93 | rfl) (fun j p h hj => by repeat (first | with_reducible exact famH_at h hj | (with_reducible refine at_upd ?_ ?_; rw [fid_eq]; omega) | (with_reducible refine at_fam ?_ ?_; rw [fid_eq]; omega))) (rh_no _)))⟩
     ·rintro ⟨⟨_, he100⟩, g4⟩
      obtain rfl := he100.symm
      try dsimp only at H66
      refine Z0 ?_
      refine ZT 1 ?_
      refine Z0 ?_
      obtain ⟨g97, H98⟩ := grd_inv H66
      have h99 : (madd x2.a [x2.b] out2).length ≤ 4294967296 := of_decide_eq_true g97
      exact ⟨⟨((c, ((madd x2.a [x2.b] out2), (IntKind.i64.wrap (t9 + 1)))), g4), H98⟩, ren_mkF (R := 340282366920938463463374607431768211457) none (fun _ _ h => by cases h) [4294967296] [(0, 0)] (by rfl) (rf_upd (by rfl) (rf_upd (by rfl) (rf_upd (by rfl) (rf_upd (by rfl) (rf_no _))))) (rh_upd (rh_one (by rfl) (renO_fam (by rfl) (by simp) (fun _ _ h => by cases h) h99 rfl) (by rfl)) (rh_fam (by rfl) (by simp) (fun _ _ h => by cases h) rfl (fun j p h hj => by repeat (first | with_reducible exact famH_at h hj | (with_reducible refine at_upd ?_ ?_; rw [fid_eq]; omega) | (with_reducible refine at_fam ?_ ?_; rw [fid_eq]; omega))) (rh_no _))), Nat.lt_succ_self _⟩
    ·refine Z1 c54 ?_
     obtain ⟨g101, H102⟩ := grd_inv H55
     have h103 : out2.length ≤ 4294967296 := of_decide_eq_true g101
     obtain rfl := Zi H102
     exact ⟨⟨⟨out2, rfl⟩, g3⟩, ren_mkF (R := 340282366920938463463374607431768211457) none (fun _ _ h => by cases h) [4294967296] [(0, 0)] (by rfl) (rf_upd (by rfl) (rf_no _)) (rh_upd (rh_one (by rfl) (renO_fam (by rfl) (by simp) (fun _ _ h => by cases h) h103 rfl) (by rfl)) (rh_fam (by rfl) (by simp) (fun _ _ h => by cases h) rfl (fun j p h hj => by repeat (first | with_reducible exact famH_at h hj | (with_reducible refine at_upd ?_ ?_; rw [fid_eq]; omega) | (with_reducible refine at_fam ?_ ?_; rw [fid_eq]; omega))) (rh_no _)))⟩
 ·rintro ⟨⟨out4, he107⟩, g6⟩
  obtain rfl := he107.symm
  try dsimp only at H2
  refine ZT 1 ?_
  refine Z0 ?_
  obtain ⟨g104, H105⟩ := grd_inv H2
  have h106 : out4.length ≤ 4294967296 := of_decide_eq_true g104
  obtain rfl := Zi H105
  exact endX_ret (b := false) (v := .mo 0) (by first | (simp -implicitDefEqProofs only [go_sem, ↓reduceIte] <;> rfl) | rfl) (ToXR.val (ToXV.one (ToX.fam (by rfl) h106 (fun j p h hj => by repeat (first | with_reducible exact famH_at h hj | (with_reducible refine at_upd ?_ ?_; rw [fid_eq]; omega) | (with_reducible refine at_fam ?_ ?_; rw [fid_eq]; omega)))) rfl)) (by intro h; first | rfl | cases h)
def norm_Down (n : Nat) (p : GRoles) (role : ByteArray) : Option (List ByteArray) :=
 (norm_below n p.inherit).bind fun t8 =>
 (norm_reach n role t8).bind fun t9 =>
 some t9
theorem norm_Down_ok {n : Nat} {p : GRoles} {role : ByteArray} {r : List ByteArray} (H : norm_Down n p role = some r) : PureOK Tryz.prog 8 [D.ag (eGRoles p), D.v (.string role)] (D.sl (List.map eS r)) true := by
 unfold norm_Down at H
 refine ZP tab_ok fol (rs := #[.tmp 4]) Tryz.func8 ?_
 refine ZT 1 ?_
 obtain ⟨t8, b1, H2⟩ := zbi H
 refine Z0 ?_
 refine ZA0 (norm_below_ok b1) ?_
 obtain ⟨t9, b3, H4⟩ := zbi H2
 refine Z0 ?_
 refine ZC0 (norm_reach_ok b3) ?_
 refine Z0 ?_
 obtain rfl := Zi H4
 exact ZE0
def norm_Up_L1 (n : Nat) (p : GRoles) : Nat → (List (ByteArray × (List ByteArray)) × Int) → Option (List (ByteArray × (List ByteArray)))
 | 0, _ => none
 | c + 1, (above2, t12) =>
  (if (decide (t12 < (p.inherit.length : Int))) then
   (idx p.inherit t12).bind fun x2 =>
   grd (decide (above2.length ≤ 4294967296)) <|
   (
    grd (famG x2.b above2) <|
    some () : Option (Unit)).bind fun _ =>
   grd (decide ((madd x2.b [x2.a] above2).length ≤ 4294967296)) <|
   norm_Up_L1 n p c ((madd x2.b [x2.a] above2), (IntKind.i64.wrap (t12 + 1)))
  else
   grd (decide (above2.length ≤ 4294967296)) <|
   some above2)
def norm_Up_L1_f (_ : Nat) (_ : GRoles) (st : List (ByteArray × (List ByteArray))) (x2 : GPair) (k : (List (ByteArray × (List ByteArray))) → Option (List (ByteArray × (List ByteArray)))) : Option (List (ByteArray × (List ByteArray))) :=
 match st with
 | above2 =>
  grd (decide (above2.length ≤ 4294967296)) <|
  (
   grd (famG x2.b above2) <|
   some () : Option (Unit)).bind fun _ =>
  grd (decide ((madd x2.b [x2.a] above2).length ≤ 4294967296)) <|
  k (madd x2.b [x2.a] above2)
def norm_Up_L1_e (_ : Nat) (_ : GRoles) (st : List (ByteArray × (List ByteArray))) : Option (List (ByteArray × (List ByteArray))) :=
 match st with
 | above2 => grd (decide (above2.length ≤ 4294967296)) <|
 some above2
theorem norm_Up_L1_list (n : Nat) (p : GRoles) (hx : p.inherit.length < 4611686018427387904) (c : Nat) (st : List (ByteArray × (List ByteArray))) (ix : Nat) (hi : ix ≤ p.inherit.length) (hc : p.inherit.length - ix < c) : norm_Up_L1 n p c (match st, (ix : Int) with | above2, ix => (above2, ix)) = foldK (norm_Up_L1_f n p) (norm_Up_L1_e n p) (p.inherit.drop ix) st :=
 loop_list (fun c st ix => norm_Up_L1 n p c (match st, ix with | above2, ix => (above2, ix))) p.inherit (norm_Up_L1_f n p) (norm_Up_L1_e n p) (fun _ _ _ => rfl) hx c st ix hi hc
def norm_Up (n : Nat) (p : GRoles) (role : ByteArray) : Option (List ByteArray) :=
 (
  norm_Up_L1 n p n (([] : List (ByteArray × (List ByteArray))), 0) : Option (List (ByteArray × (List ByteArray)))).bind fun above4 =>
 (norm_reach n role above4).bind fun t30 =>
 grd (decide (above4.length ≤ 4294967296)) <|
 some t30
theorem norm_Up_ok {n : Nat} {p : GRoles} {role : ByteArray} {r : List ByteArray} (H : norm_Up n p role = some r) : PureOK Tryz.prog 9 [D.ag (eGRoles p), D.v (.string role)] (D.sl (List.map eS r)) true := by
 unfold norm_Up at H
 refine ZP tab_ok fol (rs := #[.tmp 4]) Tryz.func9 ?_
 refine zsq (ZT 1 ?_)
 refine Z0 ?_
 refine zsq (ZT 1 ?_)
 refine Z0 ?_
 refine zsq (zsq ?_)
 refine ZT 1 ?_
 refine Z0 ?_
 obtain ⟨e_, E1, H2⟩ := zbi H
 refine zjn (α := { y : List (ByteArray × (List ByteArray)) // e_ = y } × (Nat → Nat)) (fun | ⟨⟨above4, _⟩, g6⟩ => ⟨upd 1 (.v (.string role)) (upd 5 (.mo 0) noFr), upd 0 (some (.mo (encF Value.string 4294967296 g6 above4) false)) (famH eS 1 4294967296 g6 above4 (noHp)), 8589934592⟩) ?_ ?_
 ·refine zbk ?_
  refine zlp (α := { q : (Nat × (List (ByteArray × (List ByteArray)) × Int)) × (Nat → Nat) // norm_Up_L1 n p q.1.1 q.1.2 = some e_ }) (fun | ⟨⟨⟨c, ⟨above2, t12⟩⟩, g3⟩, _⟩ => ⟨upd 1 (.v (.string role)) (upd 5 (.mo 0) (upd 10 (.d (.sl (List.map eGPair p.inherit)) true) (upd 11 (.v (.int .i64 (p.inherit.length : Int))) (upd 12 (.v (.int .i64 t12)) noFr)))), upd 0 (some (.mo (encF Value.string 4294967296 g3 above2) false)) (famH eS 1 4294967296 g3 above2 (noHp)), 8589934592⟩) (fun q => q.1.1.1) ⟨((n, (([] : List (ByteArray × (List ByteArray))), 0)), (fun _ => 0)), E1⟩ ?_ ?_
  ·exact ren_mkF (R := 340282366920938463463374607431768211457) none (fun _ _ h => by cases h) [4294967296] [(0, 2)] (by rfl) (rf_upd (by rfl) (rf_upd (by rfl) (rf_upd (by rfl) (rf_upd (by rfl) (rf_upd (by rfl) (rf_no _)))))) (rh_upd (rh_one (by rfl) (renO_fam (by rfl) (by simp) (fun _ _ h => by cases h) (by decide) rfl) (by rfl)) (rh_fam (by rfl) (by simp) (fun _ _ h => by cases h) rfl (fun j p h hj => by cases h) (rh_no _)))
  ·rintro ⟨⟨⟨c, ⟨above2, t12⟩⟩, g3⟩, L3⟩
   rcases c with _ | c
   ·exact Zx L3
   ·unfold norm_Up_L1 at L3
    try dsimp only at L3
    refine zsq (ZT 1 ?_)
    refine Z0 ?_
    refine zsq (ZT 1 ?_)
    refine Z0 ?_
    rcases zit L3 with ⟨c54, H55⟩ | ⟨c54, H55⟩
    ·refine Z1 c54 ?_
     refine zsq (zbk ?_)
     refine zsq (ZT 1 ?_)
     obtain ⟨x2, b56, H57⟩ := zbi H55
     obtain ⟨h58, h59⟩ := zix b56
     try simp only [Int.reduceToNat, Int.toNat_natCast] at h59
     have h60 := map_at eGPair h59
     refine Z1 (Y3 c54 (zno .i64 h58) h60) ?_
     obtain ⟨g62, H63⟩ := grd_inv H57
     have h64 : above2.length ≤ 4294967296 := of_decide_eq_true g62
     obtain ⟨e_3, E65, H66⟩ := zbi H63
     refine zjn (α := { y : Unit // e_3 = y } × (Nat → Nat)) (fun | ⟨⟨_, _⟩, g4⟩ => ⟨upd 1 (.v (.string role)) (upd 5 (.mo 0) (upd 10 (.d (.sl (List.map eGPair p.inherit)) true) (upd 11 (.v (.int .i64 (p.inherit.length : Int))) (upd 12 (.v (.int .i64 t12)) noFr)))), upd 0 (some (.mo (encF Value.string 4294967296 g4 (madd x2.b [x2.a] above2)) false)) (famH eS 1 4294967296 g4 (madd x2.b [x2.a] above2) (noHp)), 8589934592⟩) ?_ ?_
     ·refine ZT 1 ?_
      obtain ⟨g67, H68⟩ := grd_inv E65
      obtain ⟨g69, g70⟩ := famG_inv g67
      refine Z0 ?_
      rcases find_cases (kv := Value.string) (B := 4294967296) (vs := g3) key_str x2.b above2 with ⟨n71, n72, n73⟩ | ⟨j2, xs2, o74, o75, o76, o77⟩
      ·have n78 : mfind (false, [.string]) (.string x2.b) (encF Value.string 4294967296 g3 above2) = some none := n72
       try simp -implicitDefEqProofs only [go_sem, Nat.reduceLT, Nat.reduceEqDiff, Nat.reduceAdd, Nat.reduceLeDiff, reduceCtorEq, ↓reduceIte, look_new n78, mput_new n78]
       refine Rd_endF (by kernel_rfl) ?_
       try simp -implicitDefEqProofs only [go_sem]
       obtain rfl := Zi H68
       exact ⟨⟨⟨(), rfl⟩, (vsUp (List.length above2) 0 g3)⟩, ren_mkF (R := 8589934607) (some (fid 4294967296 (List.length above2), 8589934607)) (fun _ _ h => by cases h; rfl) [4294967296] [(0, 0)] (by rfl) (rf_upd (by rfl) (rf_upd (by rfl) (rf_upd (by rfl) (rf_upd (by rfl) (rf_upd (by rfl) (rf_no _)))))) (rh_upd (rh_one (by rfl) (renO_famN (by rfl) (by simp) g69 (by first | exact (n73 _) | rfl)) (by rfl)) (rh_famN (by rfl) (by simp) g69 (by first | exact (n73 _) | rfl) (fun j p h hj => by repeat (first | with_reducible exact famH_at h hj | (with_reducible refine at_upd ?_ ?_; rw [fid_eq]; omega) | (with_reducible refine at_fam ?_ ?_; rw [fid_eq]; omega))) (by rfl) (rh_no _)))⟩
      ·have o83 : mfind (false, [.string]) (.string x2.b) (encF Value.string 4294967296 g3 above2) = some (some (j2, .so (fid 4294967296 j2) (g3 j2) 0 xs2.length)) := o76
       have h79 : j2 < 4294967296 := Nat.lt_trans (List.getElem?_eq_some_iff.1 o74).1 g69
       have h80 : ∀ hp : Hp, famH eS 1 4294967296 g3 above2 hp (fid 4294967296 j2) = some (.rw (List.map eS xs2) 1 (g3 j2) false false) := fun _ => famH_at o74 h79
       have h81 : (encF Value.string 4294967296 g3 above2)[j2]? = some ((.string x2.b), .so (fid 4294967296 j2) (g3 j2) 0 xs2.length) := (encF_at _ _).trans (by rw [o74]; rfl)
       have h82 : xs2.length + 1 ≤ 4294967296 := by have := g70; simp only [mgetD, o75, Option.getD_some] at this; omega
       have h84 : ∀ (x y : Option AO) (g : Hp), upd (fid 4294967296 j2) x (upd 0 y g) = upd 0 y (upd (fid 4294967296 j2) x g) := fun _ _ _ => upd_swap (by rw [fid_eq]; omega)
       have h85 : ∀ (x y : Option AO) (g : Hp), upd (fid 4294967296 j2) x (upd 8589934595 y g) = upd 8589934595 y (upd (fid 4294967296 j2) x g) := fun _ _ _ => upd_swap (by rw [fid_eq]; omega)
       have h86 : ∀ c : Nat, 8589934592 ≤ c → (fid 4294967296 j2 = c) = False := fun c h => fid_hi h79 h
       have h87 : ∀ c : Nat, 8589934592 ≤ c → (c = fid 4294967296 j2) = False := fun c h => fid_hi' h79 h
       have h88 : ∀ (c : Nat) (x y : Option AO) (g : Hp), 8589934592 ≤ c → upd (fid 4294967296 j2) x (upd c y g) = upd c y (upd (fid 4294967296 j2) x g) := fun _ _ _ _ h => upd_swap (by rw [fid_eq]; omega)
       obtain ⟨zs2, h89⟩ : ∃ zs, xs2 ++ [x2.a] = zs := ⟨_, rfl⟩
       have h90 : List.map eS xs2 ++ [[.v (.string x2.a)]] = List.map eS zs2 := app_map eS h89
       have h91 : xs2.length + 1 = zs2.length := app_len h89
       have h92 : zs2.length ≤ 4294967296 := by omega
       have h93 : madd x2.b [x2.a] above2 = List.set above2 j2 (x2.b, zs2) := by rw [← h89]; exact o77 _
       have h94 : ∀ hp : Hp, upd (fid 4294967296 j2) (some (.rw (List.map eS zs2) 1 (g3 j2 + 1) false false)) (famH eS 1 4294967296 g3 above2 hp) = famH eS 1 4294967296 (vsUp j2 (g3 j2 + 1) g3) (List.set above2 j2 (x2.b, zs2)) hp := fun _ => famH_set (q := (x2.b, zs2)) o74 h79
       have h95 : List.set (encF Value.string 4294967296 g3 above2) j2 ((.string x2.b), .so (fid 4294967296 j2) (g3 j2 + 1) 0 zs2.length) = encF Value.string 4294967296 (vsUp j2 (g3 j2 + 1) g3) (List.set above2 j2 (x2.b, zs2)) := encF_set (q := (x2.b, zs2)) (List.getElem?_eq_some_iff.1 o74).1
       have h96 : (List.set above2 j2 (x2.b, zs2)).length ≤ 4294967296 := by rw [List.length_set]; exact Nat.le_of_lt g69
       try simp -implicitDefEqProofs only [go_sem, Nat.reduceLT, Nat.reduceEqDiff, Nat.reduceAdd, Nat.reduceLeDiff, reduceCtorEq, ↓reduceIte, look_old o83, mput_old o83, h80, h84, h85, h86, fid_lo, h88, h90, h91, h92, h94, h95]
       refine Rd_endJ (fid 4294967296 j2) 340282366920938463463374607431768211458 (by have := h79; rw [fid_eq]; unfold sent; omega) (by decide) (by simp [h87]) (by simp only [List.reverse_cons, List.reverse_nil, List.nil_append, List.cons_append, List.map_cons, List.map_nil, swRec, sw, Nat.reduceLeDiff, Nat.reduceLT, ↓reduceIte, fid_lo', h87]; kernel_rfl) ?_
       try simp -implicitDefEqProofs only [go_sem]
       obtain rfl := Zi H68
       exact ⟨⟨⟨(), rfl⟩, (vsUp j2 (g3 j2 + 1) g3)⟩, ren_mkF (R := 340282366920938463463374607431768211457) none (fun _ _ h => by cases h) [4294967296] [(0, 0)] (by rfl) (rf_upd (by rfl) (rf_upd (by rfl) (rf_upd (by rfl) (rf_upd (by rfl) (rf_upd (by rfl) (rf_no _)))))) (rh_upd (rh_one (by rfl) (renO_fam (by rfl) (by simp) (fun _ _ h => by cases h) h96 (by first | exact h93 | rfl)) (by rfl)) (rh_fam (by rfl) (by simp) (fun _ _ h => by cases h) (by first | exact h93 | rfl) (fun j p h hj => by repeat (first | with_reducible exact famH_at h hj | (with_reducible refine at_upd ?_ ?_; rw [fid_eq]; omega) | (with_reducible refine at_fam ?_ ?_; rw [fid_eq]; omega))) (rh_no _)))⟩
     ·rintro ⟨⟨_, he100⟩, g4⟩
      obtain rfl := he100.symm
      try dsimp only at H66
      refine Z0 ?_
      refine ZT 1 ?_
      refine Z0 ?_
      obtain ⟨g97, H98⟩ := grd_inv H66
      have h99 : (madd x2.b [x2.a] above2).length ≤ 4294967296 := of_decide_eq_true g97
      exact ⟨⟨((c, ((madd x2.b [x2.a] above2), (IntKind.i64.wrap (t12 + 1)))), g4), H98⟩, ren_mkF (R := 340282366920938463463374607431768211457) none (fun _ _ h => by cases h) [4294967296] [(0, 0)] (by rfl) (rf_upd (by rfl) (rf_upd (by rfl) (rf_upd (by rfl) (rf_upd (by rfl) (rf_upd (by rfl) (rf_no _)))))) (rh_upd (rh_one (by rfl) (renO_fam (by rfl) (by simp) (fun _ _ h => by cases h) h99 rfl) (by rfl)) (rh_fam (by rfl) (by simp) (fun _ _ h => by cases h) rfl (fun j p h hj => by repeat (first | with_reducible exact famH_at h hj | (with_reducible refine at_upd ?_ ?_; rw [fid_eq]; omega) | (with_reducible refine at_fam ?_ ?_; rw [fid_eq]; omega))) (rh_no _))), Nat.lt_succ_self _⟩
    ·refine Z1 c54 ?_
     obtain ⟨g101, H102⟩ := grd_inv H55
     have h103 : above2.length ≤ 4294967296 := of_decide_eq_true g101
     obtain rfl := Zi H102
     exact ⟨⟨⟨above2, rfl⟩, g3⟩, ren_mkF (R := 340282366920938463463374607431768211457) none (fun _ _ h => by cases h) [4294967296] [(0, 0)] (by rfl) (rf_upd (by rfl) (rf_upd (by rfl) (rf_no _))) (rh_upd (rh_one (by rfl) (renO_fam (by rfl) (by simp) (fun _ _ h => by cases h) h103 rfl) (by rfl)) (rh_fam (by rfl) (by simp) (fun _ _ h => by cases h) rfl (fun j p h hj => by repeat (first | with_reducible exact famH_at h hj | (with_reducible refine at_upd ?_ ?_; rw [fid_eq]; omega) | (with_reducible refine at_fam ?_ ?_; rw [fid_eq]; omega))) (rh_no _)))⟩
 ·rintro ⟨⟨above4, he109⟩, g6⟩
  obtain rfl := he109.symm
  try dsimp only at H2
  refine ZT 1 ?_
  obtain ⟨t30, b104, H105⟩ := zbi H2
  refine Z0 ?_
  obtain ⟨g106, H107⟩ := grd_inv H105
  have h108 : above4.length ≤ 4294967296 := of_decide_eq_true g106
  refine onCall_pureX (b := true) (by exact (PW.cons (ToXA.d (ToXV.one (ToX.one (b' := false) (is := []) rfl (fun _ => rfl)) rfl)) (PW.cons (ToXA.d (ToXV.one (ToX.fam (by rfl) h108 (fun j p h hj => by repeat (first | with_reducible exact famH_at h hj | (with_reducible refine at_upd ?_ ?_; rw [fid_eq]; omega) | (with_reducible refine at_fam ?_ ?_; rw [fid_eq]; omega)))) rfl)) PW.nil))) (PureA.of_pure (norm_reach_ok b104)) ?_
  refine Z0 ?_
  obtain rfl := Zi H107
  exact ZE0
def law14_NormUpDown_L1 (n : Nat) (t0 : List Int) : Nat → (List GPair × List Bool × Int) → Option (List GPair × List Bool)
 | 0, _ => none
 | c + 1, (t32, t52, t6) =>
  (
   (if (decide (t6 < (t0.length : Int))) then
    some (decide (t6 < 20))
   else
    some false) : Option (Bool)).bind fun t252 =>
  (if t252 then
   (idx t0 t6).bind fun x2 =>
   (law14_NormUpDown_c1 n x2).bind fun t352 =>
   (law14_NormUpDown_c1 n (sh x2 3)).bind fun t422 =>
   (app t32 [(⟨t352, t422⟩ : GPair)]).bind fun l2 =>
   (aix 8 (IntKind.i64.wrap (an x2 7 : Int))).bind fun k4 =>
   (aix 8 (IntKind.i64.wrap (an (sh x2 3) 7 : Int))).bind fun k5 =>
   (bset t52 (k4 * 8 + k5) true).bind fun l3 =>
   law14_NormUpDown_L1 n t0 c (l2, l3, (IntKind.i64.wrap (t6 + 1)))
  else
   some (t32, t52))
def law14_NormUpDown_L2 (n : Nat) : Nat → (List Bool × Int) → Option (List Bool)
 | 0, _ => none
 | c + 1, (t55, t7) =>
  (if (decide (t7 < 8)) then
   (aix 8 t7).bind fun k6 =>
   (bset t55 (k6 * 8 + k6) true).bind fun l5 =>
   law14_NormUpDown_L2 n c (l5, (IntKind.i64.wrap (t7 + 1)))
  else
   some t55)
def law14_NormUpDown_L5 (n : Nat) (t8 : Int) (t93 : Int) : Nat → (List Bool × Int) → Option (List Bool)
 | 0, _ => none
 | c + 1, (t522, t107) =>
  (if (decide (t107 < 8)) then
   (aix 8 t93).bind fun k16 =>
   (aix 8 t107).bind fun k17 =>
   (t522[k16 * 8 + k17]?).bind fun u17 =>
   (if u17 then
    (bset t522 (k16 * 8 + k17) true).bind fun l25 =>
    law14_NormUpDown_L5 n t8 t93 c (l25, (IntKind.i64.wrap (t107 + 1)))
   else
    (aix 8 t8).bind fun k18 =>
    (t522[k16 * 8 + k18]?).bind fun u18 =>
    (if u18 then
     (t522[k18 * 8 + k17]?).bind fun u19 =>
     (bset t522 (k16 * 8 + k17) u19).bind fun l26 =>
     law14_NormUpDown_L5 n t8 t93 c (l26, (IntKind.i64.wrap (t107 + 1)))
    else
     (bset t522 (k16 * 8 + k17) false).bind fun l27 =>
     law14_NormUpDown_L5 n t8 t93 c (l27, (IntKind.i64.wrap (t107 + 1)))))
  else
   some t522)
def law14_NormUpDown_L4 (n : Nat) (t8 : Int) : Nat → (List Bool × Int) → Option (List Bool)
 | 0, _ => none
 | c + 1, (t521, t93) =>
  (if (decide (t93 < 8)) then
   (
    law14_NormUpDown_L5 n t8 t93 n (t521, 0) : Option (List Bool)).bind fun t524 =>
   law14_NormUpDown_L4 n t8 c (t524, (IntKind.i64.wrap (t93 + 1)))
  else
   some t521)
def law14_NormUpDown_L3 (n : Nat) : Nat → (List Bool × Int) → Option (List Bool)
 | 0, _ => none
 | c + 1, (t517, t8) =>
  (if (decide (t8 < 8)) then
   (
    law14_NormUpDown_L4 n t8 n (t517, 0) : Option (List Bool)).bind fun t526 =>
   law14_NormUpDown_L3 n c (t526, (IntKind.i64.wrap (t8 + 1)))
  else
   some t517)
def law14_NormUpDown_L7 (n : Nat) (t528 : List Bool) (t11 : Int) (t1112 : List ByteArray) (t1162 : List ByteArray) : Nat → (Int × Int × Int) → Option ((Int × Int) ⊕ Bool)
 | 0, _ => none
 | c + 1, (t147, t154, t163) =>
  (if (decide (t163 < 8)) then
   (aix 8 t11).bind fun k23 =>
   (aix 8 t163).bind fun k24 =>
   (t528[k23 * 8 + k24]?).bind fun u26 =>
   (
    (if u26 then
     (if (decide ((t1112.length : Int) ≤ t147)) then
      some (.inr false)
     else
      (idx t1112 t147).bind fun x9 =>
      (law14_NormUpDown_c1 n t163).bind fun t1374 =>
      (if (x9.toList == t1374.toList) then
       some (.inl (IntKind.i64.wrap (t147 + 1)))
      else
       some (.inr false)))
    else
     some (.inl t147)) : Option ((Int) ⊕ Bool)).bind fun
    | .inl t148 =>
     (aix 8 t163).bind fun k25 =>
     (aix 8 t11).bind fun k26 =>
     (t528[k25 * 8 + k26]?).bind fun u27 =>
     (if u27 then
      (if (decide ((t1162.length : Int) ≤ t154)) then
       some (.inr false)
      else
       (idx t1162 t154).bind fun x10 =>
       (law14_NormUpDown_c1 n t163).bind fun t1584 =>
       (if (x10.toList == t1584.toList) then
        law14_NormUpDown_L7 n t528 t11 t1112 t1162 c (t148, (IntKind.i64.wrap (t154 + 1)), (IntKind.i64.wrap (t163 + 1)))
       else
        some (.inr false)))
     else
      law14_NormUpDown_L7 n t528 t11 t1112 t1162 c (t148, t154, (IntKind.i64.wrap (t163 + 1))))
    | .inr r => some (.inr r)
  else
   some (.inl (t147, t154)))
def law14_NormUpDown_L6 (n : Nat) (t323 : List GPair) (t528 : List Bool) : Nat → Int → Option ((Unit) ⊕ Bool)
 | 0, _ => none
 | c + 1, t11 =>
  (if (decide (t11 < 8)) then
   (law14_NormUpDown_c1 n t11).bind fun t1102 =>
   (norm_Down n (⟨[], [], t323, [], [], [], [], []⟩ : GRoles) t1102).bind fun t1112 =>
   (law14_NormUpDown_c1 n t11).bind fun t1152 =>
   (norm_Up n (⟨[], [], t323, [], [], [], [], []⟩ : GRoles) t1152).bind fun t1162 =>
   (
    law14_NormUpDown_L7 n t528 t11 t1112 t1162 n (0, 0, 0) : Option ((Int × Int) ⊕ Bool)).bind fun
    | .inl (t1410, t156) =>
     (if (t1410 != (t1112.length : Int)) then
      some (.inr false)
     else
      (if (t156 != (t1162.length : Int)) then
       some (.inr false)
      else
       law14_NormUpDown_L6 n t323 t528 c (IntKind.i64.wrap (t11 + 1))))
    | .inr r => some (.inr r)
  else
   some (.inl ()))
def law14_NormUpDown (n : Nat) (t0 : List Int) : Option Bool :=
 (
  law14_NormUpDown_L1 n t0 n ([], (List.replicate 64 false), 0) : Option (List GPair × List Bool)).bind fun (t323, t54) =>
 (
  law14_NormUpDown_L2 n n (t54, 0) : Option (List Bool)).bind fun t57 =>
 (
  law14_NormUpDown_L3 n n (t57, 0) : Option (List Bool)).bind fun t528 =>
 (
  law14_NormUpDown_L6 n t323 t528 n 0 : Option ((Unit) ⊕ Bool)).bind fun
  | .inl _ =>
   (law14_awake n).bind fun t173 =>
   some t173
  | .inr r => some r
set_option maxHeartbeats 8000000 in
theorem law14_NormUpDown_ok {n : Nat} {t0 : List Int} {r : Bool} (H : law14_NormUpDown n t0 = some r) : PureOK Tryz.prog 3 [D.sl (List.map eI t0)] (D.v (.bool r)) true := by
 unfold law14_NormUpDown at H
 refine ZP tab_ok fol (rs := #[.tmp 2]) Tryz.func3 ?_
 refine zsq (ZT 1 ?_)
 refine Z0 ?_
 refine zsq (ZT 1 ?_)
 refine Z0 ?_
 refine zsq (ZT 1 ?_)
 refine Z0 ?_
 refine zsq (ZT 1 ?_)
 refine Z1 (show ([AV.v (.bool false), AV.v (.bool false), AV.v (.bool false), AV.v (.bool false), AV.v (.bool false), AV.v (.bool false), AV.v (.bool false), AV.v (.bool false), AV.v (.bool false), AV.v (.bool false), AV.v (.bool false), AV.v (.bool false), AV.v (.bool false), AV.v (.bool false), AV.v (.bool false), AV.v (.bool false), AV.v (.bool false), AV.v (.bool false), AV.v (.bool false), AV.v (.bool false), AV.v (.bool false), AV.v (.bool false), AV.v (.bool false), AV.v (.bool false), AV.v (.bool false), AV.v (.bool false), AV.v (.bool false), AV.v (.bool false), AV.v (.bool false), AV.v (.bool false), AV.v (.bool false), AV.v (.bool false), AV.v (.bool false), AV.v (.bool false), AV.v (.bool false), AV.v (.bool false), AV.v (.bool false), AV.v (.bool false), AV.v (.bool false), AV.v (.bool false), AV.v (.bool false), AV.v (.bool false), AV.v (.bool false), AV.v (.bool false), AV.v (.bool false), AV.v (.bool false), AV.v (.bool false), AV.v (.bool false), AV.v (.bool false), AV.v (.bool false), AV.v (.bool false), AV.v (.bool false), AV.v (.bool false), AV.v (.bool false), AV.v (.bool false), AV.v (.bool false), AV.v (.bool false), AV.v (.bool false), AV.v (.bool false), AV.v (.bool false), AV.v (.bool false), AV.v (.bool false), AV.v (.bool false), AV.v (.bool false)] : List AV) = boxL Value.bool (List.replicate 64 false) from rfl) ?_
 refine zsq (zsq ?_)
 refine ZT 1 ?_
 refine Z1 (show ([AV.v (.bool false), AV.v (.bool false), AV.v (.bool false), AV.v (.bool false), AV.v (.bool false), AV.v (.bool false), AV.v (.bool false), AV.v (.bool false), AV.v (.bool false), AV.v (.bool false), AV.v (.bool false), AV.v (.bool false), AV.v (.bool false), AV.v (.bool false), AV.v (.bool false), AV.v (.bool false), AV.v (.bool false), AV.v (.bool false), AV.v (.bool false), AV.v (.bool false), AV.v (.bool false), AV.v (.bool false), AV.v (.bool false), AV.v (.bool false), AV.v (.bool false), AV.v (.bool false), AV.v (.bool false), AV.v (.bool false), AV.v (.bool false), AV.v (.bool false), AV.v (.bool false), AV.v (.bool false), AV.v (.bool false), AV.v (.bool false), AV.v (.bool false), AV.v (.bool false), AV.v (.bool false), AV.v (.bool false), AV.v (.bool false), AV.v (.bool false), AV.v (.bool false), AV.v (.bool false), AV.v (.bool false), AV.v (.bool false), AV.v (.bool false), AV.v (.bool false), AV.v (.bool false), AV.v (.bool false), AV.v (.bool false), AV.v (.bool false), AV.v (.bool false), AV.v (.bool false), AV.v (.bool false), AV.v (.bool false), AV.v (.bool false), AV.v (.bool false), AV.v (.bool false), AV.v (.bool false), AV.v (.bool false), AV.v (.bool false), AV.v (.bool false), AV.v (.bool false), AV.v (.bool false), AV.v (.bool false)] : List AV) = boxL Value.bool (List.replicate 64 false) from rfl) ?_
 obtain ⟨e_, E1, H2⟩ := zbi H
 refine zjn (α := { y : List GPair × List Bool // e_ = y } × Nat) (fun | ⟨⟨⟨t323, t54⟩, _⟩, g4⟩ => ⟨upd 3 (.pt 0 0) (upd 4 (.fn 7 []) (upd 5 (.pt 2 0) noFr)), upd 0 (some (.bx [.v (.slice none 0 0), .v (.slice none 0 0), accV 1 g4 (List.map eGPair t323), .v (.slice none 0 0), .v (.slice none 0 0), .v (.slice none 0 0), .v (.slice none 0 0), .v (.slice none 0 0)])) (upd 1 (accO 2 g4 false (List.map eGPair t323)) (upd 2 (some (.bx (boxL Value.bool t54))) noHp)), 3⟩) ?_ ?_
 ·refine zbk ?_
  refine zlp (α := { q : (Nat × (List GPair × List Bool × Int)) × Nat // law14_NormUpDown_L1 n t0 q.1.1 q.1.2 = some e_ }) (fun | ⟨⟨⟨c, ⟨t32, t52, t6⟩⟩, g⟩, _⟩ => ⟨upd 0 (.d (.sl (List.map eI t0)) true) (upd 3 (.pt 0 0) (upd 4 (.fn 7 []) (upd 5 (.pt 2 0) (upd 6 (.v (.int .i64 t6)) noFr)))), upd 0 (some (.bx [.v (.slice none 0 0), .v (.slice none 0 0), accV 1 g (List.map eGPair t32), .v (.slice none 0 0), .v (.slice none 0 0), .v (.slice none 0 0), .v (.slice none 0 0), .v (.slice none 0 0)])) (upd 1 (accO 2 g false (List.map eGPair t32)) (upd 2 (some (.bx (boxL Value.bool t52))) noHp)), 3⟩) (fun q => q.1.1.1) ⟨((n, ([], (List.replicate 64 false), 0)), 0), E1⟩ ?_ ?_
  ·exact ren_mk [(0, 2), (2, 5)] (by rfl) (rf_upd (by rfl) (rf_upd (by rfl) (rf_upd (by rfl) (rf_upd (by rfl) (rf_upd (by rfl) (rf_no _)))))) (rh_upd (rh_one (by rfl) (renO_bx (renL_cons (by rfl) (renL_cons (by rfl) (renL_cons (by rfl) (renL_cons (by rfl) (renL_cons (by rfl) (renL_cons (by rfl) (renL_cons (by rfl) (renL_cons (by rfl) (renL_nil _)))))))))) (by rfl)) (rh_upd rh_accN (rh_upd (rh_one (by rfl) (renO_boxL _) (by rfl)) (rh_no _))))
  ·rintro ⟨⟨⟨c, ⟨t32, t52, t6⟩⟩, g⟩, L3⟩
   rcases c with _ | c
   ·exact Zx L3
   ·unfold law14_NormUpDown_L1 at L3
    try dsimp only at L3
    refine zsq (zsq ?_)
    obtain ⟨e_3, E35, H36⟩ := zbi L3
    refine zjn (α := { y : Bool // e_3 = y } × Nat) (fun | ⟨⟨t252, _⟩, g2⟩ => ⟨upd 0 (.d (.sl (List.map eI t0)) true) (upd 3 (.pt 0 0) (upd 4 (.fn 7 []) (upd 5 (.pt 2 0) (upd 6 (.v (.int .i64 t6)) (upd 25 (.v (.bool t252)) noFr))))), upd 0 (some (.bx [.v (.slice none 0 0), .v (.slice none 0 0), accV 1 g2 (List.map eGPair t32), .v (.slice none 0 0), .v (.slice none 0 0), .v (.slice none 0 0), .v (.slice none 0 0), .v (.slice none 0 0)])) (upd 1 (accO 2 g2 false (List.map eGPair t32)) (upd 2 (some (.bx (boxL Value.bool t52))) noHp)), 3⟩) ?_ ?_
    ·refine ZT 1 ?_
     refine Z0 ?_
     rcases zit E35 with ⟨c37, H38⟩ | ⟨c37, H38⟩
     ·refine Z1 c37 ?_
      obtain rfl := Zi H38
      exact ⟨⟨⟨(decide (t6 < 20)), rfl⟩, g⟩, ren_mk [(0, 0), (1, 1), (2, 2)] (by rfl) (rf_upd (by rfl) (rf_upd (by rfl) (rf_upd (by rfl) (rf_upd (by rfl) (rf_upd (by rfl) (rf_upd (by rfl) (rf_no _))))))) (rh_upd (rh_one (by rfl) (renO_bx (renL_cons (by rfl) (renL_cons (by rfl) (renL_cons (ren_acc (by rfl)) (renL_cons (by rfl) (renL_cons (by rfl) (renL_cons (by rfl) (renL_cons (by rfl) (renL_cons (by rfl) (renL_nil _)))))))))) (by rfl)) (rh_upd (rh_acc (by rfl) (by rfl)) (rh_upd (rh_one (by rfl) (renO_boxL _) (by rfl)) (rh_no _))))⟩
     ·refine Z1 c37 ?_
      obtain rfl := Zi H38
      exact ⟨⟨⟨false, rfl⟩, g⟩, ren_mk [(0, 0), (1, 1), (2, 2)] (by rfl) (rf_upd (by rfl) (rf_upd (by rfl) (rf_upd (by rfl) (rf_upd (by rfl) (rf_upd (by rfl) (rf_upd (by rfl) (rf_no _))))))) (rh_upd (rh_one (by rfl) (renO_bx (renL_cons (by rfl) (renL_cons (by rfl) (renL_cons (ren_acc (by rfl)) (renL_cons (by rfl) (renL_cons (by rfl) (renL_cons (by rfl) (renL_cons (by rfl) (renL_cons (by rfl) (renL_nil _)))))))))) (by rfl)) (rh_upd (rh_acc (by rfl) (by rfl)) (rh_upd (rh_one (by rfl) (renO_boxL _) (by rfl)) (rh_no _))))⟩
    ·rintro ⟨⟨t252, he73⟩, g2⟩
     obtain rfl := he73.symm
     try dsimp only at H36
     refine ZT 2 ?_
     refine Z0 ?_
     rcases zit H36 with ⟨c39, H40⟩ | ⟨c39, H40⟩
     ·obtain ⟨x2, b41, H42⟩ := zbi H40
      obtain ⟨h43, h44⟩ := zix b41
      try simp only [Int.reduceToNat, Int.toNat_natCast] at h44
      have h45 := map_at eI h44
      obtain ⟨t352, b47, H48⟩ := zbi H42
      refine Z1 (Y3 c39 (zno .i64 h43) h45) ?_
      refine ZD0 (law14_NormUpDown_c1_ok b47) ?_
      obtain ⟨t422, b49, H50⟩ := zbi H48
      refine Z1 (Y3 c39 (zno .i64 h43) h45) ?_
      refine ZD0 (law14_NormUpDown_c1_ok b49) ?_
      obtain ⟨l2, b51, H52⟩ := zbi H50
      obtain ⟨h53, h54⟩ := app_inv b51
      have h53 : t32.length + 1 ≤ 4294967296 := h53
      have h55 : List.map eGPair t32 ++ [[.v (.string t352), .v (.string t422)]] = List.map eGPair l2 := app_map eGPair h54
      have h56 : t32.length + 1 = l2.length := app_len h54
      have h57 : l2.length ≤ 4294967296 := by omega
      have q58 : 0 < l2.length := by omega
      refine Z1 (Y2 (Y6 c39 (zno .i64 h43) h45 h53 h55 h56) h57) ?_
      refine Rd_endF (by (cases t32 <;> rfl)) ?_
      obtain ⟨k4, b59, H60⟩ := zbi H52
      obtain ⟨h61, h62, h63⟩ := aix_inv b59
      obtain ⟨k5, b64, H65⟩ := zbi H60
      obtain ⟨h66, h67, h68⟩ := aix_inv b64
      obtain ⟨l3, b69, H70⟩ := zbi H65
      obtain ⟨h71, h72⟩ := bset_inv b69
      refine Z1 (Y3 (Y6 c39 (zno .i64 h43) h45 h53 h55 h56) (Y6 h57 (zno .i64 h61) h62 h63 (zno .i64 h66) h67) (Y3 h68 (boxL_len (f := Value.bool) h71) (boxL_put (f := Value.bool) h71 h72))) ?_
      refine Rd_endF (by (cases t32 <;> rfl)) ?_
      refine Z1 (Y3 (Y6 c39 (zno .i64 h43) h45 h53 h55 h56) (Y6 h57 (zno .i64 h61) h62 h63 (zno .i64 h66) h67) (Y3 h68 (boxL_len (f := Value.bool) h71) (boxL_put (f := Value.bool) h71 h72))) ?_
      rcases t32 with _ | ⟨q0, q1⟩
      ·try simp only [List.map_nil, accI, accN]
       exact ⟨⟨((c, (l2, l3, (IntKind.i64.wrap (t6 + 1)))), 0), H70⟩, ren_mk [(0, 0), (1, 20), (2, 2)] (by rfl) (rf_upd (by rfl) (rf_upd (by rfl) (rf_upd (by rfl) (rf_upd (by rfl) (rf_upd (by rfl) (rf_no _)))))) (rh_upd (rh_one (by rfl) (renO_bx (renL_cons (by rfl) (renL_cons (by rfl) (renL_cons (by first | exact ren_accP (by rfl) q58 | rfl) (renL_cons (by rfl) (renL_cons (by rfl) (renL_cons (by rfl) (renL_cons (by rfl) (renL_cons (by rfl) (renL_nil _)))))))))) (by rfl)) (rh_upd (by first | exact rh_accP (by rfl) q58 (by rfl) | exact rh_one (by rfl) (by rfl) (by rfl)) (rh_upd (rh_one (by rfl) (renO_boxL _) (by rfl)) (rh_no _)))), Nat.lt_succ_self _⟩
      ·try simp only [List.map_cons, accI, accN]
       exact ⟨⟨((c, (l2, l3, (IntKind.i64.wrap (t6 + 1)))), (g2 + 1)), H70⟩, ren_mk [(0, 0), (1, 1), (2, 2)] (by rfl) (rf_upd (by rfl) (rf_upd (by rfl) (rf_upd (by rfl) (rf_upd (by rfl) (rf_upd (by rfl) (rf_no _)))))) (rh_upd (rh_one (by rfl) (renO_bx (renL_cons (by rfl) (renL_cons (by rfl) (renL_cons (by first | exact ren_accP (by rfl) q58 | rfl) (renL_cons (by rfl) (renL_cons (by rfl) (renL_cons (by rfl) (renL_cons (by rfl) (renL_cons (by rfl) (renL_nil _)))))))))) (by rfl)) (rh_upd (by first | exact rh_accP (by rfl) q58 (by rfl) | exact rh_one (by rfl) (by rfl) (by rfl)) (rh_upd (rh_one (by rfl) (renO_boxL _) (by rfl)) (rh_no _)))), Nat.lt_succ_self _⟩
     ·refine Z1 c39 ?_
      obtain rfl := Zi H40
      exact ⟨⟨⟨(t32, t52), rfl⟩, g2⟩, ren_mk [(0, 0), (1, 1), (2, 2)] (by rfl) (rf_upd (by rfl) (rf_upd (by rfl) (rf_upd (by rfl) (rf_no _)))) (rh_upd (rh_one (by rfl) (renO_bx (renL_cons (by rfl) (renL_cons (by rfl) (renL_cons (ren_acc (by rfl)) (renL_cons (by rfl) (renL_cons (by rfl) (renL_cons (by rfl) (renL_cons (by rfl) (renL_cons (by rfl) (renL_nil _)))))))))) (by rfl)) (rh_upd (rh_acc (by rfl) (by rfl)) (rh_upd (rh_one (by rfl) (renO_boxL _) (by rfl)) (rh_no _))))⟩
 ·rintro ⟨⟨⟨t323, t54⟩, he573⟩, g4⟩
  obtain rfl := he573.symm
  try dsimp only at H2
  refine zsq (zsq ?_)
  refine ZT 1 ?_
  refine Z0 ?_
  obtain ⟨e_4, E74, H75⟩ := zbi H2
  refine zjn (α := { y : List Bool // e_4 = y } × Nat) (fun | ⟨⟨t57, _⟩, g8⟩ => ⟨upd 3 (.pt 0 0) (upd 4 (.fn 7 []) (upd 5 (.pt 2 0) noFr)), upd 0 (some (.bx [.v (.slice none 0 0), .v (.slice none 0 0), accV 1 g8 (List.map eGPair t323), .v (.slice none 0 0), .v (.slice none 0 0), .v (.slice none 0 0), .v (.slice none 0 0), .v (.slice none 0 0)])) (upd 1 (accO 2 g8 false (List.map eGPair t323)) (upd 2 (some (.bx (boxL Value.bool t57))) noHp)), 3⟩) ?_ ?_
  ·refine zbk ?_
   refine zlp (α := { q : (Nat × (List Bool × Int)) × Nat // law14_NormUpDown_L2 n q.1.1 q.1.2 = some e_4 }) (fun | ⟨⟨⟨c, ⟨t55, t7⟩⟩, g6⟩, _⟩ => ⟨upd 3 (.pt 0 0) (upd 4 (.fn 7 []) (upd 5 (.pt 2 0) (upd 7 (.v (.int .i64 t7)) noFr))), upd 0 (some (.bx [.v (.slice none 0 0), .v (.slice none 0 0), accV 1 g6 (List.map eGPair t323), .v (.slice none 0 0), .v (.slice none 0 0), .v (.slice none 0 0), .v (.slice none 0 0), .v (.slice none 0 0)])) (upd 1 (accO 2 g6 false (List.map eGPair t323)) (upd 2 (some (.bx (boxL Value.bool t55))) noHp)), 3⟩) (fun q => q.1.1.1) ⟨((n, (t54, 0)), g4), E74⟩ ?_ ?_
   ·exact ren_mk [(0, 0), (1, 1), (2, 2)] (by rfl) (rf_upd (by rfl) (rf_upd (by rfl) (rf_upd (by rfl) (rf_upd (by rfl) (rf_no _))))) (rh_upd (rh_one (by rfl) (renO_bx (renL_cons (by rfl) (renL_cons (by rfl) (renL_cons (ren_acc (by rfl)) (renL_cons (by rfl) (renL_cons (by rfl) (renL_cons (by rfl) (renL_cons (by rfl) (renL_cons (by rfl) (renL_nil _)))))))))) (by rfl)) (rh_upd (rh_acc (by rfl) (by rfl)) (rh_upd (rh_one (by rfl) (renO_boxL _) (by rfl)) (rh_no _))))
   ·rintro ⟨⟨⟨c, ⟨t55, t7⟩⟩, g6⟩, L76⟩
    rcases c with _ | c
    ·exact Zx L76
    ·unfold law14_NormUpDown_L2 at L76
     try dsimp only at L76
     refine ZT 1 ?_
     refine Z0 ?_
     rcases zit L76 with ⟨c81, H82⟩ | ⟨c81, H82⟩
     ·obtain ⟨k6, b83, H84⟩ := zbi H82
      obtain ⟨h85, h86, h87⟩ := aix_inv b83
      obtain ⟨l5, b88, H89⟩ := zbi H84
      obtain ⟨h90, h91⟩ := bset_inv b88
      refine Z1 (Y6 c81 (zno .i64 h85) h86 h87 (boxL_len (f := Value.bool) h90) (boxL_put (f := Value.bool) h90 h91)) ?_
      exact ⟨⟨((c, (l5, (IntKind.i64.wrap (t7 + 1)))), g6), H89⟩, ren_mk [(0, 0), (1, 1), (2, 2)] (by rfl) (rf_upd (by rfl) (rf_upd (by rfl) (rf_upd (by rfl) (rf_upd (by rfl) (rf_no _))))) (rh_upd (rh_one (by rfl) (renO_bx (renL_cons (by rfl) (renL_cons (by rfl) (renL_cons (ren_acc (by rfl)) (renL_cons (by rfl) (renL_cons (by rfl) (renL_cons (by rfl) (renL_cons (by rfl) (renL_cons (by rfl) (renL_nil _)))))))))) (by rfl)) (rh_upd (rh_acc (by rfl) (by rfl)) (rh_upd (rh_one (by rfl) (renO_boxL _) (by rfl)) (rh_no _)))), Nat.lt_succ_self _⟩
     ·refine Z1 c81 ?_
      obtain rfl := Zi H82
      exact ⟨⟨⟨t55, rfl⟩, g6⟩, ren_mk [(0, 0), (1, 1), (2, 2)] (by rfl) (rf_upd (by rfl) (rf_upd (by rfl) (rf_upd (by rfl) (rf_no _)))) (rh_upd (rh_one (by rfl) (renO_bx (renL_cons (by rfl) (renL_cons (by rfl) (renL_cons (ren_acc (by rfl)) (renL_cons (by rfl) (renL_cons (by rfl) (renL_cons (by rfl) (renL_cons (by rfl) (renL_cons (by rfl) (renL_nil _)))))))))) (by rfl)) (rh_upd (rh_acc (by rfl) (by rfl)) (rh_upd (rh_one (by rfl) (renO_boxL _) (by rfl)) (rh_no _))))⟩
  ·rintro ⟨⟨t57, he572⟩, g8⟩
   obtain rfl := he572.symm
   try dsimp only at H75
   refine zsq (zsq ?_)
   refine ZT 1 ?_
   refine Z0 ?_
   obtain ⟨e_5, E92, H93⟩ := zbi H75
   refine zjn (α := { y : List Bool // e_5 = y } × Nat) (fun | ⟨⟨t528, _⟩, g36⟩ => ⟨upd 3 (.pt 0 0) (upd 4 (.fn 7 []) (upd 5 (.pt 2 0) noFr)), upd 0 (some (.bx [.v (.slice none 0 0), .v (.slice none 0 0), accV 1 g36 (List.map eGPair t323), .v (.slice none 0 0), .v (.slice none 0 0), .v (.slice none 0 0), .v (.slice none 0 0), .v (.slice none 0 0)])) (upd 1 (accO 2 g36 false (List.map eGPair t323)) (upd 2 (some (.bx (boxL Value.bool t528))) noHp)), 3⟩) ?_ ?_
   ·refine zbk ?_
    refine zlp (α := { q : (Nat × (List Bool × Int)) × Nat // law14_NormUpDown_L3 n q.1.1 q.1.2 = some e_5 }) (fun | ⟨⟨⟨c, ⟨t517, t8⟩⟩, g22⟩, _⟩ => ⟨upd 3 (.pt 0 0) (upd 4 (.fn 7 []) (upd 5 (.pt 2 0) (upd 8 (.v (.int .i64 t8)) noFr))), upd 0 (some (.bx [.v (.slice none 0 0), .v (.slice none 0 0), accV 1 g22 (List.map eGPair t323), .v (.slice none 0 0), .v (.slice none 0 0), .v (.slice none 0 0), .v (.slice none 0 0), .v (.slice none 0 0)])) (upd 1 (accO 2 g22 false (List.map eGPair t323)) (upd 2 (some (.bx (boxL Value.bool t517))) noHp)), 3⟩) (fun q => q.1.1.1) ⟨((n, (t57, 0)), g8), E92⟩ ?_ ?_
    ·exact ren_mk [(0, 0), (1, 1), (2, 2)] (by rfl) (rf_upd (by rfl) (rf_upd (by rfl) (rf_upd (by rfl) (rf_upd (by rfl) (rf_no _))))) (rh_upd (rh_one (by rfl) (renO_bx (renL_cons (by rfl) (renL_cons (by rfl) (renL_cons (ren_acc (by rfl)) (renL_cons (by rfl) (renL_cons (by rfl) (renL_cons (by rfl) (renL_cons (by rfl) (renL_cons (by rfl) (renL_nil _)))))))))) (by rfl)) (rh_upd (rh_acc (by rfl) (by rfl)) (rh_upd (rh_one (by rfl) (renO_boxL _) (by rfl)) (rh_no _))))
    ·rintro ⟨⟨⟨c, ⟨t517, t8⟩⟩, g22⟩, L94⟩
     rcases c with _ | c
     ·exact Zx L94
     ·unfold law14_NormUpDown_L3 at L94
      try dsimp only at L94
      refine zsq (ZT 1 ?_)
      refine Z0 ?_
      rcases zit L94 with ⟨c199, H200⟩ | ⟨c199, H200⟩
      ·refine Z1 c199 ?_
       refine zsq (zbk ?_)
       refine zsq (ZT 1 ?_)
       refine Z1 c199 ?_
       obtain ⟨e_9, E201, H202⟩ := zbi H200
       refine zjn (α := { y : List Bool // e_9 = y } × Nat) (fun | ⟨⟨t526, _⟩, g34⟩ => ⟨upd 3 (.pt 0 0) (upd 4 (.fn 7 []) (upd 5 (.pt 2 0) (upd 8 (.v (.int .i64 t8)) noFr))), upd 0 (some (.bx [.v (.slice none 0 0), .v (.slice none 0 0), accV 1 g34 (List.map eGPair t323), .v (.slice none 0 0), .v (.slice none 0 0), .v (.slice none 0 0), .v (.slice none 0 0), .v (.slice none 0 0)])) (upd 1 (accO 2 g34 false (List.map eGPair t323)) (upd 2 (some (.bx (boxL Value.bool t526))) noHp)), 3⟩) ?_ ?_
       ·refine zbk ?_
        refine zlp (α := { q : (Nat × (List Bool × Int)) × Nat // law14_NormUpDown_L4 n t8 q.1.1 q.1.2 = some e_9 }) (fun | ⟨⟨⟨c, ⟨t521, t93⟩⟩, g28⟩, _⟩ => ⟨upd 3 (.pt 0 0) (upd 4 (.fn 7 []) (upd 5 (.pt 2 0) (upd 8 (.v (.int .i64 t8)) (upd 9 (.v (.int .i64 t93)) noFr)))), upd 0 (some (.bx [.v (.slice none 0 0), .v (.slice none 0 0), accV 1 g28 (List.map eGPair t323), .v (.slice none 0 0), .v (.slice none 0 0), .v (.slice none 0 0), .v (.slice none 0 0), .v (.slice none 0 0)])) (upd 1 (accO 2 g28 false (List.map eGPair t323)) (upd 2 (some (.bx (boxL Value.bool t521))) noHp)), 3⟩) (fun q => q.1.1.1) ⟨((n, (t517, 0)), g22), E201⟩ ?_ ?_
        ·exact ren_mk [(0, 0), (1, 1), (2, 2)] (by rfl) (rf_upd (by rfl) (rf_upd (by rfl) (rf_upd (by rfl) (rf_upd (by rfl) (rf_upd (by rfl) (rf_no _)))))) (rh_upd (rh_one (by rfl) (renO_bx (renL_cons (by rfl) (renL_cons (by rfl) (renL_cons (ren_acc (by rfl)) (renL_cons (by rfl) (renL_cons (by rfl) (renL_cons (by rfl) (renL_cons (by rfl) (renL_cons (by rfl) (renL_nil _)))))))))) (by rfl)) (rh_upd (rh_acc (by rfl) (by rfl)) (rh_upd (rh_one (by rfl) (renO_boxL _) (by rfl)) (rh_no _))))
        ·rintro ⟨⟨⟨c, ⟨t521, t93⟩⟩, g28⟩, L203⟩
         rcases c with _ | c
         ·exact Zx L203
         ·unfold law14_NormUpDown_L4 at L203
          try dsimp only at L203
          refine zsq (ZT 1 ?_)
          refine Z0 ?_
          rcases zit L203 with ⟨c269, H270⟩ | ⟨c269, H270⟩
          ·refine Z1 c269 ?_
           refine zsq (zbk ?_)
           refine zsq (ZT 1 ?_)
           refine Z1 c269 ?_
           obtain ⟨e_11, E271, H272⟩ := zbi H270
           refine zjn (α := { y : List Bool // e_11 = y } × Nat) (fun | ⟨⟨t524, _⟩, g32⟩ => ⟨upd 3 (.pt 0 0) (upd 4 (.fn 7 []) (upd 5 (.pt 2 0) (upd 8 (.v (.int .i64 t8)) (upd 9 (.v (.int .i64 t93)) noFr)))), upd 0 (some (.bx [.v (.slice none 0 0), .v (.slice none 0 0), accV 1 g32 (List.map eGPair t323), .v (.slice none 0 0), .v (.slice none 0 0), .v (.slice none 0 0), .v (.slice none 0 0), .v (.slice none 0 0)])) (upd 1 (accO 2 g32 false (List.map eGPair t323)) (upd 2 (some (.bx (boxL Value.bool t524))) noHp)), 3⟩) ?_ ?_
           ·refine zbk ?_
            refine zlp (α := { q : (Nat × (List Bool × Int)) × Nat // law14_NormUpDown_L5 n t8 t93 q.1.1 q.1.2 = some e_11 }) (fun | ⟨⟨⟨c, ⟨t522, t107⟩⟩, g30⟩, _⟩ => ⟨upd 3 (.pt 0 0) (upd 4 (.fn 7 []) (upd 5 (.pt 2 0) (upd 8 (.v (.int .i64 t8)) (upd 9 (.v (.int .i64 t93)) (upd 10 (.v (.int .i64 t107)) noFr))))), upd 0 (some (.bx [.v (.slice none 0 0), .v (.slice none 0 0), accV 1 g30 (List.map eGPair t323), .v (.slice none 0 0), .v (.slice none 0 0), .v (.slice none 0 0), .v (.slice none 0 0), .v (.slice none 0 0)])) (upd 1 (accO 2 g30 false (List.map eGPair t323)) (upd 2 (some (.bx (boxL Value.bool t522))) noHp)), 3⟩) (fun q => q.1.1.1) ⟨((n, (t521, 0)), g28), E271⟩ ?_ ?_
            ·exact ren_mk [(0, 0), (1, 1), (2, 2)] (by rfl) (rf_upd (by rfl) (rf_upd (by rfl) (rf_upd (by rfl) (rf_upd (by rfl) (rf_upd (by rfl) (rf_upd (by rfl) (rf_no _))))))) (rh_upd (rh_one (by rfl) (renO_bx (renL_cons (by rfl) (renL_cons (by rfl) (renL_cons (ren_acc (by rfl)) (renL_cons (by rfl) (renL_cons (by rfl) (renL_cons (by rfl) (renL_cons (by rfl) (renL_cons (by rfl) (renL_nil _)))))))))) (by rfl)) (rh_upd (rh_acc (by rfl) (by rfl)) (rh_upd (rh_one (by rfl) (renO_boxL _) (by rfl)) (rh_no _))))
            ·rintro ⟨⟨⟨c, ⟨t522, t107⟩⟩, g30⟩, L273⟩
             rcases c with _ | c
             ·exact Zx L273
             ·unfold law14_NormUpDown_L5 at L273
              try dsimp only at L273
              refine ZT 1 ?_
              refine Z0 ?_
              rcases zit L273 with ⟨c306, H307⟩ | ⟨c306, H307⟩
              ·obtain ⟨k16, b308, H309⟩ := zbi H307
               obtain ⟨h310, h311, h312⟩ := aix_inv b308
               obtain ⟨k17, b313, H314⟩ := zbi H309
               obtain ⟨h315, h316, h317⟩ := aix_inv b313
               obtain ⟨u17, b318, H319⟩ := zbi H314
               refine Z1 (Y2 (Y6 c306 (zno .i64 h310) h311 h312 (zno .i64 h315) h316) (Y2 h317 (boxL_at (f := Value.bool) b318))) ?_
               rcases zit H319 with ⟨c320, H321⟩ | ⟨c320, H321⟩
               ·obtain ⟨l25, b322, H323⟩ := zbi H321
                obtain ⟨h324, h325⟩ := bset_inv b322
                refine Z1 (Y2 (Y6 c306 (zno .i64 h310) h311 h312 (zno .i64 h315) h316) (Y5 h317 (boxL_at (f := Value.bool) b318) c320 (boxL_len (f := Value.bool) h324) (boxL_put (f := Value.bool) h324 h325))) ?_
                refine Rd_endF (by rfl) ?_
                refine Z1 (Y2 (Y6 c306 (zno .i64 h310) h311 h312 (zno .i64 h315) h316) (Y5 h317 (boxL_at (f := Value.bool) b318) c320 (boxL_len (f := Value.bool) h324) (boxL_put (f := Value.bool) h324 h325))) ?_
                exact ⟨⟨((c, (l25, (IntKind.i64.wrap (t107 + 1)))), g30), H323⟩, ren_mk [(0, 0), (1, 1), (2, 2)] (by rfl) (rf_upd (by rfl) (rf_upd (by rfl) (rf_upd (by rfl) (rf_upd (by rfl) (rf_upd (by rfl) (rf_upd (by rfl) (rf_no _))))))) (rh_upd (rh_one (by rfl) (renO_bx (renL_cons (by rfl) (renL_cons (by rfl) (renL_cons (ren_acc (by rfl)) (renL_cons (by rfl) (renL_cons (by rfl) (renL_cons (by rfl) (renL_cons (by rfl) (renL_cons (by rfl) (renL_nil _)))))))))) (by rfl)) (rh_upd (rh_acc (by rfl) (by rfl)) (rh_upd (rh_one (by rfl) (renO_boxL _) (by rfl)) (rh_no _)))), Nat.lt_succ_self _⟩
               ·obtain ⟨k18, b326, H327⟩ := zbi H321
                obtain ⟨h328, h329, h330⟩ := aix_inv b326
                obtain ⟨u18, b331, H332⟩ := zbi H327
                refine Z1 (Y3 (Y6 c306 (zno .i64 h310) h311 h312 (zno .i64 h315) h316) (Y6 h317 (boxL_at (f := Value.bool) b318) c320 (zno .i64 h328) h329 h330) (boxL_at (f := Value.bool) b331)) ?_
                rcases zit H332 with ⟨c333, H334⟩ | ⟨c333, H334⟩
                ·obtain ⟨u19, b335, H336⟩ := zbi H334
                 obtain ⟨l26, b337, H338⟩ := zbi H336
                 obtain ⟨h339, h340⟩ := bset_inv b337
                 refine Z1 (Y3 (Y6 c306 (zno .i64 h310) h311 h312 (zno .i64 h315) h316) (Y6 h317 (boxL_at (f := Value.bool) b318) c320 (zno .i64 h328) h329 h330) (Y5 (boxL_at (f := Value.bool) b331) c333 (boxL_at (f := Value.bool) b335) (boxL_len (f := Value.bool) h339) (boxL_put (f := Value.bool) h339 h340))) ?_
                 refine Rd_endF (by rfl) ?_
                 refine Z1 (Y3 (Y6 c306 (zno .i64 h310) h311 h312 (zno .i64 h315) h316) (Y6 h317 (boxL_at (f := Value.bool) b318) c320 (zno .i64 h328) h329 h330) (Y5 (boxL_at (f := Value.bool) b331) c333 (boxL_at (f := Value.bool) b335) (boxL_len (f := Value.bool) h339) (boxL_put (f := Value.bool) h339 h340))) ?_
                 exact ⟨⟨((c, (l26, (IntKind.i64.wrap (t107 + 1)))), g30), H338⟩, ren_mk [(0, 0), (1, 1), (2, 2)] (by rfl) (rf_upd (by rfl) (rf_upd (by rfl) (rf_upd (by rfl) (rf_upd (by rfl) (rf_upd (by rfl) (rf_upd (by rfl) (rf_no _))))))) (rh_upd (rh_one (by rfl) (renO_bx (renL_cons (by rfl) (renL_cons (by rfl) (renL_cons (ren_acc (by rfl)) (renL_cons (by rfl) (renL_cons (by rfl) (renL_cons (by rfl) (renL_cons (by rfl) (renL_cons (by rfl) (renL_nil _)))))))))) (by rfl)) (rh_upd (rh_acc (by rfl) (by rfl)) (rh_upd (rh_one (by rfl) (renO_boxL _) (by rfl)) (rh_no _)))), Nat.lt_succ_self _⟩
                ·obtain ⟨l27, b341, H342⟩ := zbi H334
                 obtain ⟨h343, h344⟩ := bset_inv b341
                 refine Z1 (Y3 (Y6 c306 (zno .i64 h310) h311 h312 (zno .i64 h315) h316) (Y6 h317 (boxL_at (f := Value.bool) b318) c320 (zno .i64 h328) h329 h330) (Y4 (boxL_at (f := Value.bool) b331) c333 (boxL_len (f := Value.bool) h343) (boxL_put (f := Value.bool) h343 h344))) ?_
                 refine Rd_endF (by rfl) ?_
                 refine Z1 (Y3 (Y6 c306 (zno .i64 h310) h311 h312 (zno .i64 h315) h316) (Y6 h317 (boxL_at (f := Value.bool) b318) c320 (zno .i64 h328) h329 h330) (Y4 (boxL_at (f := Value.bool) b331) c333 (boxL_len (f := Value.bool) h343) (boxL_put (f := Value.bool) h343 h344))) ?_
                 exact ⟨⟨((c, (l27, (IntKind.i64.wrap (t107 + 1)))), g30), H342⟩, ren_mk [(0, 0), (1, 1), (2, 2)] (by rfl) (rf_upd (by rfl) (rf_upd (by rfl) (rf_upd (by rfl) (rf_upd (by rfl) (rf_upd (by rfl) (rf_upd (by rfl) (rf_no _))))))) (rh_upd (rh_one (by rfl) (renO_bx (renL_cons (by rfl) (renL_cons (by rfl) (renL_cons (ren_acc (by rfl)) (renL_cons (by rfl) (renL_cons (by rfl) (renL_cons (by rfl) (renL_cons (by rfl) (renL_cons (by rfl) (renL_nil _)))))))))) (by rfl)) (rh_upd (rh_acc (by rfl) (by rfl)) (rh_upd (rh_one (by rfl) (renO_boxL _) (by rfl)) (rh_no _)))), Nat.lt_succ_self _⟩
              ·refine Z1 c306 ?_
               obtain rfl := Zi H307
               exact ⟨⟨⟨t522, rfl⟩, g30⟩, ren_mk [(0, 0), (1, 1), (2, 2)] (by rfl) (rf_upd (by rfl) (rf_upd (by rfl) (rf_upd (by rfl) (rf_upd (by rfl) (rf_upd (by rfl) (rf_no _)))))) (rh_upd (rh_one (by rfl) (renO_bx (renL_cons (by rfl) (renL_cons (by rfl) (renL_cons (ren_acc (by rfl)) (renL_cons (by rfl) (renL_cons (by rfl) (renL_cons (by rfl) (renL_cons (by rfl) (renL_cons (by rfl) (renL_nil _)))))))))) (by rfl)) (rh_upd (rh_acc (by rfl) (by rfl)) (rh_upd (rh_one (by rfl) (renO_boxL _) (by rfl)) (rh_no _))))⟩
           ·rintro ⟨⟨t524, he345⟩, g32⟩
            obtain rfl := he345.symm
            try dsimp only at H272
            refine Z0 ?_
            refine ZT 1 ?_
            refine Z0 ?_
            exact ⟨⟨((c, (t524, (IntKind.i64.wrap (t93 + 1)))), g32), H272⟩, ren_mk [(0, 0), (1, 1), (2, 2)] (by rfl) (rf_upd (by rfl) (rf_upd (by rfl) (rf_upd (by rfl) (rf_upd (by rfl) (rf_upd (by rfl) (rf_no _)))))) (rh_upd (rh_one (by rfl) (renO_bx (renL_cons (by rfl) (renL_cons (by rfl) (renL_cons (ren_acc (by rfl)) (renL_cons (by rfl) (renL_cons (by rfl) (renL_cons (by rfl) (renL_cons (by rfl) (renL_cons (by rfl) (renL_nil _)))))))))) (by rfl)) (rh_upd (rh_acc (by rfl) (by rfl)) (rh_upd (rh_one (by rfl) (renO_boxL _) (by rfl)) (rh_no _)))), Nat.lt_succ_self _⟩
          ·refine Z1 c269 ?_
           obtain rfl := Zi H270
           exact ⟨⟨⟨t521, rfl⟩, g28⟩, ren_mk [(0, 0), (1, 1), (2, 2)] (by rfl) (rf_upd (by rfl) (rf_upd (by rfl) (rf_upd (by rfl) (rf_upd (by rfl) (rf_no _))))) (rh_upd (rh_one (by rfl) (renO_bx (renL_cons (by rfl) (renL_cons (by rfl) (renL_cons (ren_acc (by rfl)) (renL_cons (by rfl) (renL_cons (by rfl) (renL_cons (by rfl) (renL_cons (by rfl) (renL_cons (by rfl) (renL_nil _)))))))))) (by rfl)) (rh_upd (rh_acc (by rfl) (by rfl)) (rh_upd (rh_one (by rfl) (renO_boxL _) (by rfl)) (rh_no _))))⟩
       ·rintro ⟨⟨t526, he346⟩, g34⟩
        obtain rfl := he346.symm
        try dsimp only at H202
        refine Z0 ?_
        refine ZT 1 ?_
        refine Z0 ?_
        exact ⟨⟨((c, (t526, (IntKind.i64.wrap (t8 + 1)))), g34), H202⟩, ren_mk [(0, 0), (1, 1), (2, 2)] (by rfl) (rf_upd (by rfl) (rf_upd (by rfl) (rf_upd (by rfl) (rf_upd (by rfl) (rf_no _))))) (rh_upd (rh_one (by rfl) (renO_bx (renL_cons (by rfl) (renL_cons (by rfl) (renL_cons (ren_acc (by rfl)) (renL_cons (by rfl) (renL_cons (by rfl) (renL_cons (by rfl) (renL_cons (by rfl) (renL_cons (by rfl) (renL_nil _)))))))))) (by rfl)) (rh_upd (rh_acc (by rfl) (by rfl)) (rh_upd (rh_one (by rfl) (renO_boxL _) (by rfl)) (rh_no _)))), Nat.lt_succ_self _⟩
      ·refine Z1 c199 ?_
       obtain rfl := Zi H200
       exact ⟨⟨⟨t517, rfl⟩, g22⟩, ren_mk [(0, 0), (1, 1), (2, 2)] (by rfl) (rf_upd (by rfl) (rf_upd (by rfl) (rf_upd (by rfl) (rf_no _)))) (rh_upd (rh_one (by rfl) (renO_bx (renL_cons (by rfl) (renL_cons (by rfl) (renL_cons (ren_acc (by rfl)) (renL_cons (by rfl) (renL_cons (by rfl) (renL_cons (by rfl) (renL_cons (by rfl) (renL_cons (by rfl) (renL_nil _)))))))))) (by rfl)) (rh_upd (rh_acc (by rfl) (by rfl)) (rh_upd (rh_one (by rfl) (renO_boxL _) (by rfl)) (rh_no _))))⟩
   ·rintro ⟨⟨t528, he571⟩, g36⟩
    obtain rfl := he571.symm
    try dsimp only at H93
    refine zsq (zsq ?_)
    refine ZT 1 ?_
    refine Z0 ?_
    obtain ⟨e_12, E347, H348⟩ := zbi H93
    refine zjn (α := { y : Unit // e_12 = .inl y }) (fun | ⟨_, _⟩ => ⟨noFr, noHp, 0⟩) ?_ ?_
    ·refine zbk ?_
     refine zlp (α := { q : (Nat × Int) × Nat // law14_NormUpDown_L6 n t323 t528 q.1.1 q.1.2 = some e_12 }) (fun | ⟨⟨⟨c, t11⟩, g44⟩, _⟩ => ⟨upd 3 (.pt 0 0) (upd 4 (.fn 7 []) (upd 5 (.pt 2 0) (upd 11 (.v (.int .i64 t11)) noFr))), upd 0 (some (.bx [.v (.slice none 0 0), .v (.slice none 0 0), accV 1 g44 (List.map eGPair t323), .v (.slice none 0 0), .v (.slice none 0 0), .v (.slice none 0 0), .v (.slice none 0 0), .v (.slice none 0 0)])) (upd 1 (accO 2 g44 false (List.map eGPair t323)) (upd 2 (some (.bx (boxL Value.bool t528))) noHp)), 3⟩) (fun q => q.1.1.1) ⟨((n, 0), g36), E347⟩ ?_ ?_
     ·exact ren_mk [(0, 0), (1, 1), (2, 2)] (by rfl) (rf_upd (by rfl) (rf_upd (by rfl) (rf_upd (by rfl) (rf_upd (by rfl) (rf_no _))))) (rh_upd (rh_one (by rfl) (renO_bx (renL_cons (by rfl) (renL_cons (by rfl) (renL_cons (ren_acc (by rfl)) (renL_cons (by rfl) (renL_cons (by rfl) (renL_cons (by rfl) (renL_cons (by rfl) (renL_cons (by rfl) (renL_nil _)))))))))) (by rfl)) (rh_upd (rh_acc (by rfl) (by rfl)) (rh_upd (rh_one (by rfl) (renO_boxL _) (by rfl)) (rh_no _))))
     ·rintro ⟨⟨⟨c, t11⟩, g44⟩, L349⟩
      rcases c with _ | c
      ·exact Zx L349
      ·unfold law14_NormUpDown_L6 at L349
       try dsimp only at L349
       refine zsq (ZT 1 ?_)
       refine Z0 ?_
       rcases zit L349 with ⟨c448, H449⟩ | ⟨c448, H449⟩
       ·refine Z1 c448 ?_
        refine zsq (zbk ?_)
        refine zsq (ZT 1 ?_)
        obtain ⟨t1102, b450, H451⟩ := zbi H449
        refine Z1 c448 ?_
        refine ZD0 (law14_NormUpDown_c1_ok b450) ?_
        obtain ⟨t1112, b452, H453⟩ := zbi H451
        refine Z1 c448 ?_
        refine ZD1 c448 (norm_Down_ok b452) ?_
        obtain ⟨t1152, b454, H455⟩ := zbi H453
        refine Z1 c448 ?_
        refine ZD0 (law14_NormUpDown_c1_ok b454) ?_
        obtain ⟨t1162, b456, H457⟩ := zbi H455
        refine Z1 c448 ?_
        refine ZD1 c448 (norm_Up_ok b456) ?_
        refine Z1 c448 ?_
        refine Rd_endF (by rfl) ?_
        refine Z1 c448 ?_
        refine zsq (ZT 1 ?_)
        refine Z1 c448 ?_
        refine zsq (zsq ?_)
        refine ZT 1 ?_
        refine Z1 c448 ?_
        obtain ⟨e_16, E458, H459⟩ := zbi H457
        refine zjn (α := { y : Int × Int // e_16 = .inl y } × Nat) (fun | ⟨⟨⟨t1410, t156⟩, _⟩, g50⟩ => ⟨upd 3 (.pt 0 0) (upd 4 (.fn 7 []) (upd 5 (.pt 2 0) (upd 11 (.v (.int .i64 t11)) (upd 12 (.d (.sl (List.map eS t1112)) false) (upd 13 (.d (.sl (List.map eS t1162)) false) (upd 14 (.v (.int .i64 t1410)) (upd 15 (.v (.int .i64 t156)) noFr))))))), upd 0 (some (.bx [.v (.slice none 0 0), .v (.slice none 0 0), accV 1 g50 (List.map eGPair t323), .v (.slice none 0 0), .v (.slice none 0 0), .v (.slice none 0 0), .v (.slice none 0 0), .v (.slice none 0 0)])) (upd 1 (accO 2 g50 false (List.map eGPair t323)) (upd 2 (some (.bx (boxL Value.bool t528))) noHp)), 3⟩) ?_ ?_
        ·refine zbk ?_
         refine zlp (α := { q : (Nat × (Int × Int × Int)) × Nat // law14_NormUpDown_L7 n t528 t11 t1112 t1162 q.1.1 q.1.2 = some e_16 }) (fun | ⟨⟨⟨c, ⟨t147, t154, t163⟩⟩, g47⟩, _⟩ => ⟨upd 3 (.pt 0 0) (upd 4 (.fn 7 []) (upd 5 (.pt 2 0) (upd 11 (.v (.int .i64 t11)) (upd 12 (.d (.sl (List.map eS t1112)) false) (upd 13 (.d (.sl (List.map eS t1162)) false) (upd 14 (.v (.int .i64 t147)) (upd 15 (.v (.int .i64 t154)) (upd 16 (.v (.int .i64 t163)) noFr)))))))), upd 0 (some (.bx [.v (.slice none 0 0), .v (.slice none 0 0), accV 1 g47 (List.map eGPair t323), .v (.slice none 0 0), .v (.slice none 0 0), .v (.slice none 0 0), .v (.slice none 0 0), .v (.slice none 0 0)])) (upd 1 (accO 2 g47 false (List.map eGPair t323)) (upd 2 (some (.bx (boxL Value.bool t528))) noHp)), 3⟩) (fun q => q.1.1.1) ⟨((n, (0, 0, 0)), g44), E458⟩ ?_ ?_
         ·exact ren_mk [(0, 0), (1, 1), (2, 2)] (by rfl) (rf_upd (by rfl) (rf_upd (by rfl) (rf_upd (by rfl) (rf_upd (by rfl) (rf_upd (by rfl) (rf_upd (by rfl) (rf_upd (by rfl) (rf_upd (by rfl) (rf_upd (by rfl) (rf_no _)))))))))) (rh_upd (rh_one (by rfl) (renO_bx (renL_cons (by rfl) (renL_cons (by rfl) (renL_cons (ren_acc (by rfl)) (renL_cons (by rfl) (renL_cons (by rfl) (renL_cons (by rfl) (renL_cons (by rfl) (renL_cons (by rfl) (renL_nil _)))))))))) (by rfl)) (rh_upd (rh_acc (by rfl) (by rfl)) (rh_upd (rh_one (by rfl) (renO_boxL _) (by rfl)) (rh_no _))))
         ·rintro ⟨⟨⟨c, ⟨t147, t154, t163⟩⟩, g47⟩, L460⟩
          rcases c with _ | c
          ·exact Zx L460
          ·unfold law14_NormUpDown_L7 at L460
           try dsimp only at L460
           refine zsq (ZT 1 ?_)
           refine Z0 ?_
           rcases zit L460 with ⟨c506, H507⟩ | ⟨c506, H507⟩
           ·refine Z1 c506 ?_
            refine zsq (zbk ?_)
            refine zsq (zsq ?_)
            refine ZT 1 ?_
            obtain ⟨k23, b508, H509⟩ := zbi H507
            obtain ⟨h510, h511, h512⟩ := aix_inv b508
            obtain ⟨k24, b513, H514⟩ := zbi H509
            obtain ⟨h515, h516, h517⟩ := aix_inv b513
            obtain ⟨u26, b518, H519⟩ := zbi H514
            refine Z1 (Y2 (Y6 c506 (zno .i64 h510) h511 h512 (zno .i64 h515) h516) (Y2 h517 (boxL_at (f := Value.bool) b518))) ?_
            obtain ⟨e_18, E520, H521⟩ := zbi H519
            refine zjn (α := { y : Int // e_18 = .inl y } × Nat) (fun | ⟨⟨t148, _⟩, g48⟩ => ⟨upd 3 (.pt 0 0) (upd 4 (.fn 7 []) (upd 5 (.pt 2 0) (upd 11 (.v (.int .i64 t11)) (upd 12 (.d (.sl (List.map eS t1112)) false) (upd 13 (.d (.sl (List.map eS t1162)) false) (upd 14 (.v (.int .i64 t148)) (upd 15 (.v (.int .i64 t154)) (upd 16 (.v (.int .i64 t163)) noFr)))))))), upd 0 (some (.bx [.v (.slice none 0 0), .v (.slice none 0 0), accV 1 g48 (List.map eGPair t323), .v (.slice none 0 0), .v (.slice none 0 0), .v (.slice none 0 0), .v (.slice none 0 0), .v (.slice none 0 0)])) (upd 1 (accO 2 g48 false (List.map eGPair t323)) (upd 2 (some (.bx (boxL Value.bool t528))) noHp)), 3⟩) ?_ ?_
            ·refine ZT 1 ?_
             refine Z0 ?_
             rcases zit E520 with ⟨c522, H523⟩ | ⟨c522, H523⟩
             ·refine Z1 c522 ?_
              rcases zit H523 with ⟨c524, H525⟩ | ⟨c524, H525⟩
              ·refine Z1 (Y2 c522 c524) ?_
               refine Rd_endF (by rfl) ?_
               refine Z1 (Y2 c522 c524) ?_
               obtain rfl := Zi H525
               obtain rfl := Zi H521
               obtain rfl := Zi H459
               obtain rfl := Zi H348
               exact ZE0
              ·obtain ⟨x9, b526, H527⟩ := zbi H525
               obtain ⟨h528, h529⟩ := zix b526
               try simp only [Int.reduceToNat, Int.toNat_natCast] at h529
               have h530 := map_at eS h529
               obtain ⟨t1374, b532, H533⟩ := zbi H527
               refine Z1 (Y4 c522 c524 (zno .i64 h528) h530) ?_
               refine ZD0 (law14_NormUpDown_c1_ok b532) ?_
               refine Z1 (Y4 c522 c524 (zno .i64 h528) h530) ?_
               refine Rd_endF (by rfl) ?_
               refine Z1 (Y4 c522 c524 (zno .i64 h528) h530) ?_
               rcases zit H533 with ⟨c534, H535⟩ | ⟨c534, H535⟩
               ·refine Z1 (Y5 c522 c524 (zno .i64 h528) h530 c534) ?_
                obtain rfl := Zi H535
                exact ⟨⟨⟨(IntKind.i64.wrap (t147 + 1)), rfl⟩, g47⟩, ren_mk [(0, 0), (1, 1), (2, 2)] (by rfl) (rf_upd (by rfl) (rf_upd (by rfl) (rf_upd (by rfl) (rf_upd (by rfl) (rf_upd (by rfl) (rf_upd (by rfl) (rf_upd (by rfl) (rf_upd (by rfl) (rf_upd (by rfl) (rf_no _)))))))))) (rh_upd (rh_one (by rfl) (renO_bx (renL_cons (by rfl) (renL_cons (by rfl) (renL_cons (ren_acc (by rfl)) (renL_cons (by rfl) (renL_cons (by rfl) (renL_cons (by rfl) (renL_cons (by rfl) (renL_cons (by rfl) (renL_nil _)))))))))) (by rfl)) (rh_upd (rh_acc (by rfl) (by rfl)) (rh_upd (rh_one (by rfl) (renO_boxL _) (by rfl)) (rh_no _))))⟩
               ·refine Z1 (Y5 c522 c524 (zno .i64 h528) h530 c534) ?_
                obtain rfl := Zi H535
                obtain rfl := Zi H521
                obtain rfl := Zi H459
                obtain rfl := Zi H348
                exact ZE0
             ·refine Z1 c522 ?_
              obtain rfl := Zi H523
              exact ⟨⟨⟨t147, rfl⟩, g47⟩, ren_mk [(0, 0), (1, 1), (2, 2)] (by rfl) (rf_upd (by rfl) (rf_upd (by rfl) (rf_upd (by rfl) (rf_upd (by rfl) (rf_upd (by rfl) (rf_upd (by rfl) (rf_upd (by rfl) (rf_upd (by rfl) (rf_upd (by rfl) (rf_no _)))))))))) (rh_upd (rh_one (by rfl) (renO_bx (renL_cons (by rfl) (renL_cons (by rfl) (renL_cons (ren_acc (by rfl)) (renL_cons (by rfl) (renL_cons (by rfl) (renL_cons (by rfl) (renL_cons (by rfl) (renL_cons (by rfl) (renL_nil _)))))))))) (by rfl)) (rh_upd (rh_acc (by rfl) (by rfl)) (rh_upd (rh_one (by rfl) (renO_boxL _) (by rfl)) (rh_no _))))⟩
            ·rintro ⟨⟨t148, he562⟩, g48⟩
             obtain rfl := he562.symm
             try dsimp only at H521
             refine ZT 3 ?_
             obtain ⟨k25, b536, H537⟩ := zbi H521
             obtain ⟨h538, h539, h540⟩ := aix_inv b536
             obtain ⟨k26, b541, H542⟩ := zbi H537
             obtain ⟨h543, h544, h545⟩ := aix_inv b541
             obtain ⟨u27, b546, H547⟩ := zbi H542
             refine Z1 (Y2 (Y6 (zno .i64 h538) h539 h540 (zno .i64 h543) h544 h545) (boxL_at (f := Value.bool) b546)) ?_
             rcases zit H547 with ⟨c548, H549⟩ | ⟨c548, H549⟩
             ·refine Z1 (Y2 (Y6 (zno .i64 h538) h539 h540 (zno .i64 h543) h544 h545) (Y2 (boxL_at (f := Value.bool) b546) c548)) ?_
              rcases zit H549 with ⟨c550, H551⟩ | ⟨c550, H551⟩
              ·refine Z1 (Y2 (Y6 (zno .i64 h538) h539 h540 (zno .i64 h543) h544 h545) (Y3 (boxL_at (f := Value.bool) b546) c548 c550)) ?_
               refine Rd_endF (by rfl) ?_
               refine Z1 (Y2 (Y6 (zno .i64 h538) h539 h540 (zno .i64 h543) h544 h545) (Y3 (boxL_at (f := Value.bool) b546) c548 c550)) ?_
               obtain rfl := Zi H551
               obtain rfl := Zi H459
               obtain rfl := Zi H348
               exact ZE0
              ·obtain ⟨x10, b552, H553⟩ := zbi H551
               obtain ⟨h554, h555⟩ := zix b552
               try simp only [Int.reduceToNat, Int.toNat_natCast] at h555
               have h556 := map_at eS h555
               obtain ⟨t1584, b558, H559⟩ := zbi H553
               refine Z1 (Y2 (Y6 (zno .i64 h538) h539 h540 (zno .i64 h543) h544 h545) (Y5 (boxL_at (f := Value.bool) b546) c548 c550 (zno .i64 h554) h556)) ?_
               refine ZD0 (law14_NormUpDown_c1_ok b558) ?_
               refine Z1 (Y2 (Y6 (zno .i64 h538) h539 h540 (zno .i64 h543) h544 h545) (Y5 (boxL_at (f := Value.bool) b546) c548 c550 (zno .i64 h554) h556)) ?_
               refine Rd_endF (by rfl) ?_
               refine Z1 (Y2 (Y6 (zno .i64 h538) h539 h540 (zno .i64 h543) h544 h545) (Y5 (boxL_at (f := Value.bool) b546) c548 c550 (zno .i64 h554) h556)) ?_
               rcases zit H559 with ⟨c560, H561⟩ | ⟨c560, H561⟩
               ·refine Z1 (Y2 (Y6 (zno .i64 h538) h539 h540 (zno .i64 h543) h544 h545) (Y6 (boxL_at (f := Value.bool) b546) c548 c550 (zno .i64 h554) h556 c560)) ?_
                exact ⟨⟨((c, (t148, (IntKind.i64.wrap (t154 + 1)), (IntKind.i64.wrap (t163 + 1)))), g48), H561⟩, ren_mk [(0, 0), (1, 1), (2, 2)] (by rfl) (rf_upd (by rfl) (rf_upd (by rfl) (rf_upd (by rfl) (rf_upd (by rfl) (rf_upd (by rfl) (rf_upd (by rfl) (rf_upd (by rfl) (rf_upd (by rfl) (rf_upd (by rfl) (rf_no _)))))))))) (rh_upd (rh_one (by rfl) (renO_bx (renL_cons (by rfl) (renL_cons (by rfl) (renL_cons (ren_acc (by rfl)) (renL_cons (by rfl) (renL_cons (by rfl) (renL_cons (by rfl) (renL_cons (by rfl) (renL_cons (by rfl) (renL_nil _)))))))))) (by rfl)) (rh_upd (rh_acc (by rfl) (by rfl)) (rh_upd (rh_one (by rfl) (renO_boxL _) (by rfl)) (rh_no _)))), Nat.lt_succ_self _⟩
               ·refine Z1 (Y2 (Y6 (zno .i64 h538) h539 h540 (zno .i64 h543) h544 h545) (Y6 (boxL_at (f := Value.bool) b546) c548 c550 (zno .i64 h554) h556 c560)) ?_
                obtain rfl := Zi H561
                obtain rfl := Zi H459
                obtain rfl := Zi H348
                exact ZE0
             ·refine Z1 (Y2 (Y6 (zno .i64 h538) h539 h540 (zno .i64 h543) h544 h545) (Y2 (boxL_at (f := Value.bool) b546) c548)) ?_
              exact ⟨⟨((c, (t148, t154, (IntKind.i64.wrap (t163 + 1)))), g48), H549⟩, ren_mk [(0, 0), (1, 1), (2, 2)] (by rfl) (rf_upd (by rfl) (rf_upd (by rfl) (rf_upd (by rfl) (rf_upd (by rfl) (rf_upd (by rfl) (rf_upd (by rfl) (rf_upd (by rfl) (rf_upd (by rfl) (rf_upd (by rfl) (rf_no _)))))))))) (rh_upd (rh_one (by rfl) (renO_bx (renL_cons (by rfl) (renL_cons (by rfl) (renL_cons (ren_acc (by rfl)) (renL_cons (by rfl) (renL_cons (by rfl) (renL_cons (by rfl) (renL_cons (by rfl) (renL_cons (by rfl) (renL_nil _)))))))))) (by rfl)) (rh_upd (rh_acc (by rfl) (by rfl)) (rh_upd (rh_one (by rfl) (renO_boxL _) (by rfl)) (rh_no _)))), Nat.lt_succ_self _⟩
           ·refine Z1 c506 ?_
            obtain rfl := Zi H507
            exact ⟨⟨⟨(t147, t154), rfl⟩, g47⟩, ren_mk [(0, 0), (1, 1), (2, 2)] (by rfl) (rf_upd (by rfl) (rf_upd (by rfl) (rf_upd (by rfl) (rf_upd (by rfl) (rf_upd (by rfl) (rf_upd (by rfl) (rf_upd (by rfl) (rf_upd (by rfl) (rf_no _))))))))) (rh_upd (rh_one (by rfl) (renO_bx (renL_cons (by rfl) (renL_cons (by rfl) (renL_cons (ren_acc (by rfl)) (renL_cons (by rfl) (renL_cons (by rfl) (renL_cons (by rfl) (renL_cons (by rfl) (renL_cons (by rfl) (renL_nil _)))))))))) (by rfl)) (rh_upd (rh_acc (by rfl) (by rfl)) (rh_upd (rh_one (by rfl) (renO_boxL _) (by rfl)) (rh_no _))))⟩
        ·rintro ⟨⟨⟨t1410, t156⟩, he567⟩, g50⟩
         obtain rfl := he567.symm
         try dsimp only at H459
         refine ZT 3 ?_
         refine Z0 ?_
         rcases zit H459 with ⟨c563, H564⟩ | ⟨c563, H564⟩
         ·refine Z1 c563 ?_
          obtain rfl := Zi H564
          obtain rfl := Zi H348
          exact ZE0
         ·refine Z1 c563 ?_
          rcases zit H564 with ⟨c565, H566⟩ | ⟨c565, H566⟩
          ·refine Z1 (Y2 c563 c565) ?_
           obtain rfl := Zi H566
           obtain rfl := Zi H348
           exact ZE0
          ·refine Z1 (Y2 c563 c565) ?_
           exact ⟨⟨((c, (IntKind.i64.wrap (t11 + 1))), g50), H566⟩, ren_mk [(0, 0), (1, 1), (2, 2)] (by rfl) (rf_upd (by rfl) (rf_upd (by rfl) (rf_upd (by rfl) (rf_upd (by rfl) (rf_no _))))) (rh_upd (rh_one (by rfl) (renO_bx (renL_cons (by rfl) (renL_cons (by rfl) (renL_cons (ren_acc (by rfl)) (renL_cons (by rfl) (renL_cons (by rfl) (renL_cons (by rfl) (renL_cons (by rfl) (renL_cons (by rfl) (renL_nil _)))))))))) (by rfl)) (rh_upd (rh_acc (by rfl) (by rfl)) (rh_upd (rh_one (by rfl) (renO_boxL _) (by rfl)) (rh_no _)))), Nat.lt_succ_self _⟩
       ·refine Z1 c448 ?_
        obtain rfl := Zi H449
        exact ⟨⟨(), rfl⟩, ZR []⟩
    ·rintro ⟨_, he570⟩
     obtain rfl := he570.symm
     try dsimp only at H348
     refine ZT 1 ?_
     obtain ⟨t173, b568, H569⟩ := zbi H348
     refine Z0 ?_
     refine ZC0 (law14_awake_ok b568) ?_
     refine Z0 ?_
     obtain rfl := Zi H569
     exact ZE0
end Go.Proofs.YtkkhgdmmbhpckaaGreat.Ab
