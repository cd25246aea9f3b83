/-
 Functions, read off the code.
-/
import Derived.Test.YtkkhgdmmbhpckaaSca
namespace Go.Proofs.Ytkkhgdmmbhpckaa.Ab
open Go.RowKit
def slices_Index_string_L1 (n : Nat) (s : List ByteArray) (v : ByteArray) : Nat → Int → Option ((Unit) ⊕ Int)
 | 0, _ => none
 | c + 1, t8 =>
  (if (decide (t8 < (s.length : Int))) then
   (idx s t8).bind fun x2 =>
   (if (v.toList == x2.toList) then
    some (.inr t8)
   else
    slices_Index_string_L1 n s v c (IntKind.i64.wrap (t8 + 1)))
  else
   some (.inl ()))
def slices_Index_string (n : Nat) (s : List ByteArray) (v : ByteArray) : Option Int :=
 (
  slices_Index_string_L1 n s v n 0 : Option ((Unit) ⊕ Int)).bind fun
  | .inl _ =>
   some (-1)
  | .inr r => some r
theorem slices_Index_string_ok {n : Nat} {s : List ByteArray} {v : ByteArray} {r : Int} (H : slices_Index_string n s v = some r) : PureOK Try.prog 67 [D.sl (List.map eS s), D.v (.string v)] (D.v (.int .i64 r)) true := by
 unfold slices_Index_string at H
 refine ZP tab_ok fol (rs := #[.tmp 4]) Try.func67 ?_
 refine zsq (ZT 1 ?_)
 refine Z0 ?_
 refine zsq (zsq ?_)
 refine ZT 1 ?_
 refine Z0 ?_
 obtain ⟨e_, E1, H2⟩ := zbi H
 refine zjn (α := { y : Unit // e_ = .inl y }) (fun | ⟨_, _⟩ => ⟨noFr, noHp, 0⟩) ?_ ?_
 ·refine zbk ?_
  refine zlp (α := { q : Nat × Int // slices_Index_string_L1 n s v q.1 q.2 = some e_ }) (fun | ⟨⟨c, t8⟩, _⟩ => ⟨upd 0 (.d (.sl (List.map eS s)) true) (upd 1 (.v (.string v)) (upd 7 (.v (.int .i64 (s.length : Int))) (upd 8 (.v (.int .i64 t8)) noFr))), noHp, 0⟩) (fun q => q.1.1) ⟨(n, 0), E1⟩ ?_ ?_
  ·exact ZR []
  ·rintro ⟨⟨c, t8⟩, L3⟩
   rcases c with _ | c
   ·exact Zx L3
   ·unfold slices_Index_string_L1 at L3
    try dsimp only at L3
    refine ZT 1 ?_
    refine Z0 ?_
    rcases zit L3 with ⟨c14, H15⟩ | ⟨c14, H15⟩
    ·obtain ⟨x2, b16, H17⟩ := zbi H15
     obtain ⟨h18, h19⟩ := zix b16
     try simp only [Int.reduceToNat, Int.toNat_natCast] at h19
     have h20 := map_at eS h19
     refine Z1 (Y3 c14 (zno .i64 h18) h20) ?_
     rcases zit H17 with ⟨c22, H23⟩ | ⟨c22, H23⟩
     ·refine Z1 (Y4 c14 (zno .i64 h18) h20 c22) ?_
      obtain rfl := Zi H23
      obtain rfl := Zi H2
      exact ZE0
     ·refine Z1 (Y4 c14 (zno .i64 h18) h20 c22) ?_
      exact ⟨⟨(c, (IntKind.i64.wrap (t8 + 1))), H23⟩, ZR [], Nat.lt_succ_self _⟩
    ·refine Z1 c14 ?_
     obtain rfl := Zi H15
     exact ⟨⟨(), rfl⟩, ZR []⟩
 ·rintro ⟨_, he24⟩
  obtain rfl := he24.symm
  try dsimp only at H2
  refine ZT 1 ?_
  refine Z0 ?_
  obtain rfl := Zi H2
  exact ZE0
def slices_Contains_string (n : Nat) (s : List ByteArray) (v : ByteArray) : Option Bool :=
 (slices_Index_string n s v).bind fun t7 =>
 some (decide (0 ≤ t7))
theorem slices_Contains_string_ok {n : Nat} {s : List ByteArray} {v : ByteArray} {r : Bool} (H : slices_Contains_string n s v = some r) : PureOK Try.prog 40 [D.sl (List.map eS s), D.v (.string v)] (D.v (.bool r)) true := by
 unfold slices_Contains_string at H
 refine ZP tab_ok fol (rs := #[.tmp 4]) Try.func40 ?_
 refine ZT 1 ?_
 obtain ⟨t7, b1, H2⟩ := zbi H
 refine Z0 ?_
 refine ZC0 (slices_Index_string_ok b1) ?_
 refine Z0 ?_
 obtain rfl := Zi H2
 exact ZE0
def norm_reach_L2 (n : Nat) (next : List (ByteArray × (List ByteArray))) (x3 : ByteArray) : Nat → (List (ByteArray × Int) × List ByteArray × Int) → Option (List (ByteArray × Int) × List ByteArray)
 | 0, _ => none
 | c + 1, (seen5, out5, t283) =>
  (if (decide (t283 < (((mgetD x3 [] next)).length : Int))) then
   (idx (mgetD x3 [] next) t283).bind fun x5 =>
   (if ((mgetD x5 0 seen5) == 0) then
    (app out5 [x5]).bind fun l3 =>
    norm_reach_L2 n next x3 c ((mset x5 1 seen5), l3, (IntKind.i64.wrap (t283 + 1)))
   else
    norm_reach_L2 n next x3 c (seen5, out5, (IntKind.i64.wrap (t283 + 1))))
  else
   some (seen5, out5))
def norm_reach_L1 (n : Nat) (next : List (ByteArray × (List ByteArray))) : Nat → (List (ByteArray × Int) × List ByteArray × Int) → Option (List ByteArray)
 | 0, _ => none
 | c + 1, (seen4, out4, i) =>
  (if (decide (i < (out4.length : Int))) then
   (idx out4 i).bind fun x3 =>
   (
    norm_reach_L2 n next x3 n (seen4, out4, 0) : Option (List (ByteArray × Int) × List ByteArray)).bind fun (seen7, out7) =>
   norm_reach_L1 n next c (seen7, out7, (IntKind.i64.wrap (i + 1)))
  else
   some out4)
def norm_reach (n : Nat) (role : ByteArray) (next : List (ByteArray × (List ByteArray))) : Option (List ByteArray) :=
 (
  norm_reach_L1 n next n ((mset role 1 []), [role], 0) : Option (List ByteArray)).bind fun out9 =>
 (sort_T n out9).bind fun l4 =>
 some l4
theorem norm_reach_ok {n : Nat} {role : ByteArray} {next : List (ByteArray × (List ByteArray))} {r : List ByteArray} (H : norm_reach n role next = some r) : PureOK Try.prog 98 [D.v (.string role), D.mp (encMp Value.string false (eL eS) next)] (D.sl (List.map eS r)) true := by
 unfold norm_reach at H
 refine ZP tab_ok fol (rs := #[.tmp 4]) Try.func98 ?_
 refine zsq (ZT 1 ?_)
 refine Z0 ?_
 refine zsq (ZT 1 ?_)
 refine Z1 (fun _ => rfl : ∀ hp : Hp, upd 1 (some (AO.mo [] false)) hp = upd 1 (some (AO.mo (encM Value.string vI ([] : List (ByteArray × Int))) false)) hp) ?_
 refine zsq (ZT 1 ?_)
 refine Z1 (fun _ => rfl : ∀ hp : Hp, upd 1 (some (AO.mo [] false)) hp = upd 1 (some (AO.mo (encM Value.string vI ([] : List (ByteArray × Int))) false)) hp) ?_
 refine zsq (zsq ?_)
 refine ZT 1 ?_
 refine Z1 (fun _ => rfl : ∀ hp : Hp, upd 1 (some (AO.mo [] false)) hp = upd 1 (some (AO.mo (encM Value.string vI ([] : List (ByteArray × Int))) false)) hp) ?_
 obtain ⟨e_, E1, H2⟩ := zbi H
 refine zjn (α := { y : List ByteArray // e_ = y } × Nat) (fun | ⟨⟨out9, _⟩, g9⟩ => ⟨upd 6 (.so 0 g9 0 (out9.length)) noFr, upd 0 (some (.rw (List.map eS out9) 1 g9 false false)) noHp, 1⟩) ?_ ?_
 ·refine zbk ?_
  refine zlp (α := { q : (Nat × (List (ByteArray × Int) × List ByteArray × Int)) × Nat // norm_reach_L1 n next q.1.1 q.1.2 = some e_ }) (fun | ⟨⟨⟨c, ⟨seen4, out4, i⟩⟩, g4⟩, _⟩ => ⟨upd 1 (.d (.mp (encMp Value.string false (eL eS) next)) true) (upd 5 (.mo 0) (upd 6 (.so 1 g4 0 (out4.length)) (upd 7 (.v (.int .i64 i)) noFr))), upd 0 (some (.mo (encM Value.string vI seen4) false)) (upd 1 (some (.rw (List.map eS out4) 1 g4 false false)) noHp), 2⟩) (fun q => q.1.1.1) ⟨((n, ((mset role 1 []), [role], 0)), 0), E1⟩ ?_ ?_
  ·exact ren_mk [(0, 1), (1, 7)] (by rfl) (rf_upd (by rfl) (rf_upd (by rfl) (rf_upd (by rfl) (rf_upd (by rfl) (rf_no _))))) (rh_upd (rh_one (by rfl) (renO_encM (fun _ => rfl) _ _) (by rfl)) (rh_upd (rh_one (by rfl) (by rfl) (by rfl)) (rh_no _)))
  ·rintro ⟨⟨⟨c, ⟨seen4, out4, i⟩⟩, g4⟩, L3⟩
   rcases c with _ | c
   ·exact Zx L3
   ·unfold norm_reach_L1 at L3
    try dsimp only at L3
    refine zsq (ZT 1 ?_)
    refine Z0 ?_
    rcases zit L3 with ⟨c37, H38⟩ | ⟨c37, H38⟩
    ·refine Z1 c37 ?_
     refine zsq (zbk ?_)
     refine zsq (ZT 1 ?_)
     obtain ⟨x3, b39, H40⟩ := zbi H38
     obtain ⟨h41, h42⟩ := zix b39
     try simp only [Int.reduceToNat, Int.toNat_natCast] at h42
     have h43 := map_at eS h42
     have h44 := at_lt h42
     have h45 : lookA (false, [.string]) (.string x3) (.d (.sl []) true) false (dEnts true (encMp Value.string false (eL eS) next)) = some (.d (.sl (List.map eS (mgetD x3 [] next))) true, []) := lookD (b := true) (ag := false) (enc := (eL eS)) key_str x3 ([] : List ByteArray) false next
     refine Z1 (Y5 c37 (zno .i64 h41) h43 h44 h45) ?_
     obtain ⟨e_3, E46, H47⟩ := zbi H40
     refine zjn (α := { y : List (ByteArray × Int) × List ByteArray // e_3 = y } × Nat) (fun | ⟨⟨⟨seen7, out7⟩, _⟩, g7⟩ => ⟨upd 1 (.d (.mp (encMp Value.string false (eL eS) next)) true) (upd 5 (.mo 0) (upd 6 (.so 1 g7 0 (out7.length)) (upd 7 (.v (.int .i64 i)) noFr))), upd 0 (some (.mo (encM Value.string vI seen7) false)) (upd 1 (some (.rw (List.map eS out7) 1 g7 false false)) noHp), 2⟩) ?_ ?_
     ·refine zbk ?_
      refine zlp (α := { q : (Nat × (List (ByteArray × Int) × List ByteArray × Int)) × Nat // norm_reach_L2 n next x3 q.1.1 q.1.2 = some e_3 }) (fun | ⟨⟨⟨c, ⟨seen5, out5, t283⟩⟩, g5⟩, _⟩ => ⟨upd 1 (.d (.mp (encMp Value.string false (eL eS) next)) true) (upd 5 (.mo 0) (upd 6 (.so 1 g5 0 (out5.length)) (upd 7 (.v (.int .i64 i)) (upd 26 (.d (.sl (List.map eS (mgetD x3 [] next))) true) (upd 27 (.v (.int .i64 (((mgetD x3 [] next)).length : Int))) (upd 28 (.v (.int .i64 t283)) noFr)))))), upd 0 (some (.mo (encM Value.string vI seen5) false)) (upd 1 (some (.rw (List.map eS out5) 1 g5 false false)) noHp), 2⟩) (fun q => q.1.1.1) ⟨((n, (seen4, out4, 0)), g4), E46⟩ ?_ ?_
      ·exact ren_mk [(0, 0), (1, 1)] (by rfl) (rf_upd (by rfl) (rf_upd (by rfl) (rf_upd (by rfl) (rf_upd (by rfl) (rf_upd (by rfl) (rf_upd (by rfl) (rf_upd (by rfl) (rf_no _)))))))) (rh_upd (rh_one (by rfl) (renO_encM (fun _ => rfl) _ _) (by rfl)) (rh_upd (rh_one (by rfl) (by rfl) (by rfl)) (rh_no _)))
      ·rintro ⟨⟨⟨c, ⟨seen5, out5, t283⟩⟩, g5⟩, L48⟩
       rcases c with _ | c
       ·exact Zx L48
       ·unfold norm_reach_L2 at L48
        try dsimp only at L48
        refine ZT 1 ?_
        refine Z0 ?_
        rcases zit L48 with ⟨c67, H68⟩ | ⟨c67, H68⟩
        ·obtain ⟨x5, b69, H70⟩ := zbi H68
         obtain ⟨h71, h72⟩ := zix b69
         try simp only [Int.reduceToNat, Int.toNat_natCast] at h72
         have h73 := map_at eS h72
         refine Z1 (Y3 c67 (zno .i64 h71) h73) ?_
         rcases zit H70 with ⟨c75, H76⟩ | ⟨c75, H76⟩
         ·obtain ⟨l3, b77, H78⟩ := zbi H76
          obtain ⟨h79, h80⟩ := app_inv b77
          have h79 : out5.length + 1 ≤ 4294967296 := h79
          have h81 : List.map eS out5 ++ [[.v (.string x5)]] = List.map eS l3 := app_map eS h80
          have h82 : out5.length + 1 = l3.length := app_len h80
          have h83 : l3.length ≤ 4294967296 := by omega
          have q84 : 0 < l3.length := by omega
          refine Z1 (Y2 (Y6 c67 (zno .i64 h71) h73 c75 h79 h81) (Y2 h82 h83)) ?_
          exact ⟨⟨((c, ((mset x5 1 seen5), l3, (IntKind.i64.wrap (t283 + 1)))), (g5 + 1)), H78⟩, ren_mk [(0, 0), (1, 1)] (by rfl) (rf_upd (by rfl) (rf_upd (by rfl) (rf_upd (by rfl) (rf_upd (by rfl) (rf_upd (by rfl) (rf_upd (by rfl) (rf_upd (by rfl) (rf_no _)))))))) (rh_upd (rh_one (by rfl) (renO_encM (fun _ => rfl) _ _) (by rfl)) (rh_upd (rh_one (by rfl) (by rfl) (by rfl)) (rh_no _))), Nat.lt_succ_self _⟩
         ·refine Z1 (Y4 c67 (zno .i64 h71) h73 c75) ?_
          exact ⟨⟨((c, (seen5, out5, (IntKind.i64.wrap (t283 + 1)))), g5), H76⟩, ren_mk [(0, 0), (1, 1)] (by rfl) (rf_upd (by rfl) (rf_upd (by rfl) (rf_upd (by rfl) (rf_upd (by rfl) (rf_upd (by rfl) (rf_upd (by rfl) (rf_upd (by rfl) (rf_no _)))))))) (rh_upd (rh_one (by rfl) (renO_encM (fun _ => rfl) _ _) (by rfl)) (rh_upd (rh_one (by rfl) (by rfl) (by rfl)) (rh_no _))), Nat.lt_succ_self _⟩
        ·refine Z1 c67 ?_
         obtain rfl := Zi H68
         exact ⟨⟨⟨(seen5, out5), rfl⟩, g5⟩, ren_mk [(0, 0), (1, 1)] (by rfl) (rf_upd (by rfl) (rf_upd (by rfl) (rf_upd (by rfl) (rf_upd (by rfl) (rf_no _))))) (rh_upd (rh_one (by rfl) (renO_encM (fun _ => rfl) _ _) (by rfl)) (rh_upd (rh_one (by rfl) (by rfl) (by rfl)) (rh_no _)))⟩
     ·rintro ⟨⟨⟨seen7, out7⟩, he85⟩, g7⟩
      obtain rfl := he85.symm
      try dsimp only at H47
      refine Z0 ?_
      refine ZT 1 ?_
      refine Z0 ?_
      exact ⟨⟨((c, (seen7, out7, (IntKind.i64.wrap (i + 1)))), g7), H47⟩, ren_mk [(0, 0), (1, 1)] (by rfl) (rf_upd (by rfl) (rf_upd (by rfl) (rf_upd (by rfl) (rf_upd (by rfl) (rf_no _))))) (rh_upd (rh_one (by rfl) (renO_encM (fun _ => rfl) _ _) (by rfl)) (rh_upd (rh_one (by rfl) (by rfl) (by rfl)) (rh_no _))), Nat.lt_succ_self _⟩
    ·refine Z1 c37 ?_
     obtain rfl := Zi H38
     exact ⟨⟨⟨out4, rfl⟩, g4⟩, ZR [(0, 1)]⟩
 ·rintro ⟨⟨out9, he92⟩, g9⟩
  obtain rfl := he92.symm
  try dsimp only at H2
  refine ZT 1 ?_
  obtain ⟨l4, b89, H90⟩ := zbi H2
  refine Z0 ?_
  have h91 := sort_T_len b89
  refine onCall_inl (InlOK.mono (sort_T_in b89 (by first | rfl | (simp -implicitDefEqProofs only [go_sem, Bool.false_and, Int.reduceToNat, Int.reduceLT, Int.reduceLE, Int.reduceBEq, Int.reduceBNe, Nat.reduceLT, Nat.reduceBEq, Int.reduceEq, Nat.reduceEqDiff, Nat.reduceAdd, Nat.reduceSub, Nat.reduceMul, Nat.reduceLeDiff, reduceCtorEq, ↓reduceIte, eGWord, eGLine, eGFact, eGAsk]; done) | (simp -implicitDefEqProofs only [go_sem, Bool.false_and, Int.reduceToNat, Int.reduceLT, Int.reduceLE, Int.reduceBEq, Int.reduceBNe, Nat.reduceLT, Nat.reduceBEq, Int.reduceEq, Nat.reduceEqDiff, Nat.reduceAdd, Nat.reduceSub, Nat.reduceMul, Nat.reduceLeDiff, reduceCtorEq, ↓reduceIte, eGWord, eGLine, eGFact, eGAsk]; rfl))) ?_)
  rintro v86 hp87 nx88 ⟨rfl, rfl, rfl⟩
  try rw [h91]
  refine Z0 ?_
  obtain rfl := Zi H90
  exact ZE0
def norm_below_L1 (n : Nat) (l : List GPair) : Nat → (List (ByteArray × (List ByteArray)) × Int) → Option (List (ByteArray × (List ByteArray)))
 | 0, _ => none
 | c + 1, (out2, t9) =>
  (if (decide (t9 < (l.length : Int))) then
   (idx l t9).bind fun x2 =>
   grd (decide (out2.length ≤ 4294967296)) <|
   (
    grd (famG x2.a out2) <|
    some () : Option (Unit)).bind fun _ =>
   grd (decide ((madd x2.a [x2.b] out2).length ≤ 4294967296)) <|
   norm_below_L1 n l c ((madd x2.a [x2.b] out2), (IntKind.i64.wrap (t9 + 1)))
  else
   grd (decide (out2.length ≤ 4294967296)) <|
   some out2)
def norm_below_L1_f (_ : Nat) (_ : List GPair) (st : List (ByteArray × (List ByteArray))) (x2 : GPair) (k : (List (ByteArray × (List ByteArray))) → Option (List (ByteArray × (List ByteArray)))) : Option (List (ByteArray × (List ByteArray))) :=
 match st with
 | out2 =>
  grd (decide (out2.length ≤ 4294967296)) <|
  (
   grd (famG x2.a out2) <|
   some () : Option (Unit)).bind fun _ =>
  grd (decide ((madd x2.a [x2.b] out2).length ≤ 4294967296)) <|
  k (madd x2.a [x2.b] out2)
def norm_below_L1_e (_ : Nat) (_ : List GPair) (st : List (ByteArray × (List ByteArray))) : Option (List (ByteArray × (List ByteArray))) :=
 match st with
 | out2 => grd (decide (out2.length ≤ 4294967296)) <|
 some out2
theorem norm_below_L1_list (n : Nat) (l : List GPair) (hx : l.length < 4611686018427387904) (c : Nat) (st : List (ByteArray × (List ByteArray))) (ix : Nat) (hi : ix ≤ l.length) (hc : l.length - ix < c) : norm_below_L1 n l c (match st, (ix : Int) with | out2, ix => (out2, ix)) = foldK (norm_below_L1_f n l) (norm_below_L1_e n l) (l.drop ix) st :=
 loop_list (fun c st ix => norm_below_L1 n l c (match st, ix with | out2, ix => (out2, ix))) l (norm_below_L1_f n l) (norm_below_L1_e n l) (fun _ _ _ => rfl) hx c st ix hi hc
def norm_below (n : Nat) (l : List GPair) : Option (List (ByteArray × (List ByteArray))) :=
 (
  norm_below_L1 n l n (([] : List (ByteArray × (List ByteArray))), 0) : Option (List (ByteArray × (List ByteArray)))).bind fun out4 =>
 grd (decide (out4.length ≤ 4294967296)) <|
 some out4
theorem norm_below_ok {n : Nat} {l : List GPair} {r : List (ByteArray × (List ByteArray))} (H : norm_below n l = some r) : PureA Try.prog 99 [.d (D.sl (List.map eGPair l))] (D.mp (encMp Value.string false (eL eS) r)) true := by
 unfold norm_below at H
 refine ZPX tab_ok fol (rs := #[.tmp 2]) Try.func99 ?_
 refine zsq (ZT 1 ?_)
 refine Z0 ?_
 refine zsq (ZT 1 ?_)
 refine Z0 ?_
 refine zsq (zsq ?_)
 refine ZT 1 ?_
 refine Z0 ?_
 obtain ⟨e_, E1, H2⟩ := zbi H
 refine zjn (α := { y : List (ByteArray × (List ByteArray)) // e_ = y } × (Nat → Nat)) (fun | ⟨⟨out4, _⟩, g6⟩ => ⟨upd 3 (.mo 0) noFr, upd 0 (some (.mo (encF Value.string 4294967296 g6 out4) false)) (famH eS 1 4294967296 g6 out4 (noHp)), 8589934592⟩) ?_ ?_
 ·refine zbk ?_
  refine zlp (α := { q : (Nat × (List (ByteArray × (List ByteArray)) × Int)) × (Nat → Nat) // norm_below_L1 n l q.1.1 q.1.2 = some e_ }) (fun | ⟨⟨⟨c, ⟨out2, t9⟩⟩, g3⟩, _⟩ => ⟨upd 3 (.mo 0) (upd 7 (.d (.sl (List.map eGPair l)) true) (upd 8 (.v (.int .i64 (l.length : Int))) (upd 9 (.v (.int .i64 t9)) noFr))), upd 0 (some (.mo (encF Value.string 4294967296 g3 out2) false)) (famH eS 1 4294967296 g3 out2 (noHp)), 8589934592⟩) (fun q => q.1.1.1) ⟨((n, (([] : List (ByteArray × (List ByteArray))), 0)), (fun _ => 0)), E1⟩ ?_ ?_
  ·exact ren_mkF (R := 340282366920938463463374607431768211457) none (fun _ _ h => by cases h) [4294967296] [(0, 1)] (by rfl) (rf_upd (by rfl) (rf_upd (by rfl) (rf_upd (by rfl) (rf_upd (by rfl) (rf_no _))))) (rh_upd (rh_one (by rfl) (renO_fam (by rfl) (by simp) (fun _ _ h => by cases h) (by decide) rfl) (by rfl)) (rh_fam (by rfl) (by simp) (fun _ _ h => by cases h) rfl (fun j p h hj => by cases h) (rh_no _)))
  ·rintro ⟨⟨⟨c, ⟨out2, t9⟩⟩, g3⟩, L3⟩
   rcases c with _ | c
   ·exact Zx L3
   ·unfold norm_below_L1 at L3
    try dsimp only at L3
    refine zsq (ZT 1 ?_)
    refine Z0 ?_
    refine zsq (ZT 1 ?_)
    refine Z0 ?_
    rcases zit L3 with ⟨c54, H55⟩ | ⟨c54, H55⟩
    ·refine Z1 c54 ?_
     refine zsq (zbk ?_)
     refine zsq (ZT 1 ?_)
     obtain ⟨x2, b56, H57⟩ := zbi H55
     obtain ⟨h58, h59⟩ := zix b56
     try simp only [Int.reduceToNat, Int.toNat_natCast] at h59
     have h60 := map_at eGPair h59
     refine Z1 (Y3 c54 (zno .i64 h58) h60) ?_
     obtain ⟨g62, H63⟩ := grd_inv H57
     have h64 : out2.length ≤ 4294967296 := of_decide_eq_true g62
     obtain ⟨e_3, E65, H66⟩ := zbi H63
     refine zjn (α := { y : Unit // e_3 = y } × (Nat → Nat)) (fun | ⟨⟨_, _⟩, g4⟩ => ⟨upd 3 (.mo 0) (upd 7 (.d (.sl (List.map eGPair l)) true) (upd 8 (.v (.int .i64 (l.length : Int))) (upd 9 (.v (.int .i64 t9)) noFr))), upd 0 (some (.mo (encF Value.string 4294967296 g4 (madd x2.a [x2.b] out2)) false)) (famH eS 1 4294967296 g4 (madd x2.a [x2.b] out2) (noHp)), 8589934592⟩) ?_ ?_
     ·refine ZT 1 ?_
      obtain ⟨g67, H68⟩ := grd_inv E65
      obtain ⟨g69, g70⟩ := famG_inv g67
      refine Z0 ?_
      rcases find_cases (kv := Value.string) (B := 4294967296) (vs := g3) key_str x2.a out2 with ⟨n71, n72, n73⟩ | ⟨j2, xs2, o74, o75, o76, o77⟩
      ·have n78 : mfind (false, [.string]) (.string x2.a) (encF Value.string 4294967296 g3 out2) = some none := n72
       try simp -implicitDefEqProofs only [go_sem, Nat.reduceLT, Nat.reduceEqDiff, Nat.reduceAdd, Nat.reduceLeDiff, reduceCtorEq, ↓reduceIte, look_new n78, mput_new n78]
       refine Rd_endF (by kernel_rfl) ?_
       try simp -implicitDefEqProofs only [go_sem]
       obtain rfl := Zi H68
       exact ⟨⟨⟨(), rfl⟩, (vsUp (List.length out2) 0 g3)⟩, ren_mkF (R := 8589934607) (some (fid 4294967296 (List.length out2), 8589934607)) (fun _ _ h => by cases h; rfl) [4294967296] [(0, 0)] (by rfl) (rf_upd (by rfl) (rf_upd (by rfl) (rf_upd (by rfl) (rf_upd (by rfl) (rf_no _))))) (rh_upd (rh_one (by rfl) (renO_famN (by rfl) (by simp) g69 (by first | exact (n73 _) | rfl)) (by rfl)) (rh_famN (by rfl) (by simp) g69 (by first | exact (n73 _) | rfl) (fun j p h hj => by repeat (first | with_reducible exact famH_at h hj | (with_reducible refine at_upd ?_ ?_; rw [fid_eq]; omega) | (with_reducible refine at_fam ?_ ?_; rw [fid_eq]; omega))) (by rfl) (rh_no _)))⟩
      ·have o83 : mfind (false, [.string]) (.string x2.a) (encF Value.string 4294967296 g3 out2) = some (some (j2, .so (fid 4294967296 j2) (g3 j2) 0 xs2.length)) := o76
       have h79 : j2 < 4294967296 := Nat.lt_trans (List.getElem?_eq_some_iff.1 o74).1 g69
       have h80 : ∀ hp : Hp, famH eS 1 4294967296 g3 out2 hp (fid 4294967296 j2) = some (.rw (List.map eS xs2) 1 (g3 j2) false false) := fun _ => famH_at o74 h79
       have h81 : (encF Value.string 4294967296 g3 out2)[j2]? = some ((.string x2.a), .so (fid 4294967296 j2) (g3 j2) 0 xs2.length) := (encF_at _ _).trans (by rw [o74]; rfl)
       have h82 : xs2.length + 1 ≤ 4294967296 := by have := g70; simp only [mgetD, o75, Option.getD_some] at this; omega
       have h84 : ∀ (x y : Option AO) (g : Hp), upd (fid 4294967296 j2) x (upd 0 y g) = upd 0 y (upd (fid 4294967296 j2) x g) := fun _ _ _ => upd_swap (by rw [fid_eq]; omega)
       have h85 : ∀ (x y : Option AO) (g : Hp), upd (fid 4294967296 j2) x (upd 8589934595 y g) = upd 8589934595 y (upd (fid 4294967296 j2) x g) := fun _ _ _ => upd_swap (by rw [fid_eq]; omega)
       have h86 : ∀ c : Nat, 8589934592 ≤ c → (fid 4294967296 j2 = c) = False := fun c h => fid_hi h79 h
       have h87 : ∀ c : Nat, 8589934592 ≤ c → (c = fid 4294967296 j2) = False := fun c h => fid_hi' h79 h
       have h88 : ∀ (c : Nat) (x y : Option AO) (g : Hp), 8589934592 ≤ c → upd (fid 4294967296 j2) x (upd c y g) = upd c y (upd (fid 4294967296 j2) x g) := fun _ _ _ _ h => upd_swap (by rw [fid_eq]; omega)
       obtain ⟨zs2, h89⟩ : ∃ zs, xs2 ++ [x2.b] = zs := ⟨_, rfl⟩
       have h90 : List.map eS xs2 ++ [[.v (.string x2.b)]] = List.map eS zs2 := app_map eS h89
       have h91 : xs2.length + 1 = zs2.length := app_len h89
       have h92 : zs2.length ≤ 4294967296 := by omega
       have h93 : madd x2.a [x2.b] out2 = List.set out2 j2 (x2.a, zs2) := by rw [← h89]; exact o77 _
       have h94 : ∀ hp : Hp, upd (fid 4294967296 j2) (some (.rw (List.map eS zs2) 1 (g3 j2 + 1) false false)) (famH eS 1 4294967296 g3 out2 hp) = famH eS 1 4294967296 (vsUp j2 (g3 j2 + 1) g3) (List.set out2 j2 (x2.a, zs2)) hp := fun _ => famH_set (q := (x2.a, zs2)) o74 h79
       have h95 : List.set (encF Value.string 4294967296 g3 out2) j2 ((.string x2.a), .so (fid 4294967296 j2) (g3 j2 + 1) 0 zs2.length) = encF Value.string 4294967296 (vsUp j2 (g3 j2 + 1) g3) (List.set out2 j2 (x2.a, zs2)) := encF_set (q := (x2.a, zs2)) (List.getElem?_eq_some_iff.1 o74).1
       have h96 : (List.set out2 j2 (x2.a, zs2)).length ≤ 4294967296 := by rw [List.length_set]; exact Nat.le_of_lt g69
       try simp -implicitDefEqProofs only [go_sem, Nat.reduceLT, Nat.reduceEqDiff, Nat.reduceAdd, Nat.reduceLeDiff, reduceCtorEq, ↓reduceIte, look_old o83, mput_old o83, h80, h84, h85, h86, fid_lo, h88, h90, h91, h92, h94, h95]
       refine Rd_endJ (fid 4294967296 j2) 340282366920938463463374607431768211458 (by have := h79; rw [fid_eq]; unfold sent; omega) (by decide) (by simp [h87]) (by simp only [List.reverse_cons, List.reverse_nil, List.nil_append, List.cons_append, List.map_cons, List.map_nil, swRec, sw, Nat.reduceLeDiff, Nat.reduceLT, ↓reduceIte, fid_lo', h87]; kernel_rfl) ?_
       try simp -implicitDefEqProofs only [go_sem]
       obtain rfl := Zi H68
       exact ⟨⟨⟨(), rfl⟩, (vsUp j2 (g3 j2 + 1) g3)⟩, ren_mkF (R := 340282366920938463463374607431768211457) none (fun _ _ h => by cases h) [4294967296] [(0, 0)] (by rfl) (rf_upd (by rfl) (rf_upd (by rfl) (rf_upd (by rfl) (rf_upd (by rfl) (rf_no _))))) (rh_upd (rh_one (by rfl) (renO_fam (by rfl) (by simp) (fun _ _ h => by cases h) h96 (by first | exact h93 | rfl)) (by rfl)) (rh_fam (by rfl) (by simp) (fun _ _ h => by cases h) (by first | exact h93 | rfl) (fun j p h hj => by repeat (first | with_reducible exact famH_at h hj | (with_reducible refine at_upd ?_ ?_; rw [fid_eq]; omega) | (with_reducible refine at_fam ?_ ?_; rw [fid_eq]; omega))) (rh_no _)))⟩
     ·rintro ⟨⟨_, he100⟩, g4⟩
      obtain rfl := he100.symm
      try dsimp only at H66
      refine Z0 ?_
      refine ZT 1 ?_
      refine Z0 ?_
      obtain ⟨g97, H98⟩ := grd_inv H66
      have h99 : (madd x2.a [x2.b] out2).length ≤ 4294967296 := of_decide_eq_true g97
      exact ⟨⟨((c, ((madd x2.a [x2.b] out2), (IntKind.i64.wrap (t9 + 1)))), g4), H98⟩, ren_mkF (R := 340282366920938463463374607431768211457) none (fun _ _ h => by cases h) [4294967296] [(0, 0)] (by rfl) (rf_upd (by rfl) (rf_upd (by rfl) (rf_upd (by rfl) (rf_upd (by rfl) (rf_no _))))) (rh_upd (rh_one (by rfl) (renO_fam (by rfl) (by simp) (fun _ _ h => by cases h) h99 rfl) (by rfl)) (rh_fam (by rfl) (by simp) (fun _ _ h => by cases h) rfl (fun j p h hj => by repeat (first | with_reducible exact famH_at h hj | (with_reducible refine at_upd ?_ ?_; rw [fid_eq]; omega) | (with_reducible refine at_fam ?_ ?_; rw [fid_eq]; omega))) (rh_no _))), Nat.lt_succ_self _⟩
    ·refine Z1 c54 ?_
     obtain ⟨g101, H102⟩ := grd_inv H55
     have h103 : out2.length ≤ 4294967296 := of_decide_eq_true g101
     obtain rfl := Zi H102
     exact ⟨⟨⟨out2, rfl⟩, g3⟩, ren_mkF (R := 340282366920938463463374607431768211457) none (fun _ _ h => by cases h) [4294967296] [(0, 0)] (by rfl) (rf_upd (by rfl) (rf_no _)) (rh_upd (rh_one (by rfl) (renO_fam (by rfl) (by simp) (fun _ _ h => by cases h) h103 rfl) (by rfl)) (rh_fam (by rfl) (by simp) (fun _ _ h => by cases h) rfl (fun j p h hj => by repeat (first | with_reducible exact famH_at h hj | (with_reducible refine at_upd ?_ ?_; rw [fid_eq]; omega) | (with_reducible refine at_fam ?_ ?_; rw [fid_eq]; omega))) (rh_no _)))⟩
 ·rintro ⟨⟨out4, he107⟩, g6⟩
  obtain rfl := he107.symm
  try dsimp only at H2
  refine ZT 1 ?_
  refine Z0 ?_
  obtain ⟨g104, H105⟩ := grd_inv H2
  have h106 : out4.length ≤ 4294967296 := of_decide_eq_true g104
  obtain rfl := Zi H105
  exact endX_ret (b := false) (v := .mo 0) (by first | (simp -implicitDefEqProofs only [go_sem, ↓reduceIte] <;> rfl) | rfl) (ToXR.val (ToXV.one (ToX.fam (by rfl) h106 (fun j p h hj => by repeat (first | with_reducible exact famH_at h hj | (with_reducible refine at_upd ?_ ?_; rw [fid_eq]; omega) | (with_reducible refine at_fam ?_ ?_; rw [fid_eq]; omega)))) rfl)) (by intro h; first | rfl | cases h)
def norm_Down (n : Nat) (p : GRoles) (role : ByteArray) : Option (List ByteArray) :=
 (norm_below n p.inherit).bind fun t8 =>
 (norm_reach n role t8).bind fun t9 =>
 some t9
theorem norm_Down_ok {n : Nat} {p : GRoles} {role : ByteArray} {r : List ByteArray} (H : norm_Down n p role = some r) : PureOK Try.prog 84 [D.ag (eGRoles p), D.v (.string role)] (D.sl (List.map eS r)) true := by
 unfold norm_Down at H
 refine ZP tab_ok fol (rs := #[.tmp 4]) Try.func84 ?_
 refine ZT 1 ?_
 obtain ⟨t8, b1, H2⟩ := zbi H
 refine Z0 ?_
 refine ZA0 (norm_below_ok b1) ?_
 obtain ⟨t9, b3, H4⟩ := zbi H2
 refine Z0 ?_
 refine ZC0 (norm_reach_ok b3) ?_
 refine Z0 ?_
 obtain rfl := Zi H4
 exact ZE0
def sess_closed_L1 (n : Nat) (p : GRoles) (roles : List ByteArray) : Nat → (List ByteArray × Int) → Option (List ByteArray)
 | 0, _ => none
 | c + 1, (out, t10) =>
  (if (decide (t10 < (roles.length : Int))) then
   (idx roles t10).bind fun x2 =>
   (norm_Down n p x2).bind fun t172 =>
   (if (decide (out.length = 0)) then
    (app [] t172).bind fun _ =>
    sess_closed_L1 n p roles c (t172, (IntKind.i64.wrap (t10 + 1)))
   else
    (app out t172).bind fun l3 =>
    sess_closed_L1 n p roles c (l3, (IntKind.i64.wrap (t10 + 1))))
  else
   some out)
def sess_closed_L1_f (n : Nat) (p : GRoles) (_ : List ByteArray) (st : List ByteArray) (x2 : ByteArray) (k : List ByteArray → Option (List ByteArray)) : Option (List ByteArray) :=
 match st with
 | out =>
  (norm_Down n p x2).bind fun t172 =>
  (if (decide (out.length = 0)) then
   (app [] t172).bind fun _ =>
   k t172
  else
   (app out t172).bind fun l3 =>
   k l3)
def sess_closed_L1_e (_ : Nat) (_ : GRoles) (_ : List ByteArray) (st : List ByteArray) : Option (List ByteArray) :=
 match st with
 | out => some out
theorem sess_closed_L1_list (n : Nat) (p : GRoles) (roles : List ByteArray) (hx : roles.length < 4611686018427387904) (c : Nat) (st : List ByteArray) (ix : Nat) (hi : ix ≤ roles.length) (hc : roles.length - ix < c) : sess_closed_L1 n p roles c (match st, (ix : Int) with | out, ix => (out, ix)) = foldK (sess_closed_L1_f n p roles) (sess_closed_L1_e n p roles) (roles.drop ix) st :=
 loop_list (fun c st ix => sess_closed_L1 n p roles c (match st, ix with | out, ix => (out, ix))) roles (sess_closed_L1_f n p roles) (sess_closed_L1_e n p roles) (fun _ _ _ => rfl) hx c st ix hi hc
def sess_closed (n : Nat) (p : GRoles) (roles : List ByteArray) : Option (List ByteArray) :=
 (
  sess_closed_L1 n p roles n ([], 0) : Option (List ByteArray)).bind fun out3 =>
 (norm_Once n out3).bind fun t21 =>
 some t21
theorem sess_closed_ok {n : Nat} {p : GRoles} {roles : List ByteArray} {r : List ByteArray} (H : sess_closed n p roles = some r) : PureOK Try.prog 57 [D.ag (eGRoles p), D.sl (List.map eS roles)] (D.sl (List.map eS r)) true := by
 unfold sess_closed at H
 refine ZP tab_ok fol (rs := #[.tmp 4]) Try.func57 ?_
 refine zsq (ZT 1 ?_)
 refine Z0 ?_
 refine zsq (ZT 1 ?_)
 refine Z0 ?_
 refine zsq (zsq ?_)
 refine ZT 1 ?_
 refine Z0 ?_
 obtain ⟨e_, E1, H2⟩ := zbi H
 refine zjn (α := { y : List ByteArray // e_ = y } × Nat) (fun | ⟨⟨out3, _⟩, g3⟩ => ⟨upd 5 (accV 0 g3 (List.map eS out3)) noFr, upd 0 (accO 1 g3 false (List.map eS out3)) noHp, 1⟩) ?_ ?_
 ·refine zbk ?_
  refine zlp (α := { q : (Nat × (List ByteArray × Int)) × Nat // sess_closed_L1 n p roles q.1.1 q.1.2 = some e_ }) (fun | ⟨⟨⟨c, ⟨out, t10⟩⟩, g⟩, _⟩ => ⟨upd 2 (.pt 0 0) (upd 5 (accV 1 g (List.map eS out)) (upd 8 (.d (.sl (List.map eS roles)) true) (upd 9 (.v (.int .i64 (roles.length : Int))) (upd 10 (.v (.int .i64 t10)) noFr)))), upd 0 (some (.bx [.d (.sl (List.map eS p.users)) true, .d (.sl (List.map eS p.roles)) true, .d (.sl (List.map eGPair p.inherit)) true, .d (.sl (List.map eGPair p.assign)) true, .d (.sl (List.map eGGrant p.grants)) true, .d (.sl (List.map eGSod p.ssd)) true, .d (.sl (List.map eGSod p.dsd)) true, .d (.sl (List.map eGSession p.sessions)) true])) (upd 1 (accO 1 g false (List.map eS out)) noHp), 2⟩) (fun q => q.1.1.1) ⟨((n, ([], 0)), 0), E1⟩ ?_ ?_
  ·exact ZR [(0, 0)]
  ·rintro ⟨⟨⟨c, ⟨out, t10⟩⟩, g⟩, L3⟩
   rcases c with _ | c
   ·exact Zx L3
   ·unfold sess_closed_L1 at L3
    try dsimp only at L3
    refine ZT 1 ?_
    refine Z0 ?_
    rcases zit L3 with ⟨c18, H19⟩ | ⟨c18, H19⟩
    ·obtain ⟨x2, b20, H21⟩ := zbi H19
     obtain ⟨h22, h23⟩ := zix b20
     try simp only [Int.reduceToNat, Int.toNat_natCast] at h23
     have h24 := map_at eS h23
     obtain ⟨t172, b26, H27⟩ := zbi H21
     refine Z1 (Y3 c18 (zno .i64 h22) h24) ?_
     refine ZC0 (norm_Down_ok b26) ?_
     refine Z1 (Y4 c18 (zno .i64 h22) h24 (chk_map (n := 1) (f := eS) (fun _ => rfl) t172)) ?_
     rcases zit H27 with ⟨c28, H29⟩ | ⟨c28, H29⟩
     ·have e30 : out = [] := List.eq_nil_of_length_eq_zero (of_decide_eq_true c28)
      subst e30
      simp only [List.map_nil, accV_nil, accO_nil]
      try simp only [accK, accB]
      obtain ⟨l2, b31, H32⟩ := zbi H29
      obtain ⟨h33, h34⟩ := app_inv b31
      have h34 : t172 = l2 := h34
      subst h34
      have h33 : t172.length ≤ 4294967296 := by have := h33; simpa using this
      refine Z1 (Y5 c18 (zno .i64 h22) h24 (chk_map (n := 1) (f := eS) (fun _ => rfl) t172) h33) ?_
      exact ⟨⟨((c, (t172, (IntKind.i64.wrap (t10 + 1)))), 0), H32⟩, ZR [(0, 0), (1, 10)], Nat.lt_succ_self _⟩
     ·have q35 : 0 < out.length := by have := of_decide_eq_false c28; omega
      have h36 : ∀ i, accK i (List.map eS out) = [i] := fun i => by cases hx : out with | nil => (rw [hx] at q35; simp at q35) | cons a r => rfl
      have h37 : ∀ b, accB b (List.map eS out) = b := fun b => by cases hx : out with | nil => (rw [hx] at q35; simp at q35) | cons a r => rfl
      obtain ⟨l3, b38, H39⟩ := zbi H29
      obtain ⟨h40, h41⟩ := app_inv b38
      have h40 : out.length + t172.length ≤ 4294967296 := h40
      have h42 : List.map eS out ++ List.map eS t172 = List.map eS l3 := app_map eS h41
      have h43 : out.length + t172.length = l3.length := app_len h41
      have h44 : l3.length ≤ 4294967296 := by omega
      have q45 : 0 < l3.length := by omega
      refine Z1 (Y3 (Y6 c18 (zno .i64 h22) h24 (chk_map (n := 1) (f := eS) (fun _ => rfl) t172) c28 h36) (Y6 h37 q35 (YV (f := eS) q35) (YO (f := eS) q35) h40 h42) (Y2 h43 h44)) ?_
      exact ⟨⟨((c, (l3, (IntKind.i64.wrap (t10 + 1)))), (g + 1)), H39⟩, ZR [(0, 0), (1, 1)], Nat.lt_succ_self _⟩
    ·refine Z1 c18 ?_
     obtain rfl := Zi H19
     exact ⟨⟨⟨out, rfl⟩, g⟩, ZR [(0, 1)]⟩
 ·rintro ⟨⟨out3, he48⟩, g3⟩
  obtain rfl := he48.symm
  try dsimp only at H2
  refine ZT 1 ?_
  obtain ⟨t21, b46, H47⟩ := zbi H2
  refine Z0 ?_
  refine ZC0 (norm_Once_ok b46) ?_
  refine Z0 ?_
  obtain rfl := Zi H47
  exact ZE0
def sess_Roles_L1 (n : Nat) (p : GRoles) (user : ByteArray) : Nat → (List ByteArray × Int) → Option (List ByteArray)
 | 0, _ => none
 | c + 1, (own, t16) =>
  (if (decide (t16 < (p.assign.length : Int))) then
   (idx p.assign t16).bind fun x2 =>
   (if (x2.a.toList == user.toList) then
    (app own [x2.b]).bind fun l =>
    sess_Roles_L1 n p user c (l, (IntKind.i64.wrap (t16 + 1)))
   else
    sess_Roles_L1 n p user c (own, (IntKind.i64.wrap (t16 + 1))))
  else
   some own)
def sess_Roles_L1_f (_ : Nat) (_ : GRoles) (user : ByteArray) (st : List ByteArray) (x2 : GPair) (k : List ByteArray → Option (List ByteArray)) : Option (List ByteArray) :=
 match st with
 | own =>
  (if (x2.a.toList == user.toList) then
   (app own [x2.b]).bind fun l =>
   k l
  else
   k own)
def sess_Roles_L1_e (_ : Nat) (_ : GRoles) (_ : ByteArray) (st : List ByteArray) : Option (List ByteArray) :=
 match st with
 | own => some own
theorem sess_Roles_L1_list (n : Nat) (p : GRoles) (user : ByteArray) (hx : p.assign.length < 4611686018427387904) (c : Nat) (st : List ByteArray) (ix : Nat) (hi : ix ≤ p.assign.length) (hc : p.assign.length - ix < c) : sess_Roles_L1 n p user c (match st, (ix : Int) with | own, ix => (own, ix)) = foldK (sess_Roles_L1_f n p user) (sess_Roles_L1_e n p user) (p.assign.drop ix) st :=
 loop_list (fun c st ix => sess_Roles_L1 n p user c (match st, ix with | own, ix => (own, ix))) p.assign (sess_Roles_L1_f n p user) (sess_Roles_L1_e n p user) (fun _ _ _ => rfl) hx c st ix hi hc
def sess_Roles (n : Nat) (p : GRoles) (user : ByteArray) : Option (List ByteArray) :=
 (slices_Contains_string n p.users user).bind fun t11 =>
 (if t11 then
  (
   sess_Roles_L1 n p user n ([], 0) : Option (List ByteArray)).bind fun own3 =>
  (sess_closed n p own3).bind fun t32 =>
  some t32
 else
  some [])
theorem sess_Roles_ok {n : Nat} {p : GRoles} {user : ByteArray} {r : List ByteArray} (H : sess_Roles n p user = some r) : PureOK Try.prog 30 [D.ag (eGRoles p), D.v (.string user)] (D.sl (List.map eS r)) true := by
 unfold sess_Roles at H
 refine ZP tab_ok fol (rs := #[.tmp 4]) Try.func30 ?_
 refine zsq (ZT 1 ?_)
 refine Z0 ?_
 refine zsq (ZT 1 ?_)
 obtain ⟨t11, b1, H2⟩ := zbi H
 refine Z0 ?_
 refine ZC0 (slices_Contains_string_ok b1) ?_
 refine Z0 ?_
 rcases zit H2 with ⟨c3, H4⟩ | ⟨c3, H4⟩
 ·refine Z1 c3 ?_
  refine zsq (ZT 1 ?_)
  refine Z1 c3 ?_
  refine zsq (zsq ?_)
  refine ZT 1 ?_
  refine Z1 c3 ?_
  obtain ⟨e_, E5, H6⟩ := zbi H4
  refine zjn (α := { y : List ByteArray // e_ = y } × Nat) (fun | ⟨⟨own3, _⟩, g3⟩ => ⟨upd 2 (.pt 0 0) (upd 5 (accV 1 g3 (List.map eS own3)) noFr), upd 0 (some (.bx [.d (.sl (List.map eS p.users)) true, .d (.sl (List.map eS p.roles)) true, .d (.sl (List.map eGPair p.inherit)) true, .d (.sl (List.map eGPair p.assign)) true, .d (.sl (List.map eGGrant p.grants)) true, .d (.sl (List.map eGSod p.ssd)) true, .d (.sl (List.map eGSod p.dsd)) true, .d (.sl (List.map eGSession p.sessions)) true])) (upd 1 (accO 1 g3 false (List.map eS own3)) noHp), 2⟩) ?_ ?_
  ·refine zbk ?_
   refine zlp (α := { q : (Nat × (List ByteArray × Int)) × Nat // sess_Roles_L1 n p user q.1.1 q.1.2 = some e_ }) (fun | ⟨⟨⟨c, ⟨own, t16⟩⟩, g⟩, _⟩ => ⟨upd 1 (.v (.string user)) (upd 2 (.pt 0 0) (upd 5 (accV 1 g (List.map eS own)) (upd 14 (.d (.sl (List.map eGPair p.assign)) true) (upd 15 (.v (.int .i64 (p.assign.length : Int))) (upd 16 (.v (.int .i64 t16)) noFr))))), upd 0 (some (.bx [.d (.sl (List.map eS p.users)) true, .d (.sl (List.map eS p.roles)) true, .d (.sl (List.map eGPair p.inherit)) true, .d (.sl (List.map eGPair p.assign)) true, .d (.sl (List.map eGGrant p.grants)) true, .d (.sl (List.map eGSod p.ssd)) true, .d (.sl (List.map eGSod p.dsd)) true, .d (.sl (List.map eGSession p.sessions)) true])) (upd 1 (accO 1 g false (List.map eS own)) noHp), 2⟩) (fun q => q.1.1.1) ⟨((n, ([], 0)), 0), E5⟩ ?_ ?_
   ·exact ZR [(0, 0)]
   ·rintro ⟨⟨⟨c, ⟨own, t16⟩⟩, g⟩, L7⟩
    rcases c with _ | c
    ·exact Zx L7
    ·unfold sess_Roles_L1 at L7
     try dsimp only at L7
     refine ZT 1 ?_
     refine Z0 ?_
     rcases zit L7 with ⟨c18, H19⟩ | ⟨c18, H19⟩
     ·obtain ⟨x2, b20, H21⟩ := zbi H19
      obtain ⟨h22, h23⟩ := zix b20
      try simp only [Int.reduceToNat, Int.toNat_natCast] at h23
      have h24 := map_at eGPair h23
      refine Z1 (Y3 c18 (zno .i64 h22) h24) ?_
      rcases zit H21 with ⟨c26, H27⟩ | ⟨c26, H27⟩
      ·obtain ⟨l, b28, H29⟩ := zbi H27
       obtain ⟨h30, h31⟩ := app_inv b28
       have h30 : own.length + 1 ≤ 4294967296 := h30
       have h32 : List.map eS own ++ [[.v (.string x2.b)]] = List.map eS l := app_map eS h31
       have h33 : own.length + 1 = l.length := app_len h31
       have h34 : l.length ≤ 4294967296 := by omega
       have q35 : 0 < l.length := by omega
       refine Z1 (Y2 (Y6 c18 (zno .i64 h22) h24 c26 h30 h32) (Y2 h33 h34)) ?_
       rcases own with _ | ⟨q0, q1⟩
       ·try simp only [List.map_nil, accI, accN]
        exact ⟨⟨((c, (l, (IntKind.i64.wrap (t16 + 1)))), 0), H29⟩, ZR [(0, 0), (1, 15)], Nat.lt_succ_self _⟩
       ·try simp only [List.map_cons, accI, accN]
        exact ⟨⟨((c, (l, (IntKind.i64.wrap (t16 + 1)))), (g + 1)), H29⟩, ZR [(0, 0), (1, 1)], Nat.lt_succ_self _⟩
      ·refine Z1 (Y4 c18 (zno .i64 h22) h24 c26) ?_
       exact ⟨⟨((c, (own, (IntKind.i64.wrap (t16 + 1)))), g), H27⟩, ZR [(0, 0), (1, 1)], Nat.lt_succ_self _⟩
     ·refine Z1 c18 ?_
      obtain rfl := Zi H19
      exact ⟨⟨⟨own, rfl⟩, g⟩, ZR [(0, 0), (1, 1)]⟩
  ·rintro ⟨⟨own3, he38⟩, g3⟩
   obtain rfl := he38.symm
   try dsimp only at H6
   refine ZT 1 ?_
   obtain ⟨t32, b36, H37⟩ := zbi H6
   refine Z0 ?_
   refine ZC0 (sess_closed_ok b36) ?_
   refine Z0 ?_
   obtain rfl := Zi H37
   exact ZE0
 ·refine Z1 c3 ?_
  obtain rfl := Zi H4
  exact ZE0
def sess_granted_c1 (n : Nat) (g : GGrant) (c2 : ByteArray) (c3 : ByteArray) (c4 : List ByteArray) : Option Bool :=
 (if (g.op.toList == c2.toList) then
  (if (g.obj.toList == c3.toList) then
   (slices_Contains_string n c4 g.role).bind fun t20 =>
   some t20
  else
   some false)
 else
  some false)
theorem sess_granted_c1_ok {n : Nat} {g : GGrant} {c2 : ByteArray} {c3 : ByteArray} {c4 : List ByteArray} {r : Bool} (H : sess_granted_c1 n g c2 c3 c4 = some r) : PureOK Try.prog 83 [D.ag (eGGrant g), D.pt [D.v (.string c2)] 0, D.pt [D.v (.string c3)] 0, D.pt [D.sl (List.map eS c4)] 0] (D.v (.bool r)) true := by
 unfold sess_granted_c1 at H
 refine ZP tab_ok fol (rs := #[.tmp 5]) Try.func83 ?_
 refine ZT 1 ?_
 refine Z0 ?_
 rcases zit H with ⟨c1, H2⟩ | ⟨c1, H2⟩
 ·refine Z1 c1 ?_
  rcases zit H2 with ⟨c3, H4⟩ | ⟨c3, H4⟩
  ·obtain ⟨t20, b5, H6⟩ := zbi H4
   refine Z1 (Y2 c1 c3) ?_
   refine ZC0 (slices_Contains_string_ok b5) ?_
   refine Z1 (Y2 c1 c3) ?_
   obtain rfl := Zi H6
   exact ZE0
  ·refine Z1 (Y2 c1 c3) ?_
   obtain rfl := Zi H4
   exact ZE0
 ·refine Z1 c1 ?_
  obtain rfl := Zi H2
  exact ZE0
def slices_IndexFunc_Grant__sess_granted_c1_L1 (n : Nat) (s : List GGrant) (c2 : ByteArray) (c3 : ByteArray) (c4 : List ByteArray) : Nat → Int → Option ((Unit) ⊕ Int)
 | 0, _ => none
 | c + 1, t8 =>
  (if (decide (t8 < (s.length : Int))) then
   (idx s t8).bind fun x2 =>
   (sess_granted_c1 n x2 c2 c3 c4).bind fun t162 =>
   (if t162 then
    some (.inr t8)
   else
    slices_IndexFunc_Grant__sess_granted_c1_L1 n s c2 c3 c4 c (IntKind.i64.wrap (t8 + 1)))
  else
   some (.inl ()))
def slices_IndexFunc_Grant__sess_granted_c1 (n : Nat) (s : List GGrant) (c2 : ByteArray) (c3 : ByteArray) (c4 : List ByteArray) : Option Int :=
 (
  slices_IndexFunc_Grant__sess_granted_c1_L1 n s c2 c3 c4 n 0 : Option ((Unit) ⊕ Int)).bind fun
  | .inl _ =>
   some (-1)
  | .inr r => some r
theorem slices_IndexFunc_Grant__sess_granted_c1_ok {n : Nat} {s : List GGrant} {c2 : ByteArray} {c3 : ByteArray} {c4 : List ByteArray} {r : Int} (H : slices_IndexFunc_Grant__sess_granted_c1 n s c2 c3 c4 = some r) : PureA Try.prog 97 [.d (D.sl (List.map eGGrant s)), .fn 83 [D.pt [D.v (.string c2)] 0, D.pt [D.v (.string c3)] 0, D.pt [D.sl (List.map eS c4)] 0]] (D.v (.int .i64 r)) true := by
 unfold slices_IndexFunc_Grant__sess_granted_c1 at H
 refine ZPA tab_ok fol (rs := #[.tmp 4]) Try.func97 ?_
 refine zsq (ZT 1 ?_)
 refine Z0 ?_
 refine zsq (zsq ?_)
 refine ZT 1 ?_
 refine Z0 ?_
 obtain ⟨e_, E1, H2⟩ := zbi H
 refine zjn (α := { y : Unit // e_ = .inl y }) (fun | ⟨_, _⟩ => ⟨noFr, noHp, 0⟩) ?_ ?_
 ·refine zbk ?_
  refine zlp (α := { q : Nat × Int // slices_IndexFunc_Grant__sess_granted_c1_L1 n s c2 c3 c4 q.1 q.2 = some e_ }) (fun | ⟨⟨c, t8⟩, _⟩ => ⟨upd 0 (.d (.sl (List.map eGGrant s)) true) (upd 1 (.fn 83 [.d (.pt [.v (.string c2)] 0) true, .d (.pt [.v (.string c3)] 0) true, .d (.pt [.sl (List.map eS c4)] 0) true]) (upd 7 (.v (.int .i64 (s.length : Int))) (upd 8 (.v (.int .i64 t8)) noFr))), noHp, 0⟩) (fun q => q.1.1) ⟨(n, 0), E1⟩ ?_ ?_
  ·exact ZR []
  ·rintro ⟨⟨c, t8⟩, L3⟩
   rcases c with _ | c
   ·exact Zx L3
   ·unfold slices_IndexFunc_Grant__sess_granted_c1_L1 at L3
    try dsimp only at L3
    refine ZT 1 ?_
    refine Z0 ?_
    rcases zit L3 with ⟨c16, H17⟩ | ⟨c16, H17⟩
    ·obtain ⟨x2, b18, H19⟩ := zbi H17
     obtain ⟨h20, h21⟩ := zix b18
     try simp only [Int.reduceToNat, Int.toNat_natCast] at h21
     have h22 := map_at eGGrant h21
     obtain ⟨t162, b24, H25⟩ := zbi H19
     refine Z1 (Y3 c16 (zno .i64 h20) h22) ?_
     refine ZC0 (sess_granted_c1_ok b24) ?_
     refine Z1 (Y3 c16 (zno .i64 h20) h22) ?_
     rcases zit H25 with ⟨c26, H27⟩ | ⟨c26, H27⟩
     ·refine Z1 (Y4 c16 (zno .i64 h20) h22 c26) ?_
      obtain rfl := Zi H27
      obtain rfl := Zi H2
      exact ZE0
     ·refine Z1 (Y4 c16 (zno .i64 h20) h22 c26) ?_
      exact ⟨⟨(c, (IntKind.i64.wrap (t8 + 1))), H27⟩, ZR [], Nat.lt_succ_self _⟩
    ·refine Z1 c16 ?_
     obtain rfl := Zi H17
     exact ⟨⟨(), rfl⟩, ZR []⟩
 ·rintro ⟨_, he28⟩
  obtain rfl := he28.symm
  try dsimp only at H2
  refine ZT 1 ?_
  refine Z0 ?_
  obtain rfl := Zi H2
  exact ZE0
def slices_ContainsFunc_Grant__sess_granted_c1 (n : Nat) (s : List GGrant) (c2 : ByteArray) (c3 : ByteArray) (c4 : List ByteArray) : Option Bool :=
 (slices_IndexFunc_Grant__sess_granted_c1 n s c2 c3 c4).bind fun t7 =>
 some (decide (0 ≤ t7))
theorem slices_ContainsFunc_Grant__sess_granted_c1_ok {n : Nat} {s : List GGrant} {c2 : ByteArray} {c3 : ByteArray} {c4 : List ByteArray} {r : Bool} (H : slices_ContainsFunc_Grant__sess_granted_c1 n s c2 c3 c4 = some r) : PureA Try.prog 82 [.d (D.sl (List.map eGGrant s)), .fn 83 [D.pt [D.v (.string c2)] 0, D.pt [D.v (.string c3)] 0, D.pt [D.sl (List.map eS c4)] 0]] (D.v (.bool r)) true := by
 unfold slices_ContainsFunc_Grant__sess_granted_c1 at H
 refine ZPA tab_ok fol (rs := #[.tmp 4]) Try.func82 ?_
 refine ZT 1 ?_
 obtain ⟨t7, b1, H2⟩ := zbi H
 refine Z0 ?_
 refine ZA0 (slices_IndexFunc_Grant__sess_granted_c1_ok b1) ?_
 refine Z0 ?_
 obtain rfl := Zi H2
 exact ZE0
def sess_granted (n : Nat) (p : GRoles) (roles : List ByteArray) (op : ByteArray) (obj : ByteArray) : Option Bool :=
 (slices_ContainsFunc_Grant__sess_granted_c1 n p.grants op obj roles).bind fun t12 =>
 some t12
theorem sess_granted_ok {n : Nat} {p : GRoles} {roles : List ByteArray} {op : ByteArray} {obj : ByteArray} {r : Bool} (H : sess_granted n p roles op obj = some r) : PureOK Try.prog 56 [D.ag (eGRoles p), D.sl (List.map eS roles), D.v (.string op), D.v (.string obj)] (D.v (.bool r)) true := by
 unfold sess_granted at H
 refine ZP tab_ok fol (rs := #[.tmp 8]) Try.func56 ?_
 refine ZT 1 ?_
 obtain ⟨t12, b1, H2⟩ := zbi H
 refine Z0 ?_
 refine ZA0 (slices_ContainsFunc_Grant__sess_granted_c1_ok b1) ?_
 refine Z0 ?_
 obtain rfl := Zi H2
 exact ZE0
def sess_May (n : Nat) (p : GRoles) (user : ByteArray) (op : ByteArray) (obj : ByteArray) : Option Bool :=
 (sess_Roles n p user).bind fun t12 =>
 (sess_granted n p t12 op obj).bind fun t15 =>
 some t15
theorem sess_May_ok {n : Nat} {p : GRoles} {user : ByteArray} {op : ByteArray} {obj : ByteArray} {r : Bool} (H : sess_May n p user op obj = some r) : PureOK Try.prog 29 [D.ag (eGRoles p), D.v (.string user), D.v (.string op), D.v (.string obj)] (D.v (.bool r)) true := by
 unfold sess_May at H
 refine ZP tab_ok fol (rs := #[.tmp 8]) Try.func29 ?_
 refine ZT 1 ?_
 obtain ⟨t12, b1, H2⟩ := zbi H
 refine Z0 ?_
 refine ZD0 (sess_Roles_ok b1) ?_
 obtain ⟨t15, b3, H4⟩ := zbi H2
 refine Z0 ?_
 refine ZD0 (sess_granted_ok b3) ?_
 refine Z0 ?_
 refine Rd_endF (by rfl) ?_
 refine Z0 ?_
 obtain rfl := Zi H4
 exact ZE0
def sess_Active_L1 (n : Nat) (p : GRoles) (session : ByteArray) : Nat → Int → Option ((Unit) ⊕ (List ByteArray))
 | 0, _ => none
 | c + 1, t10 =>
  (if (decide (t10 < (p.sessions.length : Int))) then
   (idx p.sessions t10).bind fun x2 =>
   (if (x2.name.toList == session.toList) then
    (sess_closed n p x2.roles).bind fun t212 =>
    some (.inr t212)
   else
    sess_Active_L1 n p session c (IntKind.i64.wrap (t10 + 1)))
  else
   some (.inl ()))
def sess_Active_L1_f (n : Nat) (p : GRoles) (session : ByteArray) (st : Unit) (x2 : GSession) (k : Unit → Option ((Unit) ⊕ (List ByteArray))) : Option ((Unit) ⊕ (List ByteArray)) :=
 match st with
 | _ =>
  (if (x2.name.toList == session.toList) then
   (sess_closed n p x2.roles).bind fun t212 =>
   some (.inr t212)
  else
   k ())
def sess_Active_L1_e (_ : Nat) (_ : GRoles) (_ : ByteArray) (st : Unit) : Option ((Unit) ⊕ (List ByteArray)) :=
 match st with
 | _ => some (.inl ())
theorem sess_Active_L1_list (n : Nat) (p : GRoles) (session : ByteArray) (hx : p.sessions.length < 4611686018427387904) (c : Nat) (st : Unit) (ix : Nat) (hi : ix ≤ p.sessions.length) (hc : p.sessions.length - ix < c) : sess_Active_L1 n p session c (match st, (ix : Int) with | _, ix => ix) = foldK (sess_Active_L1_f n p session) (sess_Active_L1_e n p session) (p.sessions.drop ix) st :=
 loop_list (fun c st ix => sess_Active_L1 n p session c (match st, ix with | _, ix => ix)) p.sessions (sess_Active_L1_f n p session) (sess_Active_L1_e n p session) (fun _ _ _ => rfl) hx c st ix hi hc
def sess_Active (n : Nat) (p : GRoles) (session : ByteArray) : Option (List ByteArray) :=
 (
  sess_Active_L1 n p session n 0 : Option ((Unit) ⊕ (List ByteArray))).bind fun
  | .inl _ =>
   some []
  | .inr r => some r
theorem sess_Active_ok {n : Nat} {p : GRoles} {session : ByteArray} {r : List ByteArray} (H : sess_Active n p session = some r) : PureOK Try.prog 38 [D.ag (eGRoles p), D.v (.string session)] (D.sl (List.map eS r)) true := by
 unfold sess_Active at H
 refine ZP tab_ok fol (rs := #[.tmp 4]) Try.func38 ?_
 refine zsq (ZT 1 ?_)
 refine Z0 ?_
 refine zsq (zsq ?_)
 refine ZT 1 ?_
 refine Z0 ?_
 obtain ⟨e_, E1, H2⟩ := zbi H
 refine zjn (α := { y : Unit // e_ = .inl y }) (fun | ⟨_, _⟩ => ⟨noFr, noHp, 0⟩) ?_ ?_
 ·refine zbk ?_
  refine zlp (α := { q : Nat × Int // sess_Active_L1 n p session q.1 q.2 = some e_ }) (fun | ⟨⟨c, t10⟩, _⟩ => ⟨upd 1 (.v (.string session)) (upd 2 (.pt 0 0) (upd 8 (.d (.sl (List.map eGSession p.sessions)) true) (upd 9 (.v (.int .i64 (p.sessions.length : Int))) (upd 10 (.v (.int .i64 t10)) noFr)))), upd 0 (some (.bx [.d (.sl (List.map eS p.users)) true, .d (.sl (List.map eS p.roles)) true, .d (.sl (List.map eGPair p.inherit)) true, .d (.sl (List.map eGPair p.assign)) true, .d (.sl (List.map eGGrant p.grants)) true, .d (.sl (List.map eGSod p.ssd)) true, .d (.sl (List.map eGSod p.dsd)) true, .d (.sl (List.map eGSession p.sessions)) true])) noHp, 1⟩) (fun q => q.1.1) ⟨(n, 0), E1⟩ ?_ ?_
  ·exact ZR [(0, 0)]
  ·rintro ⟨⟨c, t10⟩, L3⟩
   rcases c with _ | c
   ·exact Zx L3
   ·unfold sess_Active_L1 at L3
    try dsimp only at L3
    refine ZT 1 ?_
    refine Z0 ?_
    rcases zit L3 with ⟨c16, H17⟩ | ⟨c16, H17⟩
    ·obtain ⟨x2, b18, H19⟩ := zbi H17
     obtain ⟨h20, h21⟩ := zix b18
     try simp only [Int.reduceToNat, Int.toNat_natCast] at h21
     have h22 := map_at eGSession h21
     refine Z1 (Y3 c16 (zno .i64 h20) h22) ?_
     rcases zit H19 with ⟨c24, H25⟩ | ⟨c24, H25⟩
     ·obtain ⟨t212, b26, H27⟩ := zbi H25
      refine Z1 (Y4 c16 (zno .i64 h20) h22 c24) ?_
      refine ZC0 (sess_closed_ok b26) ?_
      refine Z1 (Y4 c16 (zno .i64 h20) h22 c24) ?_
      obtain rfl := Zi H27
      obtain rfl := Zi H2
      exact ZE0
     ·refine Z1 (Y4 c16 (zno .i64 h20) h22 c24) ?_
      exact ⟨⟨(c, (IntKind.i64.wrap (t10 + 1))), H25⟩, ZR [(0, 0)], Nat.lt_succ_self _⟩
    ·refine Z1 c16 ?_
     obtain rfl := Zi H17
     exact ⟨⟨(), rfl⟩, ZR []⟩
 ·rintro ⟨_, he28⟩
  obtain rfl := he28.symm
  try dsimp only at H2
  refine ZT 1 ?_
  refine Z0 ?_
  obtain rfl := Zi H2
  exact ZE0
def sess_MayIn (n : Nat) (p : GRoles) (session : ByteArray) (op : ByteArray) (obj : ByteArray) : Option Bool :=
 (sess_Active n p session).bind fun t12 =>
 (sess_granted n p t12 op obj).bind fun t15 =>
 some t15
theorem sess_MayIn_ok {n : Nat} {p : GRoles} {session : ByteArray} {op : ByteArray} {obj : ByteArray} {r : Bool} (H : sess_MayIn n p session op obj = some r) : PureOK Try.prog 36 [D.ag (eGRoles p), D.v (.string session), D.v (.string op), D.v (.string obj)] (D.v (.bool r)) true := by
 unfold sess_MayIn at H
 refine ZP tab_ok fol (rs := #[.tmp 8]) Try.func36 ?_
 refine ZT 1 ?_
 obtain ⟨t12, b1, H2⟩ := zbi H
 refine Z0 ?_
 refine ZD0 (sess_Active_ok b1) ?_
 obtain ⟨t15, b3, H4⟩ := zbi H2
 refine Z0 ?_
 refine ZD0 (sess_granted_ok b3) ?_
 refine Z0 ?_
 refine Rd_endF (by rfl) ?_
 refine Z0 ?_
 obtain rfl := Zi H4
 exact ZE0
def ref1_SameTexts_L1 (n : Nat) (a : List ByteArray) (b : List ByteArray) : Nat → Int → Option ((Unit) ⊕ Bool)
 | 0, _ => none
 | c + 1, i =>
  (if (decide (i < (a.length : Int))) then
   (idx a i).bind fun x3 =>
   (idx b i).bind fun x4 =>
   (if (x3.toList == x4.toList) then
    ref1_SameTexts_L1 n a b c (IntKind.i64.wrap (i + 1))
   else
    some (.inr false))
  else
   some (.inl ()))
def ref1_SameTexts (n : Nat) (a : List ByteArray) (b : List ByteArray) : Option Bool :=
 (if ((a.length : Int) != (b.length : Int)) then
  some false
 else
  (
   ref1_SameTexts_L1 n a b n 0 : Option ((Unit) ⊕ Bool)).bind fun
   | .inl _ =>
    some true
   | .inr r => some r)
theorem ref1_SameTexts_ok {n : Nat} {a : List ByteArray} {b : List ByteArray} {r : Bool} (H : ref1_SameTexts n a b = some r) : PureOK Try.prog 19 [D.sl (List.map eS a), D.sl (List.map eS b)] (D.v (.bool r)) true := by
 unfold ref1_SameTexts at H
 refine ZP tab_ok fol (rs := #[.tmp 4]) Try.func19 ?_
 refine zsq (ZT 1 ?_)
 refine Z0 ?_
 refine zsq (ZT 1 ?_)
 refine Z0 ?_
 rcases zit H with ⟨c1, H2⟩ | ⟨c1, H2⟩
 ·refine Z1 c1 ?_
  obtain rfl := Zi H2
  exact ZE0
 ·refine Z1 c1 ?_
  refine zsq (zsq ?_)
  refine ZT 1 ?_
  refine Z1 c1 ?_
  obtain ⟨e_, E3, H4⟩ := zbi H2
  refine zjn (α := { y : Unit // e_ = .inl y }) (fun | ⟨_, _⟩ => ⟨noFr, noHp, 0⟩) ?_ ?_
  ·refine zbk ?_
   refine zlp (α := { q : Nat × Int // ref1_SameTexts_L1 n a b q.1 q.2 = some e_ }) (fun | ⟨⟨c, i⟩, _⟩ => ⟨upd 0 (.d (.sl (List.map eS a)) true) (upd 1 (.d (.sl (List.map eS b)) true) (upd 5 (.v (.int .i64 i)) noFr)), noHp, 0⟩) (fun q => q.1.1) ⟨(n, 0), E3⟩ ?_ ?_
   ·exact ZR []
   ·rintro ⟨⟨c, i⟩, L5⟩
    rcases c with _ | c
    ·exact Zx L5
    ·unfold ref1_SameTexts_L1 at L5
     try dsimp only at L5
     refine ZT 1 ?_
     refine Z0 ?_
     rcases zit L5 with ⟨c22, H23⟩ | ⟨c22, H23⟩
     ·obtain ⟨x3, b24, H25⟩ := zbi H23
      obtain ⟨h26, h27⟩ := zix b24
      try simp only [Int.reduceToNat, Int.toNat_natCast] at h27
      have h28 := map_at eS h27
      obtain ⟨x4, b30, H31⟩ := zbi H25
      obtain ⟨h32, h33⟩ := zix b30
      try simp only [Int.reduceToNat, Int.toNat_natCast] at h33
      have h34 := map_at eS h33
      refine Z1 (Y5 c22 (zno .i64 h26) h28 (zno .i64 h32) h34) ?_
      refine Rd_endF (by rfl) ?_
      refine Z1 (Y5 c22 (zno .i64 h26) h28 (zno .i64 h32) h34) ?_
      rcases zit H31 with ⟨c36, H37⟩ | ⟨c36, H37⟩
      ·refine Z1 (Y6 c22 (zno .i64 h26) h28 (zno .i64 h32) h34 c36) ?_
       exact ⟨⟨(c, (IntKind.i64.wrap (i + 1))), H37⟩, ZR [], Nat.lt_succ_self _⟩
      ·refine Z1 (Y6 c22 (zno .i64 h26) h28 (zno .i64 h32) h34 c36) ?_
       obtain rfl := Zi H37
       obtain rfl := Zi H4
       exact ZE0
     ·refine Z1 c22 ?_
      obtain rfl := Zi H23
      exact ⟨⟨(), rfl⟩, ZR []⟩
  ·rintro ⟨_, he38⟩
   obtain rfl := he38.symm
   try dsimp only at H4
   refine ZT 1 ?_
   refine Z0 ?_
   obtain rfl := Zi H4
   exact ZE0
def ref1_Texts_L1 (n : Nat) (t19 : List ByteArray) (t25 : List ByteArray) : Nat → (List ByteArray × Int × Int) → Option (List ByteArray)
 | 0, _ => none
 | c + 1, (t5, t6, t7) =>
  (
   (if (decide (t6 < (t19.length : Int))) then
    some true
   else
    some (decide (t7 < (t25.length : Int)))) : Option (Bool)).bind fun t352 =>
  (if t352 then
   (
    (if (t7 == (t25.length : Int)) then
     some true
    else
     (if (decide (t6 < (t19.length : Int))) then
      (idx t19 t6).bind fun x7 =>
      (idx t25 t7).bind fun x8 =>
      some (Op.bytesLess x7.toList x8.toList)
     else
      some false)) : Option (Bool)).bind fun t382 =>
   (if t382 then
    (idx t19 t6).bind fun x9 =>
    (app t5 [x9]).bind fun l4 =>
    ref1_Texts_L1 n t19 t25 c (l4, (IntKind.i64.wrap (t6 + 1)), t7)
   else
    (if (t6 == (t19.length : Int)) then
     (idx t25 t7).bind fun x10 =>
     (app t5 [x10]).bind fun l5 =>
     ref1_Texts_L1 n t19 t25 c (l5, t6, (IntKind.i64.wrap (t7 + 1)))
    else
     (idx t25 t7).bind fun x11 =>
     (idx t19 t6).bind fun x12 =>
     (if (Op.bytesLess x11.toList x12.toList) then
      (app t5 [x11]).bind fun l6 =>
      ref1_Texts_L1 n t19 t25 c (l6, t6, (IntKind.i64.wrap (t7 + 1)))
     else
      ref1_Texts_L1 n t19 t25 c (t5, (IntKind.i64.wrap (t6 + 1)), t7))))
  else
   some t5)
def ref1_Texts : Nat → (List ByteArray) → Option (List ByteArray)
 | 0, _ => none
 | n + 1, t0 =>
  (if (decide ((t0.length : Int) < 2)) then
   (app [] t0).bind fun _ =>
   some t0
  else
   (slc t0 0 (IntKind.i64.wrap (Int.tdiv (t0.length : Int) 2))).bind fun l2 =>
   ((ref1_Texts n) l2).bind fun t19 =>
   (slc t0 (IntKind.i64.wrap (Int.tdiv (t0.length : Int) 2)) ((List.length t0) : Int)).bind fun l3 =>
   ((ref1_Texts n) l3).bind fun t25 =>
   (
    ref1_Texts_L1 n t19 t25 n ([], 0, 0) : Option (List ByteArray)).bind fun t53 =>
   some t53)
set_option maxHeartbeats 8000000 in
theorem ref1_Texts_ok : ∀ {n : Nat} {t0 : List ByteArray} {r : List ByteArray}, ref1_Texts n t0 = some r → PureOK Try.prog 25 [D.sl (List.map eS t0)] (D.sl (List.map eS r)) true := by
 intro n
 induction n with
 | zero => intro t0 r H; exact Zx H
 | succ n ih =>
  intro t0 r H
  unfold ref1_Texts at H
  refine ZP tab_ok fol (rs := #[.tmp 2]) Try.func25 ?_
  refine zsq (ZT 1 ?_)
  refine Z0 ?_
  refine zsq (ZT 1 ?_)
  refine Z0 ?_
  rcases zit H with ⟨c1, H2⟩ | ⟨c1, H2⟩
  ·obtain ⟨l, b3, H4⟩ := zbi H2
   obtain ⟨h5, h6⟩ := app_inv b3
   have h6 : t0 = l := h6
   subst h6
   have h5 : t0.length ≤ 4294967296 := by have := h5; simpa using this
   refine Z1 (Y4 c1 (plainR_map (f := eS) (fun _ => rfl) t0) (chk_map (n := 1) (f := eS) (fun _ => rfl) t0) h5) ?_
   obtain rfl := Zi H4
   exact ZE1 (Y4 c1 (plainR_map (f := eS) (fun _ => rfl) t0) (chk_map (n := 1) (f := eS) (fun _ => rfl) t0) h5)
  ·refine Z1 c1 ?_
   refine zsq (ZT 1 ?_)
   obtain ⟨l2, b9, H10⟩ := zbi H2
   obtain ⟨h11, h12, h13, h14⟩ := slc_inv b9
   have h15 : 0 ≤ Int.toNat (IntKind.i64.wrap (Int.tdiv (t0.length : Int) 2)) := by omega
   have h16 : Int.toNat (IntKind.i64.wrap (Int.tdiv (t0.length : Int) 2)) ≤ (List.length t0) := by omega
   have h17 : List.take (Int.toNat (IntKind.i64.wrap (Int.tdiv (t0.length : Int) 2))) (List.map eS t0) = List.map eS l2 := by rw [h14]; simp [List.map_take]
   try simp only [Int.toNat_natCast] at h15 h16 h17
   obtain ⟨t19, b18, H19⟩ := zbi H10
   refine Z1 (Y6 c1 (zno .i64 (Int.le_trans h11 h12)) h15 h16 h17 (chk_map (n := 1) (f := eS) (fun _ => rfl) t0)) ?_
   refine ZD0 (ih b18) ?_
   obtain ⟨l3, b20, H21⟩ := zbi H19
   obtain ⟨h22, h23, h24, h25⟩ := slc_inv b20
   have h26 : Int.toNat (IntKind.i64.wrap (Int.tdiv (t0.length : Int) 2)) ≤ (List.length t0) := by omega
   have h27 : (List.length t0) ≤ (List.length t0) := by omega
   have h28 : List.drop (Int.toNat (IntKind.i64.wrap (Int.tdiv (t0.length : Int) 2))) (List.map eS t0) = List.map eS l3 := by rw [h25]; simp [List.map_drop]
   try simp only [Int.toNat_natCast] at h26 h27 h28
   obtain ⟨t25, b29, H30⟩ := zbi H21
   refine Z1 (Y2 (Y6 c1 (zno .i64 (Int.le_trans h11 h12)) h15 h16 h17 (chk_map (n := 1) (f := eS) (fun _ => rfl) t0)) (Y4 (zno .i64 h22) h26 h27 h28)) ?_
   refine ZD0 (ih b29) ?_
   refine Z1 (Y2 (Y6 c1 (zno .i64 (Int.le_trans h11 h12)) h15 h16 h17 (chk_map (n := 1) (f := eS) (fun _ => rfl) t0)) (Y4 (zno .i64 h22) h26 h27 h28)) ?_
   refine Rd_endF (by rfl) ?_
   refine Z1 (Y2 (Y6 c1 (zno .i64 (Int.le_trans h11 h12)) h15 h16 h17 (chk_map (n := 1) (f := eS) (fun _ => rfl) t0)) (Y4 (zno .i64 h22) h26 h27 h28)) ?_
   refine zsq (ZT 1 ?_)
   refine Z1 (Y2 (Y6 c1 (zno .i64 (Int.le_trans h11 h12)) h15 h16 h17 (chk_map (n := 1) (f := eS) (fun _ => rfl) t0)) (Y4 (zno .i64 h22) h26 h27 h28)) ?_
   refine zsq (ZT 1 ?_)
   refine Z1 (Y2 (Y6 c1 (zno .i64 (Int.le_trans h11 h12)) h15 h16 h17 (chk_map (n := 1) (f := eS) (fun _ => rfl) t0)) (Y4 (zno .i64 h22) h26 h27 h28)) ?_
   refine zsq ?_
   obtain ⟨e_, E31, H32⟩ := zbi H30
   refine zjn (α := { y : List ByteArray // e_ = y } × Nat) (fun | ⟨⟨t53, _⟩, g5⟩ => ⟨upd 5 (accV 0 g5 (List.map eS t53)) noFr, upd 0 (accO 1 g5 false (List.map eS t53)) noHp, 1⟩) ?_ ?_
   ·refine zbk ?_
    refine zlp (α := { q : (Nat × (List ByteArray × Int × Int)) × Nat // ref1_Texts_L1 n t19 t25 q.1.1 q.1.2 = some e_ }) (fun | ⟨⟨⟨c, ⟨t5, t6, t7⟩⟩, g⟩, _⟩ => ⟨upd 3 (.d (.sl (List.map eS t19)) false) (upd 4 (.d (.sl (List.map eS t25)) false) (upd 5 (accV 0 g (List.map eS t5)) (upd 6 (.v (.int .i64 t6)) (upd 7 (.v (.int .i64 t7)) noFr)))), upd 0 (accO 1 g false (List.map eS t5)) noHp, 1⟩) (fun q => q.1.1.1) ⟨((n, ([], 0, 0)), 0), E31⟩ ?_ ?_
    ·exact ZR []
    ·rintro ⟨⟨⟨c, ⟨t5, t6, t7⟩⟩, g⟩, L33⟩
     rcases c with _ | c
     ·exact Zx L33
     ·unfold ref1_Texts_L1 at L33
      try dsimp only at L33
      refine zsq (zsq ?_)
      obtain ⟨e_4, E90, H91⟩ := zbi L33
      refine zjn (α := { y : Bool // e_4 = y } × Nat) (fun | ⟨⟨t352, _⟩, g2⟩ => ⟨upd 3 (.d (.sl (List.map eS t19)) false) (upd 4 (.d (.sl (List.map eS t25)) false) (upd 5 (accV 0 g2 (List.map eS t5)) (upd 6 (.v (.int .i64 t6)) (upd 7 (.v (.int .i64 t7)) (upd 35 (.v (.bool t352)) noFr))))), upd 0 (accO 1 g2 false (List.map eS t5)) noHp, 1⟩) ?_ ?_
      ·refine ZT 1 ?_
       refine Z0 ?_
       rcases zit E90 with ⟨c92, H93⟩ | ⟨c92, H93⟩
       ·refine Z1 c92 ?_
        obtain rfl := Zi H93
        exact ⟨⟨⟨true, rfl⟩, g⟩, ZR [(0, 0)]⟩
       ·refine Z1 c92 ?_
        obtain rfl := Zi H93
        exact ⟨⟨⟨(decide (t7 < (t25.length : Int))), rfl⟩, g⟩, ZR [(0, 0)]⟩
      ·rintro ⟨⟨t352, he169⟩, g2⟩
       obtain rfl := he169.symm
       try dsimp only at H91
       refine ZT 1 ?_
       refine Z0 ?_
       rcases zit H91 with ⟨c94, H95⟩ | ⟨c94, H95⟩
       ·refine Z1 c94 ?_
        refine zbk ?_
        refine zbk ?_
        refine zsq ?_
        obtain ⟨e_5, E96, H97⟩ := zbi H95
        refine zjn (α := { y : Bool // e_5 = y } × Nat) (fun | ⟨⟨t382, _⟩, g3⟩ => ⟨upd 3 (.d (.sl (List.map eS t19)) false) (upd 4 (.d (.sl (List.map eS t25)) false) (upd 5 (accV 0 g3 (List.map eS t5)) (upd 6 (.v (.int .i64 t6)) (upd 7 (.v (.int .i64 t7)) (upd 38 (.v (.bool t382)) noFr))))), upd 0 (accO 1 g3 false (List.map eS t5)) noHp, 1⟩) ?_ ?_
        ·refine ZT 1 ?_
         refine Z0 ?_
         rcases zit E96 with ⟨c98, H99⟩ | ⟨c98, H99⟩
         ·refine Z1 c98 ?_
          refine Rd_endF (by rfl) ?_
          refine Z1 c98 ?_
          obtain rfl := Zi H99
          exact ⟨⟨⟨true, rfl⟩, g2⟩, ZR [(0, 0)]⟩
         ·refine Z1 c98 ?_
          rcases zit H99 with ⟨c100, H101⟩ | ⟨c100, H101⟩
          ·obtain ⟨x7, b102, H103⟩ := zbi H101
           obtain ⟨h104, h105⟩ := zix b102
           try simp only [Int.reduceToNat, Int.toNat_natCast] at h105
           have h106 := map_at eS h105
           obtain ⟨x8, b108, H109⟩ := zbi H103
           obtain ⟨h110, h111⟩ := zix b108
           try simp only [Int.reduceToNat, Int.toNat_natCast] at h111
           have h112 := map_at eS h111
           refine Z1 (Y6 c98 c100 (zno .i64 h104) h106 (zno .i64 h110) h112) ?_
           refine Rd_endF (by rfl) ?_
           refine Z1 (Y6 c98 c100 (zno .i64 h104) h106 (zno .i64 h110) h112) ?_
           obtain rfl := Zi H109
           exact ⟨⟨⟨(Op.bytesLess x7.toList x8.toList), rfl⟩, g2⟩, ZR [(0, 0)]⟩
          ·refine Z1 (Y2 c98 c100) ?_
           refine Rd_endF (by rfl) ?_
           refine Z1 (Y2 c98 c100) ?_
           obtain rfl := Zi H101
           exact ⟨⟨⟨false, rfl⟩, g2⟩, ZR [(0, 0)]⟩
        ·rintro ⟨⟨t382, he168⟩, g3⟩
         obtain rfl := he168.symm
         try dsimp only at H97
         refine ZT 3 ?_
         refine Z0 ?_
         rcases zit H97 with ⟨c114, H115⟩ | ⟨c114, H115⟩
         ·obtain ⟨x9, b116, H117⟩ := zbi H115
          obtain ⟨h118, h119⟩ := zix b116
          try simp only [Int.reduceToNat, Int.toNat_natCast] at h119
          have h120 := map_at eS h119
          obtain ⟨l4, b122, H123⟩ := zbi H117
          obtain ⟨h124, h125⟩ := app_inv b122
          have h124 : t5.length + 1 ≤ 4294967296 := h124
          have h126 : List.map eS t5 ++ [[.v (.string x9)]] = List.map eS l4 := app_map eS h125
          have h127 : t5.length + 1 = l4.length := app_len h125
          have h128 : l4.length ≤ 4294967296 := by omega
          have q129 : 0 < l4.length := by omega
          refine Z1 (Y2 (Y6 c114 (zno .i64 h118) h120 h124 h126 h127) h128) ?_
          rcases t5 with _ | ⟨q0, q1⟩
          ·try simp only [List.map_nil, accI, accN]
           exact ⟨⟨((c, (l4, (IntKind.i64.wrap (t6 + 1)), t7)), 0), H123⟩, ZR [(0, 7)], Nat.lt_succ_self _⟩
          ·try simp only [List.map_cons, accI, accN]
           exact ⟨⟨((c, (l4, (IntKind.i64.wrap (t6 + 1)), t7)), (g3 + 1)), H123⟩, ZR [(0, 0)], Nat.lt_succ_self _⟩
         ·refine Z1 c114 ?_
          rcases zit H115 with ⟨c130, H131⟩ | ⟨c130, H131⟩
          ·refine Z1 (Y2 c114 c130) ?_
           refine Rd_endF (by rfl) ?_
           obtain ⟨x10, b132, H133⟩ := zbi H131
           obtain ⟨h134, h135⟩ := zix b132
           try simp only [Int.reduceToNat, Int.toNat_natCast] at h135
           have h136 := map_at eS h135
           obtain ⟨l5, b138, H139⟩ := zbi H133
           obtain ⟨h140, h141⟩ := app_inv b138
           have h140 : t5.length + 1 ≤ 4294967296 := h140
           have h142 : List.map eS t5 ++ [[.v (.string x10)]] = List.map eS l5 := app_map eS h141
           have h143 : t5.length + 1 = l5.length := app_len h141
           have h144 : l5.length ≤ 4294967296 := by omega
           have q145 : 0 < l5.length := by omega
           refine Z1 (Y2 (Y6 c114 c130 (zno .i64 h134) h136 h140 h142) (Y2 h143 h144)) ?_
           rcases t5 with _ | ⟨q0, q1⟩
           ·try simp only [List.map_nil, accI, accN]
            exact ⟨⟨((c, (l5, t6, (IntKind.i64.wrap (t7 + 1)))), 0), H139⟩, ZR [(0, 23)], Nat.lt_succ_self _⟩
           ·try simp only [List.map_cons, accI, accN]
            exact ⟨⟨((c, (l5, t6, (IntKind.i64.wrap (t7 + 1)))), (g3 + 1)), H139⟩, ZR [(0, 0)], Nat.lt_succ_self _⟩
          ·obtain ⟨x11, b146, H147⟩ := zbi H131
           obtain ⟨h148, h149⟩ := zix b146
           try simp only [Int.reduceToNat, Int.toNat_natCast] at h149
           have h150 := map_at eS h149
           obtain ⟨x12, b152, H153⟩ := zbi H147
           obtain ⟨h154, h155⟩ := zix b152
           try simp only [Int.reduceToNat, Int.toNat_natCast] at h155
           have h156 := map_at eS h155
           refine Z1 (Y6 c114 c130 (zno .i64 h148) h150 (zno .i64 h154) h156) ?_
           refine Rd_endF (by rfl) ?_
           refine Z1 (Y6 c114 c130 (zno .i64 h148) h150 (zno .i64 h154) h156) ?_
           rcases zit H153 with ⟨c158, H159⟩ | ⟨c158, H159⟩
           ·obtain ⟨l6, b160, H161⟩ := zbi H159
            obtain ⟨h162, h163⟩ := app_inv b160
            have h162 : t5.length + 1 ≤ 4294967296 := h162
            have h164 : List.map eS t5 ++ [[.v (.string x11)]] = List.map eS l6 := app_map eS h163
            have h165 : t5.length + 1 = l6.length := app_len h163
            have h166 : l6.length ≤ 4294967296 := by omega
            have q167 : 0 < l6.length := by omega
            refine Z1 (Y2 (Y6 c114 c130 (zno .i64 h148) h150 (zno .i64 h154) h156) (Y5 c158 h162 h164 h165 h166)) ?_
            rcases t5 with _ | ⟨q0, q1⟩
            ·try simp only [List.map_nil, accI, accN]
             exact ⟨⟨((c, (l6, t6, (IntKind.i64.wrap (t7 + 1)))), 0), H161⟩, ZR [(0, 23)], Nat.lt_succ_self _⟩
            ·try simp only [List.map_cons, accI, accN]
             exact ⟨⟨((c, (l6, t6, (IntKind.i64.wrap (t7 + 1)))), (g3 + 1)), H161⟩, ZR [(0, 0)], Nat.lt_succ_self _⟩
           ·refine Z1 (Y2 (Y6 c114 c130 (zno .i64 h148) h150 (zno .i64 h154) h156) c158) ?_
            exact ⟨⟨((c, (t5, (IntKind.i64.wrap (t6 + 1)), t7)), g3), H159⟩, ZR [(0, 0)], Nat.lt_succ_self _⟩
       ·refine Z1 c94 ?_
        obtain rfl := Zi H95
        exact ⟨⟨⟨t5, rfl⟩, g2⟩, ZR [(0, 0)]⟩
   ·rintro ⟨⟨t53, he170⟩, g5⟩
    obtain rfl := he170.symm
    try dsimp only at H32
    refine ZT 1 ?_
    refine Z0 ?_
    obtain rfl := Zi H32
    exact ZE0
end Go.Proofs.Ytkkhgdmmbhpckaa.Ab
