/-
  Functions, read off the code.
-/
import Derived.Test.YtkkhgdmmbhpckaaGreatNms
import Derived.Test.YtkkhgdmmbhpckaaGreatRpg
import Derived.Test.YtkkhgdmmbhpckaaGreatOnn
import Derived.Test.YtkkhgdmmbhpckaaGreatSot
import Derived.Test.YtkkhgdmmbhpckaaGreatNld
namespace Go.Proofs.YtkkhgdmmbhpckaaGreat.Ab
open Go.RowKit
def norm_reach_L2 (n : Nat) (next : List (ByteArray × (List ByteArray))) (x3 : ByteArray) : Nat → (List (ByteArray × Int) × List ByteArray × Int) → Option (List (ByteArray × Int) × List ByteArray)
  | 0, _ => none
  | c + 1, (seen5, out5, t283) =>
    (if (decide (t283 < (((mgetD x3 [] next)).length : Int))) then
      (idx (mgetD x3 [] next) t283).bind fun x5 =>
      (if ((mgetD x5 0 seen5) == 0) then
        (app out5 [x5]).bind fun l3 =>
        norm_reach_L2 n next x3 c ((mset x5 1 seen5), l3, (IntKind.i64.wrap (t283 + 1)))
      else
        norm_reach_L2 n next x3 c (seen5, out5, (IntKind.i64.wrap (t283 + 1))))
    else
      some (seen5, out5))

def norm_reach_L1 (n : Nat) (next : List (ByteArray × (List ByteArray))) : Nat → (List (ByteArray × Int) × List ByteArray × Int) → Option (List ByteArray)
  | 0, _ => none
  | c + 1, (seen4, out4, i) =>
    (if (decide (i < (out4.length : Int))) then
      (idx out4 i).bind fun x3 =>
      (
        norm_reach_L2 n next x3 n (seen4, out4, 0) : Option (List (ByteArray × Int) × List ByteArray)).bind fun (seen7, out7) =>
      norm_reach_L1 n next c (seen7, out7, (IntKind.i64.wrap (i + 1)))
    else
      some out4)

def norm_reach (n : Nat) (role : ByteArray) (next : List (ByteArray × (List ByteArray))) : Option (List ByteArray) :=
  (
    norm_reach_L1 n next n ((mset role 1 []), [role], 0) : Option (List ByteArray)).bind fun out9 =>
  (sort_T n out9).bind fun l4 =>
  some l4
theorem norm_reach_ok {n : Nat} {role : ByteArray} {next : List (ByteArray × (List ByteArray))} {r : List ByteArray} (H : norm_reach n role next = some r) : PureOK Tryz.prog 26 [D.v (.string role), D.mp (encMp Value.string false (eL eS) next)] (D.sl (List.map eS r)) true := by
  unfold norm_reach at H
  refine pure_runR (tab := tab) tab_ok Tryz.func26 rfl (by kernel_rfl) (by kernel_rfl) (by simp [Tryz.f26]) ?_
  refine runR_seq ?_
  refine runR_take tab_ok fol 1 ?_
  try simp -implicitDefEqProofs only [go_sem]
  refine runR_seq ?_
  refine runR_take tab_ok fol 1 ?_
  try simp -implicitDefEqProofs only [go_sem, Nat.reduceEqDiff, Nat.reduceAdd, reduceCtorEq, ↓reduceIte]
  refine runR_seq ?_
  refine runR_take tab_ok fol 1 ?_
  try simp -implicitDefEqProofs only [go_sem, Nat.reduceLT, Nat.reduceEqDiff, Nat.reduceAdd, Nat.reduceLeDiff, reduceCtorEq, ↓reduceIte]
  refine runR_seq ?_
  refine runR_seq ?_
  refine runR_take tab_ok fol 1 ?_
  try simp -implicitDefEqProofs only [go_sem, Nat.reduceAdd]
  obtain ⟨e_, E1, H2⟩ := bind_inv H
  refine runR_join (α := { y : List ByteArray // e_ = y } × Nat) (fun | ⟨⟨out9, _⟩, g9⟩ => ⟨upd 6 (.so 0 g9 0 (out9.length)) noFr, upd 0 (some (.rw (List.map eS out9) 1 g9 false false)) noHp, 1⟩) ?_ ?_
  · refine runR_block ?_
    refine runR_loop (α := { q : (Nat × (List (ByteArray × Int) × List ByteArray × Int)) × Nat // norm_reach_L1 n next q.1.1 q.1.2 = some e_ }) (fun | ⟨⟨⟨c, ⟨seen4, out4, i⟩⟩, g4⟩, _⟩ => ⟨upd 1 (.d (.mp (encMp Value.string false (eL eS) next)) true) (upd 5 (.mo 0) (upd 6 (.so 1 g4 0 (out4.length)) (upd 7 (.v (.int .i64 i)) noFr))), upd 0 (some (.mo (encM Value.string vI seen4) false)) (upd 1 (some (.rw (List.map eS out4) 1 g4 false false)) noHp), 2⟩) (fun q => q.1.1.1) ⟨((n, ((mset role 1 []), [role], 0)), 0), E1⟩ ?_ ?_
    · exact ren_mk [(0, 1), (1, 7)] (by rfl) (rf_upd (by rfl) (rf_upd (by rfl) (rf_upd (by rfl) (rf_upd (by rfl) (rf_no _))))) (rh_upd (rh_one (by rfl) (renO_encM (fun _ => rfl) _ _) (by rfl)) (rh_upd (rh_one (by rfl) (by rfl) (by rfl)) (rh_no _)))
    · rintro ⟨⟨⟨c, ⟨seen4, out4, i⟩⟩, g4⟩, L3⟩
      rcases c with _ | c
      · exact nomatch (show none = some _ from L3)
      · unfold norm_reach_L1 at L3
        try dsimp only at L3
        refine runR_seq ?_
        refine runR_take tab_ok fol 1 ?_
        try simp -implicitDefEqProofs only [go_sem, Nat.reduceEqDiff, Nat.reduceAdd, ↓reduceIte]
        rcases ite_inv L3 with ⟨c37, H38⟩ | ⟨c37, H38⟩
        · try simp -implicitDefEqProofs only [go_sem, c37]
          refine runR_seq ?_
          refine runR_block ?_
          refine runR_seq ?_
          refine runR_take tab_ok fol 1 ?_
          obtain ⟨x3, b39, H40⟩ := bind_inv H38
          obtain ⟨h41, h42⟩ := idx_inv b39
          try simp only [Int.reduceToNat, Int.toNat_natCast] at h42
          have h43 := map_at eS h42
          have h44 := at_lt h42
          have h45 : lookA (false, [.string]) (.string x3) (.d (.sl []) true) false (dEnts true (encMp Value.string false (eL eS) next)) = some (.d (.sl (List.map eS (mgetD x3 [] next))) true, []) := lookD (b := true) (ag := false) (enc := (eL eS)) key_str x3 ([] : List ByteArray) false next
          try simp -implicitDefEqProofs only [go_sem, Nat.reduceEqDiff, Nat.reduceAdd, reduceCtorEq, ↓reduceIte, nat_of .i64 h41, h43, h44, h45]
          obtain ⟨e_3, E46, H47⟩ := bind_inv H40
          refine runR_join (α := { y : List (ByteArray × Int) × List ByteArray // e_3 = y } × Nat) (fun | ⟨⟨⟨seen7, out7⟩, _⟩, g7⟩ => ⟨upd 1 (.d (.mp (encMp Value.string false (eL eS) next)) true) (upd 5 (.mo 0) (upd 6 (.so 1 g7 0 (out7.length)) (upd 7 (.v (.int .i64 i)) noFr))), upd 0 (some (.mo (encM Value.string vI seen7) false)) (upd 1 (some (.rw (List.map eS out7) 1 g7 false false)) noHp), 2⟩) ?_ ?_
          · refine runR_block ?_
            refine runR_loop (α := { q : (Nat × (List (ByteArray × Int) × List ByteArray × Int)) × Nat // norm_reach_L2 n next x3 q.1.1 q.1.2 = some e_3 }) (fun | ⟨⟨⟨c, ⟨seen5, out5, t283⟩⟩, g5⟩, _⟩ => ⟨upd 1 (.d (.mp (encMp Value.string false (eL eS) next)) true) (upd 5 (.mo 0) (upd 6 (.so 1 g5 0 (out5.length)) (upd 7 (.v (.int .i64 i)) (upd 26 (.d (.sl (List.map eS (mgetD x3 [] next))) true) (upd 27 (.v (.int .i64 (((mgetD x3 [] next)).length : Int))) (upd 28 (.v (.int .i64 t283)) noFr)))))), upd 0 (some (.mo (encM Value.string vI seen5) false)) (upd 1 (some (.rw (List.map eS out5) 1 g5 false false)) noHp), 2⟩) (fun q => q.1.1.1) ⟨((n, (seen4, out4, 0)), g4), E46⟩ ?_ ?_
            · exact ren_mk [(0, 0), (1, 1)] (by rfl) (rf_upd (by rfl) (rf_upd (by rfl) (rf_upd (by rfl) (rf_upd (by rfl) (rf_upd (by rfl) (rf_upd (by rfl) (rf_upd (by rfl) (rf_no _)))))))) (rh_upd (rh_one (by rfl) (renO_encM (fun _ => rfl) _ _) (by rfl)) (rh_upd (rh_one (by rfl) (by rfl) (by rfl)) (rh_no _)))
            · rintro ⟨⟨⟨c, ⟨seen5, out5, t283⟩⟩, g5⟩, L48⟩
              rcases c with _ | c
              · exact nomatch (show none = some _ from L48)
              · unfold norm_reach_L2 at L48
                try dsimp only at L48
                refine runR_take tab_ok fol 1 ?_
                try simp -implicitDefEqProofs only [go_sem, Nat.reduceEqDiff, Nat.reduceAdd, ↓reduceIte]
                rcases ite_inv L48 with ⟨c67, H68⟩ | ⟨c67, H68⟩
                · obtain ⟨x5, b69, H70⟩ := bind_inv H68
                  obtain ⟨h71, h72⟩ := idx_inv b69
                  try simp only [Int.reduceToNat, Int.toNat_natCast] at h72
                  have h73 := map_at eS h72
                  try simp -implicitDefEqProofs only [go_sem, Nat.reduceEqDiff, Nat.reduceAdd, ↓reduceIte, c67, nat_of .i64 h71, h73]
                  rcases ite_inv H70 with ⟨c75, H76⟩ | ⟨c75, H76⟩
                  · obtain ⟨l3, b77, H78⟩ := bind_inv H76
                    obtain ⟨h79, h80⟩ := app_inv b77
                    have h79 : out5.length + 1 ≤ 4294967296 := h79
                    have h81 : List.map eS out5 ++ [[.v (.string x5)]] = List.map eS l3 := app_map eS h80
                    have h82 : out5.length + 1 = l3.length := app_len h80
                    have h83 : l3.length ≤ 4294967296 := by omega
                    have q84 : 0 < l3.length := by omega
                    try simp -implicitDefEqProofs only [go_sem, Nat.reduceLT, Nat.reduceEqDiff, Nat.reduceAdd, Nat.reduceLeDiff, reduceCtorEq, ↓reduceIte, c75, h81, h82, h83]
                    exact ⟨⟨((c, ((mset x5 1 seen5), l3, (IntKind.i64.wrap (t283 + 1)))), (g5 + 1)), H78⟩, ren_mk [(0, 0), (1, 1)] (by rfl) (rf_upd (by rfl) (rf_upd (by rfl) (rf_upd (by rfl) (rf_upd (by rfl) (rf_upd (by rfl) (rf_upd (by rfl) (rf_upd (by rfl) (rf_no _)))))))) (rh_upd (rh_one (by rfl) (renO_encM (fun _ => rfl) _ _) (by rfl)) (rh_upd (rh_one (by rfl) (by rfl) (by rfl)) (rh_no _))), Nat.lt_succ_self _⟩
                  · try simp -implicitDefEqProofs only [go_sem, Nat.reduceEqDiff, Nat.reduceAdd, ↓reduceIte, c75]
                    exact ⟨⟨((c, (seen5, out5, (IntKind.i64.wrap (t283 + 1)))), g5), H76⟩, ren_mk [(0, 0), (1, 1)] (by rfl) (rf_upd (by rfl) (rf_upd (by rfl) (rf_upd (by rfl) (rf_upd (by rfl) (rf_upd (by rfl) (rf_upd (by rfl) (rf_upd (by rfl) (rf_no _)))))))) (rh_upd (rh_one (by rfl) (renO_encM (fun _ => rfl) _ _) (by rfl)) (rh_upd (rh_one (by rfl) (by rfl) (by rfl)) (rh_no _))), Nat.lt_succ_self _⟩
                · try simp -implicitDefEqProofs only [go_sem, ↓reduceIte, c67]
                  obtain rfl := Option.some.inj H68
                  exact ⟨⟨⟨(seen5, out5), rfl⟩, g5⟩, ren_mk [(0, 0), (1, 1)] (by rfl) (rf_upd (by rfl) (rf_upd (by rfl) (rf_upd (by rfl) (rf_upd (by rfl) (rf_no _))))) (rh_upd (rh_one (by rfl) (renO_encM (fun _ => rfl) _ _) (by rfl)) (rh_upd (rh_one (by rfl) (by rfl) (by rfl)) (rh_no _)))⟩
          · rintro ⟨⟨⟨seen7, out7⟩, he85⟩, g7⟩
            replace he85 := he85.symm
            subst he85
            try dsimp only at H47
            try simp -implicitDefEqProofs only [go_sem]
            refine runR_take tab_ok fol 1 ?_
            try simp -implicitDefEqProofs only [go_sem, Nat.reduceEqDiff, Nat.reduceAdd, ↓reduceIte]
            exact ⟨⟨((c, (seen7, out7, (IntKind.i64.wrap (i + 1)))), g7), H47⟩, ren_mk [(0, 0), (1, 1)] (by rfl) (rf_upd (by rfl) (rf_upd (by rfl) (rf_upd (by rfl) (rf_upd (by rfl) (rf_no _))))) (rh_upd (rh_one (by rfl) (renO_encM (fun _ => rfl) _ _) (by rfl)) (rh_upd (rh_one (by rfl) (by rfl) (by rfl)) (rh_no _))), Nat.lt_succ_self _⟩
        · try simp -implicitDefEqProofs only [go_sem, ↓reduceIte, c37]
          obtain rfl := Option.some.inj H38
          exact ⟨⟨⟨out4, rfl⟩, g4⟩, ren_mk [(0, 1)] (by rfl) (rf_upd (by rfl) (rf_no _)) (rh_upd (rh_one (by rfl) (by rfl) (by rfl)) (rh_no _))⟩
  · rintro ⟨⟨out9, he92⟩, g9⟩
    replace he92 := he92.symm
    subst he92
    try dsimp only at H2
    refine runR_take tab_ok fol 1 ?_
    obtain ⟨l4, b89, H90⟩ := bind_inv H2
    try simp -implicitDefEqProofs only [go_sem, Nat.reduceAdd, ↓reduceIte]
    have h91 := sort_T_len b89
    refine onCall_inl (InlOK.mono (sort_T_in b89 (by first | rfl | (simp -implicitDefEqProofs only [go_sem, Int.reduceToNat, Int.reduceLT, Int.reduceLE, Int.reduceBEq, Int.reduceBNe, Nat.reduceLT, Nat.reduceBEq, Int.reduceEq, Nat.reduceEqDiff, Nat.reduceAdd, Nat.reduceSub, Nat.reduceMul, Nat.reduceLeDiff, reduceCtorEq, ↓reduceIte, eGPair, eGGrant, eGSod, eGSession]; done) | (simp -implicitDefEqProofs only [go_sem, Int.reduceToNat, Int.reduceLT, Int.reduceLE, Int.reduceBEq, Int.reduceBNe, Nat.reduceLT, Nat.reduceBEq, Int.reduceEq, Nat.reduceEqDiff, Nat.reduceAdd, Nat.reduceSub, Nat.reduceMul, Nat.reduceLeDiff, reduceCtorEq, ↓reduceIte, eGPair, eGGrant, eGSod, eGSession]; rfl))) ?_)
    rintro v86 hp87 nx88 ⟨rfl, rfl, rfl⟩
    try rw [h91]
    try simp -implicitDefEqProofs only [go_sem, Nat.reduceEqDiff, Nat.reduceAdd, ↓reduceIte]
    obtain rfl := Option.some.inj H90
    exact end_pure (by first | (simp -implicitDefEqProofs only [go_sem, ↓reduceIte, Tryz.f26] <;> rfl) | rfl) (by first | rfl | (simp -implicitDefEqProofs only [go_sem, ↓reduceIte]; done) | (simp -implicitDefEqProofs only [go_sem, ↓reduceIte]; rfl)) rfl (by intro h; first | rfl | cases h)
def norm_below_L1 (n : Nat) (l : List GPair) : Nat → (List (ByteArray × (List ByteArray)) × Int) → Option (List (ByteArray × (List ByteArray)))
  | 0, _ => none
  | c + 1, (out2, t9) =>
    (if (decide (t9 < (l.length : Int))) then
      (idx l t9).bind fun x2 =>
      grd (decide (out2.length ≤ 4294967296)) <|
      (
        grd (famG x2.a out2) <|
        some () : Option (Unit)).bind fun _ =>
      grd (decide ((madd x2.a [x2.b] out2).length ≤ 4294967296)) <|
      norm_below_L1 n l c ((madd x2.a [x2.b] out2), (IntKind.i64.wrap (t9 + 1)))
    else
      grd (decide (out2.length ≤ 4294967296)) <|
      some out2)
def norm_below_L1_f (_ : Nat) (_ : List GPair) (st : List (ByteArray × (List ByteArray))) (x2 : GPair) (k : (List (ByteArray × (List ByteArray))) → Option (List (ByteArray × (List ByteArray)))) : Option (List (ByteArray × (List ByteArray))) :=
  match st with
  | out2 =>
    grd (decide (out2.length ≤ 4294967296)) <|
    (
      grd (famG x2.a out2) <|
      some () : Option (Unit)).bind fun _ =>
    grd (decide ((madd x2.a [x2.b] out2).length ≤ 4294967296)) <|
    k (madd x2.a [x2.b] out2)
def norm_below_L1_e (_ : Nat) (_ : List GPair) (st : List (ByteArray × (List ByteArray))) : Option (List (ByteArray × (List ByteArray))) :=
  match st with
  | out2 => grd (decide (out2.length ≤ 4294967296)) <|
  some out2
theorem norm_below_L1_list (n : Nat) (l : List GPair) (hx : l.length < 4611686018427387904) (c : Nat) (st : List (ByteArray × (List ByteArray))) (ix : Nat) (hi : ix ≤ l.length) (hc : l.length - ix < c) : norm_below_L1 n l c (match st, (ix : Int) with | out2, ix => (out2, ix)) = foldK (norm_below_L1_f n l) (norm_below_L1_e n l) (l.drop ix) st :=
  loop_list (fun c st ix => norm_below_L1 n l c (match st, ix with | out2, ix => (out2, ix))) l (norm_below_L1_f n l) (norm_below_L1_e n l) (fun _ _ _ => rfl) hx c st ix hi hc

def norm_below (n : Nat) (l : List GPair) : Option (List (ByteArray × (List ByteArray))) :=
  (
    norm_below_L1 n l n (([] : List (ByteArray × (List ByteArray))), 0) : Option (List (ByteArray × (List ByteArray)))).bind fun out4 =>
  grd (decide (out4.length ≤ 4294967296)) <|
  some out4
theorem norm_below_ok {n : Nat} {l : List GPair} {r : List (ByteArray × (List ByteArray))} (H : norm_below n l = some r) : PureA Tryz.prog 27 [.d (D.sl (List.map eGPair l))] (D.mp (encMp Value.string false (eL eS) r)) true := by
  unfold norm_below at H
  refine pureX_runR (tab := tab) tab_ok Tryz.func27 rfl (by kernel_rfl) (by kernel_rfl) (by simp [Tryz.f27]) ?_
  refine runR_seq ?_
  refine runR_take tab_ok fol 1 ?_
  try simp -implicitDefEqProofs only [go_sem]
  refine runR_seq ?_
  refine runR_take tab_ok fol 1 ?_
  try simp -implicitDefEqProofs only [go_sem, Nat.reduceAdd, ↓reduceIte]
  refine runR_seq ?_
  refine runR_seq ?_
  refine runR_take tab_ok fol 1 ?_
  try simp -implicitDefEqProofs only [go_sem, Nat.reduceAdd, reduceCtorEq, ↓reduceIte]
  obtain ⟨e_, E1, H2⟩ := bind_inv H
  refine runR_join (α := { y : List (ByteArray × (List ByteArray)) // e_ = y } × (Nat → Nat)) (fun | ⟨⟨out4, _⟩, g6⟩ => ⟨upd 3 (.mo 0) noFr, upd 0 (some (.mo (encF Value.string 4294967296 g6 out4) false)) (famH eS 1 4294967296 g6 out4 (noHp)), 8589934592⟩) ?_ ?_
  · refine runR_block ?_
    refine runR_loop (α := { q : (Nat × (List (ByteArray × (List ByteArray)) × Int)) × (Nat → Nat) // norm_below_L1 n l q.1.1 q.1.2 = some e_ }) (fun | ⟨⟨⟨c, ⟨out2, t9⟩⟩, g3⟩, _⟩ => ⟨upd 3 (.mo 0) (upd 7 (.d (.sl (List.map eGPair l)) true) (upd 8 (.v (.int .i64 (l.length : Int))) (upd 9 (.v (.int .i64 t9)) noFr))), upd 0 (some (.mo (encF Value.string 4294967296 g3 out2) false)) (famH eS 1 4294967296 g3 out2 (noHp)), 8589934592⟩) (fun q => q.1.1.1) ⟨((n, (([] : List (ByteArray × (List ByteArray))), 0)), (fun _ => 0)), E1⟩ ?_ ?_
    · exact ren_mkF (R := 340282366920938463463374607431768211457) none (fun _ _ h => by cases h) [4294967296] [(0, 1)] (by rfl) (rf_upd (by rfl) (rf_upd (by rfl) (rf_upd (by rfl) (rf_upd (by rfl) (rf_no _))))) (rh_upd (rh_one (by rfl) (renO_fam (by rfl) (by simp) (fun _ _ h => by cases h) (by decide) rfl) (by rfl)) (rh_fam (by rfl) (by simp) (fun _ _ h => by cases h) rfl (fun j p h hj => by cases h) (rh_no _)))
    · rintro ⟨⟨⟨c, ⟨out2, t9⟩⟩, g3⟩, L3⟩
      rcases c with _ | c
      · exact nomatch (show none = some _ from L3)
      · unfold norm_below_L1 at L3
        try dsimp only at L3
        refine runR_seq ?_
        refine runR_take tab_ok fol 1 ?_
        try simp -implicitDefEqProofs only [go_sem, Nat.reduceEqDiff, Nat.reduceAdd, ↓reduceIte]
        refine runR_seq ?_
        refine runR_take tab_ok fol 1 ?_
        try simp -implicitDefEqProofs only [go_sem, ↓reduceIte]
        rcases ite_inv L3 with ⟨c54, H55⟩ | ⟨c54, H55⟩
        · try simp -implicitDefEqProofs only [go_sem, c54]
          refine runR_seq ?_
          refine runR_block ?_
          refine runR_seq ?_
          refine runR_take tab_ok fol 1 ?_
          obtain ⟨x2, b56, H57⟩ := bind_inv H55
          obtain ⟨h58, h59⟩ := idx_inv b56
          try simp only [Int.reduceToNat, Int.toNat_natCast] at h59
          have h60 := map_at eGPair h59
          try simp -implicitDefEqProofs only [go_sem, Nat.reduceEqDiff, Nat.reduceAdd, ↓reduceIte, eGPair, nat_of .i64 h58, h60]
          obtain ⟨g62, H63⟩ := grd_inv H57
          have h64 : out2.length ≤ 4294967296 := of_decide_eq_true g62
          obtain ⟨e_3, E65, H66⟩ := bind_inv H63
          refine runR_join (α := { y : Unit // e_3 = y } × (Nat → Nat)) (fun | ⟨⟨_, _⟩, g4⟩ => ⟨upd 3 (.mo 0) (upd 7 (.d (.sl (List.map eGPair l)) true) (upd 8 (.v (.int .i64 (l.length : Int))) (upd 9 (.v (.int .i64 t9)) noFr))), upd 0 (some (.mo (encF Value.string 4294967296 g4 (madd x2.a [x2.b] out2)) false)) (famH eS 1 4294967296 g4 (madd x2.a [x2.b] out2) (noHp)), 8589934592⟩) ?_ ?_
          · refine runR_take tab_ok fol 1 ?_
            obtain ⟨g67, H68⟩ := grd_inv E65
            obtain ⟨g69, g70⟩ := famG_inv g67
            try simp -implicitDefEqProofs only [go_sem, Nat.reduceEqDiff, Nat.reduceAdd, reduceCtorEq, ↓reduceIte]
            rcases find_cases (kv := Value.string) (B := 4294967296) (vs := g3) key_str x2.a out2 with ⟨n71, n72, n73⟩ | ⟨j2, xs2, o74, o75, o76, o77⟩
            · have n78 : mfind (false, [.string]) (.string x2.a) (encF Value.string 4294967296 g3 out2) = some none := n72
              try simp -implicitDefEqProofs only [go_sem, Nat.reduceLT, Nat.reduceEqDiff, Nat.reduceAdd, Nat.reduceLeDiff, reduceCtorEq, ↓reduceIte, look_new n78, mput_new n78]
              refine Rd_endF (by kernel_rfl) ?_
              try simp -implicitDefEqProofs only [go_sem]
              obtain rfl := Option.some.inj H68
              exact ⟨⟨⟨(), rfl⟩, (vsUp (List.length out2) 0 g3)⟩, ren_mkF (R := 8589934607) (some (fid 4294967296 (List.length out2), 8589934607)) (fun _ _ h => by cases h; rfl) [4294967296] [(0, 0)] (by rfl) (rf_upd (by rfl) (rf_upd (by rfl) (rf_upd (by rfl) (rf_upd (by rfl) (rf_no _))))) (rh_upd (rh_one (by rfl) (renO_famN (by rfl) (by simp) g69 (by first | exact (n73 _) | rfl)) (by rfl)) (rh_famN (by rfl) (by simp) g69 (by first | exact (n73 _) | rfl) (fun j p h hj => by repeat (first | with_reducible exact famH_at h hj | (with_reducible refine at_upd ?_ ?_; rw [fid_eq]; omega) | (with_reducible refine at_fam ?_ ?_; rw [fid_eq]; omega))) (by rfl) (rh_no _)))⟩
            · have o83 : mfind (false, [.string]) (.string x2.a) (encF Value.string 4294967296 g3 out2) = some (some (j2, .so (fid 4294967296 j2) (g3 j2) 0 xs2.length)) := o76
              have h79 : j2 < 4294967296 := Nat.lt_trans (List.getElem?_eq_some_iff.1 o74).1 g69
              have h80 : ∀ hp : Hp, famH eS 1 4294967296 g3 out2 hp (fid 4294967296 j2) = some (.rw (List.map eS xs2) 1 (g3 j2) false false) := fun _ => famH_at o74 h79
              have h81 : (encF Value.string 4294967296 g3 out2)[j2]? = some ((.string x2.a), .so (fid 4294967296 j2) (g3 j2) 0 xs2.length) := (encF_at _ _).trans (by rw [o74]; rfl)
              have h82 : xs2.length + 1 ≤ 4294967296 := by have := g70; simp only [mgetD, o75, Option.getD_some] at this; omega
              have h84 : ∀ (x y : Option AO) (g : Hp), upd (fid 4294967296 j2) x (upd 0 y g) = upd 0 y (upd (fid 4294967296 j2) x g) := fun _ _ _ => upd_swap (by rw [fid_eq]; omega)
              have h85 : ∀ (x y : Option AO) (g : Hp), upd (fid 4294967296 j2) x (upd 8589934595 y g) = upd 8589934595 y (upd (fid 4294967296 j2) x g) := fun _ _ _ => upd_swap (by rw [fid_eq]; omega)
              have h86 : ∀ c : Nat, 8589934592 ≤ c → (fid 4294967296 j2 = c) = False := fun c h => fid_hi h79 h
              have h87 : ∀ c : Nat, 8589934592 ≤ c → (c = fid 4294967296 j2) = False := fun c h => fid_hi' h79 h
              have h88 : ∀ (c : Nat) (x y : Option AO) (g : Hp), 8589934592 ≤ c → upd (fid 4294967296 j2) x (upd c y g) = upd c y (upd (fid 4294967296 j2) x g) := fun _ _ _ _ h => upd_swap (by rw [fid_eq]; omega)
              obtain ⟨zs2, h89⟩ : ∃ zs, xs2 ++ [x2.b] = zs := ⟨_, rfl⟩
              have h90 : List.map eS xs2 ++ [[.v (.string x2.b)]] = List.map eS zs2 := app_map eS h89
              have h91 : xs2.length + 1 = zs2.length := app_len h89
              have h92 : zs2.length ≤ 4294967296 := by omega
              have h93 : madd x2.a [x2.b] out2 = List.set out2 j2 (x2.a, zs2) := by rw [← h89]; exact o77 _
              have h94 : ∀ hp : Hp, upd (fid 4294967296 j2) (some (.rw (List.map eS zs2) 1 (g3 j2 + 1) false false)) (famH eS 1 4294967296 g3 out2 hp) = famH eS 1 4294967296 (vsUp j2 (g3 j2 + 1) g3) (List.set out2 j2 (x2.a, zs2)) hp := fun _ => famH_set (q := (x2.a, zs2)) o74 h79
              have h95 : List.set (encF Value.string 4294967296 g3 out2) j2 ((.string x2.a), .so (fid 4294967296 j2) (g3 j2 + 1) 0 zs2.length) = encF Value.string 4294967296 (vsUp j2 (g3 j2 + 1) g3) (List.set out2 j2 (x2.a, zs2)) := encF_set (q := (x2.a, zs2)) (List.getElem?_eq_some_iff.1 o74).1
              have h96 : (List.set out2 j2 (x2.a, zs2)).length ≤ 4294967296 := by rw [List.length_set]; exact Nat.le_of_lt g69
              try simp -implicitDefEqProofs only [go_sem, Nat.reduceLT, Nat.reduceEqDiff, Nat.reduceAdd, Nat.reduceLeDiff, reduceCtorEq, ↓reduceIte, look_old o83, mput_old o83, h80, h84, h85, h86, fid_lo, h88, h90, h91, h92, h94, h95]
              refine Rd_endJ (fid 4294967296 j2) 340282366920938463463374607431768211458 (by have := h79; rw [fid_eq]; unfold sent; omega) (by decide) (by simp [h87]) (by simp only [List.reverse_cons, List.reverse_nil, List.nil_append, List.cons_append, List.map_cons, List.map_nil, swRec, sw, Nat.reduceLeDiff, Nat.reduceLT, ↓reduceIte, fid_lo', h87]; kernel_rfl) ?_
              try simp -implicitDefEqProofs only [go_sem]
              obtain rfl := Option.some.inj H68
              exact ⟨⟨⟨(), rfl⟩, (vsUp j2 (g3 j2 + 1) g3)⟩, ren_mkF (R := 340282366920938463463374607431768211457) none (fun _ _ h => by cases h) [4294967296] [(0, 0)] (by rfl) (rf_upd (by rfl) (rf_upd (by rfl) (rf_upd (by rfl) (rf_upd (by rfl) (rf_no _))))) (rh_upd (rh_one (by rfl) (renO_fam (by rfl) (by simp) (fun _ _ h => by cases h) h96 (by first | exact h93 | rfl)) (by rfl)) (rh_fam (by rfl) (by simp) (fun _ _ h => by cases h) (by first | exact h93 | rfl) (fun j p h hj => by repeat (first | with_reducible exact famH_at h hj | (with_reducible refine at_upd ?_ ?_; rw [fid_eq]; omega) | (with_reducible refine at_fam ?_ ?_; rw [fid_eq]; omega))) (rh_no _)))⟩
          · rintro ⟨⟨_, he100⟩, g4⟩
            replace he100 := he100.symm
            subst he100
            try dsimp only at H66
            try simp -implicitDefEqProofs only [go_sem]
            refine runR_take tab_ok fol 1 ?_
            try simp -implicitDefEqProofs only [go_sem, Nat.reduceEqDiff, Nat.reduceAdd, ↓reduceIte]
            obtain ⟨g97, H98⟩ := grd_inv H66
            have h99 : (madd x2.a [x2.b] out2).length ≤ 4294967296 := of_decide_eq_true g97
            exact ⟨⟨((c, ((madd x2.a [x2.b] out2), (IntKind.i64.wrap (t9 + 1)))), g4), H98⟩, ren_mkF (R := 340282366920938463463374607431768211457) none (fun _ _ h => by cases h) [4294967296] [(0, 0)] (by rfl) (rf_upd (by rfl) (rf_upd (by rfl) (rf_upd (by rfl) (rf_upd (by rfl) (rf_no _))))) (rh_upd (rh_one (by rfl) (renO_fam (by rfl) (by simp) (fun _ _ h => by cases h) h99 rfl) (by rfl)) (rh_fam (by rfl) (by simp) (fun _ _ h => by cases h) rfl (fun j p h hj => by repeat (first | with_reducible exact famH_at h hj | (with_reducible refine at_upd ?_ ?_; rw [fid_eq]; omega) | (with_reducible refine at_fam ?_ ?_; rw [fid_eq]; omega))) (rh_no _))), Nat.lt_succ_self _⟩
        · try simp -implicitDefEqProofs only [go_sem, ↓reduceIte, c54]
          obtain ⟨g101, H102⟩ := grd_inv H55
          have h103 : out2.length ≤ 4294967296 := of_decide_eq_true g101
          obtain rfl := Option.some.inj H102
          exact ⟨⟨⟨out2, rfl⟩, g3⟩, ren_mkF (R := 340282366920938463463374607431768211457) none (fun _ _ h => by cases h) [4294967296] [(0, 0)] (by rfl) (rf_upd (by rfl) (rf_no _)) (rh_upd (rh_one (by rfl) (renO_fam (by rfl) (by simp) (fun _ _ h => by cases h) h103 rfl) (by rfl)) (rh_fam (by rfl) (by simp) (fun _ _ h => by cases h) rfl (fun j p h hj => by repeat (first | with_reducible exact famH_at h hj | (with_reducible refine at_upd ?_ ?_; rw [fid_eq]; omega) | (with_reducible refine at_fam ?_ ?_; rw [fid_eq]; omega))) (rh_no _)))⟩
  · rintro ⟨⟨out4, he107⟩, g6⟩
    replace he107 := he107.symm
    subst he107
    try dsimp only at H2
    refine runR_take tab_ok fol 1 ?_
    try simp -implicitDefEqProofs only [go_sem, Nat.reduceAdd, ↓reduceIte]
    obtain ⟨g104, H105⟩ := grd_inv H2
    have h106 : out4.length ≤ 4294967296 := of_decide_eq_true g104
    obtain rfl := Option.some.inj H105
    exact endX_ret (b := false) (v := .mo 0) (by first | (simp -implicitDefEqProofs only [go_sem, ↓reduceIte, Tryz.f27] <;> rfl) | rfl) (ToXR.val (ToXV.one (ToX.fam (by rfl) h106 (fun j p h hj => by repeat (first | with_reducible exact famH_at h hj | (with_reducible refine at_upd ?_ ?_; rw [fid_eq]; omega) | (with_reducible refine at_fam ?_ ?_; rw [fid_eq]; omega)))) rfl)) (by intro h; first | rfl | cases h)
def norm_Down (n : Nat) (p : GRoles) (role : ByteArray) : Option (List ByteArray) :=
  (norm_below n p.inherit).bind fun t8 =>
  (norm_reach n role t8).bind fun t9 =>
  some t9
theorem norm_Down_ok {n : Nat} {p : GRoles} {role : ByteArray} {r : List ByteArray} (H : norm_Down n p role = some r) : PureOK Tryz.prog 8 [D.ag (eGRoles p), D.v (.string role)] (D.sl (List.map eS r)) true := by
  unfold norm_Down at H
  refine pure_runR (tab := tab) tab_ok Tryz.func8 rfl (by kernel_rfl) (by kernel_rfl) (by simp [Tryz.f8]) ?_
  refine runR_take tab_ok fol 1 ?_
  obtain ⟨t8, b1, H2⟩ := bind_inv H
  try simp -implicitDefEqProofs only [go_sem, Nat.reduceEqDiff, Nat.reduceAdd, reduceCtorEq, ↓reduceIte, eGRoles]
  refine onCall_pureA (by first | rfl | (simp -implicitDefEqProofs only [go_sem, Int.reduceToNat, Int.reduceLT, Int.reduceLE, Int.reduceBEq, Int.reduceBNe, Nat.reduceLT, Nat.reduceBEq, Int.reduceEq, Nat.reduceEqDiff, Nat.reduceAdd, Nat.reduceSub, Nat.reduceMul, Nat.reduceLeDiff, reduceCtorEq, ↓reduceIte, eGPair, eGGrant, eGSod, eGSession, eGRoles]; done) | (simp -implicitDefEqProofs only [go_sem, Int.reduceToNat, Int.reduceLT, Int.reduceLE, Int.reduceBEq, Int.reduceBNe, Nat.reduceLT, Nat.reduceBEq, Int.reduceEq, Nat.reduceEqDiff, Nat.reduceAdd, Nat.reduceSub, Nat.reduceMul, Nat.reduceLeDiff, reduceCtorEq, ↓reduceIte, eGPair, eGGrant, eGSod, eGSession, eGRoles]; rfl)) (norm_below_ok b1) (by first | exact .inr rfl | exact .inl rfl) ?_
  obtain ⟨t9, b3, H4⟩ := bind_inv H2
  try simp -implicitDefEqProofs only [go_sem, Nat.reduceEqDiff, Nat.reduceAdd, ↓reduceIte]
  refine onCall_pure (by first | rfl | (simp -implicitDefEqProofs only [go_sem, Int.reduceToNat, Int.reduceLT, Int.reduceLE, Int.reduceBEq, Int.reduceBNe, Nat.reduceLT, Nat.reduceBEq, Int.reduceEq, Nat.reduceEqDiff, Nat.reduceAdd, Nat.reduceSub, Nat.reduceMul, Nat.reduceLeDiff, reduceCtorEq, ↓reduceIte, eGPair, eGGrant, eGSod, eGSession, eGRoles]; done) | (simp -implicitDefEqProofs only [go_sem, Int.reduceToNat, Int.reduceLT, Int.reduceLE, Int.reduceBEq, Int.reduceBNe, Nat.reduceLT, Nat.reduceBEq, Int.reduceEq, Nat.reduceEqDiff, Nat.reduceAdd, Nat.reduceSub, Nat.reduceMul, Nat.reduceLeDiff, reduceCtorEq, ↓reduceIte, eGPair, eGGrant, eGSod, eGSession, eGRoles]; rfl)) (norm_reach_ok b3) (by first | exact .inr rfl | exact .inl rfl) ?_
  try simp -implicitDefEqProofs only [go_sem, Nat.reduceAdd, ↓reduceIte]
  obtain rfl := Option.some.inj H4
  exact end_pure (by first | (simp -implicitDefEqProofs only [go_sem, ↓reduceIte, Tryz.f8] <;> rfl) | rfl) (by first | rfl | (simp -implicitDefEqProofs only [go_sem, Int.reduceToNat, Int.reduceLT, Int.reduceLE, Int.reduceBEq, Int.reduceBNe, Nat.reduceLT, Nat.reduceBEq, Int.reduceEq, Nat.reduceEqDiff, Nat.reduceAdd, Nat.reduceSub, Nat.reduceMul, Nat.reduceLeDiff, reduceCtorEq, ↓reduceIte, eGPair, eGGrant, eGSod, eGSession, eGRoles]; done) | (simp -implicitDefEqProofs only [go_sem, Int.reduceToNat, Int.reduceLT, Int.reduceLE, Int.reduceBEq, Int.reduceBNe, Nat.reduceLT, Nat.reduceBEq, Int.reduceEq, Nat.reduceEqDiff, Nat.reduceAdd, Nat.reduceSub, Nat.reduceMul, Nat.reduceLeDiff, reduceCtorEq, ↓reduceIte, eGPair, eGGrant, eGSod, eGSession, eGRoles]; rfl)) rfl (by intro h; first | rfl | cases h)
def slices_Index_string_L1 (n : Nat) (s : List ByteArray) (v : ByteArray) : Nat → Int → Option ((Unit) ⊕ Int)
  | 0, _ => none
  | c + 1, t8 =>
    (if (decide (t8 < (s.length : Int))) then
      (idx s t8).bind fun x2 =>
      (if (v.toList == x2.toList) then
        some (.inr t8)
      else
        slices_Index_string_L1 n s v c (IntKind.i64.wrap (t8 + 1)))
    else
      some (.inl ()))

def slices_Index_string (n : Nat) (s : List ByteArray) (v : ByteArray) : Option Int :=
  (
    slices_Index_string_L1 n s v n 0 : Option ((Unit) ⊕ Int)).bind fun
    | .inl _ =>
      some (-1)
    | .inr r => some r
theorem slices_Index_string_ok {n : Nat} {s : List ByteArray} {v : ByteArray} {r : Int} (H : slices_Index_string n s v = some r) : PureOK Tryz.prog 81 [D.sl (List.map eS s), D.v (.string v)] (D.v (.int .i64 r)) true := by
  unfold slices_Index_string at H
  refine pure_runR (tab := tab) tab_ok Tryz.func81 rfl (by kernel_rfl) (by kernel_rfl) (by simp [Tryz.f81]) ?_
  refine runR_seq ?_
  refine runR_take tab_ok fol 1 ?_
  try simp -implicitDefEqProofs only [go_sem]
  refine runR_seq ?_
  refine runR_seq ?_
  refine runR_take tab_ok fol 1 ?_
  try simp -implicitDefEqProofs only [go_sem, Nat.reduceAdd, reduceCtorEq, ↓reduceIte]
  obtain ⟨e_, E1, H2⟩ := bind_inv H
  refine runR_join (α := { y : Unit // e_ = .inl y }) (fun | ⟨_, _⟩ => ⟨noFr, noHp, 0⟩) ?_ ?_
  · refine runR_block ?_
    refine runR_loop (α := { q : Nat × Int // slices_Index_string_L1 n s v q.1 q.2 = some e_ }) (fun | ⟨⟨c, t8⟩, _⟩ => ⟨upd 0 (.d (.sl (List.map eS s)) true) (upd 1 (.v (.string v)) (upd 7 (.v (.int .i64 (s.length : Int))) (upd 8 (.v (.int .i64 t8)) noFr))), noHp, 0⟩) (fun q => q.1.1) ⟨(n, 0), E1⟩ ?_ ?_
    · exact ren_mk [] (by rfl) (rf_upd (by rfl) (rf_upd (by rfl) (rf_upd (by rfl) (rf_upd (by rfl) (rf_no _))))) (rh_no _)
    · rintro ⟨⟨c, t8⟩, L3⟩
      rcases c with _ | c
      · exact nomatch (show none = some _ from L3)
      · unfold slices_Index_string_L1 at L3
        try dsimp only at L3
        refine runR_take tab_ok fol 1 ?_
        try simp -implicitDefEqProofs only [go_sem, Nat.reduceEqDiff, reduceCtorEq, ↓reduceIte]
        rcases ite_inv L3 with ⟨c14, H15⟩ | ⟨c14, H15⟩
        · obtain ⟨x2, b16, H17⟩ := bind_inv H15
          obtain ⟨h18, h19⟩ := idx_inv b16
          try simp only [Int.reduceToNat, Int.toNat_natCast] at h19
          have h20 := map_at eS h19
          try simp -implicitDefEqProofs only [go_sem, Nat.reduceEqDiff, Nat.reduceAdd, reduceCtorEq, ↓reduceIte, c14, nat_of .i64 h18, h20]
          rcases ite_inv H17 with ⟨c22, H23⟩ | ⟨c22, H23⟩
          · try simp -implicitDefEqProofs only [go_sem, Nat.reduceEqDiff, Nat.reduceAdd, ↓reduceIte, c22]
            obtain rfl := Option.some.inj H23
            obtain rfl := Option.some.inj H2
            exact end_pure (by first | (simp -implicitDefEqProofs only [go_sem, ↓reduceIte, Tryz.f81] <;> rfl) | rfl) (by first | rfl | (simp -implicitDefEqProofs only [go_sem, Int.reduceToNat, Int.reduceLT, Int.reduceLE, Int.reduceBEq, Int.reduceBNe, Nat.reduceLT, Nat.reduceBEq, Int.reduceEq, Nat.reduceEqDiff, Nat.reduceAdd, Nat.reduceSub, Nat.reduceMul, Nat.reduceLeDiff, reduceCtorEq, ↓reduceIte, eGPair, eGGrant, eGSod, eGSession, eGRoles, c14, nat_of .i64 h18, h20, c22]; done) | (simp -implicitDefEqProofs only [go_sem, Int.reduceToNat, Int.reduceLT, Int.reduceLE, Int.reduceBEq, Int.reduceBNe, Nat.reduceLT, Nat.reduceBEq, Int.reduceEq, Nat.reduceEqDiff, Nat.reduceAdd, Nat.reduceSub, Nat.reduceMul, Nat.reduceLeDiff, reduceCtorEq, ↓reduceIte, eGPair, eGGrant, eGSod, eGSession, eGRoles, c14, nat_of .i64 h18, h20, c22]; rfl)) rfl (by intro h; first | rfl | cases h)
          · try simp -implicitDefEqProofs only [go_sem, Nat.reduceEqDiff, Nat.reduceAdd, reduceCtorEq, ↓reduceIte, c22]
            exact ⟨⟨(c, (IntKind.i64.wrap (t8 + 1))), H23⟩, ren_mk [] (by rfl) (rf_upd (by rfl) (rf_upd (by rfl) (rf_upd (by rfl) (rf_upd (by rfl) (rf_no _))))) (rh_no _), Nat.lt_succ_self _⟩
        · try simp -implicitDefEqProofs only [go_sem, ↓reduceIte, c14]
          obtain rfl := Option.some.inj H15
          exact ⟨⟨(), rfl⟩, ren_mk [] (by rfl) (rf_no _) (rh_no _)⟩
  · rintro ⟨_, he24⟩
    replace he24 := he24.symm
    subst he24
    try dsimp only at H2
    refine runR_take tab_ok fol 1 ?_
    try simp -implicitDefEqProofs only [go_sem]
    obtain rfl := Option.some.inj H2
    exact end_pure (by first | (simp -implicitDefEqProofs only [go_sem, ↓reduceIte, Tryz.f81] <;> rfl) | rfl) (by first | rfl | (simp -implicitDefEqProofs only [go_sem, Int.reduceToNat, Int.reduceLT, Int.reduceLE, Int.reduceBEq, Int.reduceBNe, Nat.reduceLT, Nat.reduceBEq, Int.reduceEq, Nat.reduceEqDiff, Nat.reduceAdd, Nat.reduceSub, Nat.reduceMul, Nat.reduceLeDiff, reduceCtorEq, ↓reduceIte, eGPair, eGGrant, eGSod, eGSession, eGRoles]; done) | (simp -implicitDefEqProofs only [go_sem, Int.reduceToNat, Int.reduceLT, Int.reduceLE, Int.reduceBEq, Int.reduceBNe, Nat.reduceLT, Nat.reduceBEq, Int.reduceEq, Nat.reduceEqDiff, Nat.reduceAdd, Nat.reduceSub, Nat.reduceMul, Nat.reduceLeDiff, reduceCtorEq, ↓reduceIte, eGPair, eGGrant, eGSod, eGSession, eGRoles]; rfl)) rfl (by intro h; first | rfl | cases h)
def slices_Contains_string (n : Nat) (s : List ByteArray) (v : ByteArray) : Option Bool :=
  (slices_Index_string n s v).bind fun t7 =>
  some (decide (0 ≤ t7))
theorem slices_Contains_string_ok {n : Nat} {s : List ByteArray} {v : ByteArray} {r : Bool} (H : slices_Contains_string n s v = some r) : PureOK Tryz.prog 54 [D.sl (List.map eS s), D.v (.string v)] (D.v (.bool r)) true := by
  unfold slices_Contains_string at H
  refine pure_runR (tab := tab) tab_ok Tryz.func54 rfl (by kernel_rfl) (by kernel_rfl) (by simp [Tryz.f54]) ?_
  refine runR_take tab_ok fol 1 ?_
  obtain ⟨t7, b1, H2⟩ := bind_inv H
  try simp -implicitDefEqProofs only [go_sem, Nat.reduceEqDiff, Nat.reduceAdd, reduceCtorEq, ↓reduceIte]
  refine onCall_pure (by first | rfl | (simp -implicitDefEqProofs only [go_sem, Int.reduceToNat, Int.reduceLT, Int.reduceLE, Int.reduceBEq, Int.reduceBNe, Nat.reduceLT, Nat.reduceBEq, Int.reduceEq, Nat.reduceEqDiff, Nat.reduceAdd, Nat.reduceSub, Nat.reduceMul, Nat.reduceLeDiff, reduceCtorEq, ↓reduceIte, eGPair, eGGrant, eGSod, eGSession, eGRoles]; done) | (simp -implicitDefEqProofs only [go_sem, Int.reduceToNat, Int.reduceLT, Int.reduceLE, Int.reduceBEq, Int.reduceBNe, Nat.reduceLT, Nat.reduceBEq, Int.reduceEq, Nat.reduceEqDiff, Nat.reduceAdd, Nat.reduceSub, Nat.reduceMul, Nat.reduceLeDiff, reduceCtorEq, ↓reduceIte, eGPair, eGGrant, eGSod, eGSession, eGRoles]; rfl)) (slices_Index_string_ok b1) (by first | exact .inr rfl | exact .inl rfl) ?_
  try simp -implicitDefEqProofs only [go_sem, Nat.reduceAdd, ↓reduceIte]
  obtain rfl := Option.some.inj H2
  exact end_pure (by first | (simp -implicitDefEqProofs only [go_sem, ↓reduceIte, Tryz.f54] <;> rfl) | rfl) (by first | rfl | (simp -implicitDefEqProofs only [go_sem, Int.reduceToNat, Int.reduceLT, Int.reduceLE, Int.reduceBEq, Int.reduceBNe, Nat.reduceLT, Nat.reduceBEq, Int.reduceEq, Nat.reduceEqDiff, Nat.reduceAdd, Nat.reduceSub, Nat.reduceMul, Nat.reduceLeDiff, reduceCtorEq, ↓reduceIte, eGPair, eGGrant, eGSod, eGSession, eGRoles]; done) | (simp -implicitDefEqProofs only [go_sem, Int.reduceToNat, Int.reduceLT, Int.reduceLE, Int.reduceBEq, Int.reduceBNe, Nat.reduceLT, Nat.reduceBEq, Int.reduceEq, Nat.reduceEqDiff, Nat.reduceAdd, Nat.reduceSub, Nat.reduceMul, Nat.reduceLeDiff, reduceCtorEq, ↓reduceIte, eGPair, eGGrant, eGSod, eGSession, eGRoles]; rfl)) rfl (by intro h; first | rfl | cases h)
def norm_Ring_L1 (n : Nat) (l : List GPair) (t7 : List (ByteArray × (List ByteArray))) : Nat → Int → Option ((Unit) ⊕ Bool)
  | 0, _ => none
  | c + 1, t10 =>
    (if (decide (t10 < (l.length : Int))) then
      (idx l t10).bind fun x2 =>
      (norm_reach n x2.b t7).bind fun t172 =>
      (slices_Contains_string n t172 x2.a).bind fun t202 =>
      (if t202 then
        some (.inr true)
      else
        norm_Ring_L1 n l t7 c (IntKind.i64.wrap (t10 + 1)))
    else
      some (.inl ()))
def norm_Ring_L1_f (n : Nat) (_ : List GPair) (t7 : List (ByteArray × (List ByteArray))) (st : Unit) (x2 : GPair) (k : Unit → Option ((Unit) ⊕ Bool)) : Option ((Unit) ⊕ Bool) :=
  match st with
  | _ =>
    (norm_reach n x2.b t7).bind fun t172 =>
    (slices_Contains_string n t172 x2.a).bind fun t202 =>
    (if t202 then
      some (.inr true)
    else
      k ())
def norm_Ring_L1_e (_ : Nat) (_ : List GPair) (_ : List (ByteArray × (List ByteArray))) (st : Unit) : Option ((Unit) ⊕ Bool) :=
  match st with
  | _ => some (.inl ())
theorem norm_Ring_L1_list (n : Nat) (l : List GPair) (t7 : List (ByteArray × (List ByteArray))) (hx : l.length < 4611686018427387904) (c : Nat) (st : Unit) (ix : Nat) (hi : ix ≤ l.length) (hc : l.length - ix < c) : norm_Ring_L1 n l t7 c (match st, (ix : Int) with | _, ix => ix) = foldK (norm_Ring_L1_f n l t7) (norm_Ring_L1_e n l t7) (l.drop ix) st :=
  loop_list (fun c st ix => norm_Ring_L1 n l t7 c (match st, ix with | _, ix => ix)) l (norm_Ring_L1_f n l t7) (norm_Ring_L1_e n l t7) (fun _ _ _ => rfl) hx c st ix hi hc

def norm_Ring (n : Nat) (l : List GPair) : Option Bool :=
  (norm_below n l).bind fun t7 =>
  (
    norm_Ring_L1 n l t7 n 0 : Option ((Unit) ⊕ Bool)).bind fun
    | .inl _ =>
      some false
    | .inr r => some r
theorem norm_Ring_ok {n : Nat} {l : List GPair} {r : Bool} (H : norm_Ring n l = some r) : PureOK Tryz.prog 52 [D.sl (List.map eGPair l)] (D.v (.bool r)) true := by
  unfold norm_Ring at H
  refine pure_runR (tab := tab) tab_ok Tryz.func52 rfl (by kernel_rfl) (by kernel_rfl) (by simp [Tryz.f52]) ?_
  refine runR_seq ?_
  refine runR_take tab_ok fol 1 ?_
  try simp -implicitDefEqProofs only [go_sem]
  refine runR_seq ?_
  refine runR_take tab_ok fol 1 ?_
  obtain ⟨t7, b1, H2⟩ := bind_inv H
  try simp -implicitDefEqProofs only [go_sem, Nat.reduceAdd, reduceCtorEq, ↓reduceIte]
  refine onCall_pureA (by first | rfl | (simp -implicitDefEqProofs only [go_sem, Int.reduceToNat, Int.reduceLT, Int.reduceLE, Int.reduceBEq, Int.reduceBNe, Nat.reduceLT, Nat.reduceBEq, Int.reduceEq, Nat.reduceEqDiff, Nat.reduceAdd, Nat.reduceSub, Nat.reduceMul, Nat.reduceLeDiff, reduceCtorEq, ↓reduceIte, eGPair, eGGrant, eGSod, eGSession, eGRoles]; done) | (simp -implicitDefEqProofs only [go_sem, Int.reduceToNat, Int.reduceLT, Int.reduceLE, Int.reduceBEq, Int.reduceBNe, Nat.reduceLT, Nat.reduceBEq, Int.reduceEq, Nat.reduceEqDiff, Nat.reduceAdd, Nat.reduceSub, Nat.reduceMul, Nat.reduceLeDiff, reduceCtorEq, ↓reduceIte, eGPair, eGGrant, eGSod, eGSession, eGRoles]; rfl)) (norm_below_ok b1) (by first | exact .inr rfl | exact .inl rfl) ?_
  try simp -implicitDefEqProofs only [go_sem, Nat.reduceAdd, ↓reduceIte]
  refine runR_seq ?_
  refine runR_seq ?_
  refine runR_take tab_ok fol 1 ?_
  try simp -implicitDefEqProofs only [go_sem, Nat.reduceAdd, reduceCtorEq, ↓reduceIte]
  obtain ⟨e_, E3, H4⟩ := bind_inv H2
  refine runR_join (α := { y : Unit // e_ = .inl y }) (fun | ⟨_, _⟩ => ⟨noFr, noHp, 0⟩) ?_ ?_
  · refine runR_block ?_
    refine runR_loop (α := { q : Nat × Int // norm_Ring_L1 n l t7 q.1 q.2 = some e_ }) (fun | ⟨⟨c, t10⟩, _⟩ => ⟨upd 3 (.d (.mp (encMp Value.string false (eL eS) t7)) false) (upd 8 (.d (.sl (List.map eGPair l)) true) (upd 9 (.v (.int .i64 (l.length : Int))) (upd 10 (.v (.int .i64 t10)) noFr))), noHp, 0⟩) (fun q => q.1.1) ⟨(n, 0), E3⟩ ?_ ?_
    · exact ren_mk [] (by rfl) (rf_upd (by rfl) (rf_upd (by rfl) (rf_upd (by rfl) (rf_upd (by rfl) (rf_no _))))) (rh_no _)
    · rintro ⟨⟨c, t10⟩, L5⟩
      rcases c with _ | c
      · exact nomatch (show none = some _ from L5)
      · unfold norm_Ring_L1 at L5
        try dsimp only at L5
        refine runR_take tab_ok fol 1 ?_
        try simp -implicitDefEqProofs only [go_sem, Nat.reduceEqDiff, ↓reduceIte]
        rcases ite_inv L5 with ⟨c20, H21⟩ | ⟨c20, H21⟩
        · obtain ⟨x2, b22, H23⟩ := bind_inv H21
          obtain ⟨h24, h25⟩ := idx_inv b22
          try simp only [Int.reduceToNat, Int.toNat_natCast] at h25
          have h26 := map_at eGPair h25
          obtain ⟨t172, b28, H29⟩ := bind_inv H23
          try simp -implicitDefEqProofs only [go_sem, Nat.reduceEqDiff, Nat.reduceAdd, reduceCtorEq, ↓reduceIte, eGPair, c20, nat_of .i64 h24, h26]
          refine onCallD_pure (by first | rfl | (simp -implicitDefEqProofs only [go_sem, Int.reduceToNat, Int.reduceLT, Int.reduceLE, Int.reduceBEq, Int.reduceBNe, Nat.reduceLT, Nat.reduceBEq, Int.reduceEq, Nat.reduceEqDiff, Nat.reduceAdd, Nat.reduceSub, Nat.reduceMul, Nat.reduceLeDiff, reduceCtorEq, ↓reduceIte, eGPair, eGGrant, eGSod, eGSession, eGRoles, c20, nat_of .i64 h24, h26]; done) | (simp -implicitDefEqProofs only [go_sem, Int.reduceToNat, Int.reduceLT, Int.reduceLE, Int.reduceBEq, Int.reduceBNe, Nat.reduceLT, Nat.reduceBEq, Int.reduceEq, Nat.reduceEqDiff, Nat.reduceAdd, Nat.reduceSub, Nat.reduceMul, Nat.reduceLeDiff, reduceCtorEq, ↓reduceIte, eGPair, eGGrant, eGSod, eGSession, eGRoles, c20, nat_of .i64 h24, h26]; rfl)) (norm_reach_ok b28) (by first | exact .inr rfl | exact .inl rfl) ?_
          obtain ⟨t202, b30, H31⟩ := bind_inv H29
          try simp -implicitDefEqProofs only [go_sem, Nat.reduceEqDiff, Nat.reduceAdd, reduceCtorEq, ↓reduceIte]
          refine onCallD_pure (by first | rfl | (simp -implicitDefEqProofs only [go_sem, Int.reduceToNat, Int.reduceLT, Int.reduceLE, Int.reduceBEq, Int.reduceBNe, Nat.reduceLT, Nat.reduceBEq, Int.reduceEq, Nat.reduceEqDiff, Nat.reduceAdd, Nat.reduceSub, Nat.reduceMul, Nat.reduceLeDiff, reduceCtorEq, ↓reduceIte, eGPair, eGGrant, eGSod, eGSession, eGRoles, c20, nat_of .i64 h24, h26]; done) | (simp -implicitDefEqProofs only [go_sem, Int.reduceToNat, Int.reduceLT, Int.reduceLE, Int.reduceBEq, Int.reduceBNe, Nat.reduceLT, Nat.reduceBEq, Int.reduceEq, Nat.reduceEqDiff, Nat.reduceAdd, Nat.reduceSub, Nat.reduceMul, Nat.reduceLeDiff, reduceCtorEq, ↓reduceIte, eGPair, eGGrant, eGSod, eGSession, eGRoles, c20, nat_of .i64 h24, h26]; rfl)) (slices_Contains_string_ok b30) (by first | exact .inr rfl | exact .inl rfl) ?_
          try simp -implicitDefEqProofs only [go_sem]
          refine Rd_endF (by rfl) ?_
          try simp -implicitDefEqProofs only [go_sem, ↓reduceIte]
          rcases ite_inv H31 with ⟨c32, H33⟩ | ⟨c32, H33⟩
          · try simp -implicitDefEqProofs only [go_sem, Nat.reduceAdd, c32]
            obtain rfl := Option.some.inj H33
            obtain rfl := Option.some.inj H4
            exact end_pure (by first | (simp -implicitDefEqProofs only [go_sem, ↓reduceIte, Tryz.f52] <;> rfl) | rfl) (by first | rfl | (simp -implicitDefEqProofs only [go_sem, Int.reduceToNat, Int.reduceLT, Int.reduceLE, Int.reduceBEq, Int.reduceBNe, Nat.reduceLT, Nat.reduceBEq, Int.reduceEq, Nat.reduceEqDiff, Nat.reduceAdd, Nat.reduceSub, Nat.reduceMul, Nat.reduceLeDiff, reduceCtorEq, ↓reduceIte, eGPair, eGGrant, eGSod, eGSession, eGRoles, c20, nat_of .i64 h24, h26, c32]; done) | (simp -implicitDefEqProofs only [go_sem, Int.reduceToNat, Int.reduceLT, Int.reduceLE, Int.reduceBEq, Int.reduceBNe, Nat.reduceLT, Nat.reduceBEq, Int.reduceEq, Nat.reduceEqDiff, Nat.reduceAdd, Nat.reduceSub, Nat.reduceMul, Nat.reduceLeDiff, reduceCtorEq, ↓reduceIte, eGPair, eGGrant, eGSod, eGSession, eGRoles, c20, nat_of .i64 h24, h26, c32]; rfl)) rfl (by intro h; first | rfl | cases h)
          · try simp -implicitDefEqProofs only [go_sem, Nat.reduceEqDiff, Nat.reduceAdd, ↓reduceIte, c32]
            exact ⟨⟨(c, (IntKind.i64.wrap (t10 + 1))), H33⟩, ren_mk [] (by rfl) (rf_upd (by rfl) (rf_upd (by rfl) (rf_upd (by rfl) (rf_upd (by rfl) (rf_no _))))) (rh_no _), Nat.lt_succ_self _⟩
        · try simp -implicitDefEqProofs only [go_sem, ↓reduceIte, c20]
          obtain rfl := Option.some.inj H21
          exact ⟨⟨(), rfl⟩, ren_mk [] (by rfl) (rf_no _) (rh_no _)⟩
  · rintro ⟨_, he34⟩
    replace he34 := he34.symm
    subst he34
    try dsimp only at H4
    refine runR_take tab_ok fol 1 ?_
    try simp -implicitDefEqProofs only [go_sem]
    obtain rfl := Option.some.inj H4
    exact end_pure (by first | (simp -implicitDefEqProofs only [go_sem, ↓reduceIte, Tryz.f52] <;> rfl) | rfl) (by first | rfl | (simp -implicitDefEqProofs only [go_sem, Int.reduceToNat, Int.reduceLT, Int.reduceLE, Int.reduceBEq, Int.reduceBNe, Nat.reduceLT, Nat.reduceBEq, Int.reduceEq, Nat.reduceEqDiff, Nat.reduceAdd, Nat.reduceSub, Nat.reduceMul, Nat.reduceLeDiff, reduceCtorEq, ↓reduceIte, eGPair, eGGrant, eGSod, eGSession, eGRoles]; done) | (simp -implicitDefEqProofs only [go_sem, Int.reduceToNat, Int.reduceLT, Int.reduceLE, Int.reduceBEq, Int.reduceBNe, Nat.reduceLT, Nat.reduceBEq, Int.reduceEq, Nat.reduceEqDiff, Nat.reduceAdd, Nat.reduceSub, Nat.reduceMul, Nat.reduceLeDiff, reduceCtorEq, ↓reduceIte, eGPair, eGGrant, eGSod, eGSession, eGRoles]; rfl)) rfl (by intro h; first | rfl | cases h)
def norm_least_c1 (n : Nat) (s : ByteArray) (c2 : GPair) (c3 : List (ByteArray × (List ByteArray))) : Option Bool :=
  (if (s.toList == c2.b.toList) then
    some false
  else
    (norm_reach n s c3).bind fun t12 =>
    (slices_Contains_string n t12 c2.b).bind fun t15 =>
    some t15)
theorem norm_least_c1_ok {n : Nat} {s : ByteArray} {c2 : GPair} {c3 : List (ByteArray × (List ByteArray))} {r : Bool} (H : norm_least_c1 n s c2 c3 = some r) : PureOK Tryz.prog 53 [D.v (.string s), D.pt (eGPair c2) 0, D.pt [D.mp (encMp Value.string false (eL eS) c3)] 0] (D.v (.bool r)) true := by
  unfold norm_least_c1 at H
  refine pure_runR (tab := tab) tab_ok Tryz.func53 rfl (by kernel_rfl) (by kernel_rfl) (by simp [Tryz.f53]) ?_
  refine runR_take tab_ok fol 1 ?_
  try simp -implicitDefEqProofs only [go_sem, Nat.reduceEqDiff, Nat.reduceAdd, reduceCtorEq, ↓reduceIte, eGPair]
  rcases ite_inv H with ⟨c1, H2⟩ | ⟨c1, H2⟩
  · try simp -implicitDefEqProofs only [go_sem, Nat.reduceEqDiff, Nat.reduceAdd, ↓reduceIte, c1]
    refine Rd_endF (by rfl) ?_
    try simp -implicitDefEqProofs only [go_sem]
    obtain rfl := Option.some.inj H2
    exact end_pure (by first | (simp -implicitDefEqProofs only [go_sem, ↓reduceIte, Tryz.f53] <;> rfl) | rfl) (by first | rfl | (simp -implicitDefEqProofs only [go_sem, Int.reduceToNat, Int.reduceLT, Int.reduceLE, Int.reduceBEq, Int.reduceBNe, Nat.reduceLT, Nat.reduceBEq, Int.reduceEq, Nat.reduceEqDiff, Nat.reduceAdd, Nat.reduceSub, Nat.reduceMul, Nat.reduceLeDiff, reduceCtorEq, ↓reduceIte, eGPair, eGGrant, eGSod, eGSession, eGRoles, c1]; done) | (simp -implicitDefEqProofs only [go_sem, Int.reduceToNat, Int.reduceLT, Int.reduceLE, Int.reduceBEq, Int.reduceBNe, Nat.reduceLT, Nat.reduceBEq, Int.reduceEq, Nat.reduceEqDiff, Nat.reduceAdd, Nat.reduceSub, Nat.reduceMul, Nat.reduceLeDiff, reduceCtorEq, ↓reduceIte, eGPair, eGGrant, eGSod, eGSession, eGRoles, c1]; rfl)) rfl (by intro h; first | rfl | cases h)
  · obtain ⟨t12, b3, H4⟩ := bind_inv H2
    try simp -implicitDefEqProofs only [go_sem, Nat.reduceEqDiff, Nat.reduceAdd, reduceCtorEq, ↓reduceIte, c1]
    refine onCallD_pure (by first | rfl | (simp -implicitDefEqProofs only [go_sem, Int.reduceToNat, Int.reduceLT, Int.reduceLE, Int.reduceBEq, Int.reduceBNe, Nat.reduceLT, Nat.reduceBEq, Int.reduceEq, Nat.reduceEqDiff, Nat.reduceAdd, Nat.reduceSub, Nat.reduceMul, Nat.reduceLeDiff, reduceCtorEq, ↓reduceIte, eGPair, eGGrant, eGSod, eGSession, eGRoles, c1]; done) | (simp -implicitDefEqProofs only [go_sem, Int.reduceToNat, Int.reduceLT, Int.reduceLE, Int.reduceBEq, Int.reduceBNe, Nat.reduceLT, Nat.reduceBEq, Int.reduceEq, Nat.reduceEqDiff, Nat.reduceAdd, Nat.reduceSub, Nat.reduceMul, Nat.reduceLeDiff, reduceCtorEq, ↓reduceIte, eGPair, eGGrant, eGSod, eGSession, eGRoles, c1]; rfl)) (norm_reach_ok b3) (by first | exact .inr rfl | exact .inl rfl) ?_
    obtain ⟨t15, b5, H6⟩ := bind_inv H4
    try simp -implicitDefEqProofs only [go_sem, Nat.reduceEqDiff, Nat.reduceAdd, reduceCtorEq, ↓reduceIte]
    refine onCallD_pure (by first | rfl | (simp -implicitDefEqProofs only [go_sem, Int.reduceToNat, Int.reduceLT, Int.reduceLE, Int.reduceBEq, Int.reduceBNe, Nat.reduceLT, Nat.reduceBEq, Int.reduceEq, Nat.reduceEqDiff, Nat.reduceAdd, Nat.reduceSub, Nat.reduceMul, Nat.reduceLeDiff, reduceCtorEq, ↓reduceIte, eGPair, eGGrant, eGSod, eGSession, eGRoles, c1]; done) | (simp -implicitDefEqProofs only [go_sem, Int.reduceToNat, Int.reduceLT, Int.reduceLE, Int.reduceBEq, Int.reduceBNe, Nat.reduceLT, Nat.reduceBEq, Int.reduceEq, Nat.reduceEqDiff, Nat.reduceAdd, Nat.reduceSub, Nat.reduceMul, Nat.reduceLeDiff, reduceCtorEq, ↓reduceIte, eGPair, eGGrant, eGSod, eGSession, eGRoles, c1]; rfl)) (slices_Contains_string_ok b5) (by first | exact .inr rfl | exact .inl rfl) ?_
    try simp -implicitDefEqProofs only [go_sem, Nat.reduceEqDiff, Nat.reduceAdd, ↓reduceIte]
    refine Rd_endF (by rfl) ?_
    try simp -implicitDefEqProofs only [go_sem]
    obtain rfl := Option.some.inj H6
    exact end_pure (by first | (simp -implicitDefEqProofs only [go_sem, ↓reduceIte, Tryz.f53] <;> rfl) | rfl) (by first | rfl | (simp -implicitDefEqProofs only [go_sem, Int.reduceToNat, Int.reduceLT, Int.reduceLE, Int.reduceBEq, Int.reduceBNe, Nat.reduceLT, Nat.reduceBEq, Int.reduceEq, Nat.reduceEqDiff, Nat.reduceAdd, Nat.reduceSub, Nat.reduceMul, Nat.reduceLeDiff, reduceCtorEq, ↓reduceIte, eGPair, eGGrant, eGSod, eGSession, eGRoles, c1]; done) | (simp -implicitDefEqProofs only [go_sem, Int.reduceToNat, Int.reduceLT, Int.reduceLE, Int.reduceBEq, Int.reduceBNe, Nat.reduceLT, Nat.reduceBEq, Int.reduceEq, Nat.reduceEqDiff, Nat.reduceAdd, Nat.reduceSub, Nat.reduceMul, Nat.reduceLeDiff, reduceCtorEq, ↓reduceIte, eGPair, eGGrant, eGSod, eGSession, eGRoles, c1]; rfl)) rfl (by intro h; first | rfl | cases h)
def slices_IndexFunc_string__norm_least_c1_L1 (n : Nat) (s : List ByteArray) (c2 : GPair) (c3 : List (ByteArray × (List ByteArray))) : Nat → Int → Option ((Unit) ⊕ Int)
  | 0, _ => none
  | c + 1, t8 =>
    (if (decide (t8 < (s.length : Int))) then
      (idx s t8).bind fun x2 =>
      (norm_least_c1 n x2 c2 c3).bind fun t162 =>
      (if t162 then
        some (.inr t8)
      else
        slices_IndexFunc_string__norm_least_c1_L1 n s c2 c3 c (IntKind.i64.wrap (t8 + 1)))
    else
      some (.inl ()))

def slices_IndexFunc_string__norm_least_c1 (n : Nat) (s : List ByteArray) (c2 : GPair) (c3 : List (ByteArray × (List ByteArray))) : Option Int :=
  (
    slices_IndexFunc_string__norm_least_c1_L1 n s c2 c3 n 0 : Option ((Unit) ⊕ Int)).bind fun
    | .inl _ =>
      some (-1)
    | .inr r => some r
theorem slices_IndexFunc_string__norm_least_c1_ok {n : Nat} {s : List ByteArray} {c2 : GPair} {c3 : List (ByteArray × (List ByteArray))} {r : Int} (H : slices_IndexFunc_string__norm_least_c1 n s c2 c3 = some r) : PureA Tryz.prog 82 [.d (D.sl (List.map eS s)), .fn 53 [D.pt (eGPair c2) 0, D.pt [D.mp (encMp Value.string false (eL eS) c3)] 0]] (D.v (.int .i64 r)) true := by
  unfold slices_IndexFunc_string__norm_least_c1 at H
  refine pureA_runR (tab := tab) tab_ok Tryz.func82 rfl (by kernel_rfl) (by kernel_rfl) (by simp [Tryz.f82]) ?_
  refine runR_seq ?_
  refine runR_take tab_ok fol 1 ?_
  try simp -implicitDefEqProofs only [go_sem, eGPair]
  refine runR_seq ?_
  refine runR_seq ?_
  refine runR_take tab_ok fol 1 ?_
  try simp -implicitDefEqProofs only [go_sem, Nat.reduceAdd, reduceCtorEq, ↓reduceIte]
  obtain ⟨e_, E1, H2⟩ := bind_inv H
  refine runR_join (α := { y : Unit // e_ = .inl y }) (fun | ⟨_, _⟩ => ⟨noFr, noHp, 0⟩) ?_ ?_
  · refine runR_block ?_
    refine runR_loop (α := { q : Nat × Int // slices_IndexFunc_string__norm_least_c1_L1 n s c2 c3 q.1 q.2 = some e_ }) (fun | ⟨⟨c, t8⟩, _⟩ => ⟨upd 0 (.d (.sl (List.map eS s)) true) (upd 1 (.fn 53 [.d (.pt [.v (.string c2.a), .v (.string c2.b)] 0) true, .d (.pt [.mp (encMp Value.string false (eL eS) c3)] 0) true]) (upd 7 (.v (.int .i64 (s.length : Int))) (upd 8 (.v (.int .i64 t8)) noFr))), noHp, 0⟩) (fun q => q.1.1) ⟨(n, 0), E1⟩ ?_ ?_
    · exact ren_mk [] (by rfl) (rf_upd (by rfl) (rf_upd (by rfl) (rf_upd (by rfl) (rf_upd (by rfl) (rf_no _))))) (rh_no _)
    · rintro ⟨⟨c, t8⟩, L3⟩
      rcases c with _ | c
      · exact nomatch (show none = some _ from L3)
      · unfold slices_IndexFunc_string__norm_least_c1_L1 at L3
        try dsimp only at L3
        refine runR_take tab_ok fol 1 ?_
        try simp -implicitDefEqProofs only [go_sem, Nat.reduceEqDiff, reduceCtorEq, ↓reduceIte]
        rcases ite_inv L3 with ⟨c16, H17⟩ | ⟨c16, H17⟩
        · obtain ⟨x2, b18, H19⟩ := bind_inv H17
          obtain ⟨h20, h21⟩ := idx_inv b18
          try simp only [Int.reduceToNat, Int.toNat_natCast] at h21
          have h22 := map_at eS h21
          obtain ⟨t162, b24, H25⟩ := bind_inv H19
          try simp -implicitDefEqProofs only [go_sem, Nat.reduceEqDiff, Nat.reduceAdd, reduceCtorEq, ↓reduceIte, c16, nat_of .i64 h20, h22]
          refine onCall_pure (by first | rfl | (simp -implicitDefEqProofs only [go_sem, Int.reduceToNat, Int.reduceLT, Int.reduceLE, Int.reduceBEq, Int.reduceBNe, Nat.reduceLT, Nat.reduceBEq, Int.reduceEq, Nat.reduceEqDiff, Nat.reduceAdd, Nat.reduceSub, Nat.reduceMul, Nat.reduceLeDiff, reduceCtorEq, ↓reduceIte, eGPair, eGGrant, eGSod, eGSession, eGRoles, c16, nat_of .i64 h20, h22]; done) | (simp -implicitDefEqProofs only [go_sem, Int.reduceToNat, Int.reduceLT, Int.reduceLE, Int.reduceBEq, Int.reduceBNe, Nat.reduceLT, Nat.reduceBEq, Int.reduceEq, Nat.reduceEqDiff, Nat.reduceAdd, Nat.reduceSub, Nat.reduceMul, Nat.reduceLeDiff, reduceCtorEq, ↓reduceIte, eGPair, eGGrant, eGSod, eGSession, eGRoles, c16, nat_of .i64 h20, h22]; rfl)) (norm_least_c1_ok b24) (by first | exact .inr rfl | exact .inl rfl) ?_
          try simp -implicitDefEqProofs only [go_sem, ↓reduceIte]
          rcases ite_inv H25 with ⟨c26, H27⟩ | ⟨c26, H27⟩
          · try simp -implicitDefEqProofs only [go_sem, Nat.reduceEqDiff, Nat.reduceAdd, ↓reduceIte, c26]
            obtain rfl := Option.some.inj H27
            obtain rfl := Option.some.inj H2
            exact end_pure (by first | (simp -implicitDefEqProofs only [go_sem, ↓reduceIte, Tryz.f82] <;> rfl) | rfl) (by first | rfl | (simp -implicitDefEqProofs only [go_sem, Int.reduceToNat, Int.reduceLT, Int.reduceLE, Int.reduceBEq, Int.reduceBNe, Nat.reduceLT, Nat.reduceBEq, Int.reduceEq, Nat.reduceEqDiff, Nat.reduceAdd, Nat.reduceSub, Nat.reduceMul, Nat.reduceLeDiff, reduceCtorEq, ↓reduceIte, eGPair, eGGrant, eGSod, eGSession, eGRoles, c16, nat_of .i64 h20, h22, c26]; done) | (simp -implicitDefEqProofs only [go_sem, Int.reduceToNat, Int.reduceLT, Int.reduceLE, Int.reduceBEq, Int.reduceBNe, Nat.reduceLT, Nat.reduceBEq, Int.reduceEq, Nat.reduceEqDiff, Nat.reduceAdd, Nat.reduceSub, Nat.reduceMul, Nat.reduceLeDiff, reduceCtorEq, ↓reduceIte, eGPair, eGGrant, eGSod, eGSession, eGRoles, c16, nat_of .i64 h20, h22, c26]; rfl)) rfl (by intro h; first | rfl | cases h)
          · try simp -implicitDefEqProofs only [go_sem, Nat.reduceEqDiff, Nat.reduceAdd, reduceCtorEq, ↓reduceIte, c26]
            exact ⟨⟨(c, (IntKind.i64.wrap (t8 + 1))), H27⟩, ren_mk [] (by rfl) (rf_upd (by rfl) (rf_upd (by rfl) (rf_upd (by rfl) (rf_upd (by rfl) (rf_no _))))) (rh_no _), Nat.lt_succ_self _⟩
        · try simp -implicitDefEqProofs only [go_sem, ↓reduceIte, c16]
          obtain rfl := Option.some.inj H17
          exact ⟨⟨(), rfl⟩, ren_mk [] (by rfl) (rf_no _) (rh_no _)⟩
  · rintro ⟨_, he28⟩
    replace he28 := he28.symm
    subst he28
    try dsimp only at H2
    refine runR_take tab_ok fol 1 ?_
    try simp -implicitDefEqProofs only [go_sem]
    obtain rfl := Option.some.inj H2
    exact end_pure (by first | (simp -implicitDefEqProofs only [go_sem, ↓reduceIte, Tryz.f82] <;> rfl) | rfl) (by first | rfl | (simp -implicitDefEqProofs only [go_sem, Int.reduceToNat, Int.reduceLT, Int.reduceLE, Int.reduceBEq, Int.reduceBNe, Nat.reduceLT, Nat.reduceBEq, Int.reduceEq, Nat.reduceEqDiff, Nat.reduceAdd, Nat.reduceSub, Nat.reduceMul, Nat.reduceLeDiff, reduceCtorEq, ↓reduceIte, eGPair, eGGrant, eGSod, eGSession, eGRoles]; done) | (simp -implicitDefEqProofs only [go_sem, Int.reduceToNat, Int.reduceLT, Int.reduceLE, Int.reduceBEq, Int.reduceBNe, Nat.reduceLT, Nat.reduceBEq, Int.reduceEq, Nat.reduceEqDiff, Nat.reduceAdd, Nat.reduceSub, Nat.reduceMul, Nat.reduceLeDiff, reduceCtorEq, ↓reduceIte, eGPair, eGGrant, eGSod, eGSession, eGRoles]; rfl)) rfl (by intro h; first | rfl | cases h)
def slices_ContainsFunc_string__norm_least_c1 (n : Nat) (s : List ByteArray) (c2 : GPair) (c3 : List (ByteArray × (List ByteArray))) : Option Bool :=
  (slices_IndexFunc_string__norm_least_c1 n s c2 c3).bind fun t7 =>
  some (decide (0 ≤ t7))
theorem slices_ContainsFunc_string__norm_least_c1_ok {n : Nat} {s : List ByteArray} {c2 : GPair} {c3 : List (ByteArray × (List ByteArray))} {r : Bool} (H : slices_ContainsFunc_string__norm_least_c1 n s c2 c3 = some r) : PureA Tryz.prog 55 [.d (D.sl (List.map eS s)), .fn 53 [D.pt (eGPair c2) 0, D.pt [D.mp (encMp Value.string false (eL eS) c3)] 0]] (D.v (.bool r)) true := by
  unfold slices_ContainsFunc_string__norm_least_c1 at H
  refine pureA_runR (tab := tab) tab_ok Tryz.func55 rfl (by kernel_rfl) (by kernel_rfl) (by simp [Tryz.f55]) ?_
  refine runR_take tab_ok fol 1 ?_
  obtain ⟨t7, b1, H2⟩ := bind_inv H
  try simp -implicitDefEqProofs only [go_sem, Nat.reduceEqDiff, Nat.reduceAdd, reduceCtorEq, ↓reduceIte, eGPair]
  refine onCall_pureA (by first | rfl | (simp -implicitDefEqProofs only [go_sem, Int.reduceToNat, Int.reduceLT, Int.reduceLE, Int.reduceBEq, Int.reduceBNe, Nat.reduceLT, Nat.reduceBEq, Int.reduceEq, Nat.reduceEqDiff, Nat.reduceAdd, Nat.reduceSub, Nat.reduceMul, Nat.reduceLeDiff, reduceCtorEq, ↓reduceIte, eGPair, eGGrant, eGSod, eGSession, eGRoles]; done) | (simp -implicitDefEqProofs only [go_sem, Int.reduceToNat, Int.reduceLT, Int.reduceLE, Int.reduceBEq, Int.reduceBNe, Nat.reduceLT, Nat.reduceBEq, Int.reduceEq, Nat.reduceEqDiff, Nat.reduceAdd, Nat.reduceSub, Nat.reduceMul, Nat.reduceLeDiff, reduceCtorEq, ↓reduceIte, eGPair, eGGrant, eGSod, eGSession, eGRoles]; rfl)) (slices_IndexFunc_string__norm_least_c1_ok b1) (by first | exact .inr rfl | exact .inl rfl) ?_
  try simp -implicitDefEqProofs only [go_sem, Nat.reduceAdd, ↓reduceIte]
  obtain rfl := Option.some.inj H2
  exact end_pure (by first | (simp -implicitDefEqProofs only [go_sem, ↓reduceIte, Tryz.f55] <;> rfl) | rfl) (by first | rfl | (simp -implicitDefEqProofs only [go_sem, Int.reduceToNat, Int.reduceLT, Int.reduceLE, Int.reduceBEq, Int.reduceBNe, Nat.reduceLT, Nat.reduceBEq, Int.reduceEq, Nat.reduceEqDiff, Nat.reduceAdd, Nat.reduceSub, Nat.reduceMul, Nat.reduceLeDiff, reduceCtorEq, ↓reduceIte, eGPair, eGGrant, eGSod, eGSession, eGRoles]; done) | (simp -implicitDefEqProofs only [go_sem, Int.reduceToNat, Int.reduceLT, Int.reduceLE, Int.reduceBEq, Int.reduceBNe, Nat.reduceLT, Nat.reduceBEq, Int.reduceEq, Nat.reduceEqDiff, Nat.reduceAdd, Nat.reduceSub, Nat.reduceMul, Nat.reduceLeDiff, reduceCtorEq, ↓reduceIte, eGPair, eGGrant, eGSod, eGSession, eGRoles]; rfl)) rfl (by intro h; first | rfl | cases h)
def norm_least_L1 (n : Nat) (t9 : List GPair) (t14 : List (ByteArray × (List ByteArray))) : Nat → (List GPair × Int) → Option (List GPair)
  | 0, _ => none
  | c + 1, (out, t17) =>
    (if (decide (t17 < (t9.length : Int))) then
      (idx t9 t17).bind fun x2 =>
      (slices_ContainsFunc_string__norm_least_c1 n (mgetD x2.a [] t14) x2 t14).bind fun t272 =>
      (if t272 then
        norm_least_L1 n t9 t14 c (out, (IntKind.i64.wrap (t17 + 1)))
      else
        (app out [x2]).bind fun l2 =>
        norm_least_L1 n t9 t14 c (l2, (IntKind.i64.wrap (t17 + 1))))
    else
      some out)
def norm_least_L1_f (n : Nat) (_ : List GPair) (t14 : List (ByteArray × (List ByteArray))) (st : List GPair) (x2 : GPair) (k : List GPair → Option (List GPair)) : Option (List GPair) :=
  match st with
  | out =>
    (slices_ContainsFunc_string__norm_least_c1 n (mgetD x2.a [] t14) x2 t14).bind fun t272 =>
    (if t272 then
      k out
    else
      (app out [x2]).bind fun l2 =>
      k l2)
def norm_least_L1_e (_ : Nat) (_ : List GPair) (_ : List (ByteArray × (List ByteArray))) (st : List GPair) : Option (List GPair) :=
  match st with
  | out => some out
theorem norm_least_L1_list (n : Nat) (t9 : List GPair) (t14 : List (ByteArray × (List ByteArray))) (hx : t9.length < 4611686018427387904) (c : Nat) (st : List GPair) (ix : Nat) (hi : ix ≤ t9.length) (hc : t9.length - ix < c) : norm_least_L1 n t9 t14 c (match st, (ix : Int) with | out, ix => (out, ix)) = foldK (norm_least_L1_f n t9 t14) (norm_least_L1_e n t9 t14) (t9.drop ix) st :=
  loop_list (fun c st ix => norm_least_L1 n t9 t14 c (match st, ix with | out, ix => (out, ix))) t9 (norm_least_L1_f n t9 t14) (norm_least_L1_e n t9 t14) (fun _ _ _ => rfl) hx c st ix hi hc

def norm_least (n : Nat) (l : List GPair) : Option (List GPair) :=
  (norm_pairs n l).bind fun t9 =>
  (norm_Ring n t9).bind fun t11 =>
  (if t11 then
    some t9
  else
    (norm_below n t9).bind fun t14 =>
    (
      norm_least_L1 n t9 t14 n ([], 0) : Option (List GPair)).bind fun out3 =>
    some out3)
theorem norm_least_ok {n : Nat} {l : List GPair} {r : List GPair} (H : norm_least n l = some r) : PureOK Tryz.prog 30 [D.sl (List.map eGPair l)] (D.sl (List.map eGPair r)) true := by
  unfold norm_least at H
  refine pure_runR (tab := tab) tab_ok Tryz.func30 rfl (by kernel_rfl) (by kernel_rfl) (by simp [Tryz.f30]) ?_
  refine runR_seq ?_
  refine runR_take tab_ok fol 1 ?_
  try simp -implicitDefEqProofs only [go_sem]
  refine runR_seq ?_
  refine runR_take tab_ok fol 1 ?_
  obtain ⟨t9, b1, H2⟩ := bind_inv H
  try simp -implicitDefEqProofs only [go_sem, Nat.reduceAdd, reduceCtorEq, ↓reduceIte]
  refine onCall_pure (by first | rfl | (simp -implicitDefEqProofs only [go_sem, Int.reduceToNat, Int.reduceLT, Int.reduceLE, Int.reduceBEq, Int.reduceBNe, Nat.reduceLT, Nat.reduceBEq, Int.reduceEq, Nat.reduceEqDiff, Nat.reduceAdd, Nat.reduceSub, Nat.reduceMul, Nat.reduceLeDiff, reduceCtorEq, ↓reduceIte, eGPair, eGGrant, eGSod, eGSession, eGRoles]; done) | (simp -implicitDefEqProofs only [go_sem, Int.reduceToNat, Int.reduceLT, Int.reduceLE, Int.reduceBEq, Int.reduceBNe, Nat.reduceLT, Nat.reduceBEq, Int.reduceEq, Nat.reduceEqDiff, Nat.reduceAdd, Nat.reduceSub, Nat.reduceMul, Nat.reduceLeDiff, reduceCtorEq, ↓reduceIte, eGPair, eGGrant, eGSod, eGSession, eGRoles]; rfl)) (norm_pairs_ok b1) (by first | exact .inr rfl | exact .inl rfl) ?_
  try simp -implicitDefEqProofs only [go_sem, Nat.reduceAdd, ↓reduceIte]
  refine runR_seq ?_
  refine runR_take tab_ok fol 1 ?_
  obtain ⟨t11, b3, H4⟩ := bind_inv H2
  try simp -implicitDefEqProofs only [go_sem, Nat.reduceAdd, ↓reduceIte]
  refine onCall_pure (by first | rfl | (simp -implicitDefEqProofs only [go_sem, Int.reduceToNat, Int.reduceLT, Int.reduceLE, Int.reduceBEq, Int.reduceBNe, Nat.reduceLT, Nat.reduceBEq, Int.reduceEq, Nat.reduceEqDiff, Nat.reduceAdd, Nat.reduceSub, Nat.reduceMul, Nat.reduceLeDiff, reduceCtorEq, ↓reduceIte, eGPair, eGGrant, eGSod, eGSession, eGRoles]; done) | (simp -implicitDefEqProofs only [go_sem, Int.reduceToNat, Int.reduceLT, Int.reduceLE, Int.reduceBEq, Int.reduceBNe, Nat.reduceLT, Nat.reduceBEq, Int.reduceEq, Nat.reduceEqDiff, Nat.reduceAdd, Nat.reduceSub, Nat.reduceMul, Nat.reduceLeDiff, reduceCtorEq, ↓reduceIte, eGPair, eGGrant, eGSod, eGSession, eGRoles]; rfl)) (norm_Ring_ok b3) (by first | exact .inr rfl | exact .inl rfl) ?_
  try simp -implicitDefEqProofs only [go_sem, ↓reduceIte]
  rcases ite_inv H4 with ⟨c5, H6⟩ | ⟨c5, H6⟩
  · try simp -implicitDefEqProofs only [go_sem, Nat.reduceAdd, reduceCtorEq, ↓reduceIte, c5]
    obtain rfl := Option.some.inj H6
    exact end_pure (by first | (simp -implicitDefEqProofs only [go_sem, ↓reduceIte, Tryz.f30] <;> rfl) | rfl) (by first | rfl | (simp -implicitDefEqProofs only [go_sem, Int.reduceToNat, Int.reduceLT, Int.reduceLE, Int.reduceBEq, Int.reduceBNe, Nat.reduceLT, Nat.reduceBEq, Int.reduceEq, Nat.reduceEqDiff, Nat.reduceAdd, Nat.reduceSub, Nat.reduceMul, Nat.reduceLeDiff, reduceCtorEq, ↓reduceIte, eGPair, eGGrant, eGSod, eGSession, eGRoles, c5]; done) | (simp -implicitDefEqProofs only [go_sem, Int.reduceToNat, Int.reduceLT, Int.reduceLE, Int.reduceBEq, Int.reduceBNe, Nat.reduceLT, Nat.reduceBEq, Int.reduceEq, Nat.reduceEqDiff, Nat.reduceAdd, Nat.reduceSub, Nat.reduceMul, Nat.reduceLeDiff, reduceCtorEq, ↓reduceIte, eGPair, eGGrant, eGSod, eGSession, eGRoles, c5]; rfl)) rfl (by intro h; first | rfl | cases h)
  · try simp -implicitDefEqProofs only [go_sem, c5]
    refine runR_seq ?_
    refine runR_take tab_ok fol 1 ?_
    obtain ⟨t14, b7, H8⟩ := bind_inv H6
    try simp -implicitDefEqProofs only [go_sem, Nat.reduceAdd, reduceCtorEq, ↓reduceIte]
    refine onCall_pureA (by first | rfl | (simp -implicitDefEqProofs only [go_sem, Int.reduceToNat, Int.reduceLT, Int.reduceLE, Int.reduceBEq, Int.reduceBNe, Nat.reduceLT, Nat.reduceBEq, Int.reduceEq, Nat.reduceEqDiff, Nat.reduceAdd, Nat.reduceSub, Nat.reduceMul, Nat.reduceLeDiff, reduceCtorEq, ↓reduceIte, eGPair, eGGrant, eGSod, eGSession, eGRoles, c5]; done) | (simp -implicitDefEqProofs only [go_sem, Int.reduceToNat, Int.reduceLT, Int.reduceLE, Int.reduceBEq, Int.reduceBNe, Nat.reduceLT, Nat.reduceBEq, Int.reduceEq, Nat.reduceEqDiff, Nat.reduceAdd, Nat.reduceSub, Nat.reduceMul, Nat.reduceLeDiff, reduceCtorEq, ↓reduceIte, eGPair, eGGrant, eGSod, eGSession, eGRoles, c5]; rfl)) (norm_below_ok b7) (by first | exact .inr rfl | exact .inl rfl) ?_
    try simp -implicitDefEqProofs only [go_sem, Nat.reduceEqDiff, Nat.reduceAdd, ↓reduceIte]
    refine runR_seq ?_
    refine runR_take tab_ok fol 1 ?_
    try simp -implicitDefEqProofs only [go_sem, Nat.reduceAdd]
    refine runR_seq ?_
    refine runR_seq ?_
    refine runR_take tab_ok fol 1 ?_
    try simp -implicitDefEqProofs only [go_sem, Nat.reduceAdd, reduceCtorEq, ↓reduceIte]
    obtain ⟨e_, E9, H10⟩ := bind_inv H8
    refine runR_join (α := { y : List GPair // e_ = y } × Nat) (fun | ⟨⟨out3, _⟩, g3⟩ => ⟨upd 4 (accV 0 g3 (List.map eGPair out3)) noFr, upd 0 (accO 2 g3 false (List.map eGPair out3)) noHp, 1⟩) ?_ ?_
    · refine runR_block ?_
      refine runR_loop (α := { q : (Nat × (List GPair × Int)) × Nat // norm_least_L1 n t9 t14 q.1.1 q.1.2 = some e_ }) (fun | ⟨⟨⟨c, ⟨out, t17⟩⟩, g⟩, _⟩ => ⟨upd 3 (.pt 0 0) (upd 4 (accV 1 g (List.map eGPair out)) (upd 15 (.d (.sl (List.map eGPair t9)) false) (upd 16 (.v (.int .i64 (t9.length : Int))) (upd 17 (.v (.int .i64 t17)) noFr)))), upd 0 (some (.bx [.d (.mp (encMp Value.string false (eL eS) t14)) false])) (upd 1 (accO 2 g false (List.map eGPair out)) noHp), 2⟩) (fun q => q.1.1.1) ⟨((n, ([], 0)), 0), E9⟩ ?_ ?_
      · exact ren_mk [(0, 8)] (by rfl) (rf_upd (by rfl) (rf_upd (by rfl) (rf_upd (by rfl) (rf_upd (by rfl) (rf_upd (by rfl) (rf_no _)))))) (rh_upd (rh_one (by rfl) (by rfl) (by rfl)) (rh_upd rh_accN (rh_no _)))
      · rintro ⟨⟨⟨c, ⟨out, t17⟩⟩, g⟩, L11⟩
        rcases c with _ | c
        · exact nomatch (show none = some _ from L11)
        · unfold norm_least_L1 at L11
          try dsimp only at L11
          refine runR_take tab_ok fol 1 ?_
          try simp -implicitDefEqProofs only [go_sem, Nat.reduceEqDiff, Nat.reduceAdd, ↓reduceIte]
          rcases ite_inv L11 with ⟨c25, H26⟩ | ⟨c25, H26⟩
          · obtain ⟨x2, b27, H28⟩ := bind_inv H26
            obtain ⟨h29, h30⟩ := idx_inv b27
            try simp only [Int.reduceToNat, Int.toNat_natCast] at h30
            have h31 := map_at eGPair h30
            have h33 : lookA (false, [.string]) (.string x2.a) (.d (.sl []) false) false (dEnts false (encMp Value.string false (eL eS) t14)) = some (.d (.sl (List.map eS (mgetD x2.a [] t14))) false, []) := lookD (b := false) (ag := false) (enc := (eL eS)) key_str x2.a ([] : List ByteArray) false t14
            obtain ⟨t272, b34, H35⟩ := bind_inv H28
            try simp -implicitDefEqProofs only [go_sem, Nat.reduceEqDiff, Nat.reduceAdd, reduceCtorEq, ↓reduceIte, eGPair, c25, nat_of .i64 h29, h31, h33]
            refine onCall_pureA (by first | rfl | (simp -implicitDefEqProofs only [go_sem, Int.reduceToNat, Int.reduceLT, Int.reduceLE, Int.reduceBEq, Int.reduceBNe, Nat.reduceLT, Nat.reduceBEq, Int.reduceEq, Nat.reduceEqDiff, Nat.reduceAdd, Nat.reduceSub, Nat.reduceMul, Nat.reduceLeDiff, reduceCtorEq, ↓reduceIte, eGPair, eGGrant, eGSod, eGSession, eGRoles, c25, nat_of .i64 h29, h31, h33]; done) | (simp -implicitDefEqProofs only [go_sem, Int.reduceToNat, Int.reduceLT, Int.reduceLE, Int.reduceBEq, Int.reduceBNe, Nat.reduceLT, Nat.reduceBEq, Int.reduceEq, Nat.reduceEqDiff, Nat.reduceAdd, Nat.reduceSub, Nat.reduceMul, Nat.reduceLeDiff, reduceCtorEq, ↓reduceIte, eGPair, eGGrant, eGSod, eGSession, eGRoles, c25, nat_of .i64 h29, h31, h33]; rfl)) (slices_ContainsFunc_string__norm_least_c1_ok b34) (by first | exact .inr rfl | exact .inl rfl) ?_
            try simp -implicitDefEqProofs only [go_sem, Nat.reduceAdd, ↓reduceIte]
            rcases ite_inv H35 with ⟨c36, H37⟩ | ⟨c36, H37⟩
            · try simp -implicitDefEqProofs only [go_sem, Nat.reduceEqDiff, Nat.reduceAdd, ↓reduceIte, c36]
              exact ⟨⟨((c, (out, (IntKind.i64.wrap (t17 + 1)))), g), H37⟩, ren_mk [(0, 0), (1, 1)] (by rfl) (rf_upd (by rfl) (rf_upd (ren_acc (by rfl)) (rf_upd (by rfl) (rf_upd (by rfl) (rf_upd (by rfl) (rf_no _)))))) (rh_upd (rh_one (by rfl) (by rfl) (by rfl)) (rh_upd (rh_acc (by rfl) (by rfl)) (rh_no _))), Nat.lt_succ_self _⟩
            · obtain ⟨l2, b38, H39⟩ := bind_inv H37
              obtain ⟨h40, h41⟩ := app_inv b38
              have h40 : out.length + 1 ≤ 4294967296 := h40
              have h42 : List.map eGPair out ++ [[.v (.string x2.a), .v (.string x2.b)]] = List.map eGPair l2 := app_map eGPair h41
              have h43 : out.length + 1 = l2.length := app_len h41
              have h44 : l2.length ≤ 4294967296 := by omega
              have q45 : 0 < l2.length := by omega
              try simp -implicitDefEqProofs only [go_sem, Nat.reduceLT, Nat.reduceEqDiff, Nat.reduceAdd, Nat.reduceMul, Nat.reduceLeDiff, reduceCtorEq, ↓reduceIte, c36, h42, h43, h44]
              rcases out with _ | ⟨q0, q1⟩
              · try simp only [List.map_nil, accI, accN]
                exact ⟨⟨((c, (l2, (IntKind.i64.wrap (t17 + 1)))), 0), H39⟩, ren_mk [(0, 0), (1, 19)] (by rfl) (rf_upd (by rfl) (rf_upd (by first | exact ren_accP (by rfl) q45 | rfl) (rf_upd (by rfl) (rf_upd (by rfl) (rf_upd (by rfl) (rf_no _)))))) (rh_upd (rh_one (by rfl) (by rfl) (by rfl)) (rh_upd (by first | exact rh_accP (by rfl) q45 (by rfl) | exact rh_one (by rfl) (by rfl) (by rfl)) (rh_no _))), Nat.lt_succ_self _⟩
              · try simp only [List.map_cons, accI, accN]
                exact ⟨⟨((c, (l2, (IntKind.i64.wrap (t17 + 1)))), (g + 1)), H39⟩, ren_mk [(0, 0), (1, 1)] (by rfl) (rf_upd (by rfl) (rf_upd (by first | exact ren_accP (by rfl) q45 | rfl) (rf_upd (by rfl) (rf_upd (by rfl) (rf_upd (by rfl) (rf_no _)))))) (rh_upd (rh_one (by rfl) (by rfl) (by rfl)) (rh_upd (by first | exact rh_accP (by rfl) q45 (by rfl) | exact rh_one (by rfl) (by rfl) (by rfl)) (rh_no _))), Nat.lt_succ_self _⟩
          · try simp -implicitDefEqProofs only [go_sem, ↓reduceIte, c25]
            obtain rfl := Option.some.inj H26
            exact ⟨⟨⟨out, rfl⟩, g⟩, ren_mk [(0, 1)] (by rfl) (rf_upd (ren_acc (by rfl)) (rf_no _)) (rh_upd (rh_acc (by rfl) (by rfl)) (rh_no _))⟩
    · rintro ⟨⟨out3, he46⟩, g3⟩
      replace he46 := he46.symm
      subst he46
      try dsimp only at H10
      refine runR_take tab_ok fol 1 ?_
      try simp -implicitDefEqProofs only [go_sem, Nat.reduceAdd, ↓reduceIte]
      obtain rfl := Option.some.inj H10
      exact end_pure (by first | (simp -implicitDefEqProofs only [go_sem, ↓reduceIte, Tryz.f30] <;> rfl) | rfl) (by first | rfl | (simp -implicitDefEqProofs only [go_sem, ↓reduceIte]; done) | (simp -implicitDefEqProofs only [go_sem, ↓reduceIte]; rfl)) rfl (by intro h; first | rfl | cases h)
def norm_Normal (n : Nat) (p : GRoles) : Option GRoles :=
  (norm_Once n p.users).bind fun t5 =>
  (norm_Once n p.roles).bind fun t8 =>
  (norm_least n p.inherit).bind fun t11 =>
  (norm_pairs n p.assign).bind fun t14 =>
  (norm_grants n p.grants).bind fun t17 =>
  (norm_sods n p.ssd).bind fun t20 =>
  (norm_sods n p.dsd).bind fun t23 =>
  (norm_sessions n p.sessions).bind fun t26 =>
  some (⟨t5, t8, t11, t14, t17, t20, t23, t26⟩ : GRoles)
theorem norm_Normal_ok {n : Nat} {p : GRoles} {r : GRoles} (H : norm_Normal n p = some r) : PureOK Tryz.prog 18 [D.ag (eGRoles p)] (D.ag (eGRoles r)) true := by
  unfold norm_Normal at H
  refine pure_runR (tab := tab) tab_ok Tryz.func18 rfl (by kernel_rfl) (by kernel_rfl) (by simp [Tryz.f18]) ?_
  refine runR_take tab_ok fol 1 ?_
  obtain ⟨t5, b1, H2⟩ := bind_inv H
  try simp -implicitDefEqProofs only [go_sem, Nat.reduceEqDiff, Nat.reduceAdd, reduceCtorEq, ↓reduceIte, eGRoles]
  refine onCallD_pure (by first | rfl | (simp -implicitDefEqProofs only [go_sem, Int.reduceToNat, Int.reduceLT, Int.reduceLE, Int.reduceBEq, Int.reduceBNe, Nat.reduceLT, Nat.reduceBEq, Int.reduceEq, Nat.reduceEqDiff, Nat.reduceAdd, Nat.reduceSub, Nat.reduceMul, Nat.reduceLeDiff, reduceCtorEq, ↓reduceIte, eGPair, eGGrant, eGSod, eGSession, eGRoles]; done) | (simp -implicitDefEqProofs only [go_sem, Int.reduceToNat, Int.reduceLT, Int.reduceLE, Int.reduceBEq, Int.reduceBNe, Nat.reduceLT, Nat.reduceBEq, Int.reduceEq, Nat.reduceEqDiff, Nat.reduceAdd, Nat.reduceSub, Nat.reduceMul, Nat.reduceLeDiff, reduceCtorEq, ↓reduceIte, eGPair, eGGrant, eGSod, eGSession, eGRoles]; rfl)) (norm_Once_ok b1) (by first | exact .inr rfl | exact .inl rfl) ?_
  obtain ⟨t8, b3, H4⟩ := bind_inv H2
  try simp -implicitDefEqProofs only [go_sem, Nat.reduceEqDiff, Nat.reduceAdd, reduceCtorEq, ↓reduceIte]
  refine onCallD_pure (by first | rfl | (simp -implicitDefEqProofs only [go_sem, Int.reduceToNat, Int.reduceLT, Int.reduceLE, Int.reduceBEq, Int.reduceBNe, Nat.reduceLT, Nat.reduceBEq, Int.reduceEq, Nat.reduceEqDiff, Nat.reduceAdd, Nat.reduceSub, Nat.reduceMul, Nat.reduceLeDiff, reduceCtorEq, ↓reduceIte, eGPair, eGGrant, eGSod, eGSession, eGRoles]; done) | (simp -implicitDefEqProofs only [go_sem, Int.reduceToNat, Int.reduceLT, Int.reduceLE, Int.reduceBEq, Int.reduceBNe, Nat.reduceLT, Nat.reduceBEq, Int.reduceEq, Nat.reduceEqDiff, Nat.reduceAdd, Nat.reduceSub, Nat.reduceMul, Nat.reduceLeDiff, reduceCtorEq, ↓reduceIte, eGPair, eGGrant, eGSod, eGSession, eGRoles]; rfl)) (norm_Once_ok b3) (by first | exact .inr rfl | exact .inl rfl) ?_
  obtain ⟨t11, b5, H6⟩ := bind_inv H4
  try simp -implicitDefEqProofs only [go_sem, Nat.reduceEqDiff, Nat.reduceAdd, reduceCtorEq, ↓reduceIte]
  refine onCallD_pure (by first | rfl | (simp -implicitDefEqProofs only [go_sem, Int.reduceToNat, Int.reduceLT, Int.reduceLE, Int.reduceBEq, Int.reduceBNe, Nat.reduceLT, Nat.reduceBEq, Int.reduceEq, Nat.reduceEqDiff, Nat.reduceAdd, Nat.reduceSub, Nat.reduceMul, Nat.reduceLeDiff, reduceCtorEq, ↓reduceIte, eGPair, eGGrant, eGSod, eGSession, eGRoles]; done) | (simp -implicitDefEqProofs only [go_sem, Int.reduceToNat, Int.reduceLT, Int.reduceLE, Int.reduceBEq, Int.reduceBNe, Nat.reduceLT, Nat.reduceBEq, Int.reduceEq, Nat.reduceEqDiff, Nat.reduceAdd, Nat.reduceSub, Nat.reduceMul, Nat.reduceLeDiff, reduceCtorEq, ↓reduceIte, eGPair, eGGrant, eGSod, eGSession, eGRoles]; rfl)) (norm_least_ok b5) (by first | exact .inr rfl | exact .inl rfl) ?_
  obtain ⟨t14, b7, H8⟩ := bind_inv H6
  try simp -implicitDefEqProofs only [go_sem, Nat.reduceEqDiff, Nat.reduceAdd, reduceCtorEq, ↓reduceIte]
  refine onCallD_pure (by first | rfl | (simp -implicitDefEqProofs only [go_sem, Int.reduceToNat, Int.reduceLT, Int.reduceLE, Int.reduceBEq, Int.reduceBNe, Nat.reduceLT, Nat.reduceBEq, Int.reduceEq, Nat.reduceEqDiff, Nat.reduceAdd, Nat.reduceSub, Nat.reduceMul, Nat.reduceLeDiff, reduceCtorEq, ↓reduceIte, eGPair, eGGrant, eGSod, eGSession, eGRoles]; done) | (simp -implicitDefEqProofs only [go_sem, Int.reduceToNat, Int.reduceLT, Int.reduceLE, Int.reduceBEq, Int.reduceBNe, Nat.reduceLT, Nat.reduceBEq, Int.reduceEq, Nat.reduceEqDiff, Nat.reduceAdd, Nat.reduceSub, Nat.reduceMul, Nat.reduceLeDiff, reduceCtorEq, ↓reduceIte, eGPair, eGGrant, eGSod, eGSession, eGRoles]; rfl)) (norm_pairs_ok b7) (by first | exact .inr rfl | exact .inl rfl) ?_
  obtain ⟨t17, b9, H10⟩ := bind_inv H8
  try simp -implicitDefEqProofs only [go_sem, Nat.reduceEqDiff, Nat.reduceAdd, reduceCtorEq, ↓reduceIte]
  refine onCallD_pure (by first | rfl | (simp -implicitDefEqProofs only [go_sem, Int.reduceToNat, Int.reduceLT, Int.reduceLE, Int.reduceBEq, Int.reduceBNe, Nat.reduceLT, Nat.reduceBEq, Int.reduceEq, Nat.reduceEqDiff, Nat.reduceAdd, Nat.reduceSub, Nat.reduceMul, Nat.reduceLeDiff, reduceCtorEq, ↓reduceIte, eGPair, eGGrant, eGSod, eGSession, eGRoles]; done) | (simp -implicitDefEqProofs only [go_sem, Int.reduceToNat, Int.reduceLT, Int.reduceLE, Int.reduceBEq, Int.reduceBNe, Nat.reduceLT, Nat.reduceBEq, Int.reduceEq, Nat.reduceEqDiff, Nat.reduceAdd, Nat.reduceSub, Nat.reduceMul, Nat.reduceLeDiff, reduceCtorEq, ↓reduceIte, eGPair, eGGrant, eGSod, eGSession, eGRoles]; rfl)) (norm_grants_ok b9) (by first | exact .inr rfl | exact .inl rfl) ?_
  obtain ⟨t20, b11, H12⟩ := bind_inv H10
  try simp -implicitDefEqProofs only [go_sem, Nat.reduceEqDiff, Nat.reduceAdd, reduceCtorEq, ↓reduceIte]
  refine onCallD_pure (by first | rfl | (simp -implicitDefEqProofs only [go_sem, Int.reduceToNat, Int.reduceLT, Int.reduceLE, Int.reduceBEq, Int.reduceBNe, Nat.reduceLT, Nat.reduceBEq, Int.reduceEq, Nat.reduceEqDiff, Nat.reduceAdd, Nat.reduceSub, Nat.reduceMul, Nat.reduceLeDiff, reduceCtorEq, ↓reduceIte, eGPair, eGGrant, eGSod, eGSession, eGRoles]; done) | (simp -implicitDefEqProofs only [go_sem, Int.reduceToNat, Int.reduceLT, Int.reduceLE, Int.reduceBEq, Int.reduceBNe, Nat.reduceLT, Nat.reduceBEq, Int.reduceEq, Nat.reduceEqDiff, Nat.reduceAdd, Nat.reduceSub, Nat.reduceMul, Nat.reduceLeDiff, reduceCtorEq, ↓reduceIte, eGPair, eGGrant, eGSod, eGSession, eGRoles]; rfl)) (norm_sods_ok b11) (by first | exact .inr rfl | exact .inl rfl) ?_
  obtain ⟨t23, b13, H14⟩ := bind_inv H12
  try simp -implicitDefEqProofs only [go_sem, Nat.reduceEqDiff, Nat.reduceAdd, reduceCtorEq, ↓reduceIte]
  refine onCallD_pure (by first | rfl | (simp -implicitDefEqProofs only [go_sem, Int.reduceToNat, Int.reduceLT, Int.reduceLE, Int.reduceBEq, Int.reduceBNe, Nat.reduceLT, Nat.reduceBEq, Int.reduceEq, Nat.reduceEqDiff, Nat.reduceAdd, Nat.reduceSub, Nat.reduceMul, Nat.reduceLeDiff, reduceCtorEq, ↓reduceIte, eGPair, eGGrant, eGSod, eGSession, eGRoles]; done) | (simp -implicitDefEqProofs only [go_sem, Int.reduceToNat, Int.reduceLT, Int.reduceLE, Int.reduceBEq, Int.reduceBNe, Nat.reduceLT, Nat.reduceBEq, Int.reduceEq, Nat.reduceEqDiff, Nat.reduceAdd, Nat.reduceSub, Nat.reduceMul, Nat.reduceLeDiff, reduceCtorEq, ↓reduceIte, eGPair, eGGrant, eGSod, eGSession, eGRoles]; rfl)) (norm_sods_ok b13) (by first | exact .inr rfl | exact .inl rfl) ?_
  obtain ⟨t26, b15, H16⟩ := bind_inv H14
  try simp -implicitDefEqProofs only [go_sem, Nat.reduceEqDiff, Nat.reduceAdd, reduceCtorEq, ↓reduceIte]
  refine onCallD_pure (by first | rfl | (simp -implicitDefEqProofs only [go_sem, Int.reduceToNat, Int.reduceLT, Int.reduceLE, Int.reduceBEq, Int.reduceBNe, Nat.reduceLT, Nat.reduceBEq, Int.reduceEq, Nat.reduceEqDiff, Nat.reduceAdd, Nat.reduceSub, Nat.reduceMul, Nat.reduceLeDiff, reduceCtorEq, ↓reduceIte, eGPair, eGGrant, eGSod, eGSession, eGRoles]; done) | (simp -implicitDefEqProofs only [go_sem, Int.reduceToNat, Int.reduceLT, Int.reduceLE, Int.reduceBEq, Int.reduceBNe, Nat.reduceLT, Nat.reduceBEq, Int.reduceEq, Nat.reduceEqDiff, Nat.reduceAdd, Nat.reduceSub, Nat.reduceMul, Nat.reduceLeDiff, reduceCtorEq, ↓reduceIte, eGPair, eGGrant, eGSod, eGSession, eGRoles]; rfl)) (norm_sessions_ok b15) (by first | exact .inr rfl | exact .inl rfl) ?_
  try simp -implicitDefEqProofs only [go_sem, Nat.reduceEqDiff, Nat.reduceAdd, Nat.reduceLeDiff, ↓reduceIte]
  refine Rd_endF (by rfl) ?_
  try simp -implicitDefEqProofs only [go_sem]
  obtain rfl := Option.some.inj H16
  exact end_pure (by first | (simp -implicitDefEqProofs only [go_sem, Nat.reduceEqDiff, Nat.reduceAdd, ↓reduceIte, Tryz.f18] <;> rfl) | rfl) (by first | rfl | (simp -implicitDefEqProofs only [go_sem, Int.reduceToNat, Int.reduceLT, Int.reduceLE, Int.reduceBEq, Int.reduceBNe, Nat.reduceLT, Nat.reduceBEq, Int.reduceEq, Nat.reduceEqDiff, Nat.reduceAdd, Nat.reduceSub, Nat.reduceMul, Nat.reduceLeDiff, reduceCtorEq, ↓reduceIte, eGPair, eGGrant, eGSod, eGSession, eGRoles]; done) | (simp -implicitDefEqProofs only [go_sem, Int.reduceToNat, Int.reduceLT, Int.reduceLE, Int.reduceBEq, Int.reduceBNe, Nat.reduceLT, Nat.reduceBEq, Int.reduceEq, Nat.reduceEqDiff, Nat.reduceAdd, Nat.reduceSub, Nat.reduceMul, Nat.reduceLeDiff, reduceCtorEq, ↓reduceIte, eGPair, eGGrant, eGSod, eGSession, eGRoles]; rfl)) rfl (by intro h; first | rfl | cases h)
end Go.Proofs.YtkkhgdmmbhpckaaGreat.Ab
