/-
  Functions, read off the code.
-/
import Derived.Test.YtkkhgdmmbhpckaaScc
namespace Go.Proofs.Ytkkhgdmmbhpckaa.Ab
open Go.RowKit
def norm_below_L1 (n : Nat) (l : List GPair) : Nat → (List (ByteArray × (List ByteArray)) × Int) → Option (List (ByteArray × (List ByteArray)))
  | 0, _ => none
  | c + 1, (out2, t9) =>
    (if (decide (t9 < (l.length : Int))) then
      (idx l t9).bind fun x2 =>
      grd (decide (out2.length ≤ 4294967296)) <|
      (
        grd (famG x2.a out2) <|
        some () : Option (Unit)).bind fun _ =>
      grd (decide ((madd x2.a [x2.b] out2).length ≤ 4294967296)) <|
      norm_below_L1 n l c ((madd x2.a [x2.b] out2), (IntKind.i64.wrap (t9 + 1)))
    else
      grd (decide (out2.length ≤ 4294967296)) <|
      some out2)
def norm_below_L1_f (_ : Nat) (_ : List GPair) (st : List (ByteArray × (List ByteArray))) (x2 : GPair) (k : (List (ByteArray × (List ByteArray))) → Option (List (ByteArray × (List ByteArray)))) : Option (List (ByteArray × (List ByteArray))) :=
  match st with
  | out2 =>
    grd (decide (out2.length ≤ 4294967296)) <|
    (
      grd (famG x2.a out2) <|
      some () : Option (Unit)).bind fun _ =>
    grd (decide ((madd x2.a [x2.b] out2).length ≤ 4294967296)) <|
    k (madd x2.a [x2.b] out2)
def norm_below_L1_e (_ : Nat) (_ : List GPair) (st : List (ByteArray × (List ByteArray))) : Option (List (ByteArray × (List ByteArray))) :=
  match st with
  | out2 => grd (decide (out2.length ≤ 4294967296)) <|
  some out2
theorem norm_below_L1_list (n : Nat) (l : List GPair) (hx : l.length < 4611686018427387904) (c : Nat) (st : List (ByteArray × (List ByteArray))) (ix : Nat) (hi : ix ≤ l.length) (hc : l.length - ix < c) : norm_below_L1 n l c (match st, (ix : Int) with | out2, ix => (out2, ix)) = foldK (norm_below_L1_f n l) (norm_below_L1_e n l) (l.drop ix) st :=
  loop_list (fun c st ix => norm_below_L1 n l c (match st, ix with | out2, ix => (out2, ix))) l (norm_below_L1_f n l) (norm_below_L1_e n l) (fun _ _ _ => rfl) hx c st ix hi hc

def norm_below (n : Nat) (l : List GPair) : Option (List (ByteArray × (List ByteArray))) :=
  (
    norm_below_L1 n l n (([] : List (ByteArray × (List ByteArray))), 0) : Option (List (ByteArray × (List ByteArray)))).bind fun out4 =>
  grd (decide (out4.length ≤ 4294967296)) <|
  some out4
theorem norm_below_ok {n : Nat} {l : List GPair} {r : List (ByteArray × (List ByteArray))} (H : norm_below n l = some r) : PureA Try.prog 99 [.d (D.sl (List.map eGPair l))] (D.mp (encMp Value.string false (eL eS) r)) true := by
  unfold norm_below at H
  refine pureX_runR (tab := tab) tab_ok Try.func99 rfl (by kernel_rfl) (by kernel_rfl) (by simp [Try.f99]) ?_
  refine runR_seq ?_
  refine runR_take tab_ok fol 1 ?_
  try simp -implicitDefEqProofs only [go_sem]
  refine runR_seq ?_
  refine runR_take tab_ok fol 1 ?_
  try simp -implicitDefEqProofs only [go_sem, Nat.reduceAdd, ↓reduceIte]
  refine runR_seq ?_
  refine runR_seq ?_
  refine runR_take tab_ok fol 1 ?_
  try simp -implicitDefEqProofs only [go_sem, Nat.reduceAdd, reduceCtorEq, ↓reduceIte]
  obtain ⟨e_, E1, H2⟩ := bind_inv H
  refine runR_join (α := { y : List (ByteArray × (List ByteArray)) // e_ = y } × (Nat → Nat)) (fun | ⟨⟨out4, _⟩, g6⟩ => ⟨upd 3 (.mo 0) noFr, upd 0 (some (.mo (encF Value.string 4294967296 g6 out4) false)) (famH eS 1 4294967296 g6 out4 (noHp)), 8589934592⟩) ?_ ?_
  · refine runR_block ?_
    refine runR_loop (α := { q : (Nat × (List (ByteArray × (List ByteArray)) × Int)) × (Nat → Nat) // norm_below_L1 n l q.1.1 q.1.2 = some e_ }) (fun | ⟨⟨⟨c, ⟨out2, t9⟩⟩, g3⟩, _⟩ => ⟨upd 3 (.mo 0) (upd 7 (.d (.sl (List.map eGPair l)) true) (upd 8 (.v (.int .i64 (l.length : Int))) (upd 9 (.v (.int .i64 t9)) noFr))), upd 0 (some (.mo (encF Value.string 4294967296 g3 out2) false)) (famH eS 1 4294967296 g3 out2 (noHp)), 8589934592⟩) (fun q => q.1.1.1) ⟨((n, (([] : List (ByteArray × (List ByteArray))), 0)), (fun _ => 0)), E1⟩ ?_ ?_
    · exact ren_mkF (R := 340282366920938463463374607431768211457) none (fun _ _ h => by cases h) [4294967296] [(0, 1)] (by rfl) (rf_upd (by rfl) (rf_upd (by rfl) (rf_upd (by rfl) (rf_upd (by rfl) (rf_no _))))) (rh_upd (rh_one (by rfl) (renO_fam (by rfl) (by simp) (fun _ _ h => by cases h) (by decide) rfl) (by rfl)) (rh_fam (by rfl) (by simp) (fun _ _ h => by cases h) rfl (fun j p h hj => by cases h) (rh_no _)))
    · rintro ⟨⟨⟨c, ⟨out2, t9⟩⟩, g3⟩, L3⟩
      rcases c with _ | c
      · exact nomatch (show none = some _ from L3)
      · unfold norm_below_L1 at L3
        try dsimp only at L3
        refine runR_seq ?_
        refine runR_take tab_ok fol 1 ?_
        try simp -implicitDefEqProofs only [go_sem, Nat.reduceEqDiff, Nat.reduceAdd, ↓reduceIte]
        refine runR_seq ?_
        refine runR_take tab_ok fol 1 ?_
        try simp -implicitDefEqProofs only [go_sem, ↓reduceIte]
        rcases ite_inv L3 with ⟨c54, H55⟩ | ⟨c54, H55⟩
        · try simp -implicitDefEqProofs only [go_sem, c54]
          refine runR_seq ?_
          refine runR_block ?_
          refine runR_seq ?_
          refine runR_take tab_ok fol 1 ?_
          obtain ⟨x2, b56, H57⟩ := bind_inv H55
          obtain ⟨h58, h59⟩ := idx_inv b56
          try simp only [Int.reduceToNat, Int.toNat_natCast] at h59
          have h60 := map_at eGPair h59
          try simp -implicitDefEqProofs only [go_sem, Nat.reduceEqDiff, Nat.reduceAdd, ↓reduceIte, eGPair, nat_of .i64 h58, h60]
          obtain ⟨g62, H63⟩ := grd_inv H57
          have h64 : out2.length ≤ 4294967296 := of_decide_eq_true g62
          obtain ⟨e_3, E65, H66⟩ := bind_inv H63
          refine runR_join (α := { y : Unit // e_3 = y } × (Nat → Nat)) (fun | ⟨⟨_, _⟩, g4⟩ => ⟨upd 3 (.mo 0) (upd 7 (.d (.sl (List.map eGPair l)) true) (upd 8 (.v (.int .i64 (l.length : Int))) (upd 9 (.v (.int .i64 t9)) noFr))), upd 0 (some (.mo (encF Value.string 4294967296 g4 (madd x2.a [x2.b] out2)) false)) (famH eS 1 4294967296 g4 (madd x2.a [x2.b] out2) (noHp)), 8589934592⟩) ?_ ?_
          · refine runR_take tab_ok fol 1 ?_
            obtain ⟨g67, H68⟩ := grd_inv E65
            obtain ⟨g69, g70⟩ := famG_inv g67
            try simp -implicitDefEqProofs only [go_sem, Nat.reduceEqDiff, Nat.reduceAdd, reduceCtorEq, ↓reduceIte]
            rcases find_cases (kv := Value.string) (B := 4294967296) (vs := g3) key_str x2.a out2 with ⟨n71, n72, n73⟩ | ⟨j2, xs2, o74, o75, o76, o77⟩
            · have n78 : mfind (false, [.string]) (.string x2.a) (encF Value.string 4294967296 g3 out2) = some none := n72
              try simp -implicitDefEqProofs only [go_sem, Nat.reduceLT, Nat.reduceEqDiff, Nat.reduceAdd, Nat.reduceLeDiff, reduceCtorEq, ↓reduceIte, look_new n78, mput_new n78]
              refine Rd_endF (by kernel_rfl) ?_
              try simp -implicitDefEqProofs only [go_sem]
              obtain rfl := Option.some.inj H68
              exact ⟨⟨⟨(), rfl⟩, (vsUp (List.length out2) 0 g3)⟩, ren_mkF (R := 8589934607) (some (fid 4294967296 (List.length out2), 8589934607)) (fun _ _ h => by cases h; rfl) [4294967296] [(0, 0)] (by rfl) (rf_upd (by rfl) (rf_upd (by rfl) (rf_upd (by rfl) (rf_upd (by rfl) (rf_no _))))) (rh_upd (rh_one (by rfl) (renO_famN (by rfl) (by simp) g69 (by exact (n73 _))) (by rfl)) (rh_famN (by rfl) (by simp) g69 (by exact (n73 _)) (fun j p h hj => by repeat (first | with_reducible exact famH_at h hj | (with_reducible refine at_upd ?_ ?_; rw [fid_eq]; omega) | (with_reducible refine at_fam ?_ ?_; rw [fid_eq]; omega))) (by rfl) (rh_no _)))⟩
            · have o83 : mfind (false, [.string]) (.string x2.a) (encF Value.string 4294967296 g3 out2) = some (some (j2, .so (fid 4294967296 j2) (g3 j2) 0 xs2.length)) := o76
              have h79 : j2 < 4294967296 := Nat.lt_trans (List.getElem?_eq_some_iff.1 o74).1 g69
              have h80 : ∀ hp : Hp, famH eS 1 4294967296 g3 out2 hp (fid 4294967296 j2) = some (.rw (List.map eS xs2) 1 (g3 j2) false false) := fun _ => famH_at o74 h79
              have h81 : (encF Value.string 4294967296 g3 out2)[j2]? = some ((.string x2.a), .so (fid 4294967296 j2) (g3 j2) 0 xs2.length) := (encF_at _ _).trans (by rw [o74]; rfl)
              have h82 : xs2.length + 1 ≤ 4294967296 := by have := g70; simp only [mgetD, o75, Option.getD_some] at this; omega
              have h84 : ∀ (x y : Option AO) (g : Hp), upd (fid 4294967296 j2) x (upd 0 y g) = upd 0 y (upd (fid 4294967296 j2) x g) := fun _ _ _ => upd_swap (by rw [fid_eq]; omega)
              have h85 : ∀ (x y : Option AO) (g : Hp), upd (fid 4294967296 j2) x (upd 8589934595 y g) = upd 8589934595 y (upd (fid 4294967296 j2) x g) := fun _ _ _ => upd_swap (by rw [fid_eq]; omega)
              have h86 : ∀ c : Nat, 8589934592 ≤ c → (fid 4294967296 j2 = c) = False := fun c h => fid_hi h79 h
              have h87 : ∀ c : Nat, 8589934592 ≤ c → (c = fid 4294967296 j2) = False := fun c h => fid_hi' h79 h
              have h88 : ∀ (c : Nat) (x y : Option AO) (g : Hp), 8589934592 ≤ c → upd (fid 4294967296 j2) x (upd c y g) = upd c y (upd (fid 4294967296 j2) x g) := fun _ _ _ _ h => upd_swap (by rw [fid_eq]; omega)
              obtain ⟨zs2, h89⟩ : ∃ zs, xs2 ++ [x2.b] = zs := ⟨_, rfl⟩
              have h90 : List.map eS xs2 ++ [[.v (.string x2.b)]] = List.map eS zs2 := app_map eS h89
              have h91 : xs2.length + 1 = zs2.length := app_len h89
              have h92 : zs2.length ≤ 4294967296 := by omega
              have h93 : madd x2.a [x2.b] out2 = List.set out2 j2 (x2.a, zs2) := by rw [← h89]; exact o77 _
              have h94 : ∀ hp : Hp, upd (fid 4294967296 j2) (some (.rw (List.map eS zs2) 1 (g3 j2 + 1) false false)) (famH eS 1 4294967296 g3 out2 hp) = famH eS 1 4294967296 (vsUp j2 (g3 j2 + 1) g3) (List.set out2 j2 (x2.a, zs2)) hp := fun _ => famH_set (q := (x2.a, zs2)) o74 h79
              have h95 : List.set (encF Value.string 4294967296 g3 out2) j2 ((.string x2.a), .so (fid 4294967296 j2) (g3 j2 + 1) 0 zs2.length) = encF Value.string 4294967296 (vsUp j2 (g3 j2 + 1) g3) (List.set out2 j2 (x2.a, zs2)) := encF_set (q := (x2.a, zs2)) (List.getElem?_eq_some_iff.1 o74).1
              have h96 : (List.set out2 j2 (x2.a, zs2)).length ≤ 4294967296 := by rw [List.length_set]; exact Nat.le_of_lt g69
              try simp -implicitDefEqProofs only [go_sem, Nat.reduceLT, Nat.reduceEqDiff, Nat.reduceAdd, Nat.reduceLeDiff, reduceCtorEq, ↓reduceIte, look_old o83, mput_old o83, h80, h84, h85, h86, fid_lo, h88, h90, h91, h92, h94, h95]
              refine Rd_endJ (fid 4294967296 j2) 340282366920938463463374607431768211458 (by have := h79; rw [fid_eq]; unfold sent; omega) (by decide) (by simp [h87]) (by simp only [List.reverse_cons, List.reverse_nil, List.nil_append, List.cons_append, List.map_cons, List.map_nil, swRec, sw, Nat.reduceLeDiff, Nat.reduceLT, ↓reduceIte, fid_lo', h87]; kernel_rfl) ?_
              try simp -implicitDefEqProofs only [go_sem]
              obtain rfl := Option.some.inj H68
              exact ⟨⟨⟨(), rfl⟩, (vsUp j2 (g3 j2 + 1) g3)⟩, ren_mkF (R := 340282366920938463463374607431768211457) none (fun _ _ h => by cases h) [4294967296] [(0, 0)] (by rfl) (rf_upd (by rfl) (rf_upd (by rfl) (rf_upd (by rfl) (rf_upd (by rfl) (rf_no _))))) (rh_upd (rh_one (by rfl) (renO_fam (by rfl) (by simp) (fun _ _ h => by cases h) h96 (by exact h93)) (by rfl)) (rh_fam (by rfl) (by simp) (fun _ _ h => by cases h) (by exact h93) (fun j p h hj => by repeat (first | with_reducible exact famH_at h hj | (with_reducible refine at_upd ?_ ?_; rw [fid_eq]; omega) | (with_reducible refine at_fam ?_ ?_; rw [fid_eq]; omega))) (rh_no _)))⟩
          · rintro ⟨⟨_, he100⟩, g4⟩
            replace he100 := he100.symm
            subst he100
            try dsimp only at H66
            try simp -implicitDefEqProofs only [go_sem]
            refine runR_take tab_ok fol 1 ?_
            try simp -implicitDefEqProofs only [go_sem, Nat.reduceEqDiff, Nat.reduceAdd, ↓reduceIte]
            obtain ⟨g97, H98⟩ := grd_inv H66
            have h99 : (madd x2.a [x2.b] out2).length ≤ 4294967296 := of_decide_eq_true g97
            exact ⟨⟨((c, ((madd x2.a [x2.b] out2), (IntKind.i64.wrap (t9 + 1)))), g4), H98⟩, ren_mkF (R := 340282366920938463463374607431768211457) none (fun _ _ h => by cases h) [4294967296] [(0, 0)] (by rfl) (rf_upd (by rfl) (rf_upd (by rfl) (rf_upd (by rfl) (rf_upd (by rfl) (rf_no _))))) (rh_upd (rh_one (by rfl) (renO_fam (by rfl) (by simp) (fun _ _ h => by cases h) h99 rfl) (by rfl)) (rh_fam (by rfl) (by simp) (fun _ _ h => by cases h) rfl (fun j p h hj => by repeat (first | with_reducible exact famH_at h hj | (with_reducible refine at_upd ?_ ?_; rw [fid_eq]; omega) | (with_reducible refine at_fam ?_ ?_; rw [fid_eq]; omega))) (rh_no _))), Nat.lt_succ_self _⟩
        · try simp -implicitDefEqProofs only [go_sem, ↓reduceIte, c54]
          obtain ⟨g101, H102⟩ := grd_inv H55
          have h103 : out2.length ≤ 4294967296 := of_decide_eq_true g101
          obtain rfl := Option.some.inj H102
          exact ⟨⟨⟨out2, rfl⟩, g3⟩, ren_mkF (R := 340282366920938463463374607431768211457) none (fun _ _ h => by cases h) [4294967296] [(0, 0)] (by rfl) (rf_upd (by rfl) (rf_no _)) (rh_upd (rh_one (by rfl) (renO_fam (by rfl) (by simp) (fun _ _ h => by cases h) h103 rfl) (by rfl)) (rh_fam (by rfl) (by simp) (fun _ _ h => by cases h) rfl (fun j p h hj => by repeat (first | with_reducible exact famH_at h hj | (with_reducible refine at_upd ?_ ?_; rw [fid_eq]; omega) | (with_reducible refine at_fam ?_ ?_; rw [fid_eq]; omega))) (rh_no _)))⟩
  · rintro ⟨⟨out4, he107⟩, g6⟩
    replace he107 := he107.symm
    subst he107
    try dsimp only at H2
    refine runR_take tab_ok fol 1 ?_
    try simp -implicitDefEqProofs only [go_sem, Nat.reduceAdd, ↓reduceIte]
    obtain ⟨g104, H105⟩ := grd_inv H2
    have h106 : out4.length ≤ 4294967296 := of_decide_eq_true g104
    obtain rfl := Option.some.inj H105
    exact endX_ret (b := false) (v := .mo 0) (by simp -implicitDefEqProofs only [go_sem, ↓reduceIte, Try.f99] <;> rfl) (ToXR.val (ToXV.one (ToX.fam (by rfl) h106 (fun j p h hj => by repeat (first | with_reducible exact famH_at h hj | (with_reducible refine at_upd ?_ ?_; rw [fid_eq]; omega) | (with_reducible refine at_fam ?_ ?_; rw [fid_eq]; omega)))) rfl)) (by intro h; rfl)
def norm_Down (n : Nat) (p : GRoles) (role : ByteArray) : Option (List ByteArray) :=
  (norm_below n p.inherit).bind fun t8 =>
  (norm_reach n role t8).bind fun t9 =>
  some t9
theorem norm_Down_ok {n : Nat} {p : GRoles} {role : ByteArray} {r : List ByteArray} (H : norm_Down n p role = some r) : PureOK Try.prog 84 [D.ag (eGRoles p), D.v (.string role)] (D.sl (List.map eS r)) true := by
  unfold norm_Down at H
  refine pure_runR (tab := tab) tab_ok Try.func84 rfl (by kernel_rfl) (by kernel_rfl) (by simp [Try.f84]) ?_
  refine runR_take tab_ok fol 1 ?_
  obtain ⟨t8, b1, H2⟩ := bind_inv H
  try simp -implicitDefEqProofs only [go_sem, Nat.reduceEqDiff, Nat.reduceAdd, reduceCtorEq, ↓reduceIte, eGRoles]
  refine onCall_pureA (by rfl) (norm_below_ok b1) (by exact .inr rfl) ?_
  obtain ⟨t9, b3, H4⟩ := bind_inv H2
  try simp -implicitDefEqProofs only [go_sem, Bool.false_and, Nat.reduceEqDiff, Nat.reduceAdd, ↓reduceIte]
  refine onCall_pure (by rfl) (norm_reach_ok b3) (by exact .inr rfl) ?_
  try simp -implicitDefEqProofs only [go_sem, Bool.false_and, Nat.reduceAdd, ↓reduceIte]
  obtain rfl := Option.some.inj H4
  exact end_pure (by simp -implicitDefEqProofs only [go_sem, ↓reduceIte, Try.f84] <;> rfl) (by rfl) rfl (by intro h; rfl)
def sess_closed_L1 (n : Nat) (p : GRoles) (roles : List ByteArray) : Nat → (List ByteArray × Int) → Option (List ByteArray)
  | 0, _ => none
  | c + 1, (out, t10) =>
    (if (decide (t10 < (roles.length : Int))) then
      (idx roles t10).bind fun x2 =>
      (norm_Down n p x2).bind fun t172 =>
      (if (decide (out.length = 0)) then
        (app [] t172).bind fun _ =>
        sess_closed_L1 n p roles c (t172, (IntKind.i64.wrap (t10 + 1)))
      else
        (app out t172).bind fun l3 =>
        sess_closed_L1 n p roles c (l3, (IntKind.i64.wrap (t10 + 1))))
    else
      some out)
def sess_closed_L1_f (n : Nat) (p : GRoles) (_ : List ByteArray) (st : List ByteArray) (x2 : ByteArray) (k : List ByteArray → Option (List ByteArray)) : Option (List ByteArray) :=
  match st with
  | out =>
    (norm_Down n p x2).bind fun t172 =>
    (if (decide (out.length = 0)) then
      (app [] t172).bind fun _ =>
      k t172
    else
      (app out t172).bind fun l3 =>
      k l3)
def sess_closed_L1_e (_ : Nat) (_ : GRoles) (_ : List ByteArray) (st : List ByteArray) : Option (List ByteArray) :=
  match st with
  | out => some out
theorem sess_closed_L1_list (n : Nat) (p : GRoles) (roles : List ByteArray) (hx : roles.length < 4611686018427387904) (c : Nat) (st : List ByteArray) (ix : Nat) (hi : ix ≤ roles.length) (hc : roles.length - ix < c) : sess_closed_L1 n p roles c (match st, (ix : Int) with | out, ix => (out, ix)) = foldK (sess_closed_L1_f n p roles) (sess_closed_L1_e n p roles) (roles.drop ix) st :=
  loop_list (fun c st ix => sess_closed_L1 n p roles c (match st, ix with | out, ix => (out, ix))) roles (sess_closed_L1_f n p roles) (sess_closed_L1_e n p roles) (fun _ _ _ => rfl) hx c st ix hi hc

def sess_closed (n : Nat) (p : GRoles) (roles : List ByteArray) : Option (List ByteArray) :=
  (
    sess_closed_L1 n p roles n ([], 0) : Option (List ByteArray)).bind fun out3 =>
  (norm_Once n out3).bind fun t21 =>
  some t21
theorem sess_closed_ok {n : Nat} {p : GRoles} {roles : List ByteArray} {r : List ByteArray} (H : sess_closed n p roles = some r) : PureOK Try.prog 57 [D.ag (eGRoles p), D.sl (List.map eS roles)] (D.sl (List.map eS r)) true := by
  unfold sess_closed at H
  refine pure_runR (tab := tab) tab_ok Try.func57 rfl (by kernel_rfl) (by kernel_rfl) (by simp [Try.f57]) ?_
  refine runR_seq ?_
  refine runR_take tab_ok fol 1 ?_
  try simp -implicitDefEqProofs only [go_sem, Nat.reduceAdd, eGRoles]
  refine runR_seq ?_
  refine runR_take tab_ok fol 1 ?_
  try simp -implicitDefEqProofs only [go_sem, Nat.reduceAdd]
  refine runR_seq ?_
  refine runR_seq ?_
  refine runR_take tab_ok fol 1 ?_
  try simp -implicitDefEqProofs only [go_sem, Nat.reduceEqDiff, Nat.reduceAdd, ↓reduceIte]
  obtain ⟨e_, E1, H2⟩ := bind_inv H
  refine runR_join (α := { y : List ByteArray // e_ = y } × Nat) (fun | ⟨⟨out3, _⟩, g3⟩ => ⟨upd 5 (accV 0 g3 (List.map eS out3)) noFr, upd 0 (accO 1 g3 false (List.map eS out3)) noHp, 1⟩) ?_ ?_
  · refine runR_block ?_
    refine runR_loop (α := { q : (Nat × (List ByteArray × Int)) × Nat // sess_closed_L1 n p roles q.1.1 q.1.2 = some e_ }) (fun | ⟨⟨⟨c, ⟨out, t10⟩⟩, g⟩, _⟩ => ⟨upd 2 (.pt 0 0) (upd 5 (accV 1 g (List.map eS out)) (upd 8 (.d (.sl (List.map eS roles)) true) (upd 9 (.v (.int .i64 (roles.length : Int))) (upd 10 (.v (.int .i64 t10)) noFr)))), upd 0 (some (.bx [.d (.sl (List.map eS p.users)) true, .d (.sl (List.map eS p.roles)) true, .d (.sl (List.map eGPair p.inherit)) true, .d (.sl (List.map eGPair p.assign)) true, .d (.sl (List.map eGGrant p.grants)) true, .d (.sl (List.map eGSod p.ssd)) true, .d (.sl (List.map eGSod p.dsd)) true, .d (.sl (List.map eGSession p.sessions)) true])) (upd 1 (accO 1 g false (List.map eS out)) noHp), 2⟩) (fun q => q.1.1.1) ⟨((n, ([], 0)), 0), E1⟩ ?_ ?_
    · exact ren_mk [(0, 0)] (by rfl) (rf_upd (by rfl) (rf_upd (by rfl) (rf_upd (by rfl) (rf_upd (by rfl) (rf_upd (by rfl) (rf_no _)))))) (rh_upd (rh_one (by rfl) (by rfl) (by rfl)) (rh_upd rh_accN (rh_no _)))
    · rintro ⟨⟨⟨c, ⟨out, t10⟩⟩, g⟩, L3⟩
      rcases c with _ | c
      · exact nomatch (show none = some _ from L3)
      · unfold sess_closed_L1 at L3
        try dsimp only at L3
        refine runR_take tab_ok fol 1 ?_
        try simp -implicitDefEqProofs only [go_sem, Nat.reduceEqDiff, Nat.reduceAdd, ↓reduceIte]
        rcases ite_inv L3 with ⟨c18, H19⟩ | ⟨c18, H19⟩
        · obtain ⟨x2, b20, H21⟩ := bind_inv H19
          obtain ⟨h22, h23⟩ := idx_inv b20
          try simp only [Int.reduceToNat, Int.toNat_natCast] at h23
          have h24 := map_at eS h23
          obtain ⟨t172, b26, H27⟩ := bind_inv H21
          try simp -implicitDefEqProofs only [go_sem, Nat.reduceEqDiff, Nat.reduceAdd, ↓reduceIte, c18, nat_of .i64 h22, h24]
          refine onCall_pure (by rfl) (norm_Down_ok b26) (by exact .inr rfl) ?_
          try simp -implicitDefEqProofs only [go_sem, Bool.false_and, Nat.reduceLT, Nat.reduceEqDiff, Nat.reduceAdd, reduceCtorEq, ↓reduceIte]
          rcases ite_inv H27 with ⟨c28, H29⟩ | ⟨c28, H29⟩
          · have e30 : out = [] := List.eq_nil_of_length_eq_zero (of_decide_eq_true c28)
            subst e30
            simp only [List.map_nil, accV_nil, accO_nil]
            try simp only [accK, accB]
            obtain ⟨l2, b31, H32⟩ := bind_inv H29
            obtain ⟨h33, h34⟩ := app_inv b31
            have h34 : t172 = l2 := h34
            subst h34
            have h33 : t172.length ≤ 4294967296 := by have := h33; simpa using this
            try simp -implicitDefEqProofs only [go_sem, Nat.reduceLT, Nat.reduceEqDiff, Nat.reduceAdd, Nat.reduceLeDiff, reduceCtorEq, ↓reduceIte, chk_map (n := 1) (f := eS) (fun _ => rfl) t172, h33]
            exact ⟨⟨((c, (t172, (IntKind.i64.wrap (t10 + 1)))), 0), H32⟩, ren_mk [(0, 0), (1, 10)] (by rfl) (rf_upd (by rfl) (rf_upd (ren_acc (by rfl)) (rf_upd (by rfl) (rf_upd (by rfl) (rf_upd (by rfl) (rf_no _)))))) (rh_upd (rh_one (by rfl) (by rfl) (by rfl)) (rh_upd (rh_acc (by rfl) (by rfl)) (rh_no _))), Nat.lt_succ_self _⟩
          · have q35 : 0 < out.length := by have := of_decide_eq_false c28; omega
            have h36 : ∀ i, accK i (List.map eS out) = [i] := fun i => by cases hx : out with | nil => (rw [hx] at q35; simp at q35) | cons a r => rfl
            have h37 : ∀ b, accB b (List.map eS out) = b := fun b => by cases hx : out with | nil => (rw [hx] at q35; simp at q35) | cons a r => rfl
            obtain ⟨l3, b38, H39⟩ := bind_inv H29
            obtain ⟨h40, h41⟩ := app_inv b38
            have h40 : out.length + t172.length ≤ 4294967296 := h40
            have h42 : List.map eS out ++ List.map eS t172 = List.map eS l3 := app_map eS h41
            have h43 : out.length + t172.length = l3.length := app_len h41
            have h44 : l3.length ≤ 4294967296 := by omega
            have q45 : 0 < l3.length := by omega
            try simp -implicitDefEqProofs only [go_sem, Nat.reduceLT, Nat.reduceEqDiff, Nat.reduceAdd, Nat.reduceLeDiff, ↓reduceIte, q35, accV_pos (f := eS) q35, accO_pos (f := eS) q35, chk_map (n := 1) (f := eS) (fun _ => rfl) t172, h42, h43, h44]
            exact ⟨⟨((c, (l3, (IntKind.i64.wrap (t10 + 1)))), (g + 1)), H39⟩, ren_mk [(0, 0), (1, 1)] (by rfl) (rf_upd (by rfl) (rf_upd (by exact ren_accP (by rfl) q45) (rf_upd (by rfl) (rf_upd (by rfl) (rf_upd (by rfl) (rf_no _)))))) (rh_upd (rh_one (by rfl) (by rfl) (by rfl)) (rh_upd (by exact rh_accP (by rfl) q45 (by rfl)) (rh_no _))), Nat.lt_succ_self _⟩
        · try simp -implicitDefEqProofs only [go_sem, ↓reduceIte, c18]
          obtain rfl := Option.some.inj H19
          exact ⟨⟨⟨out, rfl⟩, g⟩, ren_mk [(0, 1)] (by rfl) (rf_upd (ren_acc (by rfl)) (rf_no _)) (rh_upd (rh_acc (by rfl) (by rfl)) (rh_no _))⟩
  · rintro ⟨⟨out3, he48⟩, g3⟩
    replace he48 := he48.symm
    subst he48
    try dsimp only at H2
    refine runR_take tab_ok fol 1 ?_
    obtain ⟨t21, b46, H47⟩ := bind_inv H2
    try simp -implicitDefEqProofs only [go_sem, Nat.reduceAdd, ↓reduceIte]
    refine onCall_pure (by simp -implicitDefEqProofs only [go_sem, ↓reduceIte]; rfl) (norm_Once_ok b46) (by exact .inr rfl) ?_
    try simp -implicitDefEqProofs only [go_sem, Bool.false_and, Nat.reduceAdd, ↓reduceIte]
    obtain rfl := Option.some.inj H47
    exact end_pure (by simp -implicitDefEqProofs only [go_sem, ↓reduceIte, Try.f57] <;> rfl) (by rfl) rfl (by intro h; rfl)
def sess_Roles_L1 (n : Nat) (p : GRoles) (user : ByteArray) : Nat → (List ByteArray × Int) → Option (List ByteArray)
  | 0, _ => none
  | c + 1, (own, t16) =>
    (if (decide (t16 < (p.assign.length : Int))) then
      (idx p.assign t16).bind fun x2 =>
      (if (x2.a.toList == user.toList) then
        (app own [x2.b]).bind fun l =>
        sess_Roles_L1 n p user c (l, (IntKind.i64.wrap (t16 + 1)))
      else
        sess_Roles_L1 n p user c (own, (IntKind.i64.wrap (t16 + 1))))
    else
      some own)
def sess_Roles_L1_f (_ : Nat) (_ : GRoles) (user : ByteArray) (st : List ByteArray) (x2 : GPair) (k : List ByteArray → Option (List ByteArray)) : Option (List ByteArray) :=
  match st with
  | own =>
    (if (x2.a.toList == user.toList) then
      (app own [x2.b]).bind fun l =>
      k l
    else
      k own)
def sess_Roles_L1_e (_ : Nat) (_ : GRoles) (_ : ByteArray) (st : List ByteArray) : Option (List ByteArray) :=
  match st with
  | own => some own
theorem sess_Roles_L1_list (n : Nat) (p : GRoles) (user : ByteArray) (hx : p.assign.length < 4611686018427387904) (c : Nat) (st : List ByteArray) (ix : Nat) (hi : ix ≤ p.assign.length) (hc : p.assign.length - ix < c) : sess_Roles_L1 n p user c (match st, (ix : Int) with | own, ix => (own, ix)) = foldK (sess_Roles_L1_f n p user) (sess_Roles_L1_e n p user) (p.assign.drop ix) st :=
  loop_list (fun c st ix => sess_Roles_L1 n p user c (match st, ix with | own, ix => (own, ix))) p.assign (sess_Roles_L1_f n p user) (sess_Roles_L1_e n p user) (fun _ _ _ => rfl) hx c st ix hi hc

def sess_Roles (n : Nat) (p : GRoles) (user : ByteArray) : Option (List ByteArray) :=
  (slices_Contains_string n p.users user).bind fun t11 =>
  (if t11 then
    (
      sess_Roles_L1 n p user n ([], 0) : Option (List ByteArray)).bind fun own3 =>
    (sess_closed n p own3).bind fun t32 =>
    some t32
  else
    some [])
theorem sess_Roles_ok {n : Nat} {p : GRoles} {user : ByteArray} {r : List ByteArray} (H : sess_Roles n p user = some r) : PureOK Try.prog 30 [D.ag (eGRoles p), D.v (.string user)] (D.sl (List.map eS r)) true := by
  unfold sess_Roles at H
  refine pure_runR (tab := tab) tab_ok Try.func30 rfl (by kernel_rfl) (by kernel_rfl) (by simp [Try.f30]) ?_
  refine runR_seq ?_
  refine runR_take tab_ok fol 1 ?_
  try simp -implicitDefEqProofs only [go_sem, Nat.reduceAdd, eGRoles]
  refine runR_seq ?_
  refine runR_take tab_ok fol 1 ?_
  obtain ⟨t11, b1, H2⟩ := bind_inv H
  try simp -implicitDefEqProofs only [go_sem, Nat.reduceEqDiff, Nat.reduceAdd, reduceCtorEq, ↓reduceIte]
  refine onCall_pure (by rfl) (slices_Contains_string_ok b1) (by exact .inr rfl) ?_
  try simp -implicitDefEqProofs only [go_sem, Bool.false_and, Nat.reduceAdd, ↓reduceIte]
  rcases ite_inv H2 with ⟨c3, H4⟩ | ⟨c3, H4⟩
  · try simp -implicitDefEqProofs only [go_sem, c3]
    refine runR_seq ?_
    refine runR_take tab_ok fol 1 ?_
    try simp -implicitDefEqProofs only [go_sem, Nat.reduceAdd]
    refine runR_seq ?_
    refine runR_seq ?_
    refine runR_take tab_ok fol 1 ?_
    try simp -implicitDefEqProofs only [go_sem, Nat.reduceEqDiff, Nat.reduceAdd, reduceCtorEq, ↓reduceIte]
    obtain ⟨e_, E5, H6⟩ := bind_inv H4
    refine runR_join (α := { y : List ByteArray // e_ = y } × Nat) (fun | ⟨⟨own3, _⟩, g3⟩ => ⟨upd 2 (.pt 0 0) (upd 5 (accV 1 g3 (List.map eS own3)) noFr), upd 0 (some (.bx [.d (.sl (List.map eS p.users)) true, .d (.sl (List.map eS p.roles)) true, .d (.sl (List.map eGPair p.inherit)) true, .d (.sl (List.map eGPair p.assign)) true, .d (.sl (List.map eGGrant p.grants)) true, .d (.sl (List.map eGSod p.ssd)) true, .d (.sl (List.map eGSod p.dsd)) true, .d (.sl (List.map eGSession p.sessions)) true])) (upd 1 (accO 1 g3 false (List.map eS own3)) noHp), 2⟩) ?_ ?_
    · refine runR_block ?_
      refine runR_loop (α := { q : (Nat × (List ByteArray × Int)) × Nat // sess_Roles_L1 n p user q.1.1 q.1.2 = some e_ }) (fun | ⟨⟨⟨c, ⟨own, t16⟩⟩, g⟩, _⟩ => ⟨upd 1 (.v (.string user)) (upd 2 (.pt 0 0) (upd 5 (accV 1 g (List.map eS own)) (upd 14 (.d (.sl (List.map eGPair p.assign)) true) (upd 15 (.v (.int .i64 (p.assign.length : Int))) (upd 16 (.v (.int .i64 t16)) noFr))))), upd 0 (some (.bx [.d (.sl (List.map eS p.users)) true, .d (.sl (List.map eS p.roles)) true, .d (.sl (List.map eGPair p.inherit)) true, .d (.sl (List.map eGPair p.assign)) true, .d (.sl (List.map eGGrant p.grants)) true, .d (.sl (List.map eGSod p.ssd)) true, .d (.sl (List.map eGSod p.dsd)) true, .d (.sl (List.map eGSession p.sessions)) true])) (upd 1 (accO 1 g false (List.map eS own)) noHp), 2⟩) (fun q => q.1.1.1) ⟨((n, ([], 0)), 0), E5⟩ ?_ ?_
      · exact ren_mk [(0, 0)] (by rfl) (rf_upd (by rfl) (rf_upd (by rfl) (rf_upd (by rfl) (rf_upd (by rfl) (rf_upd (by rfl) (rf_upd (by rfl) (rf_no _))))))) (rh_upd (rh_one (by rfl) (by rfl) (by rfl)) (rh_upd rh_accN (rh_no _)))
      · rintro ⟨⟨⟨c, ⟨own, t16⟩⟩, g⟩, L7⟩
        rcases c with _ | c
        · exact nomatch (show none = some _ from L7)
        · unfold sess_Roles_L1 at L7
          try dsimp only at L7
          refine runR_take tab_ok fol 1 ?_
          try simp -implicitDefEqProofs only [go_sem, Nat.reduceEqDiff, Nat.reduceAdd, ↓reduceIte]
          rcases ite_inv L7 with ⟨c18, H19⟩ | ⟨c18, H19⟩
          · obtain ⟨x2, b20, H21⟩ := bind_inv H19
            obtain ⟨h22, h23⟩ := idx_inv b20
            try simp only [Int.reduceToNat, Int.toNat_natCast] at h23
            have h24 := map_at eGPair h23
            try simp -implicitDefEqProofs only [go_sem, Nat.reduceEqDiff, Nat.reduceAdd, reduceCtorEq, ↓reduceIte, eGPair, c18, nat_of .i64 h22, h24]
            rcases ite_inv H21 with ⟨c26, H27⟩ | ⟨c26, H27⟩
            · obtain ⟨l, b28, H29⟩ := bind_inv H27
              obtain ⟨h30, h31⟩ := app_inv b28
              have h30 : own.length + 1 ≤ 4294967296 := h30
              have h32 : List.map eS own ++ [[.v (.string x2.b)]] = List.map eS l := app_map eS h31
              have h33 : own.length + 1 = l.length := app_len h31
              have h34 : l.length ≤ 4294967296 := by omega
              have q35 : 0 < l.length := by omega
              try simp -implicitDefEqProofs only [go_sem, Nat.reduceLT, Nat.reduceEqDiff, Nat.reduceAdd, Nat.reduceLeDiff, reduceCtorEq, ↓reduceIte, c26, h32, h33, h34]
              rcases own with _ | ⟨q0, q1⟩
              · try simp only [List.map_nil, accI, accN]
                exact ⟨⟨((c, (l, (IntKind.i64.wrap (t16 + 1)))), 0), H29⟩, ren_mk [(0, 0), (1, 15)] (by rfl) (rf_upd (by rfl) (rf_upd (by rfl) (rf_upd (by exact ren_accP (by rfl) q35) (rf_upd (by rfl) (rf_upd (by rfl) (rf_upd (by rfl) (rf_no _))))))) (rh_upd (rh_one (by rfl) (by rfl) (by rfl)) (rh_upd (by exact rh_accP (by rfl) q35 (by rfl)) (rh_no _))), Nat.lt_succ_self _⟩
              · try simp only [List.map_cons, accI, accN]
                exact ⟨⟨((c, (l, (IntKind.i64.wrap (t16 + 1)))), (g + 1)), H29⟩, ren_mk [(0, 0), (1, 1)] (by rfl) (rf_upd (by rfl) (rf_upd (by rfl) (rf_upd (by exact ren_accP (by rfl) q35) (rf_upd (by rfl) (rf_upd (by rfl) (rf_upd (by rfl) (rf_no _))))))) (rh_upd (rh_one (by rfl) (by rfl) (by rfl)) (rh_upd (by exact rh_accP (by rfl) q35 (by rfl)) (rh_no _))), Nat.lt_succ_self _⟩
            · try simp -implicitDefEqProofs only [go_sem, Nat.reduceEqDiff, Nat.reduceAdd, ↓reduceIte, c26]
              exact ⟨⟨((c, (own, (IntKind.i64.wrap (t16 + 1)))), g), H27⟩, ren_mk [(0, 0), (1, 1)] (by rfl) (rf_upd (by rfl) (rf_upd (by rfl) (rf_upd (ren_acc (by rfl)) (rf_upd (by rfl) (rf_upd (by rfl) (rf_upd (by rfl) (rf_no _))))))) (rh_upd (rh_one (by rfl) (by rfl) (by rfl)) (rh_upd (rh_acc (by rfl) (by rfl)) (rh_no _))), Nat.lt_succ_self _⟩
          · try simp -implicitDefEqProofs only [go_sem, ↓reduceIte, c18]
            obtain rfl := Option.some.inj H19
            exact ⟨⟨⟨own, rfl⟩, g⟩, ren_mk [(0, 0), (1, 1)] (by rfl) (rf_upd (by rfl) (rf_upd (ren_acc (by rfl)) (rf_no _))) (rh_upd (rh_one (by rfl) (by rfl) (by rfl)) (rh_upd (rh_acc (by rfl) (by rfl)) (rh_no _)))⟩
    · rintro ⟨⟨own3, he38⟩, g3⟩
      replace he38 := he38.symm
      subst he38
      try dsimp only at H6
      refine runR_take tab_ok fol 1 ?_
      obtain ⟨t32, b36, H37⟩ := bind_inv H6
      try simp -implicitDefEqProofs only [go_sem, Nat.reduceEqDiff, Nat.reduceAdd, ↓reduceIte]
      refine onCall_pure (by simp -implicitDefEqProofs only [go_sem, reduceCtorEq, ↓reduceIte, eGRoles]; rfl) (sess_closed_ok b36) (by exact .inr rfl) ?_
      try simp -implicitDefEqProofs only [go_sem, Bool.false_and, Nat.reduceAdd, ↓reduceIte]
      obtain rfl := Option.some.inj H37
      exact end_pure (by simp -implicitDefEqProofs only [go_sem, ↓reduceIte, Try.f30] <;> rfl) (by rfl) rfl (by intro h; rfl)
  · try simp -implicitDefEqProofs only [go_sem, Nat.reduceAdd, c3]
    obtain rfl := Option.some.inj H4
    exact end_pure (by simp -implicitDefEqProofs only [go_sem, ↓reduceIte, Try.f30] <;> rfl) (by rfl) rfl (by intro h; rfl)
def sess_Active_L1 (n : Nat) (p : GRoles) (session : ByteArray) : Nat → Int → Option ((Unit) ⊕ (List ByteArray))
  | 0, _ => none
  | c + 1, t10 =>
    (if (decide (t10 < (p.sessions.length : Int))) then
      (idx p.sessions t10).bind fun x2 =>
      (if (x2.name.toList == session.toList) then
        (sess_closed n p x2.roles).bind fun t212 =>
        some (.inr t212)
      else
        sess_Active_L1 n p session c (IntKind.i64.wrap (t10 + 1)))
    else
      some (.inl ()))
def sess_Active_L1_f (n : Nat) (p : GRoles) (session : ByteArray) (st : Unit) (x2 : GSession) (k : Unit → Option ((Unit) ⊕ (List ByteArray))) : Option ((Unit) ⊕ (List ByteArray)) :=
  match st with
  | _ =>
    (if (x2.name.toList == session.toList) then
      (sess_closed n p x2.roles).bind fun t212 =>
      some (.inr t212)
    else
      k ())
def sess_Active_L1_e (_ : Nat) (_ : GRoles) (_ : ByteArray) (st : Unit) : Option ((Unit) ⊕ (List ByteArray)) :=
  match st with
  | _ => some (.inl ())
theorem sess_Active_L1_list (n : Nat) (p : GRoles) (session : ByteArray) (hx : p.sessions.length < 4611686018427387904) (c : Nat) (st : Unit) (ix : Nat) (hi : ix ≤ p.sessions.length) (hc : p.sessions.length - ix < c) : sess_Active_L1 n p session c (match st, (ix : Int) with | _, ix => ix) = foldK (sess_Active_L1_f n p session) (sess_Active_L1_e n p session) (p.sessions.drop ix) st :=
  loop_list (fun c st ix => sess_Active_L1 n p session c (match st, ix with | _, ix => ix)) p.sessions (sess_Active_L1_f n p session) (sess_Active_L1_e n p session) (fun _ _ _ => rfl) hx c st ix hi hc

def sess_Active (n : Nat) (p : GRoles) (session : ByteArray) : Option (List ByteArray) :=
  (
    sess_Active_L1 n p session n 0 : Option ((Unit) ⊕ (List ByteArray))).bind fun
    | .inl _ =>
      some []
    | .inr r => some r
theorem sess_Active_ok {n : Nat} {p : GRoles} {session : ByteArray} {r : List ByteArray} (H : sess_Active n p session = some r) : PureOK Try.prog 38 [D.ag (eGRoles p), D.v (.string session)] (D.sl (List.map eS r)) true := by
  unfold sess_Active at H
  refine pure_runR (tab := tab) tab_ok Try.func38 rfl (by kernel_rfl) (by kernel_rfl) (by simp [Try.f38]) ?_
  refine runR_seq ?_
  refine runR_take tab_ok fol 1 ?_
  try simp -implicitDefEqProofs only [go_sem, Nat.reduceAdd, eGRoles]
  refine runR_seq ?_
  refine runR_seq ?_
  refine runR_take tab_ok fol 1 ?_
  try simp -implicitDefEqProofs only [go_sem, Nat.reduceEqDiff, Nat.reduceAdd, reduceCtorEq, ↓reduceIte]
  obtain ⟨e_, E1, H2⟩ := bind_inv H
  refine runR_join (α := { y : Unit // e_ = .inl y }) (fun | ⟨_, _⟩ => ⟨noFr, noHp, 0⟩) ?_ ?_
  · refine runR_block ?_
    refine runR_loop (α := { q : Nat × Int // sess_Active_L1 n p session q.1 q.2 = some e_ }) (fun | ⟨⟨c, t10⟩, _⟩ => ⟨upd 1 (.v (.string session)) (upd 2 (.pt 0 0) (upd 8 (.d (.sl (List.map eGSession p.sessions)) true) (upd 9 (.v (.int .i64 (p.sessions.length : Int))) (upd 10 (.v (.int .i64 t10)) noFr)))), upd 0 (some (.bx [.d (.sl (List.map eS p.users)) true, .d (.sl (List.map eS p.roles)) true, .d (.sl (List.map eGPair p.inherit)) true, .d (.sl (List.map eGPair p.assign)) true, .d (.sl (List.map eGGrant p.grants)) true, .d (.sl (List.map eGSod p.ssd)) true, .d (.sl (List.map eGSod p.dsd)) true, .d (.sl (List.map eGSession p.sessions)) true])) noHp, 1⟩) (fun q => q.1.1) ⟨(n, 0), E1⟩ ?_ ?_
    · exact ren_mk [(0, 0)] (by rfl) (rf_upd (by rfl) (rf_upd (by rfl) (rf_upd (by rfl) (rf_upd (by rfl) (rf_upd (by rfl) (rf_no _)))))) (rh_upd (rh_one (by rfl) (by rfl) (by rfl)) (rh_no _))
    · rintro ⟨⟨c, t10⟩, L3⟩
      rcases c with _ | c
      · exact nomatch (show none = some _ from L3)
      · unfold sess_Active_L1 at L3
        try dsimp only at L3
        refine runR_take tab_ok fol 1 ?_
        try simp -implicitDefEqProofs only [go_sem, Nat.reduceEqDiff, Nat.reduceAdd, ↓reduceIte]
        rcases ite_inv L3 with ⟨c16, H17⟩ | ⟨c16, H17⟩
        · obtain ⟨x2, b18, H19⟩ := bind_inv H17
          obtain ⟨h20, h21⟩ := idx_inv b18
          try simp only [Int.reduceToNat, Int.toNat_natCast] at h21
          have h22 := map_at eGSession h21
          try simp -implicitDefEqProofs only [go_sem, Nat.reduceEqDiff, Nat.reduceAdd, reduceCtorEq, ↓reduceIte, eGSession, c16, nat_of .i64 h20, h22]
          rcases ite_inv H19 with ⟨c24, H25⟩ | ⟨c24, H25⟩
          · obtain ⟨t212, b26, H27⟩ := bind_inv H25
            try simp -implicitDefEqProofs only [go_sem, Nat.reduceEqDiff, Nat.reduceAdd, reduceCtorEq, ↓reduceIte, c24]
            refine onCall_pure (by rfl) (sess_closed_ok b26) (by exact .inr rfl) ?_
            try simp -implicitDefEqProofs only [go_sem, Bool.false_and, Nat.reduceAdd, ↓reduceIte]
            obtain rfl := Option.some.inj H27
            obtain rfl := Option.some.inj H2
            exact end_pure (by simp -implicitDefEqProofs only [go_sem, ↓reduceIte, Try.f38] <;> rfl) (by rfl) rfl (by intro h; rfl)
          · try simp -implicitDefEqProofs only [go_sem, Nat.reduceEqDiff, Nat.reduceAdd, ↓reduceIte, c24]
            exact ⟨⟨(c, (IntKind.i64.wrap (t10 + 1))), H25⟩, ren_mk [(0, 0)] (by rfl) (rf_upd (by rfl) (rf_upd (by rfl) (rf_upd (by rfl) (rf_upd (by rfl) (rf_upd (by rfl) (rf_no _)))))) (rh_upd (rh_one (by rfl) (by rfl) (by rfl)) (rh_no _)), Nat.lt_succ_self _⟩
        · try simp -implicitDefEqProofs only [go_sem, ↓reduceIte, c16]
          obtain rfl := Option.some.inj H17
          exact ⟨⟨(), rfl⟩, ren_mk [] (by rfl) (rf_no _) (rh_no _)⟩
  · rintro ⟨_, he28⟩
    replace he28 := he28.symm
    subst he28
    try dsimp only at H2
    refine runR_take tab_ok fol 1 ?_
    try simp -implicitDefEqProofs only [go_sem]
    obtain rfl := Option.some.inj H2
    exact end_pure (by simp -implicitDefEqProofs only [go_sem, ↓reduceIte, Try.f38] <;> rfl) (by rfl) rfl (by intro h; rfl)
end Go.Proofs.Ytkkhgdmmbhpckaa.Ab
