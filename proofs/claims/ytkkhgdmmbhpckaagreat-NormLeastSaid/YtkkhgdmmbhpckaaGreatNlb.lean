/-
  Functions, read off the code.
-/
import Derived.Test.YtkkhgdmmbhpckaaGreatNla
namespace Go.Proofs.YtkkhgdmmbhpckaaGreat.Ab
open Go.RowKit
def law14_NormLeast_L1 (n : Nat) (t0 : List Int) : Nat → (List GPair × Int) → Option (List GPair)
  | 0, _ => none
  | c + 1, (t32, t4) =>
    (
      (if (decide (t4 < (t0.length : Int))) then
        some (decide (t4 < 20))
      else
        some false) : Option (Bool)).bind fun t252 =>
    (if t252 then
      (idx t0 t4).bind fun x2 =>
      (if (decide ((IntKind.i64.wrap (an x2 7 : Int)) < (IntKind.i64.wrap (an (sh x2 3) 7 : Int)))) then
        (bslc ({ data := #[97, 98, 99, 100, 101, 102, 103, 104] }) (IntKind.i64.wrap (an x2 7 : Int)) (IntKind.i64.wrap ((IntKind.i64.wrap (an x2 7 : Int)) + 1))).bind fun s3 =>
        (bslc ({ data := #[97, 98, 99, 100, 101, 102, 103, 104] }) (IntKind.i64.wrap (an (sh x2 3) 7 : Int)) (IntKind.i64.wrap ((IntKind.i64.wrap (an (sh x2 3) 7 : Int)) + 1))).bind fun s4 =>
        (app t32 [(⟨s3, s4⟩ : GPair)]).bind fun l =>
        law14_NormLeast_L1 n t0 c (l, (IntKind.i64.wrap (t4 + 1)))
      else
        law14_NormLeast_L1 n t0 c (t32, (IntKind.i64.wrap (t4 + 1))))
    else
      some t32)

def law14_NormLeast_L3 (n : Nat) (x6 : GPair) (t862 : List ByteArray) : Nat → Int → Option ((Unit) ⊕ Bool)
  | 0, _ => none
  | c + 1, t123 =>
    (if (decide (t123 < (t862.length : Int))) then
      (idx t862 t123).bind fun x8 =>
      (if (x8.toList == x6.b.toList) then
        some (.inr false)
      else
        law14_NormLeast_L3 n x6 t862 c (IntKind.i64.wrap (t123 + 1)))
    else
      some (.inl ()))
def law14_NormLeast_L3_f (_ : Nat) (x6 : GPair) (_ : List ByteArray) (st : Unit) (x8 : ByteArray) (k : Unit → Option ((Unit) ⊕ Bool)) : Option ((Unit) ⊕ Bool) :=
  match st with
  | _ =>
    (if (x8.toList == x6.b.toList) then
      some (.inr false)
    else
      k ())
def law14_NormLeast_L3_e (_ : Nat) (_ : GPair) (_ : List ByteArray) (st : Unit) : Option ((Unit) ⊕ Bool) :=
  match st with
  | _ => some (.inl ())
theorem law14_NormLeast_L3_list (n : Nat) (x6 : GPair) (t862 : List ByteArray) (hx : t862.length < 4611686018427387904) (c : Nat) (st : Unit) (ix : Nat) (hi : ix ≤ t862.length) (hc : t862.length - ix < c) : law14_NormLeast_L3 n x6 t862 c (match st, (ix : Int) with | _, ix => ix) = foldK (law14_NormLeast_L3_f n x6 t862) (law14_NormLeast_L3_e n x6 t862) (t862.drop ix) st :=
  loop_list (fun c st ix => law14_NormLeast_L3 n x6 t862 c (match st, ix with | _, ix => ix)) t862 (law14_NormLeast_L3_f n x6 t862) (law14_NormLeast_L3_e n x6 t862) (fun _ _ _ => rfl) hx c st ix hi hc

def law14_NormLeast_L2 (n : Nat) (t57 : GRoles) : Nat → Int → Option ((Unit) ⊕ Bool)
  | 0, _ => none
  | c + 1, t8 =>
    (if (decide (t8 < (t57.inherit.length : Int))) then
      (idx t57.inherit t8).bind fun x6 =>
      (slc t57.inherit 0 t8).bind fun l6 =>
      (app [] l6).bind fun _ =>
      (slc t57.inherit (IntKind.i64.wrap (t8 + 1)) ((List.length t57.inherit) : Int)).bind fun l8 =>
      (app l6 l8).bind fun l9 =>
      (norm_Down n (⟨[], [], l9, [], [], [], [], []⟩ : GRoles) x6.a).bind fun t862 =>
      (
        law14_NormLeast_L3 n x6 t862 n 0 : Option ((Unit) ⊕ Bool)).bind fun
        | .inl _ =>
          law14_NormLeast_L2 n t57 c (IntKind.i64.wrap (t8 + 1))
        | .inr r => some (.inr r)
    else
      some (.inl ()))

def law14_NormLeast_L5 (n : Nat) (t323 : List GPair) (t13 : Int) (t1142 : List ByteArray) : Nat → (Bool × Int) → Option (Bool)
  | 0, _ => none
  | c + 1, (t154, t163) =>
    (if (decide (t163 < (t1142.length : Int))) then
      (if t154 then
        law14_NormLeast_L5 n t323 t13 t1142 c (true, (IntKind.i64.wrap (t163 + 1)))
      else
        (idx t1142 t163).bind fun x17 =>
        (idx t323 t13).bind fun x18 =>
        law14_NormLeast_L5 n t323 t13 t1142 c ((x17.toList == x18.b.toList), (IntKind.i64.wrap (t163 + 1))))
    else
      some t154)

def law14_NormLeast_L4 (n : Nat) (t323 : List GPair) (t57 : GRoles) : Nat → Int → Option ((Unit) ⊕ Bool)
  | 0, _ => none
  | c + 1, t13 =>
    (if (decide (t13 < (t323.length : Int))) then
      (idx t323 t13).bind fun x14 =>
      (norm_Down n t57 x14.a).bind fun t1142 =>
      (
        law14_NormLeast_L5 n t323 t13 t1142 n (false, 0) : Option (Bool)).bind fun t156 =>
      (if t156 then
        law14_NormLeast_L4 n t323 t57 c (IntKind.i64.wrap (t13 + 1))
      else
        some (.inr false))
    else
      some (.inl ()))

def law14_NormLeast (n : Nat) (t0 : List Int) : Option Bool :=
  (
    law14_NormLeast_L1 n t0 n ([], 0) : Option (List GPair)).bind fun t323 =>
  (norm_Normal n (⟨[], [], t323, [], [], [], [], []⟩ : GRoles)).bind fun t57 =>
  (
    law14_NormLeast_L2 n t57 n 0 : Option ((Unit) ⊕ Bool)).bind fun
    | .inl _ =>
      (
        law14_NormLeast_L4 n t323 t57 n 0 : Option ((Unit) ⊕ Bool)).bind fun
        | .inl _ =>
          (if (decide ((t57.inherit.length : Int) ≤ (t323.length : Int))) then
            (law14_awake n).bind fun t145 =>
            some t145
          else
            some false)
        | .inr r => some r
    | .inr r => some r
set_option maxHeartbeats 8000000 in
theorem law14_NormLeast_ok {n : Nat} {t0 : List Int} {r : Bool} (H : law14_NormLeast n t0 = some r) : PureOK Tryz.prog 6 [D.sl (List.map eI t0)] (D.v (.bool r)) true := by
  unfold law14_NormLeast at H
  refine pure_runR (tab := tab) tab_ok Tryz.func6 rfl (by kernel_rfl) (by kernel_rfl) (by simp [Tryz.f6]) ?_
  refine runR_seq ?_
  refine runR_take tab_ok fol 1 ?_
  try simp -implicitDefEqProofs only [go_sem]
  refine runR_seq ?_
  refine runR_take tab_ok fol 1 ?_
  try simp -implicitDefEqProofs only [go_sem, Nat.reduceEqDiff, Nat.reduceAdd, ↓reduceIte]
  refine runR_seq ?_
  refine runR_seq ?_
  refine runR_take tab_ok fol 1 ?_
  try simp -implicitDefEqProofs only [go_sem, Nat.reduceAdd]
  obtain ⟨e_, E1, H2⟩ := bind_inv H
  refine runR_join (α := { y : List GPair // e_ = y } × Nat) (fun | ⟨⟨t323, _⟩, g4⟩ => ⟨upd 3 (.pt 0 0) noFr, upd 0 (some (.bx [.v (.slice none 0 0), .v (.slice none 0 0), accV 1 g4 (List.map eGPair t323), .v (.slice none 0 0), .v (.slice none 0 0), .v (.slice none 0 0), .v (.slice none 0 0), .v (.slice none 0 0)])) (upd 1 (accO 2 g4 false (List.map eGPair t323)) noHp), 2⟩) ?_ ?_
  · refine runR_block ?_
    refine runR_loop (α := { q : (Nat × (List GPair × Int)) × Nat // law14_NormLeast_L1 n t0 q.1.1 q.1.2 = some e_ }) (fun | ⟨⟨⟨c, ⟨t32, t4⟩⟩, g⟩, _⟩ => ⟨upd 0 (.d (.sl (List.map eI t0)) true) (upd 3 (.pt 0 0) (upd 4 (.v (.int .i64 t4)) noFr)), upd 0 (some (.bx [.v (.slice none 0 0), .v (.slice none 0 0), accV 1 g (List.map eGPair t32), .v (.slice none 0 0), .v (.slice none 0 0), .v (.slice none 0 0), .v (.slice none 0 0), .v (.slice none 0 0)])) (upd 1 (accO 2 g false (List.map eGPair t32)) noHp), 2⟩) (fun q => q.1.1.1) ⟨((n, ([], 0)), 0), E1⟩ ?_ ?_
    · exact ren_mk [(0, 2)] (by rfl) (rf_upd (by rfl) (rf_upd (by rfl) (rf_upd (by rfl) (rf_no _)))) (rh_upd (rh_one (by rfl) (renO_bx (renL_cons (by rfl) (renL_cons (by rfl) (renL_cons (by rfl) (renL_cons (by rfl) (renL_cons (by rfl) (renL_cons (by rfl) (renL_cons (by rfl) (renL_cons (by rfl) (renL_nil _)))))))))) (by rfl)) (rh_upd rh_accN (rh_no _)))
    · rintro ⟨⟨⟨c, ⟨t32, t4⟩⟩, g⟩, L3⟩
      rcases c with _ | c
      · exact nomatch (show none = some _ from L3)
      · unfold law14_NormLeast_L1 at L3
        try dsimp only at L3
        refine runR_seq ?_
        refine runR_seq ?_
        obtain ⟨e_3, E39, H40⟩ := bind_inv L3
        refine runR_join (α := { y : Bool // e_3 = y } × Nat) (fun | ⟨⟨t252, _⟩, g2⟩ => ⟨upd 0 (.d (.sl (List.map eI t0)) true) (upd 3 (.pt 0 0) (upd 4 (.v (.int .i64 t4)) (upd 25 (.v (.bool t252)) noFr))), upd 0 (some (.bx [.v (.slice none 0 0), .v (.slice none 0 0), accV 1 g2 (List.map eGPair t32), .v (.slice none 0 0), .v (.slice none 0 0), .v (.slice none 0 0), .v (.slice none 0 0), .v (.slice none 0 0)])) (upd 1 (accO 2 g2 false (List.map eGPair t32)) noHp), 2⟩) ?_ ?_
        · refine runR_take tab_ok fol 1 ?_
          try simp -implicitDefEqProofs only [go_sem, Nat.reduceEqDiff, Nat.reduceAdd, reduceCtorEq, ↓reduceIte]
          rcases ite_inv E39 with ⟨c41, H42⟩ | ⟨c41, H42⟩
          · try simp -implicitDefEqProofs only [go_sem, Nat.reduceEqDiff, Nat.reduceAdd, reduceCtorEq, ↓reduceIte, c41]
            obtain rfl := Option.some.inj H42
            exact ⟨⟨⟨(decide (t4 < 20)), rfl⟩, g⟩, ren_mk [(0, 0), (1, 1)] (by rfl) (rf_upd (by rfl) (rf_upd (by rfl) (rf_upd (by rfl) (rf_upd (by rfl) (rf_no _))))) (rh_upd (rh_one (by rfl) (renO_bx (renL_cons (by rfl) (renL_cons (by rfl) (renL_cons (ren_acc (by rfl)) (renL_cons (by rfl) (renL_cons (by rfl) (renL_cons (by rfl) (renL_cons (by rfl) (renL_cons (by rfl) (renL_nil _)))))))))) (by rfl)) (rh_upd (rh_acc (by rfl) (by rfl)) (rh_no _)))⟩
          · try simp -implicitDefEqProofs only [go_sem, Nat.reduceEqDiff, Nat.reduceAdd, ↓reduceIte, c41]
            obtain rfl := Option.some.inj H42
            exact ⟨⟨⟨false, rfl⟩, g⟩, ren_mk [(0, 0), (1, 1)] (by rfl) (rf_upd (by rfl) (rf_upd (by rfl) (rf_upd (by rfl) (rf_upd (by rfl) (rf_no _))))) (rh_upd (rh_one (by rfl) (renO_bx (renL_cons (by rfl) (renL_cons (by rfl) (renL_cons (ren_acc (by rfl)) (renL_cons (by rfl) (renL_cons (by rfl) (renL_cons (by rfl) (renL_cons (by rfl) (renL_cons (by rfl) (renL_nil _)))))))))) (by rfl)) (rh_upd (rh_acc (by rfl) (by rfl)) (rh_no _)))⟩
        · rintro ⟨⟨t252, he81⟩, g2⟩
          replace he81 := he81.symm
          subst he81
          try dsimp only at H40
          refine runR_take tab_ok fol 2 ?_
          try simp -implicitDefEqProofs only [go_sem, Nat.reduceEqDiff, reduceCtorEq, ↓reduceIte]
          rcases ite_inv H40 with ⟨c43, H44⟩ | ⟨c43, H44⟩
          · obtain ⟨x2, b45, H46⟩ := bind_inv H44
            obtain ⟨h47, h48⟩ := idx_inv b45
            try simp only [Int.reduceToNat, Int.toNat_natCast] at h48
            have h49 := map_at eI h48
            try simp -implicitDefEqProofs only [go_sem, Int.reduceToNat, Int.reduceLT, Nat.reduceEqDiff, Nat.reduceAdd, reduceCtorEq, ↓reduceIte, c43, nat_of .i64 h47, h49]
            refine Rd_endF (by rfl) ?_
            try simp -implicitDefEqProofs only [go_sem, Nat.reduceEqDiff, Nat.reduceAdd, ↓reduceIte]
            rcases ite_inv H46 with ⟨c51, H52⟩ | ⟨c51, H52⟩
            · obtain ⟨s3, b53, H54⟩ := bind_inv H52
              obtain ⟨h55, h56, h57, h58⟩ := bslc_inv b53
              have h59 : Int.toNat (IntKind.i64.wrap (an x2 7 : Int)) ≤ Int.toNat (IntKind.i64.wrap ((IntKind.i64.wrap (an x2 7 : Int)) + 1)) := by omega
              have h60 : Int.toNat (IntKind.i64.wrap ((IntKind.i64.wrap (an x2 7 : Int)) + 1)) ≤ (ByteArray.size ({ data := #[97, 98, 99, 100, 101, 102, 103, 104] })) := by omega
              have h61 : ByteArray.extract ({ data := #[97, 98, 99, 100, 101, 102, 103, 104] }) (Int.toNat (IntKind.i64.wrap (an x2 7 : Int))) (Int.toNat (IntKind.i64.wrap ((IntKind.i64.wrap (an x2 7 : Int)) + 1))) = s3 := h58.symm
              have h62 : Int.toNat (IntKind.i64.wrap ((IntKind.i64.wrap (an x2 7 : Int)) + 1)) ≤ 8 := h60
              try simp only [Int.toNat_natCast] at h59 h62 h61
              obtain ⟨s4, b63, H64⟩ := bind_inv H54
              obtain ⟨h65, h66, h67, h68⟩ := bslc_inv b63
              have h69 : Int.toNat (IntKind.i64.wrap (an (sh x2 3) 7 : Int)) ≤ Int.toNat (IntKind.i64.wrap ((IntKind.i64.wrap (an (sh x2 3) 7 : Int)) + 1)) := by omega
              have h70 : Int.toNat (IntKind.i64.wrap ((IntKind.i64.wrap (an (sh x2 3) 7 : Int)) + 1)) ≤ (ByteArray.size ({ data := #[97, 98, 99, 100, 101, 102, 103, 104] })) := by omega
              have h71 : ByteArray.extract ({ data := #[97, 98, 99, 100, 101, 102, 103, 104] }) (Int.toNat (IntKind.i64.wrap (an (sh x2 3) 7 : Int))) (Int.toNat (IntKind.i64.wrap ((IntKind.i64.wrap (an (sh x2 3) 7 : Int)) + 1))) = s4 := h68.symm
              have h72 : Int.toNat (IntKind.i64.wrap ((IntKind.i64.wrap (an (sh x2 3) 7 : Int)) + 1)) ≤ 8 := h70
              try simp only [Int.toNat_natCast] at h69 h72 h71
              obtain ⟨l, b73, H74⟩ := bind_inv H64
              obtain ⟨h75, h76⟩ := app_inv b73
              have h75 : t32.length + 1 ≤ 4294967296 := h75
              have h77 : List.map eGPair t32 ++ [[.v (.string s3), .v (.string s4)]] = List.map eGPair l := app_map eGPair h76
              have h78 : t32.length + 1 = l.length := app_len h76
              have h79 : l.length ≤ 4294967296 := by omega
              have q80 : 0 < l.length := by omega
              try simp -implicitDefEqProofs only [go_sem, Nat.reduceLT, Nat.reduceEqDiff, Nat.reduceAdd, Nat.reduceMul, Nat.reduceLeDiff, reduceCtorEq, ↓reduceIte, c51, nat_of .i64 h55, nat_of .i64 (Int.le_trans h55 h56), h59, h62, h61, nat_of .i64 h65, nat_of .i64 (Int.le_trans h65 h66), h69, h72, h71, h77, h78, h79, accI_ne]
              refine Rd_endF (by (cases t32 <;> rfl)) ?_
              try simp -implicitDefEqProofs only [go_sem, Nat.reduceEqDiff, Nat.reduceAdd, reduceCtorEq, ↓reduceIte]
              rcases t32 with _ | ⟨q0, q1⟩
              · try simp only [List.map_nil, accI, accN]
                exact ⟨⟨((c, (l, (IntKind.i64.wrap (t4 + 1)))), 0), H74⟩, ren_mk [(0, 0), (1, 30)] (by rfl) (rf_upd (by rfl) (rf_upd (by rfl) (rf_upd (by rfl) (rf_no _)))) (rh_upd (rh_one (by rfl) (renO_bx (renL_cons (by rfl) (renL_cons (by rfl) (renL_cons (by first | exact ren_accP (by rfl) q80 | rfl) (renL_cons (by rfl) (renL_cons (by rfl) (renL_cons (by rfl) (renL_cons (by rfl) (renL_cons (by rfl) (renL_nil _)))))))))) (by rfl)) (rh_upd (by first | exact rh_accP (by rfl) q80 (by rfl) | exact rh_one (by rfl) (by rfl) (by rfl)) (rh_no _))), Nat.lt_succ_self _⟩
              · try simp only [List.map_cons, accI, accN]
                exact ⟨⟨((c, (l, (IntKind.i64.wrap (t4 + 1)))), (g2 + 1)), H74⟩, ren_mk [(0, 0), (1, 1)] (by rfl) (rf_upd (by rfl) (rf_upd (by rfl) (rf_upd (by rfl) (rf_no _)))) (rh_upd (rh_one (by rfl) (renO_bx (renL_cons (by rfl) (renL_cons (by rfl) (renL_cons (by first | exact ren_accP (by rfl) q80 | rfl) (renL_cons (by rfl) (renL_cons (by rfl) (renL_cons (by rfl) (renL_cons (by rfl) (renL_cons (by rfl) (renL_nil _)))))))))) (by rfl)) (rh_upd (by first | exact rh_accP (by rfl) q80 (by rfl) | exact rh_one (by rfl) (by rfl) (by rfl)) (rh_no _))), Nat.lt_succ_self _⟩
            · try simp -implicitDefEqProofs only [go_sem, Nat.reduceEqDiff, Nat.reduceAdd, reduceCtorEq, ↓reduceIte, c51]
              exact ⟨⟨((c, (t32, (IntKind.i64.wrap (t4 + 1)))), g2), H52⟩, ren_mk [(0, 0), (1, 1)] (by rfl) (rf_upd (by rfl) (rf_upd (by rfl) (rf_upd (by rfl) (rf_no _)))) (rh_upd (rh_one (by rfl) (renO_bx (renL_cons (by rfl) (renL_cons (by rfl) (renL_cons (ren_acc (by rfl)) (renL_cons (by rfl) (renL_cons (by rfl) (renL_cons (by rfl) (renL_cons (by rfl) (renL_cons (by rfl) (renL_nil _)))))))))) (by rfl)) (rh_upd (rh_acc (by rfl) (by rfl)) (rh_no _))), Nat.lt_succ_self _⟩
          · try simp -implicitDefEqProofs only [go_sem, ↓reduceIte, c43]
            obtain rfl := Option.some.inj H44
            exact ⟨⟨⟨t32, rfl⟩, g2⟩, ren_mk [(0, 0), (1, 1)] (by rfl) (rf_upd (by rfl) (rf_no _)) (rh_upd (rh_one (by rfl) (renO_bx (renL_cons (by rfl) (renL_cons (by rfl) (renL_cons (ren_acc (by rfl)) (renL_cons (by rfl) (renL_cons (by rfl) (renL_cons (by rfl) (renL_cons (by rfl) (renL_cons (by rfl) (renL_nil _)))))))))) (by rfl)) (rh_upd (rh_acc (by rfl) (by rfl)) (rh_no _)))⟩
  · rintro ⟨⟨t323, he320⟩, g4⟩
    replace he320 := he320.symm
    subst he320
    try dsimp only at H2
    refine runR_seq ?_
    refine runR_take tab_ok fol 1 ?_
    obtain ⟨t57, b82, H83⟩ := bind_inv H2
    try simp -implicitDefEqProofs only [go_sem, Nat.reduceAdd, ↓reduceIte]
    refine onCall_pure (by first | rfl | (simp -implicitDefEqProofs only [go_sem, reduceCtorEq, ↓reduceIte, eGRoles]; done) | (simp -implicitDefEqProofs only [go_sem, reduceCtorEq, ↓reduceIte, eGRoles]; rfl)) (norm_Normal_ok b82) (by first | exact .inr rfl | exact .inl rfl) ?_
    try simp -implicitDefEqProofs only [go_sem, Nat.reduceEqDiff, Nat.reduceAdd, ↓reduceIte, eGRoles]
    refine runR_seq ?_
    refine runR_seq ?_
    refine runR_take tab_ok fol 1 ?_
    try simp -implicitDefEqProofs only [go_sem, Nat.reduceAdd]
    obtain ⟨e_4, E84, H85⟩ := bind_inv H83
    refine runR_join (α := { y : Unit // e_4 = .inl y } × Nat) (fun | ⟨⟨_, _⟩, g16⟩ => ⟨upd 3 (.pt 0 0) (upd 7 (.pt 2 0) noFr), upd 0 (some (.bx [.v (.slice none 0 0), .v (.slice none 0 0), accV 1 g16 (List.map eGPair t323), .v (.slice none 0 0), .v (.slice none 0 0), .v (.slice none 0 0), .v (.slice none 0 0), .v (.slice none 0 0)])) (upd 1 (accO 2 g16 false (List.map eGPair t323)) (upd 2 (some (.bx [.d (.sl (List.map eS t57.users)) false, .d (.sl (List.map eS t57.roles)) false, .d (.sl (List.map eGPair t57.inherit)) false, .d (.sl (List.map eGPair t57.assign)) false, .d (.sl (List.map eGGrant t57.grants)) false, .d (.sl (List.map eGSod t57.ssd)) false, .d (.sl (List.map eGSod t57.dsd)) false, .d (.sl (List.map eGSession t57.sessions)) false])) noHp)), 3⟩) ?_ ?_
    · refine runR_block ?_
      refine runR_loop (α := { q : (Nat × Int) × Nat // law14_NormLeast_L2 n t57 q.1.1 q.1.2 = some e_4 }) (fun | ⟨⟨⟨c, t8⟩, g10⟩, _⟩ => ⟨upd 3 (.pt 0 0) (upd 7 (.pt 2 0) (upd 8 (.v (.int .i64 t8)) noFr)), upd 0 (some (.bx [.v (.slice none 0 0), .v (.slice none 0 0), accV 1 g10 (List.map eGPair t323), .v (.slice none 0 0), .v (.slice none 0 0), .v (.slice none 0 0), .v (.slice none 0 0), .v (.slice none 0 0)])) (upd 1 (accO 2 g10 false (List.map eGPair t323)) (upd 2 (some (.bx [.d (.sl (List.map eS t57.users)) false, .d (.sl (List.map eS t57.roles)) false, .d (.sl (List.map eGPair t57.inherit)) false, .d (.sl (List.map eGPair t57.assign)) false, .d (.sl (List.map eGGrant t57.grants)) false, .d (.sl (List.map eGSod t57.ssd)) false, .d (.sl (List.map eGSod t57.dsd)) false, .d (.sl (List.map eGSession t57.sessions)) false])) noHp)), 3⟩) (fun q => q.1.1.1) ⟨((n, 0), g4), E84⟩ ?_ ?_
      · exact ren_mk [(0, 0), (1, 1), (2, 4)] (by rfl) (rf_upd (by rfl) (rf_upd (by rfl) (rf_upd (by rfl) (rf_no _)))) (rh_upd (rh_one (by rfl) (renO_bx (renL_cons (by rfl) (renL_cons (by rfl) (renL_cons (ren_acc (by rfl)) (renL_cons (by rfl) (renL_cons (by rfl) (renL_cons (by rfl) (renL_cons (by rfl) (renL_cons (by rfl) (renL_nil _)))))))))) (by rfl)) (rh_upd (rh_acc (by rfl) (by rfl)) (rh_upd (rh_one (by rfl) (by rfl) (by rfl)) (rh_no _))))
      · rintro ⟨⟨⟨c, t8⟩, g10⟩, L86⟩
        rcases c with _ | c
        · exact nomatch (show none = some _ from L86)
        · unfold law14_NormLeast_L2 at L86
          try dsimp only at L86
          refine runR_seq ?_
          refine runR_take tab_ok fol 1 ?_
          try simp -implicitDefEqProofs only [go_sem, Nat.reduceEqDiff, Nat.reduceAdd, reduceCtorEq, ↓reduceIte]
          rcases ite_inv L86 with ⟨c152, H153⟩ | ⟨c152, H153⟩
          · try simp -implicitDefEqProofs only [go_sem, c152]
            refine runR_seq ?_
            refine runR_block ?_
            refine runR_seq ?_
            refine runR_take tab_ok fol 1 ?_
            obtain ⟨x6, b154, H155⟩ := bind_inv H153
            obtain ⟨h156, h157⟩ := idx_inv b154
            try simp only [Int.reduceToNat, Int.toNat_natCast] at h157
            have h158 := map_at eGPair h157
            try simp -implicitDefEqProofs only [go_sem, Nat.reduceEqDiff, Nat.reduceAdd, reduceCtorEq, ↓reduceIte, eGPair, nat_of .i64 h156, h158]
            refine runR_seq ?_
            refine runR_take tab_ok fol 1 ?_
            obtain ⟨l6, b160, H161⟩ := bind_inv H155
            obtain ⟨h162, h163, h164, h165⟩ := slc_inv b160
            have h166 : 0 ≤ Int.toNat t8 := by omega
            have h167 : Int.toNat t8 ≤ (List.length t57.inherit) := by omega
            have h168 : List.take (Int.toNat t8) (List.map eGPair t57.inherit) = List.map eGPair l6 := by rw [h165]; simp [List.map_take]
            try simp only [Int.toNat_natCast] at h166 h167 h168
            obtain ⟨l7, b169, H170⟩ := bind_inv H161
            obtain ⟨h171, h172⟩ := app_inv b169
            have h172 : l6 = l7 := h172
            subst h172
            have h171 : l6.length ≤ 4294967296 := by have := h171; simpa using this
            obtain ⟨l8, b175, H176⟩ := bind_inv H170
            obtain ⟨h177, h178, h179, h180⟩ := slc_inv b175
            have h181 : Int.toNat (IntKind.i64.wrap (t8 + 1)) ≤ (List.length t57.inherit) := by omega
            have h182 : (List.length t57.inherit) ≤ (List.length t57.inherit) := by omega
            have h183 : List.drop (Int.toNat (IntKind.i64.wrap (t8 + 1))) (List.map eGPair t57.inherit) = List.map eGPair l8 := by rw [h180]; simp [List.map_drop]
            try simp only [Int.toNat_natCast] at h181 h182 h183
            obtain ⟨l9, b184, H185⟩ := bind_inv H176
            obtain ⟨h186, h187⟩ := app_inv b184
            have h186 : l6.length + l8.length ≤ 4294967296 := h186
            have h188 : List.map eGPair l6 ++ List.map eGPair l8 = List.map eGPair l9 := app_map eGPair h187
            have h189 : l6.length + l8.length = l9.length := app_len h187
            have h190 : l9.length ≤ 4294967296 := by omega
            try simp -implicitDefEqProofs only [go_sem, Nat.reduceLT, Nat.reduceEqDiff, Nat.reduceAdd, Nat.reduceMul, Nat.reduceLeDiff, reduceCtorEq, ↓reduceIte, nat_of .i64 h156, h166, h167, h168, chk_map (n := 2) (f := eGPair) (fun _ => rfl) l6, h171, List.take_succ_cons, List.take_zero, nat_of .i64 h177, h181, h182, h183, chk_map (n := 2) (f := eGPair) (fun _ => rfl) t57.inherit, chk_map (n := 2) (f := eGPair) (fun _ => rfl) l8, h188, h189, h190]
            refine Rd_endF (by rfl) ?_
            try simp -implicitDefEqProofs only [go_sem]
            refine runR_seq ?_
            refine runR_take tab_ok fol 1 ?_
            obtain ⟨t862, b191, H192⟩ := bind_inv H185
            try simp -implicitDefEqProofs only [go_sem, Nat.reduceEqDiff, Nat.reduceAdd, reduceCtorEq, ↓reduceIte, List.take_succ_cons, List.take_zero]
            refine onCall_pure (by first | rfl | (simp -implicitDefEqProofs only [go_sem, Nat.reduceEqDiff, ↓reduceIte, eGRoles]; done) | (simp -implicitDefEqProofs only [go_sem, Nat.reduceEqDiff, ↓reduceIte, eGRoles]; rfl)) (norm_Down_ok b191) (by first | exact .inr rfl | exact .inl rfl) ?_
            try simp -implicitDefEqProofs only [go_sem, Nat.reduceAdd, ↓reduceIte]
            refine runR_seq ?_
            refine runR_take tab_ok fol 1 ?_
            try simp -implicitDefEqProofs only [go_sem, Nat.reduceAdd, List.take_succ_cons, List.take_zero]
            obtain ⟨e_6, E193, H194⟩ := bind_inv H192
            refine runR_join (α := { y : Unit // e_6 = .inl y } × Nat) (fun | ⟨⟨_, _⟩, g14⟩ => ⟨upd 3 (.pt 0 0) (upd 7 (.pt 2 0) (upd 8 (.v (.int .i64 t8)) noFr)), upd 0 (some (.bx [.v (.slice none 0 0), .v (.slice none 0 0), accV 1 g14 (List.map eGPair t323), .v (.slice none 0 0), .v (.slice none 0 0), .v (.slice none 0 0), .v (.slice none 0 0), .v (.slice none 0 0)])) (upd 1 (accO 2 g14 false (List.map eGPair t323)) (upd 2 (some (.bx [.d (.sl (List.map eS t57.users)) false, .d (.sl (List.map eS t57.roles)) false, .d (.sl (List.map eGPair t57.inherit)) false, .d (.sl (List.map eGPair t57.assign)) false, .d (.sl (List.map eGGrant t57.grants)) false, .d (.sl (List.map eGSod t57.ssd)) false, .d (.sl (List.map eGSod t57.dsd)) false, .d (.sl (List.map eGSession t57.sessions)) false])) noHp)), 3⟩) ?_ ?_
            · refine runR_block ?_
              refine runR_loop (α := { q : (Nat × Int) × Nat // law14_NormLeast_L3 n x6 t862 q.1.1 q.1.2 = some e_6 }) (fun | ⟨⟨⟨c, t123⟩, g12⟩, _⟩ => ⟨upd 3 (.pt 0 0) (upd 7 (.pt 2 0) (upd 8 (.v (.int .i64 t8)) (upd 9 (.pt 3 0) (upd 11 (.d (.sl (List.map eS t862)) false) (upd 12 (.v (.int .i64 t123)) noFr))))), upd 0 (some (.bx [.v (.slice none 0 0), .v (.slice none 0 0), accV 1 g12 (List.map eGPair t323), .v (.slice none 0 0), .v (.slice none 0 0), .v (.slice none 0 0), .v (.slice none 0 0), .v (.slice none 0 0)])) (upd 1 (accO 2 g12 false (List.map eGPair t323)) (upd 2 (some (.bx [.d (.sl (List.map eS t57.users)) false, .d (.sl (List.map eS t57.roles)) false, .d (.sl (List.map eGPair t57.inherit)) false, .d (.sl (List.map eGPair t57.assign)) false, .d (.sl (List.map eGGrant t57.grants)) false, .d (.sl (List.map eGSod t57.ssd)) false, .d (.sl (List.map eGSod t57.dsd)) false, .d (.sl (List.map eGSession t57.sessions)) false])) (upd 3 (some (.bx [.v (.string x6.a), .v (.string x6.b)])) noHp))), 4⟩) (fun q => q.1.1.1) ⟨((n, 0), g10), E193⟩ ?_ ?_
              · exact ren_mk [(0, 0), (1, 1), (2, 2), (3, 13)] (by rfl) (rf_upd (by rfl) (rf_upd (by rfl) (rf_upd (by rfl) (rf_upd (by rfl) (rf_upd (by rfl) (rf_upd (by rfl) (rf_no _))))))) (rh_upd (rh_one (by rfl) (renO_bx (renL_cons (by rfl) (renL_cons (by rfl) (renL_cons (ren_acc (by rfl)) (renL_cons (by rfl) (renL_cons (by rfl) (renL_cons (by rfl) (renL_cons (by rfl) (renL_cons (by rfl) (renL_nil _)))))))))) (by rfl)) (rh_upd (rh_acc (by rfl) (by rfl)) (rh_upd (rh_one (by rfl) (by rfl) (by rfl)) (rh_upd (rh_one (by rfl) (by rfl) (by rfl)) (rh_no _)))))
              · rintro ⟨⟨⟨c, t123⟩, g12⟩, L195⟩
                rcases c with _ | c
                · exact nomatch (show none = some _ from L195)
                · unfold law14_NormLeast_L3 at L195
                  try dsimp only at L195
                  refine runR_take tab_ok fol 1 ?_
                  try simp -implicitDefEqProofs only [go_sem, Nat.reduceEqDiff, Nat.reduceAdd, ↓reduceIte]
                  rcases ite_inv L195 with ⟨c206, H207⟩ | ⟨c206, H207⟩
                  · obtain ⟨x8, b208, H209⟩ := bind_inv H207
                    obtain ⟨h210, h211⟩ := idx_inv b208
                    try simp only [Int.reduceToNat, Int.toNat_natCast] at h211
                    have h212 := map_at eS h211
                    try simp -implicitDefEqProofs only [go_sem, Nat.reduceEqDiff, Nat.reduceAdd, reduceCtorEq, ↓reduceIte, c206, nat_of .i64 h210, h212]
                    refine Rd_endF (by rfl) ?_
                    try simp -implicitDefEqProofs only [go_sem, ↓reduceIte]
                    rcases ite_inv H209 with ⟨c214, H215⟩ | ⟨c214, H215⟩
                    · try simp -implicitDefEqProofs only [go_sem, Nat.reduceAdd, c214]
                      obtain rfl := Option.some.inj H215
                      obtain rfl := Option.some.inj H194
                      obtain rfl := Option.some.inj H85
                      exact end_pure (by first | (simp -implicitDefEqProofs only [go_sem, ↓reduceIte, Tryz.f6] <;> rfl) | rfl) (by first | rfl | (simp -implicitDefEqProofs only [go_sem, Int.reduceToNat, Int.reduceLT, Int.reduceLE, Int.reduceBEq, Int.reduceBNe, Nat.reduceLT, Nat.reduceBEq, Int.reduceEq, Nat.reduceEqDiff, Nat.reduceAdd, Nat.reduceSub, Nat.reduceMul, Nat.reduceLeDiff, reduceCtorEq, ↓reduceIte, eGPair, eGGrant, eGSod, eGSession, eGRoles, c206, nat_of .i64 h210, h212, c214]; done) | (simp -implicitDefEqProofs only [go_sem, Int.reduceToNat, Int.reduceLT, Int.reduceLE, Int.reduceBEq, Int.reduceBNe, Nat.reduceLT, Nat.reduceBEq, Int.reduceEq, Nat.reduceEqDiff, Nat.reduceAdd, Nat.reduceSub, Nat.reduceMul, Nat.reduceLeDiff, reduceCtorEq, ↓reduceIte, eGPair, eGGrant, eGSod, eGSession, eGRoles, c206, nat_of .i64 h210, h212, c214]; rfl)) rfl (by intro h; first | rfl | cases h)
                    · try simp -implicitDefEqProofs only [go_sem, Nat.reduceEqDiff, Nat.reduceAdd, ↓reduceIte, c214]
                      exact ⟨⟨((c, (IntKind.i64.wrap (t123 + 1))), g12), H215⟩, ren_mk [(0, 0), (1, 1), (2, 2), (3, 3)] (by rfl) (rf_upd (by rfl) (rf_upd (by rfl) (rf_upd (by rfl) (rf_upd (by rfl) (rf_upd (by rfl) (rf_upd (by rfl) (rf_no _))))))) (rh_upd (rh_one (by rfl) (renO_bx (renL_cons (by rfl) (renL_cons (by rfl) (renL_cons (ren_acc (by rfl)) (renL_cons (by rfl) (renL_cons (by rfl) (renL_cons (by rfl) (renL_cons (by rfl) (renL_cons (by rfl) (renL_nil _)))))))))) (by rfl)) (rh_upd (rh_acc (by rfl) (by rfl)) (rh_upd (rh_one (by rfl) (by rfl) (by rfl)) (rh_upd (rh_one (by rfl) (by rfl) (by rfl)) (rh_no _))))), Nat.lt_succ_self _⟩
                  · try simp -implicitDefEqProofs only [go_sem, ↓reduceIte, c206]
                    obtain rfl := Option.some.inj H207
                    exact ⟨⟨⟨(), rfl⟩, g12⟩, ren_mk [(0, 0), (1, 1), (2, 2)] (by rfl) (rf_upd (by rfl) (rf_upd (by rfl) (rf_upd (by rfl) (rf_no _)))) (rh_upd (rh_one (by rfl) (renO_bx (renL_cons (by rfl) (renL_cons (by rfl) (renL_cons (ren_acc (by rfl)) (renL_cons (by rfl) (renL_cons (by rfl) (renL_cons (by rfl) (renL_cons (by rfl) (renL_cons (by rfl) (renL_nil _)))))))))) (by rfl)) (rh_upd (rh_acc (by rfl) (by rfl)) (rh_upd (rh_one (by rfl) (by rfl) (by rfl)) (rh_no _))))⟩
            · rintro ⟨⟨_, he216⟩, g14⟩
              replace he216 := he216.symm
              subst he216
              try dsimp only at H194
              try simp -implicitDefEqProofs only [go_sem]
              refine runR_take tab_ok fol 1 ?_
              try simp -implicitDefEqProofs only [go_sem, Nat.reduceEqDiff, Nat.reduceAdd, ↓reduceIte]
              exact ⟨⟨((c, (IntKind.i64.wrap (t8 + 1))), g14), H194⟩, ren_mk [(0, 0), (1, 1), (2, 2)] (by rfl) (rf_upd (by rfl) (rf_upd (by rfl) (rf_upd (by rfl) (rf_no _)))) (rh_upd (rh_one (by rfl) (renO_bx (renL_cons (by rfl) (renL_cons (by rfl) (renL_cons (ren_acc (by rfl)) (renL_cons (by rfl) (renL_cons (by rfl) (renL_cons (by rfl) (renL_cons (by rfl) (renL_cons (by rfl) (renL_nil _)))))))))) (by rfl)) (rh_upd (rh_acc (by rfl) (by rfl)) (rh_upd (rh_one (by rfl) (by rfl) (by rfl)) (rh_no _)))), Nat.lt_succ_self _⟩
          · try simp -implicitDefEqProofs only [go_sem, ↓reduceIte, c152]
            obtain rfl := Option.some.inj H153
            exact ⟨⟨⟨(), rfl⟩, g10⟩, ren_mk [(0, 0), (1, 1), (2, 2)] (by rfl) (rf_upd (by rfl) (rf_upd (by rfl) (rf_no _))) (rh_upd (rh_one (by rfl) (renO_bx (renL_cons (by rfl) (renL_cons (by rfl) (renL_cons (ren_acc (by rfl)) (renL_cons (by rfl) (renL_cons (by rfl) (renL_cons (by rfl) (renL_cons (by rfl) (renL_cons (by rfl) (renL_nil _)))))))))) (by rfl)) (rh_upd (rh_acc (by rfl) (by rfl)) (rh_upd (rh_one (by rfl) (by rfl) (by rfl)) (rh_no _))))⟩
    · rintro ⟨⟨_, he319⟩, g16⟩
      replace he319 := he319.symm
      subst he319
      try dsimp only at H85
      refine runR_seq ?_
      refine runR_seq ?_
      refine runR_take tab_ok fol 1 ?_
      try simp -implicitDefEqProofs only [go_sem, Nat.reduceAdd]
      obtain ⟨e_7, E217, H218⟩ := bind_inv H85
      refine runR_join (α := { y : Unit // e_7 = .inl y } × Nat) (fun | ⟨⟨_, _⟩, g20⟩ => ⟨upd 3 (.pt 0 0) (upd 7 (.pt 2 0) noFr), upd 0 (some (.bx [.v (.slice none 0 0), .v (.slice none 0 0), accV 1 g20 (List.map eGPair t323), .v (.slice none 0 0), .v (.slice none 0 0), .v (.slice none 0 0), .v (.slice none 0 0), .v (.slice none 0 0)])) (upd 1 (accO 2 g20 false (List.map eGPair t323)) (upd 2 (some (.bx [.d (.sl (List.map eS t57.users)) false, .d (.sl (List.map eS t57.roles)) false, .d (.sl (List.map eGPair t57.inherit)) false, .d (.sl (List.map eGPair t57.assign)) false, .d (.sl (List.map eGGrant t57.grants)) false, .d (.sl (List.map eGSod t57.ssd)) false, .d (.sl (List.map eGSod t57.dsd)) false, .d (.sl (List.map eGSession t57.sessions)) false])) noHp)), 3⟩) ?_ ?_
      · refine runR_block ?_
        refine runR_loop (α := { q : (Nat × Int) × Nat // law14_NormLeast_L4 n t323 t57 q.1.1 q.1.2 = some e_7 }) (fun | ⟨⟨⟨c, t13⟩, g18⟩, _⟩ => ⟨upd 3 (.pt 0 0) (upd 7 (.pt 2 0) (upd 13 (.v (.int .i64 t13)) noFr)), upd 0 (some (.bx [.v (.slice none 0 0), .v (.slice none 0 0), accV 1 g18 (List.map eGPair t323), .v (.slice none 0 0), .v (.slice none 0 0), .v (.slice none 0 0), .v (.slice none 0 0), .v (.slice none 0 0)])) (upd 1 (accO 2 g18 false (List.map eGPair t323)) (upd 2 (some (.bx [.d (.sl (List.map eS t57.users)) false, .d (.sl (List.map eS t57.roles)) false, .d (.sl (List.map eGPair t57.inherit)) false, .d (.sl (List.map eGPair t57.assign)) false, .d (.sl (List.map eGGrant t57.grants)) false, .d (.sl (List.map eGSod t57.ssd)) false, .d (.sl (List.map eGSod t57.dsd)) false, .d (.sl (List.map eGSession t57.sessions)) false])) noHp)), 3⟩) (fun q => q.1.1.1) ⟨((n, 0), g16), E217⟩ ?_ ?_
        · exact ren_mk [(0, 0), (1, 1), (2, 2)] (by rfl) (rf_upd (by rfl) (rf_upd (by rfl) (rf_upd (by rfl) (rf_no _)))) (rh_upd (rh_one (by rfl) (renO_bx (renL_cons (by rfl) (renL_cons (by rfl) (renL_cons (ren_acc (by rfl)) (renL_cons (by rfl) (renL_cons (by rfl) (renL_cons (by rfl) (renL_cons (by rfl) (renL_cons (by rfl) (renL_nil _)))))))))) (by rfl)) (rh_upd (rh_acc (by rfl) (by rfl)) (rh_upd (rh_one (by rfl) (by rfl) (by rfl)) (rh_no _))))
        · rintro ⟨⟨⟨c, t13⟩, g18⟩, L219⟩
          rcases c with _ | c
          · exact nomatch (show none = some _ from L219)
          · unfold law14_NormLeast_L4 at L219
            try dsimp only at L219
            refine runR_seq ?_
            refine runR_take tab_ok fol 1 ?_
            try simp -implicitDefEqProofs only [go_sem, Nat.reduceEqDiff, Nat.reduceAdd, reduceCtorEq, ↓reduceIte]
            rcases ite_inv L219 with ⟨c267, H268⟩ | ⟨c267, H268⟩
            · try simp -implicitDefEqProofs only [go_sem, c267]
              refine runR_seq ?_
              refine runR_block ?_
              refine runR_seq ?_
              refine runR_take tab_ok fol 1 ?_
              obtain ⟨x14, b269, H270⟩ := bind_inv H268
              obtain ⟨h271, h272⟩ := idx_inv b269
              try simp only [Int.reduceToNat, Int.toNat_natCast] at h272
              have h273 := map_at eGPair h272
              have h274 := at_lt h272
              have q275 : 0 < t323.length := by omega
              obtain ⟨t1142, b276, H277⟩ := bind_inv H270
              try simp -implicitDefEqProofs only [go_sem, Nat.reduceEqDiff, Nat.reduceAdd, reduceCtorEq, ↓reduceIte, eGPair, nat_of .i64 h271, h273, h274, accV_pos (f := eGPair) q275, accO_pos (f := eGPair) q275]
              refine onCallD_pure (by first | rfl | (simp -implicitDefEqProofs only [go_sem, Int.reduceToNat, Int.reduceLT, Int.reduceLE, Int.reduceBEq, Int.reduceBNe, Nat.reduceLT, Nat.reduceBEq, Int.reduceEq, Nat.reduceEqDiff, Nat.reduceAdd, Nat.reduceSub, Nat.reduceMul, Nat.reduceLeDiff, reduceCtorEq, ↓reduceIte, eGPair, eGGrant, eGSod, eGSession, eGRoles, c267, nat_of .i64 h271, h273, h274, accV_pos (f := eGPair) q275, accO_pos (f := eGPair) q275]; done) | (simp -implicitDefEqProofs only [go_sem, Int.reduceToNat, Int.reduceLT, Int.reduceLE, Int.reduceBEq, Int.reduceBNe, Nat.reduceLT, Nat.reduceBEq, Int.reduceEq, Nat.reduceEqDiff, Nat.reduceAdd, Nat.reduceSub, Nat.reduceMul, Nat.reduceLeDiff, reduceCtorEq, ↓reduceIte, eGPair, eGGrant, eGSod, eGSession, eGRoles, c267, nat_of .i64 h271, h273, h274, accV_pos (f := eGPair) q275, accO_pos (f := eGPair) q275]; rfl)) (norm_Down_ok b276) (by first | exact .inr rfl | exact .inl rfl) ?_
              try simp -implicitDefEqProofs only [go_sem, Nat.reduceAdd, ↓reduceIte]
              refine Rd_endF (by rfl) ?_
              try simp -implicitDefEqProofs only [go_sem]
              refine runR_seq ?_
              refine runR_take tab_ok fol 1 ?_
              try simp -implicitDefEqProofs only [go_sem, Nat.reduceAdd]
              refine runR_seq ?_
              refine runR_seq ?_
              refine runR_take tab_ok fol 1 ?_
              try simp -implicitDefEqProofs only [go_sem, Nat.reduceAdd]
              obtain ⟨e_9, E278, H279⟩ := bind_inv H277
              refine runR_join (α := { y : Bool // e_9 = y }) (fun | ⟨t156, _⟩ => ⟨upd 3 (.pt 0 0) (upd 7 (.pt 2 0) (upd 13 (.v (.int .i64 t13)) (upd 15 (.v (.bool t156)) noFr))), upd 0 (some (.bx [.v (.slice none 0 0), .v (.slice none 0 0), .so 1 g18 0 (t323.length), .v (.slice none 0 0), .v (.slice none 0 0), .v (.slice none 0 0), .v (.slice none 0 0), .v (.slice none 0 0)])) (upd 1 (some (.rw (List.map eGPair t323) 2 g18 false false)) (upd 2 (some (.bx [.d (.sl (List.map eS t57.users)) false, .d (.sl (List.map eS t57.roles)) false, .d (.sl (List.map eGPair t57.inherit)) false, .d (.sl (List.map eGPair t57.assign)) false, .d (.sl (List.map eGGrant t57.grants)) false, .d (.sl (List.map eGSod t57.ssd)) false, .d (.sl (List.map eGSod t57.dsd)) false, .d (.sl (List.map eGSession t57.sessions)) false])) noHp)), 3⟩) ?_ ?_
              · refine runR_block ?_
                refine runR_loop (α := { q : Nat × (Bool × Int) // law14_NormLeast_L5 n t323 t13 t1142 q.1 q.2 = some e_9 }) (fun | ⟨⟨c, ⟨t154, t163⟩⟩, _⟩ => ⟨upd 3 (.pt 0 0) (upd 7 (.pt 2 0) (upd 13 (.v (.int .i64 t13)) (upd 14 (.d (.sl (List.map eS t1142)) false) (upd 15 (.v (.bool t154)) (upd 16 (.v (.int .i64 t163)) noFr))))), upd 0 (some (.bx [.v (.slice none 0 0), .v (.slice none 0 0), .so 1 g18 0 (t323.length), .v (.slice none 0 0), .v (.slice none 0 0), .v (.slice none 0 0), .v (.slice none 0 0), .v (.slice none 0 0)])) (upd 1 (some (.rw (List.map eGPair t323) 2 g18 false false)) (upd 2 (some (.bx [.d (.sl (List.map eS t57.users)) false, .d (.sl (List.map eS t57.roles)) false, .d (.sl (List.map eGPair t57.inherit)) false, .d (.sl (List.map eGPair t57.assign)) false, .d (.sl (List.map eGGrant t57.grants)) false, .d (.sl (List.map eGSod t57.ssd)) false, .d (.sl (List.map eGSod t57.dsd)) false, .d (.sl (List.map eGSession t57.sessions)) false])) noHp)), 3⟩) (fun q => q.1.1) ⟨(n, (false, 0)), E278⟩ ?_ ?_
                · exact ren_mk [(0, 0), (1, 1), (2, 2)] (by rfl) (rf_upd (by rfl) (rf_upd (by rfl) (rf_upd (by rfl) (rf_upd (by rfl) (rf_upd (by rfl) (rf_upd (by rfl) (rf_no _))))))) (rh_upd (rh_one (by rfl) (by rfl) (by rfl)) (rh_upd (rh_one (by rfl) (by rfl) (by rfl)) (rh_upd (rh_one (by rfl) (by rfl) (by rfl)) (rh_no _))))
                · rintro ⟨⟨c, ⟨t154, t163⟩⟩, L280⟩
                  rcases c with _ | c
                  · exact nomatch (show none = some _ from L280)
                  · unfold law14_NormLeast_L5 at L280
                    try dsimp only at L280
                    refine runR_take tab_ok fol 1 ?_
                    try simp -implicitDefEqProofs only [go_sem, Nat.reduceEqDiff, Nat.reduceAdd, ↓reduceIte]
                    rcases ite_inv L280 with ⟨c295, H296⟩ | ⟨c295, H296⟩
                    · try simp -implicitDefEqProofs only [go_sem, Nat.reduceEqDiff, Nat.reduceAdd, ↓reduceIte, c295]
                      rcases ite_inv H296 with ⟨c297, H298⟩ | ⟨c297, H298⟩
                      · try simp -implicitDefEqProofs only [go_sem, Nat.reduceEqDiff, Nat.reduceAdd, ↓reduceIte, c297]
                        refine Rd_endF (by rfl) ?_
                        try simp -implicitDefEqProofs only [go_sem, Nat.reduceEqDiff, Nat.reduceAdd, ↓reduceIte]
                        exact ⟨⟨(c, (true, (IntKind.i64.wrap (t163 + 1)))), H298⟩, ren_mk [(0, 0), (1, 1), (2, 2)] (by rfl) (rf_upd (by rfl) (rf_upd (by rfl) (rf_upd (by rfl) (rf_upd (by rfl) (rf_upd (by rfl) (rf_upd (by rfl) (rf_no _))))))) (rh_upd (rh_one (by rfl) (by rfl) (by rfl)) (rh_upd (rh_one (by rfl) (by rfl) (by rfl)) (rh_upd (rh_one (by rfl) (by rfl) (by rfl)) (rh_no _)))), Nat.lt_succ_self _⟩
                      · obtain ⟨x17, b299, H300⟩ := bind_inv H298
                        obtain ⟨h301, h302⟩ := idx_inv b299
                        try simp only [Int.reduceToNat, Int.toNat_natCast] at h302
                        have h303 := map_at eS h302
                        obtain ⟨x18, b305, H306⟩ := bind_inv H300
                        obtain ⟨h307, h308⟩ := idx_inv b305
                        try simp only [Int.reduceToNat, Int.toNat_natCast] at h308
                        have h309 := map_at eGPair h308
                        have h310 := at_lt h308
                        try simp -implicitDefEqProofs only [go_sem, Nat.reduceEqDiff, Nat.reduceAdd, reduceCtorEq, ↓reduceIte, eGPair, c297, nat_of .i64 h301, h303, nat_of .i64 h307, h309, h310]
                        refine Rd_endF (by rfl) ?_
                        try simp -implicitDefEqProofs only [go_sem, Nat.reduceEqDiff, Nat.reduceAdd, ↓reduceIte]
                        exact ⟨⟨(c, ((x17.toList == x18.b.toList), (IntKind.i64.wrap (t163 + 1)))), H306⟩, ren_mk [(0, 0), (1, 1), (2, 2)] (by rfl) (rf_upd (by rfl) (rf_upd (by rfl) (rf_upd (by rfl) (rf_upd (by rfl) (rf_upd (by rfl) (rf_upd (by rfl) (rf_no _))))))) (rh_upd (rh_one (by rfl) (by rfl) (by rfl)) (rh_upd (rh_one (by rfl) (by rfl) (by rfl)) (rh_upd (rh_one (by rfl) (by rfl) (by rfl)) (rh_no _)))), Nat.lt_succ_self _⟩
                    · try simp -implicitDefEqProofs only [go_sem, ↓reduceIte, c295]
                      obtain rfl := Option.some.inj H296
                      exact ⟨⟨t154, rfl⟩, ren_mk [(0, 0), (1, 1), (2, 2)] (by rfl) (rf_upd (by rfl) (rf_upd (by rfl) (rf_upd (by rfl) (rf_upd (by rfl) (rf_no _))))) (rh_upd (rh_one (by rfl) (by rfl) (by rfl)) (rh_upd (rh_one (by rfl) (by rfl) (by rfl)) (rh_upd (rh_one (by rfl) (by rfl) (by rfl)) (rh_no _))))⟩
              · rintro ⟨t156, he313⟩
                replace he313 := he313.symm
                subst he313
                try dsimp only at H279
                refine runR_take tab_ok fol 3 ?_
                try simp -implicitDefEqProofs only [go_sem, Nat.reduceEqDiff, Nat.reduceAdd, ↓reduceIte]
                rcases ite_inv H279 with ⟨c311, H312⟩ | ⟨c311, H312⟩
                · try simp -implicitDefEqProofs only [go_sem, Nat.reduceEqDiff, Nat.reduceAdd, ↓reduceIte, c311]
                  exact ⟨⟨((c, (IntKind.i64.wrap (t13 + 1))), g18), H312⟩, ren_mk [(0, 0), (1, 1), (2, 2)] (by rfl) (rf_upd (by rfl) (rf_upd (by rfl) (rf_upd (by rfl) (rf_no _)))) (rh_upd (rh_one (by rfl) (renO_bx (renL_cons (by rfl) (renL_cons (by rfl) (renL_cons (by first | exact ren_accP (by rfl) q275 | rfl) (renL_cons (by rfl) (renL_cons (by rfl) (renL_cons (by rfl) (renL_cons (by rfl) (renL_cons (by rfl) (renL_nil _)))))))))) (by rfl)) (rh_upd (by first | exact rh_accP (by rfl) q275 (by rfl) | exact rh_one (by rfl) (by rfl) (by rfl)) (rh_upd (rh_one (by rfl) (by rfl) (by rfl)) (rh_no _)))), Nat.lt_succ_self _⟩
                · try simp -implicitDefEqProofs only [go_sem, Nat.reduceAdd, c311]
                  obtain rfl := Option.some.inj H312
                  obtain rfl := Option.some.inj H218
                  exact end_pure (by first | (simp -implicitDefEqProofs only [go_sem, ↓reduceIte, Tryz.f6] <;> rfl) | rfl) (by first | rfl | (simp -implicitDefEqProofs only [go_sem, Int.reduceToNat, Int.reduceLT, Int.reduceLE, Int.reduceBEq, Int.reduceBNe, Nat.reduceLT, Nat.reduceBEq, Int.reduceEq, Nat.reduceEqDiff, Nat.reduceAdd, Nat.reduceSub, Nat.reduceMul, Nat.reduceLeDiff, reduceCtorEq, ↓reduceIte, eGPair, eGGrant, eGSod, eGSession, eGRoles, c311]; done) | (simp -implicitDefEqProofs only [go_sem, Int.reduceToNat, Int.reduceLT, Int.reduceLE, Int.reduceBEq, Int.reduceBNe, Nat.reduceLT, Nat.reduceBEq, Int.reduceEq, Nat.reduceEqDiff, Nat.reduceAdd, Nat.reduceSub, Nat.reduceMul, Nat.reduceLeDiff, reduceCtorEq, ↓reduceIte, eGPair, eGGrant, eGSod, eGSession, eGRoles, c311]; rfl)) rfl (by intro h; first | rfl | cases h)
            · try simp -implicitDefEqProofs only [go_sem, ↓reduceIte, c267]
              obtain rfl := Option.some.inj H268
              exact ⟨⟨⟨(), rfl⟩, g18⟩, ren_mk [(0, 0), (1, 1), (2, 2)] (by rfl) (rf_upd (by rfl) (rf_upd (by rfl) (rf_no _))) (rh_upd (rh_one (by rfl) (renO_bx (renL_cons (by rfl) (renL_cons (by rfl) (renL_cons (ren_acc (by rfl)) (renL_cons (by rfl) (renL_cons (by rfl) (renL_cons (by rfl) (renL_cons (by rfl) (renL_cons (by rfl) (renL_nil _)))))))))) (by rfl)) (rh_upd (rh_acc (by rfl) (by rfl)) (rh_upd (rh_one (by rfl) (by rfl) (by rfl)) (rh_no _))))⟩
      · rintro ⟨⟨_, he318⟩, g20⟩
        replace he318 := he318.symm
        subst he318
        try dsimp only at H218
        refine runR_take tab_ok fol 1 ?_
        try simp -implicitDefEqProofs only [go_sem, Nat.reduceEqDiff, Nat.reduceAdd, reduceCtorEq, ↓reduceIte]
        rcases ite_inv H218 with ⟨c314, H315⟩ | ⟨c314, H315⟩
        · obtain ⟨t145, b316, H317⟩ := bind_inv H315
          try simp -implicitDefEqProofs only [go_sem, Nat.reduceAdd, ↓reduceIte, c314]
          refine onCall_pure (by first | rfl | (simp -implicitDefEqProofs only [go_sem, Int.reduceToNat, Int.reduceLT, Int.reduceLE, Int.reduceBEq, Int.reduceBNe, Nat.reduceLT, Nat.reduceBEq, Int.reduceEq, Nat.reduceEqDiff, Nat.reduceAdd, Nat.reduceSub, Nat.reduceMul, Nat.reduceLeDiff, reduceCtorEq, ↓reduceIte, eGPair, eGGrant, eGSod, eGSession, eGRoles, c314]; done) | (simp -implicitDefEqProofs only [go_sem, Int.reduceToNat, Int.reduceLT, Int.reduceLE, Int.reduceBEq, Int.reduceBNe, Nat.reduceLT, Nat.reduceBEq, Int.reduceEq, Nat.reduceEqDiff, Nat.reduceAdd, Nat.reduceSub, Nat.reduceMul, Nat.reduceLeDiff, reduceCtorEq, ↓reduceIte, eGPair, eGGrant, eGSod, eGSession, eGRoles, c314]; rfl)) (law14_awake_ok b316) (by first | exact .inr rfl | exact .inl rfl) ?_
          try simp -implicitDefEqProofs only [go_sem, Nat.reduceEqDiff, Nat.reduceAdd, ↓reduceIte]
          obtain rfl := Option.some.inj H317
          exact end_pure (by first | (simp -implicitDefEqProofs only [go_sem, ↓reduceIte, Tryz.f6] <;> rfl) | rfl) (by first | rfl | (simp -implicitDefEqProofs only [go_sem, Int.reduceToNat, Int.reduceLT, Int.reduceLE, Int.reduceBEq, Int.reduceBNe, Nat.reduceLT, Nat.reduceBEq, Int.reduceEq, Nat.reduceEqDiff, Nat.reduceAdd, Nat.reduceSub, Nat.reduceMul, Nat.reduceLeDiff, reduceCtorEq, ↓reduceIte, eGPair, eGGrant, eGSod, eGSession, eGRoles, c314]; done) | (simp -implicitDefEqProofs only [go_sem, Int.reduceToNat, Int.reduceLT, Int.reduceLE, Int.reduceBEq, Int.reduceBNe, Nat.reduceLT, Nat.reduceBEq, Int.reduceEq, Nat.reduceEqDiff, Nat.reduceAdd, Nat.reduceSub, Nat.reduceMul, Nat.reduceLeDiff, reduceCtorEq, ↓reduceIte, eGPair, eGGrant, eGSod, eGSession, eGRoles, c314]; rfl)) rfl (by intro h; first | rfl | cases h)
        · try simp -implicitDefEqProofs only [go_sem, Nat.reduceEqDiff, Nat.reduceAdd, ↓reduceIte, c314]
          obtain rfl := Option.some.inj H315
          exact end_pure (by first | (simp -implicitDefEqProofs only [go_sem, ↓reduceIte, Tryz.f6] <;> rfl) | rfl) (by first | rfl | (simp -implicitDefEqProofs only [go_sem, Int.reduceToNat, Int.reduceLT, Int.reduceLE, Int.reduceBEq, Int.reduceBNe, Nat.reduceLT, Nat.reduceBEq, Int.reduceEq, Nat.reduceEqDiff, Nat.reduceAdd, Nat.reduceSub, Nat.reduceMul, Nat.reduceLeDiff, reduceCtorEq, ↓reduceIte, eGPair, eGGrant, eGSod, eGSession, eGRoles, c314]; done) | (simp -implicitDefEqProofs only [go_sem, Int.reduceToNat, Int.reduceLT, Int.reduceLE, Int.reduceBEq, Int.reduceBNe, Nat.reduceLT, Nat.reduceBEq, Int.reduceEq, Nat.reduceEqDiff, Nat.reduceAdd, Nat.reduceSub, Nat.reduceMul, Nat.reduceLeDiff, reduceCtorEq, ↓reduceIte, eGPair, eGGrant, eGSod, eGSession, eGRoles, c314]; rfl)) rfl (by intro h; first | rfl | cases h)
end Go.Proofs.YtkkhgdmmbhpckaaGreat.Ab
