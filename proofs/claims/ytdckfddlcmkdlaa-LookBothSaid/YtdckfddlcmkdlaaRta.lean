/-
  Functions, read off the code.
-/
import Derived.Test.YtdckfddlcmkdlaaRss
import Derived.Test.YtdckfddlcmkdlaaRp
namespace Go.Proofs.Ytdckfddlcmkdlaa.Ab
open Go.RowKit
def law1_Nm (_ : Nat) (n_ : Int) : Option ByteArray :=
  (idx [{ data := #[97] }, { data := #[98] }, { data := #[99] }, { data := #[100] }, { data := #[97, 98] }, { data := #[98, 45, 49] }, { data := #[120, 46, 121] }, { data := #[48] }] (IntKind.i64.wrap (an n_ 7 : Int))).bind fun x =>
  some x
theorem law1_Nm_ok {n : Nat} {n_ : Int} {r : ByteArray} (H : law1_Nm n n_ = some r) : PureOK Try.prog 63 [D.v (.int .i64 n_)] (D.v (.string r)) true := by
  unfold law1_Nm at H
  refine pure_runR (tab := tab) tab_ok Try.func63 rfl (by kernel_rfl) (by kernel_rfl) (by simp [Try.f63]) ?_
  refine runR_take tab_ok fol 1 ?_
  obtain ⟨x, b1, H2⟩ := bind_inv H
  obtain ⟨h3, h4⟩ := idx_inv b1
  try simp only [Int.reduceToNat, Int.toNat_natCast] at h4
  have h5 := map_at eS h4
  simp only [List.map_cons, List.map_nil, eS] at h5
  have h6 := at_lt h4
  simp only [List.length_cons, List.length_nil, Nat.reduceAdd] at h6
  try simp -implicitDefEqProofs only [go_sem, Nat.reduceLT, Nat.reduceEqDiff, Nat.reduceAdd, Nat.reduceLeDiff, reduceCtorEq, ↓reduceIte, nat_of .i64 h3, h5, h6]
  obtain rfl := Option.some.inj H2
  exact end_pure (by first | (simp -implicitDefEqProofs only [go_sem, ↓reduceIte, Try.f63] <;> rfl) | rfl) (by first | rfl | (simp -implicitDefEqProofs only [go_sem, Int.reduceToNat, Int.reduceLT, Int.reduceLE, Int.reduceBEq, Int.reduceBNe, Nat.reduceLT, Nat.reduceBEq, Int.reduceEq, Nat.reduceEqDiff, Nat.reduceAdd, Nat.reduceSub, Nat.reduceMul, Nat.reduceLeDiff, reduceCtorEq, ↓reduceIte, eGTuple, nat_of .i64 h3, h5, h6]; done) | (simp -implicitDefEqProofs only [go_sem, Int.reduceToNat, Int.reduceLT, Int.reduceLE, Int.reduceBEq, Int.reduceBNe, Nat.reduceLT, Nat.reduceBEq, Int.reduceEq, Nat.reduceEqDiff, Nat.reduceAdd, Nat.reduceSub, Nat.reduceMul, Nat.reduceLeDiff, reduceCtorEq, ↓reduceIte, eGTuple, nat_of .i64 h3, h5, h6]; rfl)) rfl (by intro h; first | rfl | cases h)
def law2_Tame (n : Nat) (n_ : Int) : Option GTuple :=
  (idx [{ data := #[97] }, { data := #[98] }] (IntKind.i64.wrap (an n_ 1 : Int))).bind fun x =>
  (law1_Nm n (sh n_ 1)).bind fun t11 =>
  (idx [{ data := #[114] }, { data := #[115] }] (IntKind.i64.wrap (an (sh n_ 4) 1 : Int))).bind fun x2 =>
  (idx [{ data := #[117] }, { data := #[97] }, { data := #[98] }] (Int.tmod (IntKind.i64.wrap (an (sh n_ 5) 255 : Int)) 3)).bind fun x3 =>
  (law1_Nm n (sh n_ 13)).bind fun t28 =>
  (if ((IntKind.i64.wrap (an (sh n_ 16) 3 : Int)) == 0) then
    (idx [{ data := #[114] }, { data := #[115] }] (IntKind.i64.wrap (an (sh n_ 18) 1 : Int))).bind fun x4 =>
    some (⟨(⟨x, t11⟩ : GObj), x2, (⟨x3, t28, x4⟩ : GSub)⟩ : GTuple)
  else
    some (⟨(⟨x, t11⟩ : GObj), x2, (⟨x3, t28, ByteArray.empty⟩ : GSub)⟩ : GTuple))
theorem law2_Tame_ok {n : Nat} {n_ : Int} {r : GTuple} (H : law2_Tame n n_ = some r) : PureOK Try.prog 28 [D.v (.int .i64 n_)] (D.ag (eGTuple r)) true := by
  unfold law2_Tame at H
  refine pure_runR (tab := tab) tab_ok Try.func28 rfl (by kernel_rfl) (by kernel_rfl) (by simp [Try.f28]) ?_
  refine runR_take tab_ok fol 1 ?_
  obtain ⟨x, b1, H2⟩ := bind_inv H
  obtain ⟨h3, h4⟩ := idx_inv b1
  try simp only [Int.reduceToNat, Int.toNat_natCast] at h4
  have h5 := map_at eS h4
  simp only [List.map_cons, List.map_nil, eS] at h5
  have h6 := at_lt h4
  simp only [List.length_cons, List.length_nil, Nat.reduceAdd] at h6
  obtain ⟨t11, b7, H8⟩ := bind_inv H2
  try simp -implicitDefEqProofs only [go_sem, Int.reduceToNat, Int.reduceLT, Nat.reduceLT, Nat.reduceEqDiff, Nat.reduceAdd, Nat.reduceLeDiff, reduceCtorEq, ↓reduceIte, eGTuple, nat_of .i64 h3, h5, h6]
  refine onCallD_pure (by first | rfl | (simp -implicitDefEqProofs only [go_sem, Int.reduceToNat, Int.reduceLT, Int.reduceLE, Int.reduceBEq, Int.reduceBNe, Nat.reduceLT, Nat.reduceBEq, Int.reduceEq, Nat.reduceEqDiff, Nat.reduceAdd, Nat.reduceSub, Nat.reduceMul, Nat.reduceLeDiff, reduceCtorEq, ↓reduceIte, eGTuple, nat_of .i64 h3, h5, h6]; done) | (simp -implicitDefEqProofs only [go_sem, Int.reduceToNat, Int.reduceLT, Int.reduceLE, Int.reduceBEq, Int.reduceBNe, Nat.reduceLT, Nat.reduceBEq, Int.reduceEq, Nat.reduceEqDiff, Nat.reduceAdd, Nat.reduceSub, Nat.reduceMul, Nat.reduceLeDiff, reduceCtorEq, ↓reduceIte, eGTuple, nat_of .i64 h3, h5, h6]; rfl)) (law1_Nm_ok b7) (by first | exact .inr rfl | exact .inl rfl) ?_
  obtain ⟨x2, b9, H10⟩ := bind_inv H8
  obtain ⟨h11, h12⟩ := idx_inv b9
  try simp only [Int.reduceToNat, Int.toNat_natCast] at h12
  have h13 := map_at eS h12
  simp only [List.map_cons, List.map_nil, eS] at h13
  have h14 := at_lt h12
  simp only [List.length_cons, List.length_nil, Nat.reduceAdd] at h14
  obtain ⟨x3, b15, H16⟩ := bind_inv H10
  obtain ⟨h17, h18⟩ := idx_inv b15
  try simp only [Int.reduceToNat, Int.toNat_natCast] at h18
  have h19 := map_at eS h18
  simp only [List.map_cons, List.map_nil, eS] at h19
  have h20 := at_lt h18
  simp only [List.length_cons, List.length_nil, Nat.reduceAdd] at h20
  obtain ⟨t28, b21, H22⟩ := bind_inv H16
  try simp -implicitDefEqProofs only [go_sem, Int.reduceToNat, Int.reduceLT, Nat.reduceLT, Int.reduceEq, Nat.reduceEqDiff, Nat.reduceAdd, Nat.reduceLeDiff, reduceCtorEq, ↓reduceIte, nat_of .i64 h11, h13, h14, nat_of .i64 h17, h19, h20]
  refine onCallD_pure (by first | rfl | (simp -implicitDefEqProofs only [go_sem, Int.reduceToNat, Int.reduceLT, Int.reduceLE, Int.reduceBEq, Int.reduceBNe, Nat.reduceLT, Nat.reduceBEq, Int.reduceEq, Nat.reduceEqDiff, Nat.reduceAdd, Nat.reduceSub, Nat.reduceMul, Nat.reduceLeDiff, reduceCtorEq, ↓reduceIte, eGTuple, nat_of .i64 h3, h5, h6, nat_of .i64 h11, h13, h14, nat_of .i64 h17, h19, h20]; done) | (simp -implicitDefEqProofs only [go_sem, Int.reduceToNat, Int.reduceLT, Int.reduceLE, Int.reduceBEq, Int.reduceBNe, Nat.reduceLT, Nat.reduceBEq, Int.reduceEq, Nat.reduceEqDiff, Nat.reduceAdd, Nat.reduceSub, Nat.reduceMul, Nat.reduceLeDiff, reduceCtorEq, ↓reduceIte, eGTuple, nat_of .i64 h3, h5, h6, nat_of .i64 h11, h13, h14, nat_of .i64 h17, h19, h20]; rfl)) (law1_Nm_ok b21) (by first | exact .inr rfl | exact .inl rfl) ?_
  try simp -implicitDefEqProofs only [go_sem, Nat.reduceEqDiff, Nat.reduceAdd, Nat.reduceLeDiff, ↓reduceIte]
  refine Rd_endF (by kernel_rfl) ?_
  try simp -implicitDefEqProofs only [go_sem, Int.reduceToNat, Int.reduceLT, Nat.reduceAdd, reduceCtorEq, ↓reduceIte]
  rcases ite_inv H22 with ⟨c23, H24⟩ | ⟨c23, H24⟩
  · obtain ⟨x4, b25, H26⟩ := bind_inv H24
    obtain ⟨h27, h28⟩ := idx_inv b25
    try simp only [Int.reduceToNat, Int.toNat_natCast] at h28
    have h29 := map_at eS h28
    simp only [List.map_cons, List.map_nil, eS] at h29
    have h30 := at_lt h28
    simp only [List.length_cons, List.length_nil, Nat.reduceAdd] at h30
    try simp -implicitDefEqProofs only [go_sem, Int.reduceToNat, Int.reduceLT, Nat.reduceLT, Nat.reduceEqDiff, Nat.reduceAdd, Nat.reduceLeDiff, reduceCtorEq, ↓reduceIte, c23, nat_of .i64 h27, h29, h30]
    obtain rfl := Option.some.inj H26
    exact end_pure (by first | (simp -implicitDefEqProofs only [go_sem, Nat.reduceEqDiff, Nat.reduceAdd, ↓reduceIte, Try.f28] <;> rfl) | rfl) (by first | rfl | (simp -implicitDefEqProofs only [go_sem, Int.reduceToNat, Int.reduceLT, Int.reduceLE, Int.reduceBEq, Int.reduceBNe, Nat.reduceLT, Nat.reduceBEq, Int.reduceEq, Nat.reduceEqDiff, Nat.reduceAdd, Nat.reduceSub, Nat.reduceMul, Nat.reduceLeDiff, reduceCtorEq, ↓reduceIte, eGTuple, eGObj, eGSub, nat_of .i64 h3, h5, h6, nat_of .i64 h11, h13, h14, nat_of .i64 h17, h19, h20, c23, nat_of .i64 h27, h29, h30]; done) | (simp -implicitDefEqProofs only [go_sem, Int.reduceToNat, Int.reduceLT, Int.reduceLE, Int.reduceBEq, Int.reduceBNe, Nat.reduceLT, Nat.reduceBEq, Int.reduceEq, Nat.reduceEqDiff, Nat.reduceAdd, Nat.reduceSub, Nat.reduceMul, Nat.reduceLeDiff, reduceCtorEq, ↓reduceIte, eGTuple, eGObj, eGSub, nat_of .i64 h3, h5, h6, nat_of .i64 h11, h13, h14, nat_of .i64 h17, h19, h20, c23, nat_of .i64 h27, h29, h30]; rfl)) rfl (by intro h; first | rfl | cases h)
  · try simp -implicitDefEqProofs only [go_sem, Nat.reduceEqDiff, Nat.reduceAdd, reduceCtorEq, ↓reduceIte, c23]
    obtain rfl := Option.some.inj H24
    exact end_pure (by first | (simp -implicitDefEqProofs only [go_sem, Nat.reduceEqDiff, Nat.reduceAdd, ↓reduceIte, Try.f28] <;> rfl) | rfl) (by first | rfl | (simp -implicitDefEqProofs only [go_sem, Int.reduceToNat, Int.reduceLT, Int.reduceLE, Int.reduceBEq, Int.reduceBNe, Nat.reduceLT, Nat.reduceBEq, Int.reduceEq, Nat.reduceEqDiff, Nat.reduceAdd, Nat.reduceSub, Nat.reduceMul, Nat.reduceLeDiff, reduceCtorEq, ↓reduceIte, eGTuple, eGObj, eGSub, nat_of .i64 h3, h5, h6, nat_of .i64 h11, h13, h14, nat_of .i64 h17, h19, h20, c23]; done) | (simp -implicitDefEqProofs only [go_sem, Int.reduceToNat, Int.reduceLT, Int.reduceLE, Int.reduceBEq, Int.reduceBNe, Nat.reduceLT, Nat.reduceBEq, Int.reduceEq, Nat.reduceEqDiff, Nat.reduceAdd, Nat.reduceSub, Nat.reduceMul, Nat.reduceLeDiff, reduceCtorEq, ↓reduceIte, eGTuple, eGObj, eGSub, nat_of .i64 h3, h5, h6, nat_of .i64 h11, h13, h14, nat_of .i64 h17, h19, h20, c23]; rfl)) rfl (by intro h; first | rfl | cases h)
def rows_without_L2 (n : Nat) (x5 : GTuple) : Nat → (List GTuple × List GTuple) → Option (List GTuple × List GTuple)
  | 0, _ => none
  | c + 1, (b6, out3) =>
    (if (decide (0 < (b6.length : Int))) then
      (idx b6 0).bind fun x7 =>
      (tupl_Less n x7 x5).bind fun t224 =>
      (if t224 then
        (slc b6 1 ((List.length b6) : Int)).bind fun l4 =>
        rows_without_L2 n x5 c (l4, out3)
      else
        some (b6, out3))
    else
      some (b6, out3))

def rows_without_L1 (n : Nat) (a : List GTuple) : Nat → (List GTuple × List GTuple × Int) → Option (List GTuple)
  | 0, _ => none
  | c + 1, (b5, out, t10) =>
    (if (decide (t10 < (a.length : Int))) then
      (idx a t10).bind fun x5 =>
      (
        rows_without_L2 n x5 n (b5, out) : Option (List GTuple × List GTuple)).bind fun (b8, out5) =>
      (if ((b8.length : Int) == 0) then
        (app out5 [x5]).bind fun l5 =>
        rows_without_L1 n a c (b8, l5, (IntKind.i64.wrap (t10 + 1)))
      else
        (idx b8 0).bind fun x8 =>
        (if ((x8.obj.type_ == x5.obj.type_) && ((x8.obj.id_ == x5.obj.id_) && ((x8.rel == x5.rel) && ((x8.sub_.type_ == x5.sub_.type_) && ((x8.sub_.id_ == x5.sub_.id_) && (x8.sub_.rel == x5.sub_.rel)))))) then
          rows_without_L1 n a c (b8, out5, (IntKind.i64.wrap (t10 + 1)))
        else
          (app out5 [x5]).bind fun l6 =>
          rows_without_L1 n a c (b8, l6, (IntKind.i64.wrap (t10 + 1)))))
    else
      some out)
def rows_without_L1_f (n : Nat) (_ : List GTuple) (st : List GTuple × List GTuple) (x5 : GTuple) (k : (List GTuple × List GTuple) → Option (List GTuple)) : Option (List GTuple) :=
  match st with
  | (b5, out) =>
    (
      rows_without_L2 n x5 n (b5, out) : Option (List GTuple × List GTuple)).bind fun (b8, out5) =>
    (if ((b8.length : Int) == 0) then
      (app out5 [x5]).bind fun l5 =>
      k (b8, l5)
    else
      (idx b8 0).bind fun x8 =>
      (if ((x8.obj.type_ == x5.obj.type_) && ((x8.obj.id_ == x5.obj.id_) && ((x8.rel == x5.rel) && ((x8.sub_.type_ == x5.sub_.type_) && ((x8.sub_.id_ == x5.sub_.id_) && (x8.sub_.rel == x5.sub_.rel)))))) then
        k (b8, out5)
      else
        (app out5 [x5]).bind fun l6 =>
        k (b8, l6)))
def rows_without_L1_e (_ : Nat) (_ : List GTuple) (st : List GTuple × List GTuple) : Option (List GTuple) :=
  match st with
  | (_, out) => some out
theorem rows_without_L1_list (n : Nat) (a : List GTuple) (hx : a.length < 4611686018427387904) (c : Nat) (st : List GTuple × List GTuple) (ix : Nat) (hi : ix ≤ a.length) (hc : a.length - ix < c) : rows_without_L1 n a c (match st, (ix : Int) with | (b5, out), ix => (b5, out, ix)) = foldK (rows_without_L1_f n a) (rows_without_L1_e n a) (a.drop ix) st :=
  loop_list (fun c st ix => rows_without_L1 n a c (match st, ix with | (b5, out), ix => (b5, out, ix))) a (rows_without_L1_f n a) (rows_without_L1_e n a) (fun _ _ _ => rfl) hx c st ix hi hc

def rows_without (n : Nat) (a : List GTuple) (b : List GTuple) : Option (List GTuple) :=
  (
    rows_without_L1 n a n (b, [], 0) : Option (List GTuple)).bind fun out7 =>
  some out7
theorem rows_without_ok {n : Nat} {a : List GTuple} {b : List GTuple} {r : List GTuple} (H : rows_without n a b = some r) : PureOK Try.prog 59 [D.sl (List.map eGTuple a), D.sl (List.map eGTuple b)] (D.sl (List.map eGTuple r)) true := by
  unfold rows_without at H
  refine pure_runR (tab := tab) tab_ok Try.func59 rfl (by kernel_rfl) (by kernel_rfl) (by simp [Try.f59]) ?_
  refine runR_seq ?_
  refine runR_take tab_ok fol 1 ?_
  try simp -implicitDefEqProofs only [go_sem]
  refine runR_seq ?_
  refine runR_take tab_ok fol 1 ?_
  try simp -implicitDefEqProofs only [go_sem, Nat.reduceAdd]
  refine runR_seq ?_
  refine runR_seq ?_
  refine runR_take tab_ok fol 1 ?_
  try simp -implicitDefEqProofs only [go_sem, Nat.reduceAdd, reduceCtorEq, ↓reduceIte]
  obtain ⟨e_, E1, H2⟩ := bind_inv H
  refine runR_join (α := { y : List GTuple // e_ = y } × Nat) (fun | ⟨⟨out7, _⟩, g7⟩ => ⟨upd 5 (accV 0 g7 (List.map eGTuple out7)) noFr, upd 0 (accO 6 g7 false (List.map eGTuple out7)) noHp, 1⟩) ?_ ?_
  · refine runR_block ?_
    refine runR_loop (α := { q : (Nat × (List GTuple × List GTuple × Int)) × Nat // rows_without_L1 n a q.1.1 q.1.2 = some e_ }) (fun | ⟨⟨⟨c, ⟨b5, out, t10⟩⟩, g⟩, _⟩ => ⟨upd 1 (.d (.sl (List.map eGTuple b5)) true) (upd 5 (accV 0 g (List.map eGTuple out)) (upd 8 (.d (.sl (List.map eGTuple a)) true) (upd 9 (.v (.int .i64 (a.length : Int))) (upd 10 (.v (.int .i64 t10)) noFr)))), upd 0 (accO 6 g false (List.map eGTuple out)) noHp, 1⟩) (fun q => q.1.1.1) ⟨((n, (b, [], 0)), 0), E1⟩ ?_ ?_
    · exact ren_mk [] (by rfl) (rf_upd (by rfl) (rf_upd (by rfl) (rf_upd (by rfl) (rf_upd (by rfl) (rf_upd (by rfl) (rf_no _)))))) (rh_upd rh_accN (rh_no _))
    · rintro ⟨⟨⟨c, ⟨b5, out, t10⟩⟩, g⟩, L3⟩
      rcases c with _ | c
      · exact nomatch (show none = some _ from L3)
      · unfold rows_without_L1 at L3
        try dsimp only at L3
        refine runR_seq ?_
        refine runR_take tab_ok fol 1 ?_
        try simp -implicitDefEqProofs only [go_sem, Nat.reduceEqDiff, Nat.reduceAdd, ↓reduceIte]
        refine runR_seq ?_
        refine runR_take tab_ok fol 1 ?_
        try simp -implicitDefEqProofs only [go_sem, ↓reduceIte]
        rcases ite_inv L3 with ⟨c68, H69⟩ | ⟨c68, H69⟩
        · try simp -implicitDefEqProofs only [go_sem, c68]
          refine runR_seq ?_
          refine runR_block ?_
          refine runR_seq ?_
          refine runR_take tab_ok fol 1 ?_
          obtain ⟨x5, b70, H71⟩ := bind_inv H69
          obtain ⟨h72, h73⟩ := idx_inv b70
          try simp only [Int.reduceToNat, Int.toNat_natCast] at h73
          have h74 := map_at eGTuple h73
          try simp -implicitDefEqProofs only [go_sem, Nat.reduceEqDiff, Nat.reduceAdd, ↓reduceIte, eGTuple, nat_of .i64 h72, h74]
          refine runR_seq ?_
          obtain ⟨e_3, E76, H77⟩ := bind_inv H71
          refine runR_join (α := { y : List GTuple × List GTuple // e_3 = y } × Nat) (fun | ⟨⟨⟨b8, out5⟩, _⟩, g5⟩ => ⟨upd 1 (.d (.sl (List.map eGTuple b8)) true) (upd 5 (accV 0 g5 (List.map eGTuple out5)) (upd 7 (.pt 1 0) (upd 8 (.d (.sl (List.map eGTuple a)) true) (upd 9 (.v (.int .i64 (a.length : Int))) (upd 10 (.v (.int .i64 t10)) noFr))))), upd 0 (accO 6 g5 false (List.map eGTuple out5)) (upd 1 (some (.bx [.v (.string x5.obj.type_), .v (.string x5.obj.id_), .v (.string x5.rel), .v (.string x5.sub_.type_), .v (.string x5.sub_.id_), .v (.string x5.sub_.rel)])) noHp), 2⟩) ?_ ?_
          · refine runR_block ?_
            refine runR_loop (α := { q : (Nat × (List GTuple × List GTuple)) × Nat // rows_without_L2 n x5 q.1.1 q.1.2 = some e_3 }) (fun | ⟨⟨⟨c, ⟨b6, out3⟩⟩, g3⟩, _⟩ => ⟨upd 1 (.d (.sl (List.map eGTuple b6)) true) (upd 5 (accV 0 g3 (List.map eGTuple out3)) (upd 7 (.pt 1 0) (upd 8 (.d (.sl (List.map eGTuple a)) true) (upd 9 (.v (.int .i64 (a.length : Int))) (upd 10 (.v (.int .i64 t10)) noFr))))), upd 0 (accO 6 g3 false (List.map eGTuple out3)) (upd 1 (some (.bx [.v (.string x5.obj.type_), .v (.string x5.obj.id_), .v (.string x5.rel), .v (.string x5.sub_.type_), .v (.string x5.sub_.id_), .v (.string x5.sub_.rel)])) noHp), 2⟩) (fun q => q.1.1.1) ⟨((n, (b5, out)), g), E76⟩ ?_ ?_
            · exact ren_mk [(0, 0), (1, 4)] (by rfl) (rf_upd (by rfl) (rf_upd (ren_acc (by rfl)) (rf_upd (by rfl) (rf_upd (by rfl) (rf_upd (by rfl) (rf_upd (by rfl) (rf_no _))))))) (rh_upd (rh_acc (by rfl) (by rfl)) (rh_upd (rh_one (by rfl) (by rfl) (by rfl)) (rh_no _)))
            · rintro ⟨⟨⟨c, ⟨b6, out3⟩⟩, g3⟩, L78⟩
              rcases c with _ | c
              · exact nomatch (show none = some _ from L78)
              · unfold rows_without_L2 at L78
                try dsimp only at L78
                refine runR_take tab_ok fol 1 ?_
                try simp -implicitDefEqProofs only [go_sem, Nat.reduceAdd, ↓reduceIte]
                rcases ite_inv L78 with ⟨c100, H101⟩ | ⟨c100, H101⟩
                · obtain ⟨x7, b102, H103⟩ := bind_inv H101
                  obtain ⟨h104, h105⟩ := idx_inv b102
                  try simp only [Int.reduceToNat] at h105
                  have h106 := map_at eGTuple h105
                  obtain ⟨t224, b108, H109⟩ := bind_inv H103
                  try simp -implicitDefEqProofs only [go_sem, Int.reduceToNat, Nat.reduceEqDiff, Nat.reduceAdd, reduceCtorEq, ↓reduceIte, eGTuple, c100, nat_of .i64 h104, h106]
                  refine onCallD_pure (by first | rfl | (simp -implicitDefEqProofs only [go_sem, Int.reduceToNat, Int.reduceLT, Int.reduceLE, Int.reduceBEq, Int.reduceBNe, Nat.reduceLT, Nat.reduceBEq, Int.reduceEq, Nat.reduceEqDiff, Nat.reduceAdd, Nat.reduceSub, Nat.reduceMul, Nat.reduceLeDiff, reduceCtorEq, ↓reduceIte, eGTuple, eGObj, eGSub, c100, nat_of .i64 h104, h106]; done) | (simp -implicitDefEqProofs only [go_sem, Int.reduceToNat, Int.reduceLT, Int.reduceLE, Int.reduceBEq, Int.reduceBNe, Nat.reduceLT, Nat.reduceBEq, Int.reduceEq, Nat.reduceEqDiff, Nat.reduceAdd, Nat.reduceSub, Nat.reduceMul, Nat.reduceLeDiff, reduceCtorEq, ↓reduceIte, eGTuple, eGObj, eGSub, c100, nat_of .i64 h104, h106]; rfl)) (tupl_Less_ok b108) (by first | exact .inr rfl | exact .inl rfl) ?_
                  try simp -implicitDefEqProofs only [go_sem, Nat.reduceEqDiff, Nat.reduceAdd, ↓reduceIte]
                  refine Rd_endF (by rfl) ?_
                  try simp -implicitDefEqProofs only [go_sem, ↓reduceIte]
                  rcases ite_inv H109 with ⟨c110, H111⟩ | ⟨c110, H111⟩
                  · obtain ⟨l4, b112, H113⟩ := bind_inv H111
                    obtain ⟨h114, h115, h116, h117⟩ := slc_inv b112
                    have h118 : 1 ≤ (List.length b6) := by omega
                    have h119 : (List.length b6) ≤ (List.length b6) := by omega
                    have h120 : List.drop (1) (List.map eGTuple b6) = List.map eGTuple l4 := by rw [h117]; simp []
                    try simp only [Int.toNat_natCast] at h118 h119 h120
                    try simp -implicitDefEqProofs only [go_sem, Int.reduceToNat, Nat.reduceEqDiff, Nat.reduceAdd, ↓reduceIte, c110, nat_of .i64 h114, h118, h119, h120, chk_map (n := 6) (f := eGTuple) (fun _ => rfl) b6]
                    exact ⟨⟨((c, (l4, out3)), g3), H113⟩, ren_mk [(0, 0), (1, 1)] (by rfl) (rf_upd (by rfl) (rf_upd (ren_acc (by rfl)) (rf_upd (by rfl) (rf_upd (by rfl) (rf_upd (by rfl) (rf_upd (by rfl) (rf_no _))))))) (rh_upd (rh_acc (by rfl) (by rfl)) (rh_upd (rh_one (by rfl) (by rfl) (by rfl)) (rh_no _))), Nat.lt_succ_self _⟩
                  · try simp -implicitDefEqProofs only [go_sem, ↓reduceIte, c110]
                    obtain rfl := Option.some.inj H111
                    exact ⟨⟨⟨(b6, out3), rfl⟩, g3⟩, ren_mk [(0, 0), (1, 1)] (by rfl) (rf_upd (by rfl) (rf_upd (ren_acc (by rfl)) (rf_upd (by rfl) (rf_upd (by rfl) (rf_upd (by rfl) (rf_upd (by rfl) (rf_no _))))))) (rh_upd (rh_acc (by rfl) (by rfl)) (rh_upd (rh_one (by rfl) (by rfl) (by rfl)) (rh_no _)))⟩
                · try simp -implicitDefEqProofs only [go_sem, Nat.reduceEqDiff, Nat.reduceAdd, ↓reduceIte, c100]
                  refine Rd_endF (by rfl) ?_
                  try simp -implicitDefEqProofs only [go_sem, ↓reduceIte]
                  obtain rfl := Option.some.inj H101
                  exact ⟨⟨⟨(b6, out3), rfl⟩, g3⟩, ren_mk [(0, 0), (1, 1)] (by rfl) (rf_upd (by rfl) (rf_upd (ren_acc (by rfl)) (rf_upd (by rfl) (rf_upd (by rfl) (rf_upd (by rfl) (rf_upd (by rfl) (rf_no _))))))) (rh_upd (rh_acc (by rfl) (by rfl)) (rh_upd (rh_one (by rfl) (by rfl) (by rfl)) (rh_no _)))⟩
          · rintro ⟨⟨⟨b8, out5⟩, he147⟩, g5⟩
            replace he147 := he147.symm
            subst he147
            try dsimp only at H77
            refine runR_take tab_ok fol 3 ?_
            try simp -implicitDefEqProofs only [go_sem, Nat.reduceAdd, ↓reduceIte]
            rcases ite_inv H77 with ⟨c121, H122⟩ | ⟨c121, H122⟩
            · try simp -implicitDefEqProofs only [go_sem, Nat.reduceEqDiff, Nat.reduceAdd, ↓reduceIte, c121]
              refine Rd_endF (by rfl) ?_
              obtain ⟨l5, b123, H124⟩ := bind_inv H122
              obtain ⟨h125, h126⟩ := app_inv b123
              have h125 : out5.length + 1 ≤ 4294967296 := h125
              have h127 : List.map eGTuple out5 ++ [[.v (.string x5.obj.type_), .v (.string x5.obj.id_), .v (.string x5.rel), .v (.string x5.sub_.type_), .v (.string x5.sub_.id_), .v (.string x5.sub_.rel)]] = List.map eGTuple l5 := app_map eGTuple h126
              have h128 : out5.length + 1 = l5.length := app_len h126
              have h129 : l5.length ≤ 4294967296 := by omega
              have q130 : 0 < l5.length := by omega
              try simp -implicitDefEqProofs only [go_sem, Nat.reduceLT, Nat.reduceEqDiff, Nat.reduceAdd, Nat.reduceMul, Nat.reduceLeDiff, reduceCtorEq, ↓reduceIte, h127, h128, h129]
              rcases out5 with _ | ⟨q0, q1⟩
              · try simp only [List.map_nil, accI, accN]
                exact ⟨⟨((c, (b8, l5, (IntKind.i64.wrap (t10 + 1)))), 0), H124⟩, ren_mk [(0, 15)] (by rfl) (rf_upd (by rfl) (rf_upd (ren_accP (by rfl) q130) (rf_upd (by rfl) (rf_upd (by rfl) (rf_upd (by rfl) (rf_no _)))))) (rh_upd (rh_accP (by rfl) q130 (by rfl)) (rh_no _)), Nat.lt_succ_self _⟩
              · try simp only [List.map_cons, accI, accN]
                exact ⟨⟨((c, (b8, l5, (IntKind.i64.wrap (t10 + 1)))), (g5 + 1)), H124⟩, ren_mk [(0, 0)] (by rfl) (rf_upd (by rfl) (rf_upd (ren_accP (by rfl) q130) (rf_upd (by rfl) (rf_upd (by rfl) (rf_upd (by rfl) (rf_no _)))))) (rh_upd (rh_accP (by rfl) q130 (by rfl)) (rh_no _)), Nat.lt_succ_self _⟩
            · obtain ⟨x8, b131, H132⟩ := bind_inv H122
              obtain ⟨h133, h134⟩ := idx_inv b131
              try simp only [Int.reduceToNat] at h134
              have h135 := map_at eGTuple h134
              try simp -implicitDefEqProofs only [go_sem, Int.reduceToNat, Nat.reduceEqDiff, Nat.reduceAdd, reduceCtorEq, ↓reduceIte, eGTuple, c121, nat_of .i64 h133, h135]
              refine Rd_endF (by rfl) ?_
              try simp -implicitDefEqProofs only [go_sem, ↓reduceIte]
              rcases ite_inv H132 with ⟨c137, H138⟩ | ⟨c137, H138⟩
              · try simp -implicitDefEqProofs only [go_sem, Nat.reduceEqDiff, Nat.reduceAdd, ↓reduceIte, c137]
                exact ⟨⟨((c, (b8, out5, (IntKind.i64.wrap (t10 + 1)))), g5), H138⟩, ren_mk [(0, 0)] (by rfl) (rf_upd (by rfl) (rf_upd (ren_acc (by rfl)) (rf_upd (by rfl) (rf_upd (by rfl) (rf_upd (by rfl) (rf_no _)))))) (rh_upd (rh_acc (by rfl) (by rfl)) (rh_no _)), Nat.lt_succ_self _⟩
              · obtain ⟨l6, b139, H140⟩ := bind_inv H138
                obtain ⟨h141, h142⟩ := app_inv b139
                have h141 : out5.length + 1 ≤ 4294967296 := h141
                have h143 : List.map eGTuple out5 ++ [[.v (.string x5.obj.type_), .v (.string x5.obj.id_), .v (.string x5.rel), .v (.string x5.sub_.type_), .v (.string x5.sub_.id_), .v (.string x5.sub_.rel)]] = List.map eGTuple l6 := app_map eGTuple h142
                have h144 : out5.length + 1 = l6.length := app_len h142
                have h145 : l6.length ≤ 4294967296 := by omega
                have q146 : 0 < l6.length := by omega
                try simp -implicitDefEqProofs only [go_sem, Nat.reduceLT, Nat.reduceEqDiff, Nat.reduceAdd, Nat.reduceMul, Nat.reduceLeDiff, reduceCtorEq, ↓reduceIte, c137, h143, h144, h145]
                rcases out5 with _ | ⟨q0, q1⟩
                · try simp only [List.map_nil, accI, accN]
                  exact ⟨⟨((c, (b8, l6, (IntKind.i64.wrap (t10 + 1)))), 0), H140⟩, ren_mk [(0, 15)] (by rfl) (rf_upd (by rfl) (rf_upd (ren_accP (by rfl) q146) (rf_upd (by rfl) (rf_upd (by rfl) (rf_upd (by rfl) (rf_no _)))))) (rh_upd (rh_accP (by rfl) q146 (by rfl)) (rh_no _)), Nat.lt_succ_self _⟩
                · try simp only [List.map_cons, accI, accN]
                  exact ⟨⟨((c, (b8, l6, (IntKind.i64.wrap (t10 + 1)))), (g5 + 1)), H140⟩, ren_mk [(0, 0)] (by rfl) (rf_upd (by rfl) (rf_upd (ren_accP (by rfl) q146) (rf_upd (by rfl) (rf_upd (by rfl) (rf_upd (by rfl) (rf_no _)))))) (rh_upd (rh_accP (by rfl) q146 (by rfl)) (rh_no _)), Nat.lt_succ_self _⟩
        · try simp -implicitDefEqProofs only [go_sem, ↓reduceIte, c68]
          obtain rfl := Option.some.inj H69
          exact ⟨⟨⟨out, rfl⟩, g⟩, ren_mk [(0, 0)] (by rfl) (rf_upd (ren_acc (by rfl)) (rf_no _)) (rh_upd (rh_acc (by rfl) (by rfl)) (rh_no _))⟩
  · rintro ⟨⟨out7, he148⟩, g7⟩
    replace he148 := he148.symm
    subst he148
    try dsimp only at H2
    refine runR_take tab_ok fol 1 ?_
    try simp -implicitDefEqProofs only [go_sem, Nat.reduceAdd, ↓reduceIte]
    obtain rfl := Option.some.inj H2
    exact end_pure (by first | (simp -implicitDefEqProofs only [go_sem, ↓reduceIte, Try.f59] <;> rfl) | rfl) (by first | rfl | (simp -implicitDefEqProofs only [go_sem, ↓reduceIte]; done) | (simp -implicitDefEqProofs only [go_sem, ↓reduceIte]; rfl)) rfl (by intro h; first | rfl | cases h)
def rows_Minus (n : Nat) (a : List GTuple) (l : List GTuple) : Option (List GTuple) :=
  (rows_Of n a).bind fun t6 =>
  (rows_Of n l).bind fun t8 =>
  (rows_without n t6 t8).bind fun t9 =>
  some t9
theorem rows_Minus_ok {n : Nat} {a : List GTuple} {l : List GTuple} {r : List GTuple} (H : rows_Minus n a l = some r) : PureOK Try.prog 16 [D.sl (List.map eGTuple a), D.sl (List.map eGTuple l)] (D.sl (List.map eGTuple r)) true := by
  unfold rows_Minus at H
  refine pure_runR (tab := tab) tab_ok Try.func16 rfl (by kernel_rfl) (by kernel_rfl) (by simp [Try.f16]) ?_
  refine runR_take tab_ok fol 1 ?_
  obtain ⟨t6, b1, H2⟩ := bind_inv H
  try simp -implicitDefEqProofs only [go_sem, Nat.reduceAdd, reduceCtorEq, ↓reduceIte]
  refine onCall_pure (by first | rfl | (simp -implicitDefEqProofs only [go_sem, Int.reduceToNat, Int.reduceLT, Int.reduceLE, Int.reduceBEq, Int.reduceBNe, Nat.reduceLT, Nat.reduceBEq, Int.reduceEq, Nat.reduceEqDiff, Nat.reduceAdd, Nat.reduceSub, Nat.reduceMul, Nat.reduceLeDiff, reduceCtorEq, ↓reduceIte, eGTuple, eGObj, eGSub]; done) | (simp -implicitDefEqProofs only [go_sem, Int.reduceToNat, Int.reduceLT, Int.reduceLE, Int.reduceBEq, Int.reduceBNe, Nat.reduceLT, Nat.reduceBEq, Int.reduceEq, Nat.reduceEqDiff, Nat.reduceAdd, Nat.reduceSub, Nat.reduceMul, Nat.reduceLeDiff, reduceCtorEq, ↓reduceIte, eGTuple, eGObj, eGSub]; rfl)) (rows_Of_ok b1) (by first | exact .inr rfl | exact .inl rfl) ?_
  obtain ⟨t8, b3, H4⟩ := bind_inv H2
  try simp -implicitDefEqProofs only [go_sem, Nat.reduceEqDiff, Nat.reduceAdd, ↓reduceIte]
  refine onCall_pure (by first | rfl | (simp -implicitDefEqProofs only [go_sem, Int.reduceToNat, Int.reduceLT, Int.reduceLE, Int.reduceBEq, Int.reduceBNe, Nat.reduceLT, Nat.reduceBEq, Int.reduceEq, Nat.reduceEqDiff, Nat.reduceAdd, Nat.reduceSub, Nat.reduceMul, Nat.reduceLeDiff, reduceCtorEq, ↓reduceIte, eGTuple, eGObj, eGSub]; done) | (simp -implicitDefEqProofs only [go_sem, Int.reduceToNat, Int.reduceLT, Int.reduceLE, Int.reduceBEq, Int.reduceBNe, Nat.reduceLT, Nat.reduceBEq, Int.reduceEq, Nat.reduceEqDiff, Nat.reduceAdd, Nat.reduceSub, Nat.reduceMul, Nat.reduceLeDiff, reduceCtorEq, ↓reduceIte, eGTuple, eGObj, eGSub]; rfl)) (rows_Of_ok b3) (by first | exact .inr rfl | exact .inl rfl) ?_
  obtain ⟨t9, b5, H6⟩ := bind_inv H4
  try simp -implicitDefEqProofs only [go_sem, Nat.reduceEqDiff, Nat.reduceAdd, ↓reduceIte]
  refine onCall_pure (by first | rfl | (simp -implicitDefEqProofs only [go_sem, Int.reduceToNat, Int.reduceLT, Int.reduceLE, Int.reduceBEq, Int.reduceBNe, Nat.reduceLT, Nat.reduceBEq, Int.reduceEq, Nat.reduceEqDiff, Nat.reduceAdd, Nat.reduceSub, Nat.reduceMul, Nat.reduceLeDiff, reduceCtorEq, ↓reduceIte, eGTuple, eGObj, eGSub]; done) | (simp -implicitDefEqProofs only [go_sem, Int.reduceToNat, Int.reduceLT, Int.reduceLE, Int.reduceBEq, Int.reduceBNe, Nat.reduceLT, Nat.reduceBEq, Int.reduceEq, Nat.reduceEqDiff, Nat.reduceAdd, Nat.reduceSub, Nat.reduceMul, Nat.reduceLeDiff, reduceCtorEq, ↓reduceIte, eGTuple, eGObj, eGSub]; rfl)) (rows_without_ok b5) (by first | exact .inr rfl | exact .inl rfl) ?_
  try simp -implicitDefEqProofs only [go_sem, Nat.reduceAdd, ↓reduceIte]
  obtain rfl := Option.some.inj H6
  exact end_pure (by first | (simp -implicitDefEqProofs only [go_sem, ↓reduceIte, Try.f16] <;> rfl) | rfl) (by first | rfl | (simp -implicitDefEqProofs only [go_sem, Int.reduceToNat, Int.reduceLT, Int.reduceLE, Int.reduceBEq, Int.reduceBNe, Nat.reduceLT, Nat.reduceBEq, Int.reduceEq, Nat.reduceEqDiff, Nat.reduceAdd, Nat.reduceSub, Nat.reduceMul, Nat.reduceLeDiff, reduceCtorEq, ↓reduceIte, eGTuple, eGObj, eGSub]; done) | (simp -implicitDefEqProofs only [go_sem, Int.reduceToNat, Int.reduceLT, Int.reduceLE, Int.reduceBEq, Int.reduceBNe, Nat.reduceLT, Nat.reduceBEq, Int.reduceEq, Nat.reduceEqDiff, Nat.reduceAdd, Nat.reduceSub, Nat.reduceMul, Nat.reduceLeDiff, reduceCtorEq, ↓reduceIte, eGTuple, eGObj, eGSub]; rfl)) rfl (by intro h; first | rfl | cases h)
def ref1_Same_L1 (n : Nat) (a : List GTuple) (b : List GTuple) : Nat → Int → Option ((Unit) ⊕ Bool)
  | 0, _ => none
  | c + 1, i =>
    (if (decide (i < (a.length : Int))) then
      (idx a i).bind fun x3 =>
      (idx b i).bind fun x4 =>
      (if ((x3.obj.type_ == x4.obj.type_) && ((x3.obj.id_ == x4.obj.id_) && ((x3.rel == x4.rel) && ((x3.sub_.type_ == x4.sub_.type_) && ((x3.sub_.id_ == x4.sub_.id_) && (x3.sub_.rel == x4.sub_.rel)))))) then
        ref1_Same_L1 n a b c (IntKind.i64.wrap (i + 1))
      else
        some (.inr false))
    else
      some (.inl ()))

def ref1_Same (n : Nat) (a : List GTuple) (b : List GTuple) : Option Bool :=
  (if ((a.length : Int) != (b.length : Int)) then
    some false
  else
    (
      ref1_Same_L1 n a b n 0 : Option ((Unit) ⊕ Bool)).bind fun
      | .inl _ =>
        some true
      | .inr r => some r)
theorem ref1_Same_ok {n : Nat} {a : List GTuple} {b : List GTuple} {r : Bool} (H : ref1_Same n a b = some r) : PureOK Try.prog 17 [D.sl (List.map eGTuple a), D.sl (List.map eGTuple b)] (D.v (.bool r)) true := by
  unfold ref1_Same at H
  refine pure_runR (tab := tab) tab_ok Try.func17 rfl (by kernel_rfl) (by kernel_rfl) (by simp [Try.f17]) ?_
  refine runR_seq ?_
  refine runR_take tab_ok fol 1 ?_
  try simp -implicitDefEqProofs only [go_sem]
  refine runR_seq ?_
  refine runR_take tab_ok fol 1 ?_
  try simp -implicitDefEqProofs only [go_sem, Nat.reduceEqDiff, Nat.reduceAdd, reduceCtorEq, ↓reduceIte]
  rcases ite_inv H with ⟨c1, H2⟩ | ⟨c1, H2⟩
  · try simp -implicitDefEqProofs only [go_sem, Nat.reduceAdd, c1]
    obtain rfl := Option.some.inj H2
    exact end_pure (by first | (simp -implicitDefEqProofs only [go_sem, ↓reduceIte, Try.f17] <;> rfl) | rfl) (by first | rfl | (simp -implicitDefEqProofs only [go_sem, Int.reduceToNat, Int.reduceLT, Int.reduceLE, Int.reduceBEq, Int.reduceBNe, Nat.reduceLT, Nat.reduceBEq, Int.reduceEq, Nat.reduceEqDiff, Nat.reduceAdd, Nat.reduceSub, Nat.reduceMul, Nat.reduceLeDiff, reduceCtorEq, ↓reduceIte, eGTuple, eGObj, eGSub, c1]; done) | (simp -implicitDefEqProofs only [go_sem, Int.reduceToNat, Int.reduceLT, Int.reduceLE, Int.reduceBEq, Int.reduceBNe, Nat.reduceLT, Nat.reduceBEq, Int.reduceEq, Nat.reduceEqDiff, Nat.reduceAdd, Nat.reduceSub, Nat.reduceMul, Nat.reduceLeDiff, reduceCtorEq, ↓reduceIte, eGTuple, eGObj, eGSub, c1]; rfl)) rfl (by intro h; first | rfl | cases h)
  · try simp -implicitDefEqProofs only [go_sem, c1]
    refine runR_seq ?_
    refine runR_seq ?_
    refine runR_take tab_ok fol 1 ?_
    try simp -implicitDefEqProofs only [go_sem, Nat.reduceAdd]
    obtain ⟨e_, E3, H4⟩ := bind_inv H2
    refine runR_join (α := { y : Unit // e_ = .inl y }) (fun | ⟨_, _⟩ => ⟨noFr, noHp, 0⟩) ?_ ?_
    · refine runR_block ?_
      refine runR_loop (α := { q : Nat × Int // ref1_Same_L1 n a b q.1 q.2 = some e_ }) (fun | ⟨⟨c, i⟩, _⟩ => ⟨upd 0 (.d (.sl (List.map eGTuple a)) true) (upd 1 (.d (.sl (List.map eGTuple b)) true) (upd 5 (.v (.int .i64 i)) noFr)), noHp, 0⟩) (fun q => q.1.1) ⟨(n, 0), E3⟩ ?_ ?_
      · exact ren_mk [] (by rfl) (rf_upd (by rfl) (rf_upd (by rfl) (rf_upd (by rfl) (rf_no _)))) (rh_no _)
      · rintro ⟨⟨c, i⟩, L5⟩
        rcases c with _ | c
        · exact nomatch (show none = some _ from L5)
        · unfold ref1_Same_L1 at L5
          try dsimp only at L5
          refine runR_take tab_ok fol 1 ?_
          try simp -implicitDefEqProofs only [go_sem, Nat.reduceEqDiff, Nat.reduceAdd, reduceCtorEq, ↓reduceIte]
          rcases ite_inv L5 with ⟨c22, H23⟩ | ⟨c22, H23⟩
          · obtain ⟨x3, b24, H25⟩ := bind_inv H23
            obtain ⟨h26, h27⟩ := idx_inv b24
            try simp only [Int.reduceToNat, Int.toNat_natCast] at h27
            have h28 := map_at eGTuple h27
            obtain ⟨x4, b30, H31⟩ := bind_inv H25
            obtain ⟨h32, h33⟩ := idx_inv b30
            try simp only [Int.reduceToNat, Int.toNat_natCast] at h33
            have h34 := map_at eGTuple h33
            try simp -implicitDefEqProofs only [go_sem, Nat.reduceEqDiff, Nat.reduceAdd, reduceCtorEq, ↓reduceIte, eGTuple, c22, nat_of .i64 h26, h28, h34]
            refine Rd_endF (by rfl) ?_
            try simp -implicitDefEqProofs only [go_sem, ↓reduceIte]
            rcases ite_inv H31 with ⟨c36, H37⟩ | ⟨c36, H37⟩
            · try simp -implicitDefEqProofs only [go_sem, Nat.reduceEqDiff, Nat.reduceAdd, reduceCtorEq, ↓reduceIte, c36]
              exact ⟨⟨(c, (IntKind.i64.wrap (i + 1))), H37⟩, ren_mk [] (by rfl) (rf_upd (by rfl) (rf_upd (by rfl) (rf_upd (by rfl) (rf_no _)))) (rh_no _), Nat.lt_succ_self _⟩
            · try simp -implicitDefEqProofs only [go_sem, Nat.reduceAdd, c36]
              obtain rfl := Option.some.inj H37
              obtain rfl := Option.some.inj H4
              exact end_pure (by first | (simp -implicitDefEqProofs only [go_sem, ↓reduceIte, Try.f17] <;> rfl) | rfl) (by first | rfl | (simp -implicitDefEqProofs only [go_sem, Int.reduceToNat, Int.reduceLT, Int.reduceLE, Int.reduceBEq, Int.reduceBNe, Nat.reduceLT, Nat.reduceBEq, Int.reduceEq, Nat.reduceEqDiff, Nat.reduceAdd, Nat.reduceSub, Nat.reduceMul, Nat.reduceLeDiff, reduceCtorEq, ↓reduceIte, eGTuple, eGObj, eGSub, c22, nat_of .i64 h26, h28, nat_of .i64 h32, h34, c36]; done) | (simp -implicitDefEqProofs only [go_sem, Int.reduceToNat, Int.reduceLT, Int.reduceLE, Int.reduceBEq, Int.reduceBNe, Nat.reduceLT, Nat.reduceBEq, Int.reduceEq, Nat.reduceEqDiff, Nat.reduceAdd, Nat.reduceSub, Nat.reduceMul, Nat.reduceLeDiff, reduceCtorEq, ↓reduceIte, eGTuple, eGObj, eGSub, c22, nat_of .i64 h26, h28, nat_of .i64 h32, h34, c36]; rfl)) rfl (by intro h; first | rfl | cases h)
          · try simp -implicitDefEqProofs only [go_sem, ↓reduceIte, c22]
            obtain rfl := Option.some.inj H23
            exact ⟨⟨(), rfl⟩, ren_mk [] (by rfl) (rf_no _) (rh_no _)⟩
    · rintro ⟨_, he38⟩
      replace he38 := he38.symm
      subst he38
      try dsimp only at H4
      refine runR_take tab_ok fol 1 ?_
      try simp -implicitDefEqProofs only [go_sem]
      obtain rfl := Option.some.inj H4
      exact end_pure (by first | (simp -implicitDefEqProofs only [go_sem, ↓reduceIte, Try.f17] <;> rfl) | rfl) (by first | rfl | (simp -implicitDefEqProofs only [go_sem, Int.reduceToNat, Int.reduceLT, Int.reduceLE, Int.reduceBEq, Int.reduceBNe, Nat.reduceLT, Nat.reduceBEq, Int.reduceEq, Nat.reduceEqDiff, Nat.reduceAdd, Nat.reduceSub, Nat.reduceMul, Nat.reduceLeDiff, reduceCtorEq, ↓reduceIte, eGTuple, eGObj, eGSub]; done) | (simp -implicitDefEqProofs only [go_sem, Int.reduceToNat, Int.reduceLT, Int.reduceLE, Int.reduceBEq, Int.reduceBNe, Nat.reduceLT, Nat.reduceBEq, Int.reduceEq, Nat.reduceEqDiff, Nat.reduceAdd, Nat.reduceSub, Nat.reduceMul, Nat.reduceLeDiff, reduceCtorEq, ↓reduceIte, eGTuple, eGObj, eGSub]; rfl)) rfl (by intro h; first | rfl | cases h)
def slices_BinarySearchFunc___api_Tuple_api_Tuple_api_Tuple___tupl_Compare_L1 (n : Nat) (x : List GTuple) (target : GTuple) : Nat → (Int × Int) → Option (Int)
  | 0, _ => none
  | c + 1, (i, j) =>
    (if (decide (i < j)) then
      (idx x (IntKind.i64.wrap (sh (IntKind.u64.wrap (IntKind.i64.wrap (i + j))) 1))).bind fun x3 =>
      (tupl_Compare n x3 target).bind fun t302 =>
      (if (decide (t302 < 0)) then
        slices_BinarySearchFunc___api_Tuple_api_Tuple_api_Tuple___tupl_Compare_L1 n x target c ((IntKind.i64.wrap ((IntKind.i64.wrap (sh (IntKind.u64.wrap (IntKind.i64.wrap (i + j))) 1)) + 1)), j)
      else
        slices_BinarySearchFunc___api_Tuple_api_Tuple_api_Tuple___tupl_Compare_L1 n x target c (i, (IntKind.i64.wrap (sh (IntKind.u64.wrap (IntKind.i64.wrap (i + j))) 1))))
    else
      some i)

def slices_BinarySearchFunc___api_Tuple_api_Tuple_api_Tuple___tupl_Compare (n : Nat) (x : List GTuple) (target : GTuple) : Option (Int × Bool) :=
  (
    slices_BinarySearchFunc___api_Tuple_api_Tuple_api_Tuple___tupl_Compare_L1 n x target n (0, (x.length : Int)) : Option (Int)).bind fun i3 =>
  (if (decide (i3 < (x.length : Int))) then
    (idx x i3).bind fun x4 =>
    (tupl_Compare n x4 target).bind fun t46 =>
    some (i3, (t46 == 0))
  else
    some (i3, false))
theorem slices_BinarySearchFunc___api_Tuple_api_Tuple_api_Tuple___tupl_Compare_ok {n : Nat} {x : List GTuple} {target : GTuple} {r : Int × Bool} (H : slices_BinarySearchFunc___api_Tuple_api_Tuple_api_Tuple___tupl_Compare n x target = some r) : PureA Try.prog 61 [.d (D.sl (List.map eGTuple x)), .d (D.ag (eGTuple target)), .fn 57 []] (D.tu [D.v (.int .i64 r.1), D.v (.bool r.2)]) true := by
  unfold slices_BinarySearchFunc___api_Tuple_api_Tuple_api_Tuple___tupl_Compare at H
  refine pureA_runR (tab := tab) tab_ok Try.func61 rfl (by kernel_rfl) (by kernel_rfl) (by simp [Try.f61]) ?_
  refine runR_seq ?_
  refine runR_take tab_ok fol 1 ?_
  try simp -implicitDefEqProofs only [go_sem, Nat.reduceAdd, eGTuple]
  refine runR_seq ?_
  refine runR_take tab_ok fol 1 ?_
  try simp -implicitDefEqProofs only [go_sem, Nat.reduceAdd, reduceCtorEq, ↓reduceIte]
  refine runR_seq ?_
  refine runR_take tab_ok fol 1 ?_
  try simp -implicitDefEqProofs only [go_sem, Nat.reduceEqDiff, Nat.reduceAdd, ↓reduceIte]
  refine runR_seq ?_
  obtain ⟨e_, E1, H2⟩ := bind_inv H
  refine runR_join (α := { y : Int // e_ = y }) (fun | ⟨i3, _⟩ => ⟨upd 0 (.d (.sl (List.map eGTuple x)) true) (upd 2 (.fn 57 []) (upd 4 (.pt 0 0) (upd 8 (.v (.int .i64 (x.length : Int))) (upd 9 (.v (.int .i64 i3)) noFr)))), upd 0 (some (.bx [.v (.string target.obj.type_), .v (.string target.obj.id_), .v (.string target.rel), .v (.string target.sub_.type_), .v (.string target.sub_.id_), .v (.string target.sub_.rel)])) noHp, 1⟩) ?_ ?_
  · refine runR_block ?_
    refine runR_loop (α := { q : Nat × (Int × Int) // slices_BinarySearchFunc___api_Tuple_api_Tuple_api_Tuple___tupl_Compare_L1 n x target q.1 q.2 = some e_ }) (fun | ⟨⟨c, ⟨i, j⟩⟩, _⟩ => ⟨upd 0 (.d (.sl (List.map eGTuple x)) true) (upd 2 (.fn 57 []) (upd 4 (.pt 0 0) (upd 8 (.v (.int .i64 (x.length : Int))) (upd 9 (.v (.int .i64 i)) (upd 10 (.v (.int .i64 j)) noFr))))), upd 0 (some (.bx [.v (.string target.obj.type_), .v (.string target.obj.id_), .v (.string target.rel), .v (.string target.sub_.type_), .v (.string target.sub_.id_), .v (.string target.sub_.rel)])) noHp, 1⟩) (fun q => q.1.1) ⟨(n, (0, (x.length : Int))), E1⟩ ?_ ?_
    · exact ren_mk [(0, 0)] (by rfl) (rf_upd (by rfl) (rf_upd (by rfl) (rf_upd (by rfl) (rf_upd (by rfl) (rf_upd (by rfl) (rf_upd (by rfl) (rf_no _))))))) (rh_upd (rh_one (by rfl) (by rfl) (by rfl)) (rh_no _))
    · rintro ⟨⟨c, ⟨i, j⟩⟩, L3⟩
      rcases c with _ | c
      · exact nomatch (show none = some _ from L3)
      · unfold slices_BinarySearchFunc___api_Tuple_api_Tuple_api_Tuple___tupl_Compare_L1 at L3
        try dsimp only at L3
        refine runR_take tab_ok fol 1 ?_
        try simp -implicitDefEqProofs only [go_sem, Nat.reduceEqDiff, Nat.reduceAdd, reduceCtorEq, ↓reduceIte]
        rcases ite_inv L3 with ⟨c16, H17⟩ | ⟨c16, H17⟩
        · obtain ⟨x3, b18, H19⟩ := bind_inv H17
          obtain ⟨h20, h21⟩ := idx_inv b18
          try simp only [Int.reduceToNat, Int.toNat_natCast] at h21
          have h22 := map_at eGTuple h21
          obtain ⟨t302, b24, H25⟩ := bind_inv H19
          try simp -implicitDefEqProofs only [go_sem, Int.reduceToNat, Int.reduceLT, Nat.reduceEqDiff, Nat.reduceAdd, reduceCtorEq, ↓reduceIte, eGTuple, c16, nat_of .i64 h20, h22]
          refine onCallD_pure (by first | rfl | (simp -implicitDefEqProofs only [go_sem, Int.reduceToNat, Int.reduceLT, Int.reduceLE, Int.reduceBEq, Int.reduceBNe, Nat.reduceLT, Nat.reduceBEq, Int.reduceEq, Nat.reduceEqDiff, Nat.reduceAdd, Nat.reduceSub, Nat.reduceMul, Nat.reduceLeDiff, reduceCtorEq, ↓reduceIte, eGTuple, eGObj, eGSub, c16, nat_of .i64 h20, h22]; done) | (simp -implicitDefEqProofs only [go_sem, Int.reduceToNat, Int.reduceLT, Int.reduceLE, Int.reduceBEq, Int.reduceBNe, Nat.reduceLT, Nat.reduceBEq, Int.reduceEq, Nat.reduceEqDiff, Nat.reduceAdd, Nat.reduceSub, Nat.reduceMul, Nat.reduceLeDiff, reduceCtorEq, ↓reduceIte, eGTuple, eGObj, eGSub, c16, nat_of .i64 h20, h22]; rfl)) (tupl_Compare_ok b24) (by first | exact .inr rfl | exact .inl rfl) ?_
          try simp -implicitDefEqProofs only [go_sem, Nat.reduceAdd, ↓reduceIte]
          refine Rd_endF (by rfl) ?_
          try simp -implicitDefEqProofs only [go_sem, ↓reduceIte]
          rcases ite_inv H25 with ⟨c26, H27⟩ | ⟨c26, H27⟩
          · try simp -implicitDefEqProofs only [go_sem, Nat.reduceEqDiff, Nat.reduceAdd, ↓reduceIte, c26]
            exact ⟨⟨(c, ((IntKind.i64.wrap ((IntKind.i64.wrap (sh (IntKind.u64.wrap (IntKind.i64.wrap (i + j))) 1)) + 1)), j)), H27⟩, ren_mk [(0, 0)] (by rfl) (rf_upd (by rfl) (rf_upd (by rfl) (rf_upd (by rfl) (rf_upd (by rfl) (rf_upd (by rfl) (rf_upd (by rfl) (rf_no _))))))) (rh_upd (rh_one (by rfl) (by rfl) (by rfl)) (rh_no _)), Nat.lt_succ_self _⟩
          · try simp -implicitDefEqProofs only [go_sem, Nat.reduceEqDiff, Nat.reduceAdd, ↓reduceIte, c26]
            exact ⟨⟨(c, (i, (IntKind.i64.wrap (sh (IntKind.u64.wrap (IntKind.i64.wrap (i + j))) 1)))), H27⟩, ren_mk [(0, 0)] (by rfl) (rf_upd (by rfl) (rf_upd (by rfl) (rf_upd (by rfl) (rf_upd (by rfl) (rf_upd (by rfl) (rf_upd (by rfl) (rf_no _))))))) (rh_upd (rh_one (by rfl) (by rfl) (by rfl)) (rh_no _)), Nat.lt_succ_self _⟩
        · try simp -implicitDefEqProofs only [go_sem, ↓reduceIte, c16]
          obtain rfl := Option.some.inj H17
          exact ⟨⟨i, rfl⟩, ren_mk [(0, 0)] (by rfl) (rf_upd (by rfl) (rf_upd (by rfl) (rf_upd (by rfl) (rf_upd (by rfl) (rf_upd (by rfl) (rf_no _)))))) (rh_upd (rh_one (by rfl) (by rfl) (by rfl)) (rh_no _))⟩
  · rintro ⟨i3, he38⟩
    replace he38 := he38.symm
    subst he38
    try dsimp only at H2
    refine runR_take tab_ok fol 1 ?_
    try simp -implicitDefEqProofs only [go_sem, Nat.reduceEqDiff, Nat.reduceAdd, reduceCtorEq, ↓reduceIte]
    rcases ite_inv H2 with ⟨c28, H29⟩ | ⟨c28, H29⟩
    · obtain ⟨x4, b30, H31⟩ := bind_inv H29
      obtain ⟨h32, h33⟩ := idx_inv b30
      try simp only [Int.reduceToNat, Int.toNat_natCast] at h33
      have h34 := map_at eGTuple h33
      obtain ⟨t46, b36, H37⟩ := bind_inv H31
      try simp -implicitDefEqProofs only [go_sem, Nat.reduceEqDiff, Nat.reduceAdd, reduceCtorEq, ↓reduceIte, eGTuple, c28, nat_of .i64 h32, h34]
      refine onCallD_pure (by first | rfl | (simp -implicitDefEqProofs only [go_sem, Int.reduceToNat, Int.reduceLT, Int.reduceLE, Int.reduceBEq, Int.reduceBNe, Nat.reduceLT, Nat.reduceBEq, Int.reduceEq, Nat.reduceEqDiff, Nat.reduceAdd, Nat.reduceSub, Nat.reduceMul, Nat.reduceLeDiff, reduceCtorEq, ↓reduceIte, eGTuple, eGObj, eGSub, c28, nat_of .i64 h32, h34]; done) | (simp -implicitDefEqProofs only [go_sem, Int.reduceToNat, Int.reduceLT, Int.reduceLE, Int.reduceBEq, Int.reduceBNe, Nat.reduceLT, Nat.reduceBEq, Int.reduceEq, Nat.reduceEqDiff, Nat.reduceAdd, Nat.reduceSub, Nat.reduceMul, Nat.reduceLeDiff, reduceCtorEq, ↓reduceIte, eGTuple, eGObj, eGSub, c28, nat_of .i64 h32, h34]; rfl)) (tupl_Compare_ok b36) (by first | exact .inr rfl | exact .inl rfl) ?_
      try simp -implicitDefEqProofs only [go_sem, Nat.reduceEqDiff, Nat.reduceAdd, ↓reduceIte]
      refine Rd_endF (by rfl) ?_
      try simp -implicitDefEqProofs only [go_sem]
      obtain rfl := Option.some.inj H37
      exact end_pure (by first | (simp -implicitDefEqProofs only [go_sem, Nat.reduceEqDiff, ↓reduceIte, Try.f61] <;> rfl) | rfl) (by first | rfl | (simp -implicitDefEqProofs only [go_sem, Int.reduceToNat, Int.reduceLT, Int.reduceLE, Int.reduceBEq, Int.reduceBNe, Nat.reduceLT, Nat.reduceBEq, Int.reduceEq, Nat.reduceEqDiff, Nat.reduceAdd, Nat.reduceSub, Nat.reduceMul, Nat.reduceLeDiff, reduceCtorEq, ↓reduceIte, eGTuple, eGObj, eGSub, c28, nat_of .i64 h32, h34]; done) | (simp -implicitDefEqProofs only [go_sem, Int.reduceToNat, Int.reduceLT, Int.reduceLE, Int.reduceBEq, Int.reduceBNe, Nat.reduceLT, Nat.reduceBEq, Int.reduceEq, Nat.reduceEqDiff, Nat.reduceAdd, Nat.reduceSub, Nat.reduceMul, Nat.reduceLeDiff, reduceCtorEq, ↓reduceIte, eGTuple, eGObj, eGSub, c28, nat_of .i64 h32, h34]; rfl)) rfl (by intro h; first | rfl | cases h)
    · try simp -implicitDefEqProofs only [go_sem, Nat.reduceEqDiff, Nat.reduceAdd, ↓reduceIte, c28]
      refine Rd_endF (by rfl) ?_
      try simp -implicitDefEqProofs only [go_sem]
      obtain rfl := Option.some.inj H29
      exact end_pure (by first | (simp -implicitDefEqProofs only [go_sem, Nat.reduceEqDiff, ↓reduceIte, Try.f61] <;> rfl) | rfl) (by first | rfl | (simp -implicitDefEqProofs only [go_sem, Int.reduceToNat, Int.reduceLT, Int.reduceLE, Int.reduceBEq, Int.reduceBNe, Nat.reduceLT, Nat.reduceBEq, Int.reduceEq, Nat.reduceEqDiff, Nat.reduceAdd, Nat.reduceSub, Nat.reduceMul, Nat.reduceLeDiff, reduceCtorEq, ↓reduceIte, eGTuple, eGObj, eGSub, c28]; done) | (simp -implicitDefEqProofs only [go_sem, Int.reduceToNat, Int.reduceLT, Int.reduceLE, Int.reduceBEq, Int.reduceBNe, Nat.reduceLT, Nat.reduceBEq, Int.reduceEq, Nat.reduceEqDiff, Nat.reduceAdd, Nat.reduceSub, Nat.reduceMul, Nat.reduceLeDiff, reduceCtorEq, ↓reduceIte, eGTuple, eGObj, eGSub, c28]; rfl)) rfl (by intro h; first | rfl | cases h)
def rows_Has (n : Nat) (l : List GTuple) (t : GTuple) : Option Bool :=
  (slices_BinarySearchFunc___api_Tuple_api_Tuple_api_Tuple___tupl_Compare n l t).bind fun t10 =>
  some t10.2
theorem rows_Has_ok {n : Nat} {l : List GTuple} {t : GTuple} {r : Bool} (H : rows_Has n l t = some r) : PureOK Try.prog 26 [D.sl (List.map eGTuple l), D.ag (eGTuple t)] (D.v (.bool r)) true := by
  unfold rows_Has at H
  refine pure_runR (tab := tab) tab_ok Try.func26 rfl (by kernel_rfl) (by kernel_rfl) (by simp [Try.f26]) ?_
  refine runR_take tab_ok fol 1 ?_
  obtain ⟨t10, b1, H2⟩ := bind_inv H
  try simp -implicitDefEqProofs only [go_sem, Nat.reduceEqDiff, Nat.reduceAdd, reduceCtorEq, ↓reduceIte, eGTuple]
  refine onCall_pureA (by first | rfl | (simp -implicitDefEqProofs only [go_sem, Int.reduceToNat, Int.reduceLT, Int.reduceLE, Int.reduceBEq, Int.reduceBNe, Nat.reduceLT, Nat.reduceBEq, Int.reduceEq, Nat.reduceEqDiff, Nat.reduceAdd, Nat.reduceSub, Nat.reduceMul, Nat.reduceLeDiff, reduceCtorEq, ↓reduceIte, eGTuple, eGObj, eGSub]; done) | (simp -implicitDefEqProofs only [go_sem, Int.reduceToNat, Int.reduceLT, Int.reduceLE, Int.reduceBEq, Int.reduceBNe, Nat.reduceLT, Nat.reduceBEq, Int.reduceEq, Nat.reduceEqDiff, Nat.reduceAdd, Nat.reduceSub, Nat.reduceMul, Nat.reduceLeDiff, reduceCtorEq, ↓reduceIte, eGTuple, eGObj, eGSub]; rfl)) (slices_BinarySearchFunc___api_Tuple_api_Tuple_api_Tuple___tupl_Compare_ok b1) (by first | exact .inr rfl | exact .inl rfl) ?_
  try simp -implicitDefEqProofs only [go_sem, Nat.reduceEqDiff, Nat.reduceAdd, ↓reduceIte]
  obtain rfl := Option.some.inj H2
  exact end_pure (by first | (simp -implicitDefEqProofs only [go_sem, ↓reduceIte, Try.f26] <;> rfl) | rfl) (by first | rfl | (simp -implicitDefEqProofs only [go_sem, Int.reduceToNat, Int.reduceLT, Int.reduceLE, Int.reduceBEq, Int.reduceBNe, Nat.reduceLT, Nat.reduceBEq, Int.reduceEq, Nat.reduceEqDiff, Nat.reduceAdd, Nat.reduceSub, Nat.reduceMul, Nat.reduceLeDiff, reduceCtorEq, ↓reduceIte, eGTuple, eGObj, eGSub]; done) | (simp -implicitDefEqProofs only [go_sem, Int.reduceToNat, Int.reduceLT, Int.reduceLE, Int.reduceBEq, Int.reduceBNe, Nat.reduceLT, Nat.reduceBEq, Int.reduceEq, Nat.reduceEqDiff, Nat.reduceAdd, Nat.reduceSub, Nat.reduceMul, Nat.reduceLeDiff, reduceCtorEq, ↓reduceIte, eGTuple, eGObj, eGSub]; rfl)) rfl (by intro h; first | rfl | cases h)
end Go.Proofs.Ytdckfddlcmkdlaa.Ab
