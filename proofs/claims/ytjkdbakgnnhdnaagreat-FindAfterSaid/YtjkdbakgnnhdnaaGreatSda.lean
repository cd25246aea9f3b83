/-
 Functions, read off the code.
-/
import Derived.Test.YtjkdbakgnnhdnaaGreatSgs
namespace Go.Proofs.YtjkdbakgnnhdnaaGreat.Ab
open Go.RowKit
def well_Schema_Rel (n : Nat) (s : WellSchema) (typ : ByteArray) (rel : ByteArray) : Option (GRel × Bool) :=
 some ((⟨(mgetD (⟨typ, rel⟩ : WellName) (⟨ByteArray.empty, [], []⟩ : GRel) s.rels).name, (mgetD (⟨typ, rel⟩ : WellName) (⟨ByteArray.empty, [], []⟩ : GRel) s.rels).subs, (mgetD (⟨typ, rel⟩ : WellName) (⟨ByteArray.empty, [], []⟩ : GRel) s.rels).expr⟩ : GRel), (mhas (⟨typ, rel⟩ : WellName) s.rels))
theorem well_Schema_Rel_ok {n : Nat} {s : WellSchema} {typ : ByteArray} {rel : ByteArray} {r : GRel × Bool} (H : well_Schema_Rel n s typ rel = some r) : PureOK Tryz.prog 38 [D.pt (eWellSchema s) 0, D.v (.string typ), D.v (.string rel)] (D.tu [D.ag (eGRel r.1), D.v (.bool r.2)]) false := by
 unfold well_Schema_Rel at H
 refine ZP tab_ok fol (rs := #[.cell 6 82, .tmp 7]) Tryz.func38 ?_
 refine ZT 1 ?_
 have h1 : lookA (true, [.string, .string]) (.agg #[.string typ, .string rel]) (.d (.ag [.v (.string ByteArray.empty), .sl [], .sl []]) true) true (dEnts true (encMp kWellName true eGRel s.rels)) = some (.tu [.d (.ag [.v (.string (mgetD (⟨typ, rel⟩ : WellName) (⟨ByteArray.empty, [], []⟩ : GRel) s.rels).name), .sl (List.map eGSub (mgetD (⟨typ, rel⟩ : WellName) (⟨ByteArray.empty, [], []⟩ : GRel) s.rels).subs), .sl (List.map eGStep (mgetD (⟨typ, rel⟩ : WellName) (⟨ByteArray.empty, [], []⟩ : GRel) s.rels).expr)]) true, .v (.bool (mhas (⟨typ, rel⟩ : WellName) s.rels))], []) := lookD (b := true) (ag := true) (enc := eGRel) key_WellName (⟨typ, rel⟩ : WellName) ((⟨ByteArray.empty, [], []⟩ : GRel) : GRel) true s.rels
 refine Z1 h1 ?_
 obtain rfl := Zi H
 exact ZE0
theorem cl85_0 (xs : List GSub) (h : decide (xs.length = 0) = true) : PureOK Tryz.prog 85 [.sl (List.map eGSub xs)] (.sl []) true := by
 rw [List.eq_nil_of_length_eq_zero (of_decide_eq_true h)]
 exact clone_nil tab_ok fol Tryz.func85 (T := 80) (B := 4) rfl (by kernel_rfl) (by kernel_rfl) (by decide) rfl (by simp only [go_sem]) (by simp only [go_sem]) (by simp only [go_sem]; decide) (by simp only [go_sem]; decide)
theorem cl85_in (xs : List GSub) (h0 : 0 < xs.length) (hn : xs.length ≤ 4294967296) {b : Bool} {hp : Hp} {nx : Nat} : InlOK Tryz.prog 85 [.d (.sl (List.map eGSub xs)) b] hp nx fun v hp2 nx2 => v = .so (nx + 3) 1 0 xs.length ∧ hp2 = upd (nx + 3) (some (.rw (List.map eGSub xs) 3 1 false false)) hp ∧ nx2 = nx + 7 := by
 have h := clone_map (e := eGSub) (k := 3) (b := b) (hp := hp) (nx := nx) tab_ok fol Tryz.func85 (T := 80) (B := 4) rfl (by kernel_rfl) (by kernel_rfl) (by decide) rfl (by simp only [go_sem]) (by simp only [go_sem]) (by simp only [go_sem]) (by decide) (by simp only [go_sem]; decide) (fun _ => rfl) xs h0 hn
 rw [plainR_map (f := eGSub) (fun _ => rfl), Bool.not_true, Bool.and_false] at h
 exact h
theorem cl85_n {hp : Hp} {nx : Nat} : InlOK Tryz.prog 85 [.v (.slice none 0 0)] hp nx fun v hp2 nx2 => v = .v (.slice none 0 0) ∧ hp2 = hp ∧ nx2 = nx + 4 := by
 refine inl_run (tab := tab) tab_ok fol Tryz.func85 rfl (by kernel_rfl) (by kernel_rfl) (by simp [Tryz.f85]) ?_
 simp -implicitDefEqProofs only [go_sem, Nat.reduceEqDiff, Nat.reduceAdd, Nat.reduceLeDiff, reduceCtorEq, ↓reduceIte]
 exact end_ret (v := .v (.slice none 0 0)) (by simp -implicitDefEqProofs only [go_sem, ↓reduceIte, Tryz.f85] <;> rfl) ⟨rfl, rfl, rfl⟩
def look_left_Subs (n : Nat) (x : LookLeft) (o : GObj) (rel : ByteArray) : Option (List GSub) :=
 (if (mhas (⟨o, rel⟩ : GRef) x.subs) then
  (if (decide ((mgetD (⟨o, rel⟩ : GRef) [] x.subs).length = 0)) then
   some []
  else
   grd (decide ((mgetD (⟨o, rel⟩ : GRef) [] x.subs).length ≤ 4294967296)) <|
   some (mgetD (⟨o, rel⟩ : GRef) [] x.subs))
 else
  some [])
theorem look_left_Subs_ok {n : Nat} {x : LookLeft} {o : GObj} {rel : ByteArray} {r : List GSub} (H : look_left_Subs n x o rel = some r) : PureOK Tryz.prog 59 [D.pt (eLookLeft x) 0, D.ag (eGObj o), D.v (.string rel)] (D.sl (List.map eGSub r)) true := by
 unfold look_left_Subs at H
 refine ZP tab_ok fol (rs := #[.tmp 6]) Tryz.func59 ?_
 refine ZT 1 ?_
 refine Z0 ?_
 rcases zit H with ⟨c1, H2⟩ | ⟨c1, H2⟩
 ·have h3 : lookA (true, [.string, .string, .string]) (.agg #[.string o.type_, .string o.id_, .string rel]) (.v (.slice none 0 0)) false (dEnts true (encMp kGRef false (eL eGSub) x.subs)) = some (.d (.sl (List.map eGSub (mgetD (⟨o, rel⟩ : GRef) [] x.subs))) true, []) := lookD_has (b := true) (ag := false) (enc := (eL eGSub)) key_GRef (⟨o, rel⟩ : GRef) ([] : List GSub) x.subs _ c1
  refine Z1 (Y2 c1 h3) ?_
  rcases zit H2 with ⟨c4, H5⟩ | ⟨c4, H5⟩
  ·refine Z1 (Y3 c1 h3 c4) ?_
   refine ZD0 (cl85_0 (mgetD (⟨o, rel⟩ : GRef) [] x.subs) c4) ?_
   refine Z1 (Y3 c1 h3 c4) ?_
   refine Rd_endF (by rfl) ?_
   refine Z1 (Y3 c1 h3 c4) ?_
   obtain rfl := Zi H5
   exact ZE0
  ·obtain ⟨g6, H7⟩ := grd_inv H5
   have h8 : (mgetD (⟨o, rel⟩ : GRef) [] x.subs).length ≤ 4294967296 := of_decide_eq_true g6
   have q9 : 0 < (mgetD (⟨o, rel⟩ : GRef) [] x.subs).length := by have := of_decide_eq_false c4; omega
   refine Z1 (Y3 c1 h3 c4) ?_
   refine onCallD_det (ids' := []) (v := .so 15 1 0 (mgetD (⟨o, rel⟩ : GRef) [] x.subs).length) (δ := [(15, .rw (List.map eGSub (mgetD (⟨o, rel⟩ : GRef) [] x.subs)) 3 1 false false)]) (nx' := 19) (fun hp1 _ => InlOK.mono (cl85_in (mgetD (⟨o, rel⟩ : GRef) [] x.subs) q9 h8) fun v2 hp2 nx2 e => e) ?_
   refine Z1 (Y4 c1 h3 c4 h8) ?_
   refine Rd_endF (by rfl) ?_
   refine Z1 (Y4 c1 h3 c4 h8) ?_
   obtain rfl := Zi H7
   exact ZE1 (Y4 c1 h3 c4 h8)
 ·have h13 : lookA (true, [.string, .string, .string]) (.agg #[.string o.type_, .string o.id_, .string rel]) (.v (.slice none 0 0)) false (dEnts true (encMp kGRef false (eL eGSub) x.subs)) = some (.v (.slice none 0 0), []) := lookD_not (b := true) (ag := false) (enc := (eL eGSub)) key_GRef (⟨o, rel⟩ : GRef) x.subs _ c1
  refine Z1 (Y2 c1 h13) ?_
  refine onCallD_det (ids' := []) (v := .v (.slice none 0 0)) (δ := []) (nx' := 16) (fun hp1 _ => InlOK.mono cl85_n fun v2 hp2 nx2 e => e) ?_
  refine Z1 (Y2 c1 h13) ?_
  refine Rd_endF (by rfl) ?_
  refine Z1 (Y2 c1 h13) ?_
  obtain rfl := Zi H2
  exact ZE0
def seek_Graph_Arrows_L1 (n : Nat) (x : GStep) (t19 : List GSub) : Nat → (List GRef × Int) → Option (List GRef)
 | 0, _ => none
 | c + 1, (out, t21) =>
  (if (decide (t21 < (t19.length : Int))) then
   (idx t19 t21).bind fun x3 =>
   (app out [(⟨(⟨x3.type_, x3.id_⟩ : GObj), x.b⟩ : GRef)]).bind fun l =>
   seek_Graph_Arrows_L1 n x t19 c (l, (IntKind.i64.wrap (t21 + 1)))
  else
   some out)
def seek_Graph_Arrows (n : Nat) (g : SeekGraph) (o : GObj) (x : GStep) : Option (List GRef) :=
 (look_left_Subs n g.index.left o x.a).bind fun t19 =>
 (
  seek_Graph_Arrows_L1 n x t19 n ([], 0) : Option (List GRef)).bind fun out3 =>
 some out3
theorem seek_Graph_Arrows_ok {n : Nat} {g : SeekGraph} {o : GObj} {x : GStep} {r : List GRef} (H : seek_Graph_Arrows n g o x = some r) : PureOK Tryz.prog 58 [D.pt (eSeekGraph g) 0, D.ag (eGObj o), D.ag (eGStep x)] (D.sl (List.map eGRef r)) true := by
 unfold seek_Graph_Arrows at H
 refine ZP tab_ok fol (rs := #[.tmp 6]) Tryz.func58 ?_
 refine zsq (ZT 1 ?_)
 refine Z0 ?_
 refine zsq (ZT 1 ?_)
 refine Z0 ?_
 refine zsq (zsq ?_)
 refine ZT 1 ?_
 obtain ⟨t19, b1, H2⟩ := zbi H
 refine Z0 ?_
 refine onCallD_pureX (b := true) [] (fun hp1 h1 => by exact (PW.cons (ToXA.d (ToXV.one (ToX.rbE 2 (ToX.one (b' := true) (is := []) rfl (fun _ => rfl)) (by rfl)) rfl)) (PW.cons (ToXA.d (ToXV.agP (PW.cons (ToX.one (b' := false) (is := []) rfl (fun _ => rfl)) (PW.cons (ToX.one (b' := false) (is := []) rfl (fun _ => rfl)) PW.nil)))) (PW.cons (ToXA.d (ToXV.one (ToX.one (b' := false) (is := []) rfl (fun _ => rfl)) rfl)) PW.nil)))) (PureA.of_pure (look_left_Subs_ok b1)) ?_
 refine Z0 ?_
 refine Rd_endF (by rfl) ?_
 refine Z0 ?_
 obtain ⟨e_, E3, H4⟩ := zbi H2
 refine zjn (α := { y : List GRef // e_ = y } × Nat) (fun | ⟨⟨out3, _⟩, g4⟩ => ⟨upd 7 (accV 0 g4 (List.map eGRef out3)) noFr, upd 0 (accO 3 g4 false (List.map eGRef out3)) noHp, 1⟩) ?_ ?_
 ·refine zbk ?_
  refine zlp (α := { q : (Nat × (List GRef × Int)) × Nat // seek_Graph_Arrows_L1 n x t19 q.1.1 q.1.2 = some e_ }) (fun | ⟨⟨⟨c, ⟨out, t21⟩⟩, g2⟩, _⟩ => ⟨upd 5 (.pt 0 0) (upd 7 (accV 1 g2 (List.map eGRef out)) (upd 19 (.d (.sl (List.map eGSub t19)) false) (upd 20 (.v (.int .i64 (t19.length : Int))) (upd 21 (.v (.int .i64 t21)) noFr)))), upd 0 (some (.bx [.v (.int .i64 x.kind), .v (.string x.a), .v (.string x.b)])) (upd 1 (accO 3 g2 false (List.map eGRef out)) noHp), 2⟩) (fun q => q.1.1.1) ⟨((n, ([], 0)), 0), E3⟩ ?_ ?_
  ·exact ZR [(0, 1)]
  ·rintro ⟨⟨⟨c, ⟨out, t21⟩⟩, g2⟩, L5⟩
   rcases c with _ | c
   ·exact Zx L5
   ·unfold seek_Graph_Arrows_L1 at L5
    try dsimp only at L5
    refine ZT 1 ?_
    refine Z0 ?_
    rcases zit L5 with ⟨c14, H15⟩ | ⟨c14, H15⟩
    ·obtain ⟨x3, b16, H17⟩ := zbi H15
     obtain ⟨h18, h19⟩ := zix b16
     try simp only [Int.reduceToNat, Int.toNat_natCast] at h19
     have h20 := map_at eGSub h19
     obtain ⟨l, b22, H23⟩ := zbi H17
     obtain ⟨h24, h25⟩ := app_inv b22
     have h24 : out.length + 1 ≤ 4294967296 := h24
     have h26 : List.map eGRef out ++ [[.v (.string x3.type_), .v (.string x3.id_), .v (.string x.b)]] = List.map eGRef l := app_map eGRef h25
     have h27 : out.length + 1 = l.length := app_len h25
     have h28 : l.length ≤ 4294967296 := by omega
     have q29 : 0 < l.length := by omega
     refine Z1 (Y2 (Y6 c14 (zno .i64 h18) h20 h24 h26 h27) h28) ?_
     rcases out with _ | ⟨q0, q1⟩
     ·try simp only [List.map_nil, accI, accN]
      exact ⟨⟨((c, (l, (IntKind.i64.wrap (t21 + 1)))), 0), H23⟩, ZR [(0, 0), (1, 17)], Nat.lt_succ_self _⟩
     ·try simp only [List.map_cons, accI, accN]
      exact ⟨⟨((c, (l, (IntKind.i64.wrap (t21 + 1)))), (g2 + 1)), H23⟩, ZR [(0, 0), (1, 1)], Nat.lt_succ_self _⟩
    ·refine Z1 c14 ?_
     obtain rfl := Zi H15
     exact ⟨⟨⟨out, rfl⟩, g2⟩, ZR [(0, 1)]⟩
 ·rintro ⟨⟨out3, he30⟩, g4⟩
  obtain rfl := he30.symm
  try dsimp only at H4
  refine ZT 1 ?_
  refine Z0 ?_
  obtain rfl := Zi H4
  exact ZE0
def seek_Graph_deps_L1 (n : Nat) (c2 : SeekGraph) (t1 : GRef) (t22 : GRel × Bool) : Nat → (List GRef × Int) → Option (List GRef)
 | 0, _ => none
 | c + 1, (t7, t28) =>
  (if (decide (t28 < (t22.1.expr.length : Int))) then
   (idx t22.1.expr t28).bind fun x2 =>
   (if (x2.kind == 1) then
    (app t7 [(⟨t1.obj, x2.a⟩ : GRef)]).bind fun l2 =>
    seek_Graph_deps_L1 n c2 t1 t22 c (l2, (IntKind.i64.wrap (t28 + 1)))
   else
    (if (x2.kind == 2) then
     (seek_Graph_Arrows n (⟨c2.schema, c2.index, c2.rows_⟩ : SeekGraph) t1.obj x2).bind fun t512 =>
     (if (decide (t7.length = 0)) then
      (app [] t512).bind fun l3 =>
      seek_Graph_deps_L1 n c2 t1 t22 c (t512, (IntKind.i64.wrap (t28 + 1)))
     else
      (app t7 t512).bind fun l4 =>
      seek_Graph_deps_L1 n c2 t1 t22 c (l4, (IntKind.i64.wrap (t28 + 1))))
    else
     seek_Graph_deps_L1 n c2 t1 t22 c (t7, (IntKind.i64.wrap (t28 + 1)))))
  else
   some t7)
def seek_Graph_deps_L2 (n : Nat) (t69 : List GSub) : Nat → (List GRef × Int) → Option (List GRef)
 | 0, _ => none
 | c + 1, (t74, t71) =>
  (if (decide (t71 < (t69.length : Int))) then
   (idx t69 t71).bind fun x4 =>
   (if (x4.rel.toList == ({ data := #[] } : ByteArray).toList) then
    seek_Graph_deps_L2 n t69 c (t74, (IntKind.i64.wrap (t71 + 1)))
   else
    (app t74 [(⟨(⟨x4.type_, x4.id_⟩ : GObj), x4.rel⟩ : GRef)]).bind fun l6 =>
    seek_Graph_deps_L2 n t69 c (l6, (IntKind.i64.wrap (t71 + 1))))
  else
   some t74)
def seek_Graph_deps_L2_f (n : Nat) (t69 : List GSub) (st : List GRef) (x4 : GSub) (k : List GRef → Option (List GRef)) : Option (List GRef) :=
 match st with
 | t74 =>
  (if (x4.rel.toList == ({ data := #[] } : ByteArray).toList) then
   k t74
  else
   (app t74 [(⟨(⟨x4.type_, x4.id_⟩ : GObj), x4.rel⟩ : GRef)]).bind fun l6 =>
   k l6)
def seek_Graph_deps_L2_e (n : Nat) (t69 : List GSub) (st : List GRef) : Option (List GRef) :=
 match st with
 | t74 => some t74
theorem seek_Graph_deps_L2_list (n : Nat) (t69 : List GSub) (hx : t69.length < 4611686018427387904) (c : Nat) (st : List GRef) (ix : Nat) (hi : ix ≤ t69.length) (hc : t69.length - ix < c) : seek_Graph_deps_L2 n t69 c (match st, (ix : Int) with | t74, ix => (t74, ix)) = foldK (seek_Graph_deps_L2_f n t69) (seek_Graph_deps_L2_e n t69) (t69.drop ix) st :=
 loop_list (fun c st ix => seek_Graph_deps_L2 n t69 c (match st, ix with | t74, ix => (t74, ix))) t69 (seek_Graph_deps_L2_f n t69) (seek_Graph_deps_L2_e n t69) (fun _ _ _ => rfl) hx c st ix hi hc
def seek_Graph_deps (n : Nat) (c2 : SeekGraph) (t1 : GRef) : Option (List GRef) :=
 (well_Schema_Rel n c2.schema t1.obj.type_ t1.rel).bind fun t22 =>
 (
  seek_Graph_deps_L1 n c2 t1 t22 n ([], 0) : Option (List GRef)).bind fun t73 =>
 (if (decide (0 < (t22.1.expr.length : Int))) then
  some t73
 else
  (look_left_Subs n c2.index.left t1.obj t1.rel).bind fun t69 =>
  (
   seek_Graph_deps_L2 n t69 n (t73, 0) : Option (List GRef)).bind fun t76 =>
  some t76)
set_option maxHeartbeats 8000000 in
theorem seek_Graph_deps_ok {n : Nat} {c2 : SeekGraph} {t1 : GRef} {r : List GRef} (H : seek_Graph_deps n c2 t1 = some r) : PureOK Tryz.prog 42 [D.pt (eSeekGraph c2) 0, D.ag (eGRef t1)] (D.sl (List.map eGRef r)) true := by
 unfold seek_Graph_deps at H
 refine ZP tab_ok fol (rs := #[.tmp 4]) Tryz.func42 ?_
 refine zsq (ZT 1 ?_)
 refine Z0 ?_
 refine zsq (ZT 1 ?_)
 obtain ⟨t22, b1, H2⟩ := zbi H
 refine Z0 ?_
 refine ZD0 (well_Schema_Rel_ok b1) ?_
 refine Z0 ?_
 refine Rd_endF (by rfl) ?_
 refine Z0 ?_
 refine zsq (ZT 1 ?_)
 refine Z0 ?_
 refine zsq (zsq ?_)
 refine ZT 1 ?_
 refine Z0 ?_
 obtain ⟨e_, E3, H4⟩ := zbi H2
 refine zjn (α := { y : List GRef // e_ = y } × Nat) (fun | ⟨⟨t73, _⟩, g3⟩ => ⟨upd 0 (.d (.pt [.pt [.mp (encMp Value.string false eI c2.schema.types), .mp (encMp kWellName true eGRel c2.schema.rels), .mp (encMp kWellName false eI c2.schema.ranks)] 0, .pt [.mp (encMp kGRef false (eL eGSub) c2.index.left.subs), .mp (encMp Value.string false (eL eS) c2.index.left.objs), .mp (encMp kGSub false (eL eGRef) c2.index.right.refs), .mp (encMp Value.string false (eL eS) c2.index.right.users)] 0, .sl (List.map eGTuple c2.rows_)] 0) true) (upd 3 (.pt 0 0) (upd 5 (.pt 1 0) (upd 7 (accV 2 g3 (List.map eGRef t73)) noFr))), upd 0 (some (.bx [.v (.string t1.obj.type_), .v (.string t1.obj.id_), .v (.string t1.rel)])) (upd 1 (some (.bx [.v (.string t22.1.name), .d (.sl (List.map eGSub t22.1.subs)) true, .d (.sl (List.map eGStep t22.1.expr)) true])) (upd 2 (accO 3 g3 false (List.map eGRef t73)) noHp)), 3⟩) ?_ ?_
 ·refine zbk ?_
  refine zlp (α := { q : (Nat × (List GRef × Int)) × Nat // seek_Graph_deps_L1 n c2 t1 t22 q.1.1 q.1.2 = some e_ }) (fun | ⟨⟨⟨c, ⟨t7, t28⟩⟩, g⟩, _⟩ => ⟨upd 0 (.d (.pt [.pt [.mp (encMp Value.string false eI c2.schema.types), .mp (encMp kWellName true eGRel c2.schema.rels), .mp (encMp kWellName false eI c2.schema.ranks)] 0, .pt [.mp (encMp kGRef false (eL eGSub) c2.index.left.subs), .mp (encMp Value.string false (eL eS) c2.index.left.objs), .mp (encMp kGSub false (eL eGRef) c2.index.right.refs), .mp (encMp Value.string false (eL eS) c2.index.right.users)] 0, .sl (List.map eGTuple c2.rows_)] 0) true) (upd 3 (.pt 0 0) (upd 5 (.pt 1 0) (upd 7 (accV 2 g (List.map eGRef t7)) (upd 26 (.d (.sl (List.map eGStep t22.1.expr)) true) (upd 27 (.v (.int .i64 (t22.1.expr.length : Int))) (upd 28 (.v (.int .i64 t28)) noFr)))))), upd 0 (some (.bx [.v (.string t1.obj.type_), .v (.string t1.obj.id_), .v (.string t1.rel)])) (upd 1 (some (.bx [.v (.string t22.1.name), .d (.sl (List.map eGSub t22.1.subs)) true, .d (.sl (List.map eGStep t22.1.expr)) true])) (upd 2 (accO 3 g false (List.map eGRef t7)) noHp)), 3⟩) (fun q => q.1.1.1) ⟨((n, ([], 0)), 0), E3⟩ ?_ ?_
  ·exact ZR [(0, 0), (1, 15)]
  ·rintro ⟨⟨⟨c, ⟨t7, t28⟩⟩, g⟩, L5⟩
   rcases c with _ | c
   ·exact Zx L5
   ·unfold seek_Graph_deps_L1 at L5
    try dsimp only at L5
    refine ZT 1 ?_
    refine Z0 ?_
    rcases zit L5 with ⟨c24, H25⟩ | ⟨c24, H25⟩
    ·obtain ⟨x2, b26, H27⟩ := zbi H25
     obtain ⟨h28, h29⟩ := zix b26
     try simp only [Int.reduceToNat, Int.toNat_natCast] at h29
     have h30 := map_at eGStep h29
     refine Z1 (Y3 c24 (zno .i64 h28) h30) ?_
     rcases zit H27 with ⟨c32, H33⟩ | ⟨c32, H33⟩
     ·obtain ⟨l2, b34, H35⟩ := zbi H33
      obtain ⟨h36, h37⟩ := app_inv b34
      have h36 : t7.length + 1 ≤ 4294967296 := h36
      have h38 : List.map eGRef t7 ++ [[.v (.string t1.obj.type_), .v (.string t1.obj.id_), .v (.string x2.a)]] = List.map eGRef l2 := app_map eGRef h37
      have h39 : t7.length + 1 = l2.length := app_len h37
      have h40 : l2.length ≤ 4294967296 := by omega
      have q41 : 0 < l2.length := by omega
      refine Z1 (Y2 (Y6 c24 (zno .i64 h28) h30 c32 h36 h38) (Y2 h39 h40)) ?_
      rcases t7 with _ | ⟨q0, q1⟩
      ·try simp only [List.map_nil, accI, accN]
       exact ⟨⟨((c, (l2, (IntKind.i64.wrap (t28 + 1)))), 0), H35⟩, ZR [(0, 0), (1, 1), (2, 19)], Nat.lt_succ_self _⟩
      ·try simp only [List.map_cons, accI, accN]
       exact ⟨⟨((c, (l2, (IntKind.i64.wrap (t28 + 1)))), (g + 1)), H35⟩, ZR [(0, 0), (1, 1), (2, 2)], Nat.lt_succ_self _⟩
     ·refine Z1 (Y4 c24 (zno .i64 h28) h30 c32) ?_
      rcases zit H33 with ⟨c42, H43⟩ | ⟨c42, H43⟩
      ·obtain ⟨t512, b44, H45⟩ := zbi H43
       refine Z1 (Y5 c24 (zno .i64 h28) h30 c32 c42) ?_
       refine ZC0 (seek_Graph_Arrows_ok b44) ?_
       refine Z1 (Y6 c24 (zno .i64 h28) h30 c32 c42 (chk_map (n := 3) (f := eGRef) (fun _ => rfl) t512)) ?_
       rcases zit H45 with ⟨c46, H47⟩ | ⟨c46, H47⟩
       ·have e48 : t7 = [] := List.eq_nil_of_length_eq_zero (of_decide_eq_true c46)
        subst e48
        simp only [List.map_nil, accV_nil, accO_nil]
        try simp only [accK, accB]
        obtain ⟨l3, b49, H50⟩ := zbi H47
        obtain ⟨h51, h52⟩ := app_inv b49
        have h52 : t512 = l3 := h52
        subst h52
        have h51 : t512.length ≤ 4294967296 := by have := h51; simpa using this
        refine Z1 (Y2 (Y6 c24 (zno .i64 h28) h30 c32 c42 (chk_map (n := 3) (f := eGRef) (fun _ => rfl) t512)) h51) ?_
        exact ⟨⟨((c, (t512, (IntKind.i64.wrap (t28 + 1)))), 0), H50⟩, ZR [(0, 0), (1, 1), (2, 20)], Nat.lt_succ_self _⟩
       ·have q53 : 0 < t7.length := by have := of_decide_eq_false c46; omega
        have h54 : ∀ i, accK i (List.map eGRef t7) = [i] := fun i => by cases hx : t7 with | nil => (rw [hx] at q53; simp at q53) | cons a r => rfl
        have h55 : ∀ b, accB b (List.map eGRef t7) = b := fun b => by cases hx : t7 with | nil => (rw [hx] at q53; simp at q53) | cons a r => rfl
        obtain ⟨l4, b56, H57⟩ := zbi H47
        obtain ⟨h58, h59⟩ := app_inv b56
        have h58 : t7.length + t512.length ≤ 4294967296 := h58
        have h60 : List.map eGRef t7 ++ List.map eGRef t512 = List.map eGRef l4 := app_map eGRef h59
        have h61 : t7.length + t512.length = l4.length := app_len h59
        have h62 : l4.length ≤ 4294967296 := by omega
        have q63 : 0 < l4.length := by omega
        refine Z1 (Y3 (Y6 c24 (zno .i64 h28) h30 c32 c42 (chk_map (n := 3) (f := eGRef) (fun _ => rfl) t512)) (Y6 c46 h54 h55 q53 (YV (f := eGRef) q53) (YO (f := eGRef) q53)) (Y4 h58 h60 h61 h62)) ?_
        exact ⟨⟨((c, (l4, (IntKind.i64.wrap (t28 + 1)))), (g + 1)), H57⟩, ZR [(0, 0), (1, 1), (2, 2)], Nat.lt_succ_self _⟩
      ·refine Z1 (Y5 c24 (zno .i64 h28) h30 c32 c42) ?_
       exact ⟨⟨((c, (t7, (IntKind.i64.wrap (t28 + 1)))), g), H43⟩, ZR [(0, 0), (1, 1), (2, 2)], Nat.lt_succ_self _⟩
    ·refine Z1 c24 ?_
     obtain rfl := Zi H25
     exact ⟨⟨⟨t7, rfl⟩, g⟩, ZR [(0, 0), (1, 1), (2, 2)]⟩
 ·rintro ⟨⟨t73, he108⟩, g3⟩
  obtain rfl := he108.symm
  try dsimp only at H4
  refine zsq (ZT 1 ?_)
  refine Z0 ?_
  rcases zit H4 with ⟨c64, H65⟩ | ⟨c64, H65⟩
  ·refine Z1 c64 ?_
   obtain rfl := Zi H65
   exact ZE1 c64
  ·refine Z1 c64 ?_
   refine zsq (zsq ?_)
   refine ZT 1 ?_
   obtain ⟨t69, b66, H67⟩ := zbi H65
   refine Z1 c64 ?_
   refine onCallD_pureX (b := true) [] (fun hp1 h1 => by exact (PW.cons (ToXA.d (ToXV.one (ToX.rbE 2 (ToX.one (b' := true) (is := []) rfl (fun _ => rfl)) (by rfl)) rfl)) (PW.cons (ToXA.d (ToXV.agP (PW.cons (ToX.one (b' := false) (is := []) rfl (fun _ => rfl)) (PW.cons (ToX.one (b' := false) (is := []) rfl (fun _ => rfl)) PW.nil)))) (PW.cons (ToXA.d (ToXV.one (ToX.one (b' := false) (is := []) rfl (fun _ => rfl)) rfl)) PW.nil)))) (PureA.of_pure (look_left_Subs_ok b66)) ?_
   refine Z1 c64 ?_
   refine Rd_endF (by rfl) ?_
   refine Z1 c64 ?_
   obtain ⟨e_2, E68, H69⟩ := zbi H67
   refine zjn (α := { y : List GRef // e_2 = y } × Nat) (fun | ⟨⟨t76, _⟩, g7⟩ => ⟨upd 7 (accV 0 g7 (List.map eGRef t76)) noFr, upd 0 (accO 3 g7 false (List.map eGRef t76)) noHp, 1⟩) ?_ ?_
   ·refine zbk ?_
    refine zlp (α := { q : (Nat × (List GRef × Int)) × Nat // seek_Graph_deps_L2 n t69 q.1.1 q.1.2 = some e_2 }) (fun | ⟨⟨⟨c, ⟨t74, t71⟩⟩, g5⟩, _⟩ => ⟨upd 7 (accV 0 g5 (List.map eGRef t74)) (upd 69 (.d (.sl (List.map eGSub t69)) false) (upd 70 (.v (.int .i64 (t69.length : Int))) (upd 71 (.v (.int .i64 t71)) noFr))), upd 0 (accO 3 g5 false (List.map eGRef t74)) noHp, 1⟩) (fun q => q.1.1.1) ⟨((n, (t73, 0)), g3), E68⟩ ?_ ?_
    ·exact ZR [(0, 2)]
    ·rintro ⟨⟨⟨c, ⟨t74, t71⟩⟩, g5⟩, L70⟩
     rcases c with _ | c
     ·exact Zx L70
     ·unfold seek_Graph_deps_L2 at L70
      try dsimp only at L70
      refine ZT 1 ?_
      refine Z0 ?_
      rcases zit L70 with ⟨c89, H90⟩ | ⟨c89, H90⟩
      ·obtain ⟨x4, b91, H92⟩ := zbi H90
       obtain ⟨h93, h94⟩ := zix b91
       try simp only [Int.reduceToNat, Int.toNat_natCast] at h94
       have h95 := map_at eGSub h94
       refine Z1 (Y3 c89 (zno .i64 h93) h95) ?_
       rcases zit H92 with ⟨c97, H98⟩ | ⟨c97, H98⟩
       ·refine Z1 (Y4 c89 (zno .i64 h93) h95 c97) ?_
        exact ⟨⟨((c, (t74, (IntKind.i64.wrap (t71 + 1)))), g5), H98⟩, ZR [(0, 0)], Nat.lt_succ_self _⟩
       ·obtain ⟨l6, b99, H100⟩ := zbi H98
        obtain ⟨h101, h102⟩ := app_inv b99
        have h101 : t74.length + 1 ≤ 4294967296 := h101
        have h103 : List.map eGRef t74 ++ [[.v (.string x4.type_), .v (.string x4.id_), .v (.string x4.rel)]] = List.map eGRef l6 := app_map eGRef h102
        have h104 : t74.length + 1 = l6.length := app_len h102
        have h105 : l6.length ≤ 4294967296 := by omega
        have q106 : 0 < l6.length := by omega
        refine Z1 (Y2 (Y6 c89 (zno .i64 h93) h95 c97 h101 h103) (Y2 h104 h105)) ?_
        rcases t74 with _ | ⟨q0, q1⟩
        ·try simp only [List.map_nil, accI, accN]
         exact ⟨⟨((c, (l6, (IntKind.i64.wrap (t71 + 1)))), 0), H100⟩, ZR [(0, 19)], Nat.lt_succ_self _⟩
        ·try simp only [List.map_cons, accI, accN]
         exact ⟨⟨((c, (l6, (IntKind.i64.wrap (t71 + 1)))), (g5 + 1)), H100⟩, ZR [(0, 0)], Nat.lt_succ_self _⟩
      ·refine Z1 c89 ?_
       obtain rfl := Zi H90
       exact ⟨⟨⟨t74, rfl⟩, g5⟩, ZR [(0, 0)]⟩
   ·rintro ⟨⟨t76, he107⟩, g7⟩
    obtain rfl := he107.symm
    try dsimp only at H69
    refine ZT 1 ?_
    refine Z0 ?_
    obtain rfl := Zi H69
    exact ZE0
def well_Schema_Rank (n : Nat) (s : WellSchema) (typ : ByteArray) (rel : ByteArray) : Option Int :=
 some (mgetD (⟨typ, rel⟩ : WellName) 0 s.ranks)
theorem well_Schema_Rank_ok {n : Nat} {s : WellSchema} {typ : ByteArray} {rel : ByteArray} {r : Int} (H : well_Schema_Rank n s typ rel = some r) : PureOK Tryz.prog 41 [D.pt (eWellSchema s) 0, D.v (.string typ), D.v (.string rel)] (D.v (.int .i64 r)) true := by
 unfold well_Schema_Rank at H
 refine ZP tab_ok fol (rs := #[.tmp 6]) Tryz.func41 ?_
 refine ZT 1 ?_
 have h1 : lookA (true, [.string, .string]) (.agg #[.string typ, .string rel]) (.v (.int .i64 0)) false (dEnts true (encMp kWellName false eI s.ranks)) = some (.v (.int .i64 (mgetD (⟨typ, rel⟩ : WellName) 0 s.ranks)), []) := lookD (b := true) (ag := false) (enc := eI) key_WellName (⟨typ, rel⟩ : WellName) (0 : Int) false s.ranks
 refine Z1 h1 ?_
 obtain rfl := Zi H
 exact ZE0
end Go.Proofs.YtjkdbakgnnhdnaaGreat.Ab
