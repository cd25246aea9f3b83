/-
  Functions, read off the code.
-/
import Derived.Test.YtedgdpncienjiaaRss
import Derived.Test.YtedgdpncienjiaaLoa
namespace Go.Proofs.Ytedgdpncienjiaa.Ab
open Go.RowKit
theorem cl20_0 (xs : List GSub) (h : decide (xs.length = 0) = true) : PureOK Try.prog 20 [.sl (List.map eGSub xs)] (.sl []) true := by
  rw [List.eq_nil_of_length_eq_zero (of_decide_eq_true h)]
  exact clone_nil tab_ok fol Try.func20 (T := 47) (B := 4) rfl (by kernel_rfl) (by kernel_rfl) (by decide) rfl (by simp only [go_sem]) (by simp only [go_sem]) (by simp only [go_sem]; decide) (by simp only [go_sem]; decide)
theorem cl20_in (xs : List GSub) (h0 : 0 < xs.length) (hn : xs.length ≤ 4294967296) {b : Bool} {hp : Hp} {nx : Nat} : InlOK Try.prog 20 [.d (.sl (List.map eGSub xs)) b] hp nx fun v hp2 nx2 => v = .so (nx + 3) 1 0 xs.length ∧ hp2 = upd (nx + 3) (some (.rw (List.map eGSub xs) 3 1 false false)) hp ∧ nx2 = nx + 7 := by
  have h := clone_map (e := eGSub) (k := 3) (b := b) (hp := hp) (nx := nx) tab_ok fol Try.func20 (T := 47) (B := 4) rfl (by kernel_rfl) (by kernel_rfl) (by decide) rfl (by simp only [go_sem]) (by simp only [go_sem]) (by simp only [go_sem]) (by decide) (by simp only [go_sem]; decide) (fun _ => rfl) xs h0 hn
  rw [plainR_map (f := eGSub) (fun _ => rfl), Bool.not_true, Bool.and_false] at h
  exact h
theorem cl20_n {hp : Hp} {nx : Nat} : InlOK Try.prog 20 [.v (.slice none 0 0)] hp nx fun v hp2 nx2 => v = .v (.slice none 0 0) ∧ hp2 = hp ∧ nx2 = nx + 4 := by
  refine inl_run (tab := tab) tab_ok fol Try.func20 rfl (by kernel_rfl) (by kernel_rfl) (by simp [Try.f20]) ?_
  simp -implicitDefEqProofs only [go_sem, Nat.reduceEqDiff, Nat.reduceAdd, Nat.reduceLeDiff, reduceCtorEq, ↓reduceIte]
  exact end_ret (v := .v (.slice none 0 0)) (by simp -implicitDefEqProofs only [go_sem, ↓reduceIte, Try.f20] <;> rfl) ⟨rfl, rfl, rfl⟩
def look_left_Subs (n : Nat) (x : LookLeft) (o : GObj) (rel : ByteArray) : Option (List GSub) :=
  (if (mhas (⟨o, rel⟩ : GRef) x.subs) then
    (if (decide ((mgetD (⟨o, rel⟩ : GRef) [] x.subs).length = 0)) then
      some []
    else
      grd (decide ((mgetD (⟨o, rel⟩ : GRef) [] x.subs).length ≤ 4294967296)) <|
      some (mgetD (⟨o, rel⟩ : GRef) [] x.subs))
  else
    some [])
theorem look_left_Subs_ok {n : Nat} {x : LookLeft} {o : GObj} {rel : ByteArray} {r : List GSub} (H : look_left_Subs n x o rel = some r) : PureOK Try.prog 11 [D.pt (eLookLeft x) 0, D.ag (eGObj o), D.v (.string rel)] (D.sl (List.map eGSub r)) true := by
  unfold look_left_Subs at H
  refine ZP tab_ok fol (rs := #[.tmp 6]) Try.func11 ?_
  refine ZT 1 ?_
  refine Z0 ?_
  rcases ite_inv H with ⟨c1, H2⟩ | ⟨c1, H2⟩
  · have h3 : lookA (true, [.string, .string, .string]) (.agg #[.string o.type_, .string o.id_, .string rel]) (.v (.slice none 0 0)) false (dEnts true (encMp kGRef false (eL eGSub) x.subs)) = some (.d (.sl (List.map eGSub (mgetD (⟨o, rel⟩ : GRef) [] x.subs))) true, []) := lookD_has (b := true) (ag := false) (enc := (eL eGSub)) key_GRef (⟨o, rel⟩ : GRef) ([] : List GSub) x.subs _ c1
    refine Z1 (Y2 c1 h3) ?_
    rcases ite_inv H2 with ⟨c4, H5⟩ | ⟨c4, H5⟩
    · refine Z1 (Y3 c1 h3 c4) ?_
      refine ZD0 (cl20_0 (mgetD (⟨o, rel⟩ : GRef) [] x.subs) c4) ?_
      refine Z1 (Y3 c1 h3 c4) ?_
      refine Rd_endF (by rfl) ?_
      refine Z1 (Y3 c1 h3 c4) ?_
      obtain rfl := Zi H5
      exact ZE0
    · obtain ⟨g6, H7⟩ := grd_inv H5
      have h8 : (mgetD (⟨o, rel⟩ : GRef) [] x.subs).length ≤ 4294967296 := of_decide_eq_true g6
      have q9 : 0 < (mgetD (⟨o, rel⟩ : GRef) [] x.subs).length := by have := of_decide_eq_false c4; omega
      refine Z1 (Y3 c1 h3 c4) ?_
      refine onCallD_det (ids' := []) (v := .so 15 1 0 (mgetD (⟨o, rel⟩ : GRef) [] x.subs).length) (δ := [(15, .rw (List.map eGSub (mgetD (⟨o, rel⟩ : GRef) [] x.subs)) 3 1 false false)]) (nx' := 19) (fun hp1 _ => InlOK.mono (cl20_in (mgetD (⟨o, rel⟩ : GRef) [] x.subs) q9 h8) fun v2 hp2 nx2 e => e) ?_
      refine Z1 (Y4 c1 h3 c4 h8) ?_
      refine Rd_endF (by rfl) ?_
      refine Z1 (Y4 c1 h3 c4 h8) ?_
      obtain rfl := Zi H7
      exact ZE1 (Y4 c1 h3 c4 h8)
  · have h13 : lookA (true, [.string, .string, .string]) (.agg #[.string o.type_, .string o.id_, .string rel]) (.v (.slice none 0 0)) false (dEnts true (encMp kGRef false (eL eGSub) x.subs)) = some (.v (.slice none 0 0), []) := lookD_not (b := true) (ag := false) (enc := (eL eGSub)) key_GRef (⟨o, rel⟩ : GRef) x.subs _ c1
    refine Z1 (Y2 c1 h13) ?_
    refine onCallD_det (ids' := []) (v := .v (.slice none 0 0)) (δ := []) (nx' := 16) (fun hp1 _ => InlOK.mono cl20_n fun v2 hp2 nx2 e => e) ?_
    refine Z1 (Y2 c1 h13) ?_
    refine Rd_endF (by rfl) ?_
    refine Z1 (Y2 c1 h13) ?_
    obtain rfl := Zi H2
    exact ZE0
theorem cl21_0 (xs : List GRef) (h : decide (xs.length = 0) = true) : PureOK Try.prog 21 [.sl (List.map eGRef xs)] (.sl []) true := by
  rw [List.eq_nil_of_length_eq_zero (of_decide_eq_true h)]
  exact clone_nil tab_ok fol Try.func21 (T := 50) (B := 4) rfl (by kernel_rfl) (by kernel_rfl) (by decide) rfl (by simp only [go_sem]) (by simp only [go_sem]) (by simp only [go_sem]; decide) (by simp only [go_sem]; decide)
theorem cl21_in (xs : List GRef) (h0 : 0 < xs.length) (hn : xs.length ≤ 4294967296) {b : Bool} {hp : Hp} {nx : Nat} : InlOK Try.prog 21 [.d (.sl (List.map eGRef xs)) b] hp nx fun v hp2 nx2 => v = .so (nx + 3) 1 0 xs.length ∧ hp2 = upd (nx + 3) (some (.rw (List.map eGRef xs) 3 1 false false)) hp ∧ nx2 = nx + 7 := by
  have h := clone_map (e := eGRef) (k := 3) (b := b) (hp := hp) (nx := nx) tab_ok fol Try.func21 (T := 50) (B := 4) rfl (by kernel_rfl) (by kernel_rfl) (by decide) rfl (by simp only [go_sem]) (by simp only [go_sem]) (by simp only [go_sem]) (by decide) (by simp only [go_sem]; decide) (fun _ => rfl) xs h0 hn
  rw [plainR_map (f := eGRef) (fun _ => rfl), Bool.not_true, Bool.and_false] at h
  exact h
theorem cl21_n {hp : Hp} {nx : Nat} : InlOK Try.prog 21 [.v (.slice none 0 0)] hp nx fun v hp2 nx2 => v = .v (.slice none 0 0) ∧ hp2 = hp ∧ nx2 = nx + 4 := by
  refine inl_run (tab := tab) tab_ok fol Try.func21 rfl (by kernel_rfl) (by kernel_rfl) (by simp [Try.f21]) ?_
  simp -implicitDefEqProofs only [go_sem, Nat.reduceEqDiff, Nat.reduceAdd, Nat.reduceLeDiff, reduceCtorEq, ↓reduceIte]
  exact end_ret (v := .v (.slice none 0 0)) (by simp -implicitDefEqProofs only [go_sem, ↓reduceIte, Try.f21] <;> rfl) ⟨rfl, rfl, rfl⟩
def look_right_Objs (n : Nat) (x : LookRight) (s : GSub) : Option (List GRef) :=
  (if (mhas s x.refs) then
    (if (decide ((mgetD s [] x.refs).length = 0)) then
      some []
    else
      grd (decide ((mgetD s [] x.refs).length ≤ 4294967296)) <|
      some (mgetD s [] x.refs))
  else
    some [])
theorem look_right_Objs_ok {n : Nat} {x : LookRight} {s : GSub} {r : List GRef} (H : look_right_Objs n x s = some r) : PureOK Try.prog 13 [D.pt (eLookRight x) 0, D.ag (eGSub s)] (D.sl (List.map eGRef r)) true := by
  unfold look_right_Objs at H
  refine ZP tab_ok fol (rs := #[.tmp 4]) Try.func13 ?_
  refine ZT 1 ?_
  refine Z0 ?_
  rcases ite_inv H with ⟨c1, H2⟩ | ⟨c1, H2⟩
  · have h3 : lookA (true, [.string, .string, .string]) (.agg #[.string s.type_, .string s.id_, .string s.rel]) (.v (.slice none 0 0)) false (dEnts true (encMp kGSub false (eL eGRef) x.refs)) = some (.d (.sl (List.map eGRef (mgetD s [] x.refs))) true, []) := lookD_has (b := true) (ag := false) (enc := (eL eGRef)) key_GSub s ([] : List GRef) x.refs _ c1
    refine Z1 (Y2 c1 h3) ?_
    rcases ite_inv H2 with ⟨c4, H5⟩ | ⟨c4, H5⟩
    · refine Z1 (Y3 c1 h3 c4) ?_
      refine ZD0 (cl21_0 (mgetD s [] x.refs) c4) ?_
      refine Z1 (Y3 c1 h3 c4) ?_
      refine Rd_endF (by rfl) ?_
      refine Z1 (Y3 c1 h3 c4) ?_
      obtain rfl := Zi H5
      exact ZE0
    · obtain ⟨g6, H7⟩ := grd_inv H5
      have h8 : (mgetD s [] x.refs).length ≤ 4294967296 := of_decide_eq_true g6
      have q9 : 0 < (mgetD s [] x.refs).length := by have := of_decide_eq_false c4; omega
      refine Z1 (Y3 c1 h3 c4) ?_
      refine onCallD_det (ids' := []) (v := .so 13 1 0 (mgetD s [] x.refs).length) (δ := [(13, .rw (List.map eGRef (mgetD s [] x.refs)) 3 1 false false)]) (nx' := 17) (fun hp1 _ => InlOK.mono (cl21_in (mgetD s [] x.refs) q9 h8) fun v2 hp2 nx2 e => e) ?_
      refine Z1 (Y4 c1 h3 c4 h8) ?_
      refine Rd_endF (by rfl) ?_
      refine Z1 (Y4 c1 h3 c4 h8) ?_
      obtain rfl := Zi H7
      exact ZE1 (Y4 c1 h3 c4 h8)
  · have h13 : lookA (true, [.string, .string, .string]) (.agg #[.string s.type_, .string s.id_, .string s.rel]) (.v (.slice none 0 0)) false (dEnts true (encMp kGSub false (eL eGRef) x.refs)) = some (.v (.slice none 0 0), []) := lookD_not (b := true) (ag := false) (enc := (eL eGRef)) key_GSub s x.refs _ c1
    refine Z1 (Y2 c1 h13) ?_
    refine onCallD_det (ids' := []) (v := .v (.slice none 0 0)) (δ := []) (nx' := 14) (fun hp1 _ => InlOK.mono cl21_n fun v2 hp2 nx2 e => e) ?_
    refine Z1 (Y2 c1 h13) ?_
    refine Rd_endF (by rfl) ?_
    refine Z1 (Y2 c1 h13) ?_
    obtain rfl := Zi H2
    exact ZE0
def law5_LookParts_L1 (n : Nat) (t24 : GTuple) (t93 : List GSub) : Nat → Int → Option ((Unit) ⊕ Bool)
  | 0, _ => none
  | c + 1, t17 =>
    (if (decide (t17 < (t93.length : Int))) then
      (idx t93 t17).bind fun x2 =>
      (if ((x2.type_ == t24.sub_.type_) && ((x2.id_ == t24.sub_.id_) && (x2.rel == t24.sub_.rel))) then
        some (.inr false)
      else
        law5_LookParts_L1 n t24 t93 c (IntKind.i64.wrap (t17 + 1)))
    else
      some (.inl ()))
def law5_LookParts_L1_f (n : Nat) (t24 : GTuple) (t93 : List GSub) (st : Unit) (x2 : GSub) (k : Unit → Option ((Unit) ⊕ Bool)) : Option ((Unit) ⊕ Bool) :=
  match st with
  | _ =>
    (if ((x2.type_ == t24.sub_.type_) && ((x2.id_ == t24.sub_.id_) && (x2.rel == t24.sub_.rel))) then
      some (.inr false)
    else
      k ())
def law5_LookParts_L1_e (n : Nat) (t24 : GTuple) (t93 : List GSub) (st : Unit) : Option ((Unit) ⊕ Bool) :=
  match st with
  | _ => some (.inl ())
theorem law5_LookParts_L1_list (n : Nat) (t24 : GTuple) (t93 : List GSub) (hx : t93.length < 4611686018427387904) (c : Nat) (st : Unit) (ix : Nat) (hi : ix ≤ t93.length) (hc : t93.length - ix < c) : law5_LookParts_L1 n t24 t93 c (match st, (ix : Int) with | _, ix => ix) = foldK (law5_LookParts_L1_f n t24 t93) (law5_LookParts_L1_e n t24 t93) (t93.drop ix) st :=
  loop_list (fun c st ix => law5_LookParts_L1 n t24 t93 c (match st, ix with | _, ix => ix)) t93 (law5_LookParts_L1_f n t24 t93) (law5_LookParts_L1_e n t24 t93) (fun _ _ _ => rfl) hx c st ix hi hc

def law5_LookParts (n : Nat) (t0 : List Int) (t1 : List Int) (t2 : Int) : Option Bool :=
  (law2_Tames n t0).bind fun t20 =>
  (law2_Tames n t1).bind fun t22 =>
  (law2_Tame n t2).bind fun t24 =>
  (look_Of n t20).bind fun t26 =>
  (look_Of n t22).bind fun t28 =>
  (app [] t20).bind fun l =>
  (app t20 t22).bind fun l2 =>
  (look_Of n l2).bind fun t34 =>
  (ref1_Minus n t20 [t24]).bind fun t38 =>
  (look_Of n t38).bind fun t39 =>
  (
    some () : Option (Unit)).bind fun _ =>
  (
    (look_Types n t26 t24.obj.type_).bind fun t60 =>
    (if (decide (t60.length = 0)) then
      (look_Types n t28 t24.obj.type_).bind fun t67 =>
      (if (decide (t67.length = 0)) then
        (ref1_Texts n []).bind fun t69 =>
        some t69
      else
        (app [] t67).bind fun l3 =>
        (ref1_Texts n t67).bind fun t692 =>
        some t692)
    else
      (look_Types n t28 t24.obj.type_).bind fun t672 =>
      (if (decide (t672.length = 0)) then
        (app t60 []).bind fun l4 =>
        (ref1_Texts n l4).bind fun t693 =>
        some t693
      else
        (app t60 t672).bind fun l5 =>
        (ref1_Texts n l5).bind fun t694 =>
        some t694)) : Option (List ByteArray)).bind fun t14 =>
  (
    (look_Users n t26 t24.sub_.type_).bind fun t76 =>
    (if (decide (t76.length = 0)) then
      (look_Users n t28 t24.sub_.type_).bind fun t83 =>
      (if (decide (t83.length = 0)) then
        (ref1_Texts n []).bind fun t85 =>
        some t85
      else
        (app [] t83).bind fun l6 =>
        (ref1_Texts n t83).bind fun t852 =>
        some t852)
    else
      (look_Users n t28 t24.sub_.type_).bind fun t832 =>
      (if (decide (t832.length = 0)) then
        (app t76 []).bind fun l7 =>
        (ref1_Texts n l7).bind fun t853 =>
        some t853
      else
        (app t76 t832).bind fun l8 =>
        (ref1_Texts n l8).bind fun t854 =>
        some t854)) : Option (List ByteArray)).bind fun t15 =>
  (look_left_Subs n t39.left t24.obj t24.rel).bind fun t93 =>
  (
    law5_LookParts_L1 n t24 t93 n 0 : Option ((Unit) ⊕ Bool)).bind fun
    | .inl _ =>
      (look_left_Subs n t26.left t24.obj t24.rel).bind fun t114 =>
      (look_Types n t34 t24.obj.type_).bind fun t125 =>
      (if (decide (t125.length = 0)) then
        (ref1_SameTexts n [] t14).bind fun t127 =>
        (if t127 then
          (look_Users n t34 t24.sub_.type_).bind fun t135 =>
          (if (decide (t135.length = 0)) then
            (ref1_SameTexts n [] t15).bind fun t137 =>
            (if t137 then
              (if (decide (0 ≤ (IntKind.i64.wrap ((t114.length : Int) - (t93.length : Int))))) then
                (if (decide ((IntKind.i64.wrap ((t114.length : Int) - (t93.length : Int))) ≤ 1)) then
                  (look_right_Objs n t26.right t24.sub_).bind fun t153 =>
                  (look_right_Objs n t39.right t24.sub_).bind fun t160 =>
                  (if ((IntKind.i64.wrap ((t153.length : Int) - (t160.length : Int))) == (IntKind.i64.wrap ((t114.length : Int) - (t93.length : Int)))) then
                    (law5_awake n).bind fun t167 =>
                    some t167
                  else
                    some false)
                else
                  some false)
              else
                some false)
            else
              some false)
          else
            (ref1_SameTexts n t135 t15).bind fun t1372 =>
            (if t1372 then
              (if (decide (0 ≤ (IntKind.i64.wrap ((t114.length : Int) - (t93.length : Int))))) then
                (if (decide ((IntKind.i64.wrap ((t114.length : Int) - (t93.length : Int))) ≤ 1)) then
                  (look_right_Objs n t26.right t24.sub_).bind fun t1532 =>
                  (look_right_Objs n t39.right t24.sub_).bind fun t1602 =>
                  (if ((IntKind.i64.wrap ((t1532.length : Int) - (t1602.length : Int))) == (IntKind.i64.wrap ((t114.length : Int) - (t93.length : Int)))) then
                    (law5_awake n).bind fun t1672 =>
                    some t1672
                  else
                    some false)
                else
                  some false)
              else
                some false)
            else
              some false))
        else
          some false)
      else
        (ref1_SameTexts n t125 t14).bind fun t1272 =>
        (if t1272 then
          (look_Users n t34 t24.sub_.type_).bind fun t1352 =>
          (if (decide (t1352.length = 0)) then
            (ref1_SameTexts n [] t15).bind fun t1373 =>
            (if t1373 then
              (if (decide (0 ≤ (IntKind.i64.wrap ((t114.length : Int) - (t93.length : Int))))) then
                (if (decide ((IntKind.i64.wrap ((t114.length : Int) - (t93.length : Int))) ≤ 1)) then
                  (look_right_Objs n t26.right t24.sub_).bind fun t1533 =>
                  (look_right_Objs n t39.right t24.sub_).bind fun t1603 =>
                  (if ((IntKind.i64.wrap ((t1533.length : Int) - (t1603.length : Int))) == (IntKind.i64.wrap ((t114.length : Int) - (t93.length : Int)))) then
                    (law5_awake n).bind fun t1673 =>
                    some t1673
                  else
                    some false)
                else
                  some false)
              else
                some false)
            else
              some false)
          else
            (ref1_SameTexts n t1352 t15).bind fun t1374 =>
            (if t1374 then
              (if (decide (0 ≤ (IntKind.i64.wrap ((t114.length : Int) - (t93.length : Int))))) then
                (if (decide ((IntKind.i64.wrap ((t114.length : Int) - (t93.length : Int))) ≤ 1)) then
                  (look_right_Objs n t26.right t24.sub_).bind fun t1534 =>
                  (look_right_Objs n t39.right t24.sub_).bind fun t1604 =>
                  (if ((IntKind.i64.wrap ((t1534.length : Int) - (t1604.length : Int))) == (IntKind.i64.wrap ((t114.length : Int) - (t93.length : Int)))) then
                    (law5_awake n).bind fun t1674 =>
                    some t1674
                  else
                    some false)
                else
                  some false)
              else
                some false)
            else
              some false))
        else
          some false))
    | .inr r => some r
set_option maxHeartbeats 8000000 in
theorem law5_LookParts_ok {n : Nat} {t0 : List Int} {t1 : List Int} {t2 : Int} {r : Bool} (H : law5_LookParts n t0 t1 t2 = some r) : PureOK Try.prog 3 [D.sl (List.map eI t0), D.sl (List.map eI t1), D.v (.int .i64 t2)] (D.v (.bool r)) true := by
  unfold law5_LookParts at H
  refine ZP tab_ok fol (rs := #[.tmp 6]) Try.func3 ?_
  refine runR_seq ?_
  refine ZT 1 ?_
  refine Z0 ?_
  refine runR_seq ?_
  refine ZT 1 ?_
  obtain ⟨t20, b1, H2⟩ := bind_inv H
  refine Z0 ?_
  refine ZC0 (law2_Tames_ok b1) ?_
  obtain ⟨t22, b3, H4⟩ := bind_inv H2
  refine Z0 ?_
  refine ZC0 (law2_Tames_ok b3) ?_
  obtain ⟨t24, b5, H6⟩ := bind_inv H4
  refine Z0 ?_
  refine ZC0 (law2_Tame_ok b5) ?_
  refine Z0 ?_
  refine runR_seq ?_
  refine ZT 1 ?_
  obtain ⟨t26, b7, H8⟩ := bind_inv H6
  refine Z0 ?_
  refine ZA0 (look_Of_ok b7) ?_
  obtain ⟨t28, b9, H10⟩ := bind_inv H8
  refine Z0 ?_
  refine ZA0 (look_Of_ok b9) ?_
  obtain ⟨l, b11, H12⟩ := bind_inv H10
  obtain ⟨h13, h14⟩ := app_inv b11
  have h14 : t20 = l := h14
  subst h14
  have h13 : t20.length ≤ 4294967296 := by have := h13; simpa using this
  obtain ⟨l2, b17, H18⟩ := bind_inv H12
  obtain ⟨h19, h20⟩ := app_inv b17
  have h19 : t20.length + t22.length ≤ 4294967296 := h19
  have h21 : List.map eGTuple t20 ++ List.map eGTuple t22 = List.map eGTuple l2 := app_map eGTuple h20
  have h22 : t20.length + t22.length = l2.length := app_len h20
  have h23 : l2.length ≤ 4294967296 := by omega
  obtain ⟨t34, b24, H25⟩ := bind_inv H18
  refine Z1 (Y2 (Y6 (chk_map (n := 6) (f := eGTuple) (fun _ => rfl) t20) h13 (chk_map (n := 6) (f := eGTuple) (fun _ => rfl) t22) h19 h21 h22) h23) ?_
  refine ZA1 (Y2 (Y6 (chk_map (n := 6) (f := eGTuple) (fun _ => rfl) t20) h13 (chk_map (n := 6) (f := eGTuple) (fun _ => rfl) t22) h19 h21 h22) h23) (look_Of_ok b24) ?_
  refine Z1 (Y2 (Y6 (chk_map (n := 6) (f := eGTuple) (fun _ => rfl) t20) h13 (chk_map (n := 6) (f := eGTuple) (fun _ => rfl) t22) h19 h21 h22) h23) ?_
  refine runR_seq ?_
  refine ZT 1 ?_
  obtain ⟨t38, b26, H27⟩ := bind_inv H25
  refine Z1 (Y2 (Y6 (chk_map (n := 6) (f := eGTuple) (fun _ => rfl) t20) h13 (chk_map (n := 6) (f := eGTuple) (fun _ => rfl) t22) h19 h21 h22) h23) ?_
  refine ZC1 (Y2 (Y6 (chk_map (n := 6) (f := eGTuple) (fun _ => rfl) t20) h13 (chk_map (n := 6) (f := eGTuple) (fun _ => rfl) t22) h19 h21 h22) h23) (ref1_Minus_ok b26) ?_
  obtain ⟨t39, b28, H29⟩ := bind_inv H27
  refine Z1 (Y2 (Y6 (chk_map (n := 6) (f := eGTuple) (fun _ => rfl) t20) h13 (chk_map (n := 6) (f := eGTuple) (fun _ => rfl) t22) h19 h21 h22) h23) ?_
  refine ZA0 (look_Of_ok b28) ?_
  refine Z1 (Y2 (Y6 (chk_map (n := 6) (f := eGTuple) (fun _ => rfl) t20) h13 (chk_map (n := 6) (f := eGTuple) (fun _ => rfl) t22) h19 h21 h22) h23) ?_
  refine runR_seq ?_
  refine runR_seq ?_
  obtain ⟨e_, E30, H31⟩ := bind_inv H29
  refine runR_join (α := { y : Unit // e_ = y }) (fun | ⟨_, _⟩ => ⟨upd 9 (.pt 0 0) (upd 10 (.d (.pt [.mp (encMp kGRef false (eL eGSub) t26.left.subs), .mp (encMp Value.string false (eL eS) t26.left.objs), .mp (encMp kGSub false (eL eGRef) t26.right.refs), .mp (encMp Value.string false (eL eS) t26.right.users)] 0) false) (upd 11 (.d (.pt [.mp (encMp kGRef false (eL eGSub) t28.left.subs), .mp (encMp Value.string false (eL eS) t28.left.objs), .mp (encMp kGSub false (eL eGRef) t28.right.refs), .mp (encMp Value.string false (eL eS) t28.right.users)] 0) false) (upd 12 (.d (.pt [.mp (encMp kGRef false (eL eGSub) t34.left.subs), .mp (encMp Value.string false (eL eS) t34.left.objs), .mp (encMp kGSub false (eL eGRef) t34.right.refs), .mp (encMp Value.string false (eL eS) t34.right.users)] 0) false) (upd 13 (.d (.pt [.mp (encMp kGRef false (eL eGSub) t39.left.subs), .mp (encMp Value.string false (eL eS) t39.left.objs), .mp (encMp kGSub false (eL eGRef) t39.right.refs), .mp (encMp Value.string false (eL eS) t39.right.users)] 0) false) (upd 53 (.v (.bool false)) noFr))))), upd 0 (some (.bx [.v (.string t24.obj.type_), .v (.string t24.obj.id_), .v (.string t24.rel), .v (.string t24.sub_.type_), .v (.string t24.sub_.id_), .v (.string t24.sub_.rel)])) noHp, 1⟩) ?_ ?_
  · refine ZT 1 ?_
    refine Z0 ?_
    obtain rfl := Zi E30
    exact ⟨⟨(), rfl⟩, ZR [(0, 7)]⟩
  · rintro ⟨_, he293⟩
    replace he293 := he293.symm
    subst he293
    try dsimp only at H31
    refine ZT 1 ?_
    refine Z0 ?_
    refine runR_seq ?_
    obtain ⟨e_2, E32, H33⟩ := bind_inv H31
    refine runR_join (α := { y : List ByteArray // e_2 = y }) (fun | ⟨t14, _⟩ => ⟨upd 9 (.pt 0 0) (upd 10 (.d (.pt [.mp (encMp kGRef false (eL eGSub) t26.left.subs), .mp (encMp Value.string false (eL eS) t26.left.objs), .mp (encMp kGSub false (eL eGRef) t26.right.refs), .mp (encMp Value.string false (eL eS) t26.right.users)] 0) false) (upd 11 (.d (.pt [.mp (encMp kGRef false (eL eGSub) t28.left.subs), .mp (encMp Value.string false (eL eS) t28.left.objs), .mp (encMp kGSub false (eL eGRef) t28.right.refs), .mp (encMp Value.string false (eL eS) t28.right.users)] 0) false) (upd 12 (.d (.pt [.mp (encMp kGRef false (eL eGSub) t34.left.subs), .mp (encMp Value.string false (eL eS) t34.left.objs), .mp (encMp kGSub false (eL eGRef) t34.right.refs), .mp (encMp Value.string false (eL eS) t34.right.users)] 0) false) (upd 13 (.d (.pt [.mp (encMp kGRef false (eL eGSub) t39.left.subs), .mp (encMp Value.string false (eL eS) t39.left.objs), .mp (encMp kGSub false (eL eGRef) t39.right.refs), .mp (encMp Value.string false (eL eS) t39.right.users)] 0) false) (upd 14 (.d (.sl (List.map eS t14)) false) noFr))))), upd 0 (some (.bx [.v (.string t24.obj.type_), .v (.string t24.obj.id_), .v (.string t24.rel), .v (.string t24.sub_.type_), .v (.string t24.sub_.id_), .v (.string t24.sub_.rel)])) noHp, 1⟩) ?_ ?_
    · refine ZT 1 ?_
      obtain ⟨t60, b34, H35⟩ := bind_inv E32
      refine Z0 ?_
      rcases ite_inv H35 with ⟨c36, H37⟩ | ⟨c36, H37⟩
      · refine Z1 c36 ?_
        refine onCallD_det (ids' := []) (v := .v (.slice none 0 0)) (δ := []) (nx' := 40) (fun hp1 _ => InlOK.mono (look_Types_nil b34 c36) fun v2 hp2 nx2 e => e) ?_
        obtain ⟨t67, b41, H42⟩ := bind_inv H37
        refine Z1 c36 ?_
        rcases ite_inv H42 with ⟨c43, H44⟩ | ⟨c43, H44⟩
        · refine Z1 (Y2 c36 c43) ?_
          refine onCallD_det (ids' := []) (v := .v (.slice none 0 0)) (δ := []) (nx' := 62) (fun hp1 _ => InlOK.mono (look_Types_nil b41 c43) fun v2 hp2 nx2 e => e) ?_
          obtain ⟨t69, b48, H49⟩ := bind_inv H44
          refine Z1 (Y2 c36 c43) ?_
          refine ZD0 (ref1_Texts_ok b48) ?_
          refine Z1 (Y2 c36 c43) ?_
          refine Rd_endF (by rfl) ?_
          refine Z1 (Y2 c36 c43) ?_
          obtain rfl := Zi H49
          exact ⟨⟨t69, rfl⟩, ZR [(0, 0)]⟩
        · have q53 : 0 < t67.length := by have := of_decide_eq_false c43; omega
          refine Z1 (Y2 c36 c43) ?_
          refine onCallD_det (ids' := []) (v := .so 56 2 0 t67.length) (δ := [(56, .rw (List.map eS t67) 1 2 false false)]) (nx' := 65) (fun hp1 _ => InlOK.mono (look_Types_in b41 q53) fun v2 hp2 nx2 e => e) ?_
          obtain ⟨l3, b54, H55⟩ := bind_inv H44
          obtain ⟨h56, h57⟩ := app_inv b54
          have h57 : t67 = l3 := h57
          subst h57
          have h56 : t67.length ≤ 4294967296 := by have := h56; simpa using this
          obtain ⟨t692, b58, H59⟩ := bind_inv H55
          refine Z1 (Y4 c36 c43 (chk_map (n := 1) (f := eS) (fun _ => rfl) t67) h56) ?_
          refine ZD1 (Y4 c36 c43 (chk_map (n := 1) (f := eS) (fun _ => rfl) t67) h56) (ref1_Texts_ok b58) ?_
          refine Z1 (Y4 c36 c43 (chk_map (n := 1) (f := eS) (fun _ => rfl) t67) h56) ?_
          refine Rd_endF (by rfl) ?_
          refine Z1 (Y4 c36 c43 (chk_map (n := 1) (f := eS) (fun _ => rfl) t67) h56) ?_
          obtain rfl := Zi H59
          exact ⟨⟨t692, rfl⟩, ZR [(0, 0)]⟩
      · have q63 : 0 < t60.length := by have := of_decide_eq_false c36; omega
        refine Z1 c36 ?_
        refine onCallD_det (ids' := []) (v := .so 34 2 0 t60.length) (δ := [(34, .rw (List.map eS t60) 1 2 false false)]) (nx' := 43) (fun hp1 _ => InlOK.mono (look_Types_in b34 q63) fun v2 hp2 nx2 e => e) ?_
        obtain ⟨t672, b64, H65⟩ := bind_inv H37
        refine Z1 c36 ?_
        rcases ite_inv H65 with ⟨c66, H67⟩ | ⟨c66, H67⟩
        · refine Z1 (Y2 c36 c66) ?_
          refine onCallD_det (ids' := []) (v := .v (.slice none 0 0)) (δ := []) (nx' := 65) (fun hp1 _ => InlOK.mono (look_Types_nil b64 c66) fun v2 hp2 nx2 e => e) ?_
          obtain ⟨l4, b71, H72⟩ := bind_inv H67
          obtain ⟨h73, h74⟩ := app_inv b71
          have h73 : t60.length + 0 ≤ 4294967296 := h73
          have h75 : List.map eS t60 ++ [] = List.map eS l4 := app_map eS h74
          have h76 : t60.length + 0 = l4.length := app_len h74
          have h77 : l4.length ≤ 4294967296 := by omega
          have q78 : 0 < l4.length := by omega
          obtain ⟨t693, b79, H80⟩ := bind_inv H72
          refine Z1 (Y6 c36 c66 h73 h75 h76 h77) ?_
          refine ZD1 (Y6 c36 c66 h73 h75 h76 h77) (ref1_Texts_ok b79) ?_
          refine Z1 (Y6 c36 c66 h73 h75 h76 h77) ?_
          refine Rd_endF (by rfl) ?_
          refine Z1 (Y6 c36 c66 h73 h75 h76 h77) ?_
          obtain rfl := Zi H80
          exact ⟨⟨t693, rfl⟩, ZR [(0, 0)]⟩
        · have q84 : 0 < t672.length := by have := of_decide_eq_false c66; omega
          refine Z1 (Y2 c36 c66) ?_
          refine onCallD_det (ids' := []) (v := .so 59 2 0 t672.length) (δ := [(59, .rw (List.map eS t672) 1 2 false false)]) (nx' := 68) (fun hp1 _ => InlOK.mono (look_Types_in b64 q84) fun v2 hp2 nx2 e => e) ?_
          obtain ⟨l5, b85, H86⟩ := bind_inv H67
          obtain ⟨h87, h88⟩ := app_inv b85
          have h87 : t60.length + t672.length ≤ 4294967296 := h87
          have h89 : List.map eS t60 ++ List.map eS t672 = List.map eS l5 := app_map eS h88
          have h90 : t60.length + t672.length = l5.length := app_len h88
          have h91 : l5.length ≤ 4294967296 := by omega
          have q92 : 0 < l5.length := by omega
          obtain ⟨t694, b93, H94⟩ := bind_inv H86
          refine Z1 (Y2 (Y6 c36 c66 (chk_map (n := 1) (f := eS) (fun _ => rfl) t672) h87 h89 h90) h91) ?_
          refine ZD1 (Y2 (Y6 c36 c66 (chk_map (n := 1) (f := eS) (fun _ => rfl) t672) h87 h89 h90) h91) (ref1_Texts_ok b93) ?_
          refine Z1 (Y2 (Y6 c36 c66 (chk_map (n := 1) (f := eS) (fun _ => rfl) t672) h87 h89 h90) h91) ?_
          refine Rd_endF (by rfl) ?_
          refine Z1 (Y2 (Y6 c36 c66 (chk_map (n := 1) (f := eS) (fun _ => rfl) t672) h87 h89 h90) h91) ?_
          obtain rfl := Zi H94
          exact ⟨⟨t694, rfl⟩, ZR [(0, 0)]⟩
    · rintro ⟨t14, he292⟩
      replace he292 := he292.symm
      subst he292
      try dsimp only at H33
      refine runR_seq ?_
      obtain ⟨e_3, E95, H96⟩ := bind_inv H33
      refine runR_join (α := { y : List ByteArray // e_3 = y }) (fun | ⟨t15, _⟩ => ⟨upd 9 (.pt 0 0) (upd 10 (.d (.pt [.mp (encMp kGRef false (eL eGSub) t26.left.subs), .mp (encMp Value.string false (eL eS) t26.left.objs), .mp (encMp kGSub false (eL eGRef) t26.right.refs), .mp (encMp Value.string false (eL eS) t26.right.users)] 0) false) (upd 12 (.d (.pt [.mp (encMp kGRef false (eL eGSub) t34.left.subs), .mp (encMp Value.string false (eL eS) t34.left.objs), .mp (encMp kGSub false (eL eGRef) t34.right.refs), .mp (encMp Value.string false (eL eS) t34.right.users)] 0) false) (upd 13 (.d (.pt [.mp (encMp kGRef false (eL eGSub) t39.left.subs), .mp (encMp Value.string false (eL eS) t39.left.objs), .mp (encMp kGSub false (eL eGRef) t39.right.refs), .mp (encMp Value.string false (eL eS) t39.right.users)] 0) false) (upd 14 (.d (.sl (List.map eS t14)) false) (upd 15 (.d (.sl (List.map eS t15)) false) noFr))))), upd 0 (some (.bx [.v (.string t24.obj.type_), .v (.string t24.obj.id_), .v (.string t24.rel), .v (.string t24.sub_.type_), .v (.string t24.sub_.id_), .v (.string t24.sub_.rel)])) noHp, 1⟩) ?_ ?_
      · refine ZT 1 ?_
        obtain ⟨t76, b97, H98⟩ := bind_inv E95
        refine Z0 ?_
        rcases ite_inv H98 with ⟨c99, H100⟩ | ⟨c99, H100⟩
        · refine Z1 c99 ?_
          refine onCallD_det (ids' := []) (v := .v (.slice none 0 0)) (δ := []) (nx' := 40) (fun hp1 _ => InlOK.mono (look_Users_nil b97 c99) fun v2 hp2 nx2 e => e) ?_
          obtain ⟨t83, b104, H105⟩ := bind_inv H100
          refine Z1 c99 ?_
          rcases ite_inv H105 with ⟨c106, H107⟩ | ⟨c106, H107⟩
          · refine Z1 (Y2 c99 c106) ?_
            refine onCallD_det (ids' := []) (v := .v (.slice none 0 0)) (δ := []) (nx' := 62) (fun hp1 _ => InlOK.mono (look_Users_nil b104 c106) fun v2 hp2 nx2 e => e) ?_
            obtain ⟨t85, b111, H112⟩ := bind_inv H107
            refine Z1 (Y2 c99 c106) ?_
            refine ZD0 (ref1_Texts_ok b111) ?_
            refine Z1 (Y2 c99 c106) ?_
            refine Rd_endF (by rfl) ?_
            refine Z1 (Y2 c99 c106) ?_
            obtain rfl := Zi H112
            exact ⟨⟨t85, rfl⟩, ZR [(0, 0)]⟩
          · have q116 : 0 < t83.length := by have := of_decide_eq_false c106; omega
            refine Z1 (Y2 c99 c106) ?_
            refine onCallD_det (ids' := []) (v := .so 56 2 0 t83.length) (δ := [(56, .rw (List.map eS t83) 1 2 false false)]) (nx' := 65) (fun hp1 _ => InlOK.mono (look_Users_in b104 q116) fun v2 hp2 nx2 e => e) ?_
            obtain ⟨l6, b117, H118⟩ := bind_inv H107
            obtain ⟨h119, h120⟩ := app_inv b117
            have h120 : t83 = l6 := h120
            subst h120
            have h119 : t83.length ≤ 4294967296 := by have := h119; simpa using this
            obtain ⟨t852, b121, H122⟩ := bind_inv H118
            refine Z1 (Y4 c99 c106 (chk_map (n := 1) (f := eS) (fun _ => rfl) t83) h119) ?_
            refine ZD1 (Y4 c99 c106 (chk_map (n := 1) (f := eS) (fun _ => rfl) t83) h119) (ref1_Texts_ok b121) ?_
            refine Z1 (Y4 c99 c106 (chk_map (n := 1) (f := eS) (fun _ => rfl) t83) h119) ?_
            refine Rd_endF (by rfl) ?_
            refine Z1 (Y4 c99 c106 (chk_map (n := 1) (f := eS) (fun _ => rfl) t83) h119) ?_
            obtain rfl := Zi H122
            exact ⟨⟨t852, rfl⟩, ZR [(0, 0)]⟩
        · have q126 : 0 < t76.length := by have := of_decide_eq_false c99; omega
          refine Z1 c99 ?_
          refine onCallD_det (ids' := []) (v := .so 34 2 0 t76.length) (δ := [(34, .rw (List.map eS t76) 1 2 false false)]) (nx' := 43) (fun hp1 _ => InlOK.mono (look_Users_in b97 q126) fun v2 hp2 nx2 e => e) ?_
          obtain ⟨t832, b127, H128⟩ := bind_inv H100
          refine Z1 c99 ?_
          rcases ite_inv H128 with ⟨c129, H130⟩ | ⟨c129, H130⟩
          · refine Z1 (Y2 c99 c129) ?_
            refine onCallD_det (ids' := []) (v := .v (.slice none 0 0)) (δ := []) (nx' := 65) (fun hp1 _ => InlOK.mono (look_Users_nil b127 c129) fun v2 hp2 nx2 e => e) ?_
            obtain ⟨l7, b134, H135⟩ := bind_inv H130
            obtain ⟨h136, h137⟩ := app_inv b134
            have h136 : t76.length + 0 ≤ 4294967296 := h136
            have h138 : List.map eS t76 ++ [] = List.map eS l7 := app_map eS h137
            have h139 : t76.length + 0 = l7.length := app_len h137
            have h140 : l7.length ≤ 4294967296 := by omega
            have q141 : 0 < l7.length := by omega
            obtain ⟨t853, b142, H143⟩ := bind_inv H135
            refine Z1 (Y6 c99 c129 h136 h138 h139 h140) ?_
            refine ZD1 (Y6 c99 c129 h136 h138 h139 h140) (ref1_Texts_ok b142) ?_
            refine Z1 (Y6 c99 c129 h136 h138 h139 h140) ?_
            refine Rd_endF (by rfl) ?_
            refine Z1 (Y6 c99 c129 h136 h138 h139 h140) ?_
            obtain rfl := Zi H143
            exact ⟨⟨t853, rfl⟩, ZR [(0, 0)]⟩
          · have q147 : 0 < t832.length := by have := of_decide_eq_false c129; omega
            refine Z1 (Y2 c99 c129) ?_
            refine onCallD_det (ids' := []) (v := .so 59 2 0 t832.length) (δ := [(59, .rw (List.map eS t832) 1 2 false false)]) (nx' := 68) (fun hp1 _ => InlOK.mono (look_Users_in b127 q147) fun v2 hp2 nx2 e => e) ?_
            obtain ⟨l8, b148, H149⟩ := bind_inv H130
            obtain ⟨h150, h151⟩ := app_inv b148
            have h150 : t76.length + t832.length ≤ 4294967296 := h150
            have h152 : List.map eS t76 ++ List.map eS t832 = List.map eS l8 := app_map eS h151
            have h153 : t76.length + t832.length = l8.length := app_len h151
            have h154 : l8.length ≤ 4294967296 := by omega
            have q155 : 0 < l8.length := by omega
            obtain ⟨t854, b156, H157⟩ := bind_inv H149
            refine Z1 (Y2 (Y6 c99 c129 (chk_map (n := 1) (f := eS) (fun _ => rfl) t832) h150 h152 h153) h154) ?_
            refine ZD1 (Y2 (Y6 c99 c129 (chk_map (n := 1) (f := eS) (fun _ => rfl) t832) h150 h152 h153) h154) (ref1_Texts_ok b156) ?_
            refine Z1 (Y2 (Y6 c99 c129 (chk_map (n := 1) (f := eS) (fun _ => rfl) t832) h150 h152 h153) h154) ?_
            refine Rd_endF (by rfl) ?_
            refine Z1 (Y2 (Y6 c99 c129 (chk_map (n := 1) (f := eS) (fun _ => rfl) t832) h150 h152 h153) h154) ?_
            obtain rfl := Zi H157
            exact ⟨⟨t854, rfl⟩, ZR [(0, 0)]⟩
      · rintro ⟨t15, he291⟩
        replace he291 := he291.symm
        subst he291
        try dsimp only at H96
        refine runR_seq ?_
        refine ZT 1 ?_
        obtain ⟨t93, b158, H159⟩ := bind_inv H96
        refine Z0 ?_
        refine onCallD_pureX (b := true) [] (fun hp1 h1 => by exact (PW.cons (ToXA.d (ToXV.one (ToX.rbE 2 (ToX.one (b' := false) (is := []) rfl (fun _ => rfl)) (by rfl)) rfl)) (PW.cons (ToXA.d (ToXV.agP (PW.cons (ToX.one (b' := false) (is := []) rfl (fun _ => rfl)) (PW.cons (ToX.one (b' := false) (is := []) rfl (fun _ => rfl)) PW.nil)))) (PW.cons (ToXA.d (ToXV.one (ToX.one (b' := false) (is := []) rfl (fun _ => rfl)) rfl)) PW.nil)))) (PureA.of_pure (look_left_Subs_ok b158)) ?_
        refine Z0 ?_
        refine Rd_endF (by rfl) ?_
        refine Z0 ?_
        refine runR_seq ?_
        refine runR_seq ?_
        refine ZT 1 ?_
        refine Z0 ?_
        obtain ⟨e_4, E160, H161⟩ := bind_inv H159
        refine runR_join (α := { y : Unit // e_4 = .inl y }) (fun | ⟨_, _⟩ => ⟨upd 9 (.pt 0 0) (upd 10 (.d (.pt [.mp (encMp kGRef false (eL eGSub) t26.left.subs), .mp (encMp Value.string false (eL eS) t26.left.objs), .mp (encMp kGSub false (eL eGRef) t26.right.refs), .mp (encMp Value.string false (eL eS) t26.right.users)] 0) false) (upd 12 (.d (.pt [.mp (encMp kGRef false (eL eGSub) t34.left.subs), .mp (encMp Value.string false (eL eS) t34.left.objs), .mp (encMp kGSub false (eL eGRef) t34.right.refs), .mp (encMp Value.string false (eL eS) t34.right.users)] 0) false) (upd 13 (.d (.pt [.mp (encMp kGRef false (eL eGSub) t39.left.subs), .mp (encMp Value.string false (eL eS) t39.left.objs), .mp (encMp kGSub false (eL eGRef) t39.right.refs), .mp (encMp Value.string false (eL eS) t39.right.users)] 0) false) (upd 14 (.d (.sl (List.map eS t14)) false) (upd 15 (.d (.sl (List.map eS t15)) false) (upd 16 (.d (.sl (List.map eGSub t93)) false) noFr)))))), upd 0 (some (.bx [.v (.string t24.obj.type_), .v (.string t24.obj.id_), .v (.string t24.rel), .v (.string t24.sub_.type_), .v (.string t24.sub_.id_), .v (.string t24.sub_.rel)])) noHp, 1⟩) ?_ ?_
        · refine runR_block ?_
          refine runR_loop (α := { q : Nat × Int // law5_LookParts_L1 n t24 t93 q.1 q.2 = some e_4 }) (fun | ⟨⟨c, t17⟩, _⟩ => ⟨upd 9 (.pt 0 0) (upd 10 (.d (.pt [.mp (encMp kGRef false (eL eGSub) t26.left.subs), .mp (encMp Value.string false (eL eS) t26.left.objs), .mp (encMp kGSub false (eL eGRef) t26.right.refs), .mp (encMp Value.string false (eL eS) t26.right.users)] 0) false) (upd 12 (.d (.pt [.mp (encMp kGRef false (eL eGSub) t34.left.subs), .mp (encMp Value.string false (eL eS) t34.left.objs), .mp (encMp kGSub false (eL eGRef) t34.right.refs), .mp (encMp Value.string false (eL eS) t34.right.users)] 0) false) (upd 13 (.d (.pt [.mp (encMp kGRef false (eL eGSub) t39.left.subs), .mp (encMp Value.string false (eL eS) t39.left.objs), .mp (encMp kGSub false (eL eGRef) t39.right.refs), .mp (encMp Value.string false (eL eS) t39.right.users)] 0) false) (upd 14 (.d (.sl (List.map eS t14)) false) (upd 15 (.d (.sl (List.map eS t15)) false) (upd 16 (.d (.sl (List.map eGSub t93)) false) (upd 17 (.v (.int .i64 t17)) noFr))))))), upd 0 (some (.bx [.v (.string t24.obj.type_), .v (.string t24.obj.id_), .v (.string t24.rel), .v (.string t24.sub_.type_), .v (.string t24.sub_.id_), .v (.string t24.sub_.rel)])) noHp, 1⟩) (fun q => q.1.1) ⟨(n, 0), E160⟩ ?_ ?_
          · exact ZR [(0, 0)]
          · rintro ⟨⟨c, t17⟩, L162⟩
            rcases c with _ | c
            · exact nomatch (show none = some _ from L162)
            · unfold law5_LookParts_L1 at L162
              try dsimp only at L162
              refine ZT 1 ?_
              refine Z0 ?_
              rcases ite_inv L162 with ⟨c173, H174⟩ | ⟨c173, H174⟩
              · obtain ⟨x2, b175, H176⟩ := bind_inv H174
                obtain ⟨h177, h178⟩ := idx_inv b175
                try simp only [Int.reduceToNat, Int.toNat_natCast] at h178
                have h179 := map_at eGSub h178
                refine Z1 (Y3 c173 (nat_of .i64 h177) h179) ?_
                refine Rd_endF (by rfl) ?_
                refine Z1 (Y3 c173 (nat_of .i64 h177) h179) ?_
                rcases ite_inv H176 with ⟨c181, H182⟩ | ⟨c181, H182⟩
                · refine Z1 (Y4 c173 (nat_of .i64 h177) h179 c181) ?_
                  obtain rfl := Zi H182
                  obtain rfl := Zi H161
                  exact ZE0
                · refine Z1 (Y4 c173 (nat_of .i64 h177) h179 c181) ?_
                  exact ⟨⟨(c, (IntKind.i64.wrap (t17 + 1))), H182⟩, ZR [(0, 0)], Nat.lt_succ_self _⟩
              · refine Z1 c173 ?_
                obtain rfl := Zi H174
                exact ⟨⟨(), rfl⟩, ZR [(0, 0)]⟩
        · rintro ⟨_, he290⟩
          replace he290 := he290.symm
          subst he290
          try dsimp only at H161
          refine ZT 1 ?_
          obtain ⟨t114, b183, H184⟩ := bind_inv H161
          refine Z0 ?_
          refine onCallD_pureX (b := true) [] (fun hp1 h1 => by exact (PW.cons (ToXA.d (ToXV.one (ToX.rbE 2 (ToX.one (b' := false) (is := []) rfl (fun _ => rfl)) (by rfl)) rfl)) (PW.cons (ToXA.d (ToXV.agP (PW.cons (ToX.one (b' := false) (is := []) rfl (fun _ => rfl)) (PW.cons (ToX.one (b' := false) (is := []) rfl (fun _ => rfl)) PW.nil)))) (PW.cons (ToXA.d (ToXV.one (ToX.one (b' := false) (is := []) rfl (fun _ => rfl)) rfl)) PW.nil)))) (PureA.of_pure (look_left_Subs_ok b183)) ?_
          refine Z0 ?_
          refine Rd_endF (by rfl) ?_
          obtain ⟨t125, b185, H186⟩ := bind_inv H184
          refine Z0 ?_
          rcases ite_inv H186 with ⟨c187, H188⟩ | ⟨c187, H188⟩
          · refine Z1 c187 ?_
            refine onCallD_det (ids' := []) (v := .v (.slice none 0 0)) (δ := []) (nx' := 87) (fun hp1 _ => InlOK.mono (look_Types_nil b185 c187) fun v2 hp2 nx2 e => e) ?_
            obtain ⟨t127, b192, H193⟩ := bind_inv H188
            refine Z1 c187 ?_
            refine ZD0 (ref1_SameTexts_ok b192) ?_
            refine Z1 c187 ?_
            rcases ite_inv H193 with ⟨c194, H195⟩ | ⟨c194, H195⟩
            · obtain ⟨t135, b196, H197⟩ := bind_inv H195
              refine Z1 (Y2 c187 c194) ?_
              rcases ite_inv H197 with ⟨c198, H199⟩ | ⟨c198, H199⟩
              · refine Z1 (Y3 c187 c194 c198) ?_
                refine onCallD_det (ids' := []) (v := .v (.slice none 0 0)) (δ := []) (nx' := 109) (fun hp1 _ => InlOK.mono (look_Users_nil b196 c198) fun v2 hp2 nx2 e => e) ?_
                obtain ⟨t137, b203, H204⟩ := bind_inv H199
                refine Z1 (Y3 c187 c194 c198) ?_
                refine ZD0 (ref1_SameTexts_ok b203) ?_
                refine Z1 (Y3 c187 c194 c198) ?_
                rcases ite_inv H204 with ⟨c205, H206⟩ | ⟨c205, H206⟩
                · refine Z1 (Y4 c187 c194 c198 c205) ?_
                  rcases ite_inv H206 with ⟨c207, H208⟩ | ⟨c207, H208⟩
                  · refine Z1 (Y5 c187 c194 c198 c205 c207) ?_
                    rcases ite_inv H208 with ⟨c209, H210⟩ | ⟨c209, H210⟩
                    · obtain ⟨t153, b211, H212⟩ := bind_inv H210
                      refine Z1 (Y6 c187 c194 c198 c205 c207 c209) ?_
                      refine onCallD_pureX (b := true) [] (fun hp1 h1 => by exact (PW.cons (ToXA.d (ToXV.one (ToX.rbE 2 (ToX.one (b' := false) (is := []) rfl (fun _ => rfl)) (by rfl)) rfl)) (PW.cons (ToXA.d (ToXV.agP (PW.cons (ToX.one (b' := false) (is := []) rfl (fun _ => rfl)) (PW.cons (ToX.one (b' := false) (is := []) rfl (fun _ => rfl)) (PW.cons (ToX.one (b' := false) (is := []) rfl (fun _ => rfl)) PW.nil))))) PW.nil))) (PureA.of_pure (look_right_Objs_ok b211)) ?_
                      obtain ⟨t160, b213, H214⟩ := bind_inv H212
                      refine Z1 (Y6 c187 c194 c198 c205 c207 c209) ?_
                      refine onCallD_pureX (b := true) [] (fun hp1 h1 => by exact (PW.cons (ToXA.d (ToXV.one (ToX.rbE 2 (ToX.one (b' := false) (is := []) rfl (fun _ => rfl)) (by rfl)) rfl)) (PW.cons (ToXA.d (ToXV.agP (PW.cons (ToX.one (b' := false) (is := []) rfl (fun _ => rfl)) (PW.cons (ToX.one (b' := false) (is := []) rfl (fun _ => rfl)) (PW.cons (ToX.one (b' := false) (is := []) rfl (fun _ => rfl)) PW.nil))))) PW.nil))) (PureA.of_pure (look_right_Objs_ok b213)) ?_
                      refine Z1 (Y6 c187 c194 c198 c205 c207 c209) ?_
                      rcases ite_inv H214 with ⟨c215, H216⟩ | ⟨c215, H216⟩
                      · obtain ⟨t167, b217, H218⟩ := bind_inv H216
                        refine Z1 (Y2 (Y6 c187 c194 c198 c205 c207 c209) c215) ?_
                        refine ZD0 (law5_awake_ok b217) ?_
                        refine Z1 (Y2 (Y6 c187 c194 c198 c205 c207 c209) c215) ?_
                        refine Rd_endF (by kernel_rfl) ?_
                        refine Z1 (Y2 (Y6 c187 c194 c198 c205 c207 c209) c215) ?_
                        obtain rfl := Zi H218
                        exact ZE0
                      · refine Z1 (Y2 (Y6 c187 c194 c198 c205 c207 c209) c215) ?_
                        refine Rd_endF (by kernel_rfl) ?_
                        refine Z1 (Y2 (Y6 c187 c194 c198 c205 c207 c209) c215) ?_
                        obtain rfl := Zi H216
                        exact ZE0
                    · refine Z1 (Y6 c187 c194 c198 c205 c207 c209) ?_
                      refine Rd_endF (by kernel_rfl) ?_
                      refine Z1 (Y6 c187 c194 c198 c205 c207 c209) ?_
                      obtain rfl := Zi H210
                      exact ZE0
                  · refine Z1 (Y5 c187 c194 c198 c205 c207) ?_
                    refine Rd_endF (by kernel_rfl) ?_
                    refine Z1 (Y5 c187 c194 c198 c205 c207) ?_
                    obtain rfl := Zi H208
                    exact ZE0
                · refine Z1 (Y4 c187 c194 c198 c205) ?_
                  refine Rd_endF (by kernel_rfl) ?_
                  refine Z1 (Y4 c187 c194 c198 c205) ?_
                  obtain rfl := Zi H206
                  exact ZE0
              · have q222 : 0 < t135.length := by have := of_decide_eq_false c198; omega
                refine Z1 (Y3 c187 c194 c198) ?_
                refine onCallD_det (ids' := []) (v := .so 103 2 0 t135.length) (δ := [(103, .rw (List.map eS t135) 1 2 false false)]) (nx' := 112) (fun hp1 _ => InlOK.mono (look_Users_in b196 q222) fun v2 hp2 nx2 e => e) ?_
                obtain ⟨t1372, b223, H224⟩ := bind_inv H199
                refine Z1 (Y3 c187 c194 c198) ?_
                refine ZD1 (Y3 c187 c194 c198) (ref1_SameTexts_ok b223) ?_
                refine Z1 (Y3 c187 c194 c198) ?_
                rcases ite_inv H224 with ⟨c225, H226⟩ | ⟨c225, H226⟩
                · refine Z1 (Y4 c187 c194 c198 c225) ?_
                  rcases ite_inv H226 with ⟨c227, H228⟩ | ⟨c227, H228⟩
                  · refine Z1 (Y5 c187 c194 c198 c225 c227) ?_
                    rcases ite_inv H228 with ⟨c229, H230⟩ | ⟨c229, H230⟩
                    · obtain ⟨t1532, b231, H232⟩ := bind_inv H230
                      refine Z1 (Y6 c187 c194 c198 c225 c227 c229) ?_
                      refine onCallD_pureX (b := true) [] (fun hp1 h1 => by exact (PW.cons (ToXA.d (ToXV.one (ToX.rbE 2 (ToX.one (b' := false) (is := []) rfl (fun _ => rfl)) (by rfl)) rfl)) (PW.cons (ToXA.d (ToXV.agP (PW.cons (ToX.one (b' := false) (is := []) rfl (fun _ => rfl)) (PW.cons (ToX.one (b' := false) (is := []) rfl (fun _ => rfl)) (PW.cons (ToX.one (b' := false) (is := []) rfl (fun _ => rfl)) PW.nil))))) PW.nil))) (PureA.of_pure (look_right_Objs_ok b231)) ?_
                      obtain ⟨t1602, b233, H234⟩ := bind_inv H232
                      refine Z1 (Y6 c187 c194 c198 c225 c227 c229) ?_
                      refine onCallD_pureX (b := true) [] (fun hp1 h1 => by exact (PW.cons (ToXA.d (ToXV.one (ToX.rbE 2 (ToX.one (b' := false) (is := []) rfl (fun _ => rfl)) (by rfl)) rfl)) (PW.cons (ToXA.d (ToXV.agP (PW.cons (ToX.one (b' := false) (is := []) rfl (fun _ => rfl)) (PW.cons (ToX.one (b' := false) (is := []) rfl (fun _ => rfl)) (PW.cons (ToX.one (b' := false) (is := []) rfl (fun _ => rfl)) PW.nil))))) PW.nil))) (PureA.of_pure (look_right_Objs_ok b233)) ?_
                      refine Z1 (Y6 c187 c194 c198 c225 c227 c229) ?_
                      rcases ite_inv H234 with ⟨c235, H236⟩ | ⟨c235, H236⟩
                      · obtain ⟨t1672, b237, H238⟩ := bind_inv H236
                        refine Z1 (Y2 (Y6 c187 c194 c198 c225 c227 c229) c235) ?_
                        refine ZD0 (law5_awake_ok b237) ?_
                        refine Z1 (Y2 (Y6 c187 c194 c198 c225 c227 c229) c235) ?_
                        refine Rd_endF (by kernel_rfl) ?_
                        refine Z1 (Y2 (Y6 c187 c194 c198 c225 c227 c229) c235) ?_
                        obtain rfl := Zi H238
                        exact ZE0
                      · refine Z1 (Y2 (Y6 c187 c194 c198 c225 c227 c229) c235) ?_
                        refine Rd_endF (by kernel_rfl) ?_
                        refine Z1 (Y2 (Y6 c187 c194 c198 c225 c227 c229) c235) ?_
                        obtain rfl := Zi H236
                        exact ZE0
                    · refine Z1 (Y6 c187 c194 c198 c225 c227 c229) ?_
                      refine Rd_endF (by kernel_rfl) ?_
                      refine Z1 (Y6 c187 c194 c198 c225 c227 c229) ?_
                      obtain rfl := Zi H230
                      exact ZE0
                  · refine Z1 (Y5 c187 c194 c198 c225 c227) ?_
                    refine Rd_endF (by kernel_rfl) ?_
                    refine Z1 (Y5 c187 c194 c198 c225 c227) ?_
                    obtain rfl := Zi H228
                    exact ZE0
                · refine Z1 (Y4 c187 c194 c198 c225) ?_
                  refine Rd_endF (by kernel_rfl) ?_
                  refine Z1 (Y4 c187 c194 c198 c225) ?_
                  obtain rfl := Zi H226
                  exact ZE0
            · refine Z1 (Y2 c187 c194) ?_
              refine Rd_endF (by kernel_rfl) ?_
              refine Z1 (Y2 c187 c194) ?_
              obtain rfl := Zi H195
              exact ZE0
          · have q242 : 0 < t125.length := by have := of_decide_eq_false c187; omega
            refine Z1 c187 ?_
            refine onCallD_det (ids' := []) (v := .so 81 2 0 t125.length) (δ := [(81, .rw (List.map eS t125) 1 2 false false)]) (nx' := 90) (fun hp1 _ => InlOK.mono (look_Types_in b185 q242) fun v2 hp2 nx2 e => e) ?_
            obtain ⟨t1272, b243, H244⟩ := bind_inv H188
            refine Z1 c187 ?_
            refine ZD1 c187 (ref1_SameTexts_ok b243) ?_
            refine Z1 c187 ?_
            rcases ite_inv H244 with ⟨c245, H246⟩ | ⟨c245, H246⟩
            · obtain ⟨t1352, b247, H248⟩ := bind_inv H246
              refine Z1 (Y2 c187 c245) ?_
              rcases ite_inv H248 with ⟨c249, H250⟩ | ⟨c249, H250⟩
              · refine Z1 (Y3 c187 c245 c249) ?_
                refine onCallD_det (ids' := []) (v := .v (.slice none 0 0)) (δ := []) (nx' := 112) (fun hp1 _ => InlOK.mono (look_Users_nil b247 c249) fun v2 hp2 nx2 e => e) ?_
                obtain ⟨t1373, b254, H255⟩ := bind_inv H250
                refine Z1 (Y3 c187 c245 c249) ?_
                refine ZD0 (ref1_SameTexts_ok b254) ?_
                refine Z1 (Y3 c187 c245 c249) ?_
                rcases ite_inv H255 with ⟨c256, H257⟩ | ⟨c256, H257⟩
                · refine Z1 (Y4 c187 c245 c249 c256) ?_
                  rcases ite_inv H257 with ⟨c258, H259⟩ | ⟨c258, H259⟩
                  · refine Z1 (Y5 c187 c245 c249 c256 c258) ?_
                    rcases ite_inv H259 with ⟨c260, H261⟩ | ⟨c260, H261⟩
                    · obtain ⟨t1533, b262, H263⟩ := bind_inv H261
                      refine Z1 (Y6 c187 c245 c249 c256 c258 c260) ?_
                      refine onCallD_pureX (b := true) [] (fun hp1 h1 => by exact (PW.cons (ToXA.d (ToXV.one (ToX.rbE 2 (ToX.one (b' := false) (is := []) rfl (fun _ => rfl)) (by rfl)) rfl)) (PW.cons (ToXA.d (ToXV.agP (PW.cons (ToX.one (b' := false) (is := []) rfl (fun _ => rfl)) (PW.cons (ToX.one (b' := false) (is := []) rfl (fun _ => rfl)) (PW.cons (ToX.one (b' := false) (is := []) rfl (fun _ => rfl)) PW.nil))))) PW.nil))) (PureA.of_pure (look_right_Objs_ok b262)) ?_
                      obtain ⟨t1603, b264, H265⟩ := bind_inv H263
                      refine Z1 (Y6 c187 c245 c249 c256 c258 c260) ?_
                      refine onCallD_pureX (b := true) [] (fun hp1 h1 => by exact (PW.cons (ToXA.d (ToXV.one (ToX.rbE 2 (ToX.one (b' := false) (is := []) rfl (fun _ => rfl)) (by rfl)) rfl)) (PW.cons (ToXA.d (ToXV.agP (PW.cons (ToX.one (b' := false) (is := []) rfl (fun _ => rfl)) (PW.cons (ToX.one (b' := false) (is := []) rfl (fun _ => rfl)) (PW.cons (ToX.one (b' := false) (is := []) rfl (fun _ => rfl)) PW.nil))))) PW.nil))) (PureA.of_pure (look_right_Objs_ok b264)) ?_
                      refine Z1 (Y6 c187 c245 c249 c256 c258 c260) ?_
                      rcases ite_inv H265 with ⟨c266, H267⟩ | ⟨c266, H267⟩
                      · obtain ⟨t1673, b268, H269⟩ := bind_inv H267
                        refine Z1 (Y2 (Y6 c187 c245 c249 c256 c258 c260) c266) ?_
                        refine ZD0 (law5_awake_ok b268) ?_
                        refine Z1 (Y2 (Y6 c187 c245 c249 c256 c258 c260) c266) ?_
                        refine Rd_endF (by kernel_rfl) ?_
                        refine Z1 (Y2 (Y6 c187 c245 c249 c256 c258 c260) c266) ?_
                        obtain rfl := Zi H269
                        exact ZE0
                      · refine Z1 (Y2 (Y6 c187 c245 c249 c256 c258 c260) c266) ?_
                        refine Rd_endF (by kernel_rfl) ?_
                        refine Z1 (Y2 (Y6 c187 c245 c249 c256 c258 c260) c266) ?_
                        obtain rfl := Zi H267
                        exact ZE0
                    · refine Z1 (Y6 c187 c245 c249 c256 c258 c260) ?_
                      refine Rd_endF (by kernel_rfl) ?_
                      refine Z1 (Y6 c187 c245 c249 c256 c258 c260) ?_
                      obtain rfl := Zi H261
                      exact ZE0
                  · refine Z1 (Y5 c187 c245 c249 c256 c258) ?_
                    refine Rd_endF (by kernel_rfl) ?_
                    refine Z1 (Y5 c187 c245 c249 c256 c258) ?_
                    obtain rfl := Zi H259
                    exact ZE0
                · refine Z1 (Y4 c187 c245 c249 c256) ?_
                  refine Rd_endF (by kernel_rfl) ?_
                  refine Z1 (Y4 c187 c245 c249 c256) ?_
                  obtain rfl := Zi H257
                  exact ZE0
              · have q273 : 0 < t1352.length := by have := of_decide_eq_false c249; omega
                refine Z1 (Y3 c187 c245 c249) ?_
                refine onCallD_det (ids' := []) (v := .so 106 2 0 t1352.length) (δ := [(106, .rw (List.map eS t1352) 1 2 false false)]) (nx' := 115) (fun hp1 _ => InlOK.mono (look_Users_in b247 q273) fun v2 hp2 nx2 e => e) ?_
                obtain ⟨t1374, b274, H275⟩ := bind_inv H250
                refine Z1 (Y3 c187 c245 c249) ?_
                refine ZD1 (Y3 c187 c245 c249) (ref1_SameTexts_ok b274) ?_
                refine Z1 (Y3 c187 c245 c249) ?_
                rcases ite_inv H275 with ⟨c276, H277⟩ | ⟨c276, H277⟩
                · refine Z1 (Y4 c187 c245 c249 c276) ?_
                  rcases ite_inv H277 with ⟨c278, H279⟩ | ⟨c278, H279⟩
                  · refine Z1 (Y5 c187 c245 c249 c276 c278) ?_
                    rcases ite_inv H279 with ⟨c280, H281⟩ | ⟨c280, H281⟩
                    · obtain ⟨t1534, b282, H283⟩ := bind_inv H281
                      refine Z1 (Y6 c187 c245 c249 c276 c278 c280) ?_
                      refine onCallD_pureX (b := true) [] (fun hp1 h1 => by exact (PW.cons (ToXA.d (ToXV.one (ToX.rbE 2 (ToX.one (b' := false) (is := []) rfl (fun _ => rfl)) (by rfl)) rfl)) (PW.cons (ToXA.d (ToXV.agP (PW.cons (ToX.one (b' := false) (is := []) rfl (fun _ => rfl)) (PW.cons (ToX.one (b' := false) (is := []) rfl (fun _ => rfl)) (PW.cons (ToX.one (b' := false) (is := []) rfl (fun _ => rfl)) PW.nil))))) PW.nil))) (PureA.of_pure (look_right_Objs_ok b282)) ?_
                      obtain ⟨t1604, b284, H285⟩ := bind_inv H283
                      refine Z1 (Y6 c187 c245 c249 c276 c278 c280) ?_
                      refine onCallD_pureX (b := true) [] (fun hp1 h1 => by exact (PW.cons (ToXA.d (ToXV.one (ToX.rbE 2 (ToX.one (b' := false) (is := []) rfl (fun _ => rfl)) (by rfl)) rfl)) (PW.cons (ToXA.d (ToXV.agP (PW.cons (ToX.one (b' := false) (is := []) rfl (fun _ => rfl)) (PW.cons (ToX.one (b' := false) (is := []) rfl (fun _ => rfl)) (PW.cons (ToX.one (b' := false) (is := []) rfl (fun _ => rfl)) PW.nil))))) PW.nil))) (PureA.of_pure (look_right_Objs_ok b284)) ?_
                      refine Z1 (Y6 c187 c245 c249 c276 c278 c280) ?_
                      rcases ite_inv H285 with ⟨c286, H287⟩ | ⟨c286, H287⟩
                      · obtain ⟨t1674, b288, H289⟩ := bind_inv H287
                        refine Z1 (Y2 (Y6 c187 c245 c249 c276 c278 c280) c286) ?_
                        refine ZD0 (law5_awake_ok b288) ?_
                        refine Z1 (Y2 (Y6 c187 c245 c249 c276 c278 c280) c286) ?_
                        refine Rd_endF (by kernel_rfl) ?_
                        refine Z1 (Y2 (Y6 c187 c245 c249 c276 c278 c280) c286) ?_
                        obtain rfl := Zi H289
                        exact ZE0
                      · refine Z1 (Y2 (Y6 c187 c245 c249 c276 c278 c280) c286) ?_
                        refine Rd_endF (by kernel_rfl) ?_
                        refine Z1 (Y2 (Y6 c187 c245 c249 c276 c278 c280) c286) ?_
                        obtain rfl := Zi H287
                        exact ZE0
                    · refine Z1 (Y6 c187 c245 c249 c276 c278 c280) ?_
                      refine Rd_endF (by kernel_rfl) ?_
                      refine Z1 (Y6 c187 c245 c249 c276 c278 c280) ?_
                      obtain rfl := Zi H281
                      exact ZE0
                  · refine Z1 (Y5 c187 c245 c249 c276 c278) ?_
                    refine Rd_endF (by kernel_rfl) ?_
                    refine Z1 (Y5 c187 c245 c249 c276 c278) ?_
                    obtain rfl := Zi H279
                    exact ZE0
                · refine Z1 (Y4 c187 c245 c249 c276) ?_
                  refine Rd_endF (by kernel_rfl) ?_
                  refine Z1 (Y4 c187 c245 c249 c276) ?_
                  obtain rfl := Zi H277
                  exact ZE0
            · refine Z1 (Y2 c187 c245) ?_
              refine Rd_endF (by kernel_rfl) ?_
              refine Z1 (Y2 c187 c245) ?_
              obtain rfl := Zi H246
              exact ZE0
end Go.Proofs.Ytedgdpncienjiaa.Ab
