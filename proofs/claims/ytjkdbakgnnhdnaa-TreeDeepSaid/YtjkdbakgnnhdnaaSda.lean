/-
 Functions, read off the code.
-/
import Derived.Test.YtjkdbakgnnhdnaaSgs
namespace Go.Proofs.Ytjkdbakgnnhdnaa.Ab
open Go.RowKit
theorem cl59_0 (xs : List GSub) (h : decide (xs.length = 0) = true) : PureOK Try.prog 59 [.sl (List.map eGSub xs)] (.sl []) true := by
 rw [List.eq_nil_of_length_eq_zero (of_decide_eq_true h)]
 exact clone_nil tab_ok fol Try.func59 (T := 35) (B := 4) rfl (by kernel_rfl) (by kernel_rfl) (by decide) rfl (by simp only [go_sem]) (by simp only [go_sem]) (by simp only [go_sem]; decide) (by simp only [go_sem]; decide)
theorem cl59_in (xs : List GSub) (h0 : 0 < xs.length) (hn : xs.length ≤ 4294967296) {b : Bool} {hp : Hp} {nx : Nat} : InlOK Try.prog 59 [.d (.sl (List.map eGSub xs)) b] hp nx fun v hp2 nx2 => v = .so (nx + 3) 1 0 xs.length ∧ hp2 = upd (nx + 3) (some (.rw (List.map eGSub xs) 3 1 false false)) hp ∧ nx2 = nx + 7 := by
 have h := clone_map (e := eGSub) (k := 3) (b := b) (hp := hp) (nx := nx) tab_ok fol Try.func59 (T := 35) (B := 4) rfl (by kernel_rfl) (by kernel_rfl) (by decide) rfl (by simp only [go_sem]) (by simp only [go_sem]) (by simp only [go_sem]) (by decide) (by simp only [go_sem]; decide) (fun _ => rfl) xs h0 hn
 rw [plainR_map (f := eGSub) (fun _ => rfl), Bool.not_true, Bool.and_false] at h
 exact h
theorem cl59_n {hp : Hp} {nx : Nat} : InlOK Try.prog 59 [.v (.slice none 0 0)] hp nx fun v hp2 nx2 => v = .v (.slice none 0 0) ∧ hp2 = hp ∧ nx2 = nx + 4 := by
 refine inl_run (tab := tab) tab_ok fol Try.func59 rfl (by kernel_rfl) (by kernel_rfl) (by simp [Try.f59]) ?_
 simp -implicitDefEqProofs only [go_sem, Nat.reduceEqDiff, Nat.reduceAdd, Nat.reduceLeDiff, reduceCtorEq, ↓reduceIte]
 exact end_ret (v := .v (.slice none 0 0)) (by simp -implicitDefEqProofs only [go_sem, ↓reduceIte, Try.f59] <;> rfl) ⟨rfl, rfl, rfl⟩
def look_left_Subs (n : Nat) (x : LookLeft) (o : GObj) (rel : ByteArray) : Option (List GSub) :=
 (if (mhas (⟨o, rel⟩ : GRef) x.subs) then
  (if (decide ((mgetD (⟨o, rel⟩ : GRef) [] x.subs).length = 0)) then
   some []
  else
   grd (decide ((mgetD (⟨o, rel⟩ : GRef) [] x.subs).length ≤ 4294967296)) <|
   some (mgetD (⟨o, rel⟩ : GRef) [] x.subs))
 else
  some [])
theorem look_left_Subs_ok {n : Nat} {x : LookLeft} {o : GObj} {rel : ByteArray} {r : List GSub} (H : look_left_Subs n x o rel = some r) : PureOK Try.prog 48 [D.pt (eLookLeft x) 0, D.ag (eGObj o), D.v (.string rel)] (D.sl (List.map eGSub r)) true := by
 unfold look_left_Subs at H
 refine ZP tab_ok fol (rs := #[.tmp 6]) Try.func48 ?_
 refine ZT 1 ?_
 refine Z0 ?_
 rcases zit H with ⟨c1, H2⟩ | ⟨c1, H2⟩
 ·have h3 : lookA (true, [.string, .string, .string]) (.agg #[.string o.type_, .string o.id_, .string rel]) (.v (.slice none 0 0)) false (dEnts true (encMp kGRef false (eL eGSub) x.subs)) = some (.d (.sl (List.map eGSub (mgetD (⟨o, rel⟩ : GRef) [] x.subs))) true, []) := lookD_has (b := true) (ag := false) (enc := (eL eGSub)) key_GRef (⟨o, rel⟩ : GRef) ([] : List GSub) x.subs _ c1
  refine Z1 (Y2 c1 h3) ?_
  rcases zit H2 with ⟨c4, H5⟩ | ⟨c4, H5⟩
  ·refine Z1 (Y3 c1 h3 c4) ?_
   refine ZD0 (cl59_0 (mgetD (⟨o, rel⟩ : GRef) [] x.subs) c4) ?_
   refine Z1 (Y3 c1 h3 c4) ?_
   refine Rd_endF (by rfl) ?_
   refine Z1 (Y3 c1 h3 c4) ?_
   obtain rfl := Zi H5
   exact ZE0
  ·obtain ⟨g6, H7⟩ := grd_inv H5
   have h8 : (mgetD (⟨o, rel⟩ : GRef) [] x.subs).length ≤ 4294967296 := of_decide_eq_true g6
   have q9 : 0 < (mgetD (⟨o, rel⟩ : GRef) [] x.subs).length := by have := of_decide_eq_false c4; omega
   refine Z1 (Y3 c1 h3 c4) ?_
   refine onCallD_det (ids' := []) (v := .so 15 1 0 (mgetD (⟨o, rel⟩ : GRef) [] x.subs).length) (δ := [(15, .rw (List.map eGSub (mgetD (⟨o, rel⟩ : GRef) [] x.subs)) 3 1 false false)]) (nx' := 19) (fun hp1 _ => InlOK.mono (cl59_in (mgetD (⟨o, rel⟩ : GRef) [] x.subs) q9 h8) fun v2 hp2 nx2 e => e) ?_
   refine Z1 (Y4 c1 h3 c4 h8) ?_
   refine Rd_endF (by rfl) ?_
   refine Z1 (Y4 c1 h3 c4 h8) ?_
   obtain rfl := Zi H7
   exact ZE1 (Y4 c1 h3 c4 h8)
 ·have h13 : lookA (true, [.string, .string, .string]) (.agg #[.string o.type_, .string o.id_, .string rel]) (.v (.slice none 0 0)) false (dEnts true (encMp kGRef false (eL eGSub) x.subs)) = some (.v (.slice none 0 0), []) := lookD_not (b := true) (ag := false) (enc := (eL eGSub)) key_GRef (⟨o, rel⟩ : GRef) x.subs _ c1
  refine Z1 (Y2 c1 h13) ?_
  refine onCallD_det (ids' := []) (v := .v (.slice none 0 0)) (δ := []) (nx' := 16) (fun hp1 _ => InlOK.mono cl59_n fun v2 hp2 nx2 e => e) ?_
  refine Z1 (Y2 c1 h13) ?_
  refine Rd_endF (by rfl) ?_
  refine Z1 (Y2 c1 h13) ?_
  obtain rfl := Zi H2
  exact ZE0
def well_Schema_Rel (n : Nat) (s : WellSchema) (typ : ByteArray) (rel : ByteArray) : Option (GRel × Bool) :=
 some ((⟨(mgetD (⟨typ, rel⟩ : WellName) (⟨ByteArray.empty, [], []⟩ : GRel) s.rels).name, (mgetD (⟨typ, rel⟩ : WellName) (⟨ByteArray.empty, [], []⟩ : GRel) s.rels).subs, (mgetD (⟨typ, rel⟩ : WellName) (⟨ByteArray.empty, [], []⟩ : GRel) s.rels).expr⟩ : GRel), (mhas (⟨typ, rel⟩ : WellName) s.rels))
theorem well_Schema_Rel_ok {n : Nat} {s : WellSchema} {typ : ByteArray} {rel : ByteArray} {r : GRel × Bool} (H : well_Schema_Rel n s typ rel = some r) : PureOK Try.prog 28 [D.pt (eWellSchema s) 0, D.v (.string typ), D.v (.string rel)] (D.tu [D.ag (eGRel r.1), D.v (.bool r.2)]) false := by
 unfold well_Schema_Rel at H
 refine ZP tab_ok fol (rs := #[.cell 6 76, .tmp 7]) Try.func28 ?_
 refine ZT 1 ?_
 have h1 : lookA (true, [.string, .string]) (.agg #[.string typ, .string rel]) (.d (.ag [.v (.string ByteArray.empty), .sl [], .sl []]) true) true (dEnts true (encMp kWellName true eGRel s.rels)) = some (.tu [.d (.ag [.v (.string (mgetD (⟨typ, rel⟩ : WellName) (⟨ByteArray.empty, [], []⟩ : GRel) s.rels).name), .sl (List.map eGSub (mgetD (⟨typ, rel⟩ : WellName) (⟨ByteArray.empty, [], []⟩ : GRel) s.rels).subs), .sl (List.map eGStep (mgetD (⟨typ, rel⟩ : WellName) (⟨ByteArray.empty, [], []⟩ : GRel) s.rels).expr)]) true, .v (.bool (mhas (⟨typ, rel⟩ : WellName) s.rels))], []) := lookD (b := true) (ag := true) (enc := eGRel) key_WellName (⟨typ, rel⟩ : WellName) ((⟨ByteArray.empty, [], []⟩ : GRel) : GRel) true s.rels
 refine Z1 h1 ?_
 obtain rfl := Zi H
 exact ZE0
def seek_Graph_Known (n : Nat) (g : SeekGraph) (typ : ByteArray) (rel : ByteArray) : Option Bool :=
 (well_Schema_Rel n g.schema typ rel).bind fun t16 =>
 some t16.2
theorem seek_Graph_Known_ok {n : Nat} {g : SeekGraph} {typ : ByteArray} {rel : ByteArray} {r : Bool} (H : seek_Graph_Known n g typ rel = some r) : PureOK Try.prog 12 [D.pt (eSeekGraph g) 0, D.v (.string typ), D.v (.string rel)] (D.v (.bool r)) true := by
 unfold seek_Graph_Known at H
 refine ZP tab_ok fol (rs := #[.tmp 6]) Try.func12 ?_
 refine ZT 1 ?_
 obtain ⟨t16, b1, H2⟩ := zbi H
 refine Z0 ?_
 refine ZC0 (well_Schema_Rel_ok b1) ?_
 refine Z0 ?_
 obtain rfl := Zi H2
 exact ZE0
end Go.Proofs.Ytjkdbakgnnhdnaa.Ab
