/-
 tree.Expand, as one of the functions that are read off the code.
-/
import Derived.Test.YtjkdbakgnnhdnaaTrr
import Derived.Test.YtjkdbakgnnhdnaaTeb
namespace Go.Proofs.Ytjkdbakgnnhdnaa.Ab
open Go.RowKit
def nodeZ : GNode := ⟨0, refZ, [], []⟩
def tree_Expand (n : Nat) (l : List GType) (rows_ : List GTuple) (o : GObj) (rel : ByteArray) : Option (GNode × Int) :=
 (seek_Of n l rows_).bind fun g =>
 if g.2 == 0 then (seek_Graph_Known n g.1 o.type_ rel).bind fun k =>
  if k then (refM n g.1 n 1 ⟨[], 0, 0⟩ ⟨o, rel⟩).map fun p => if p.2.e == 0 then (p.1, 0) else (nodeZ, p.2.e)
  else none
 else none
set_option maxRecDepth 8000 in
theorem tree_Expand_ok {n : Nat} {l : List GType} {rows_ : List GTuple} {o : GObj} {rel : ByteArray} {r : GNode × Int} (h : tree_Expand n l rows_ o rel = some r) :
  PureOK Try.prog 6 [D.sl (List.map eGType l), D.sl (List.map eGTuple rows_), D.ag (eGObj o), D.v (.string rel)] (D.tu [D.ag (eGNode r.1), D.v (.int .i64 r.2)]) true := by
 unfold tree_Expand at h
 obtain ⟨g, hg, h⟩ := zbi h
 refine ZP tab_ok fol (rs := #[.cell 8 38, .tmp 9]) Try.func6 ?_
 refine zsq (ZT 1 ?_)
 refine Z0 ?_
 refine zsq (ZT 1 ?_)
 refine Z0 ?_
 split at h
 rotate_left
 ·cases h
 rename_i he
 obtain ⟨k, hk, h⟩ := zbi h
 split at h
 rotate_left
 ·cases h
 rename_i hkt
 obtain ⟨p, hp, hr⟩ := Option.map_eq_some_iff.1 h
 obtain ⟨G, e⟩ := g
 obtain rfl : e = 0 := by simpa using he
 subst hkt
 refine ZA0 (seek_Of_ok hg) ?_
 refine Z0 ?_
 refine zsq (zbk ?_)
 refine ZT 1 ?_
 refine Z0 ?_
 refine ZC0 (seek_Graph_Known_ok hk) ?_
 refine Z0 ?_
 refine zsq (ZT 1 ?_)
 refine Z0 ?_
 refine zsq (ZT 1 ?_)
 refine Z0 ?_
 refine onCall_inl ((ref_ok (bl := true) n 1 ⟨o, rel⟩ (.ag [.v (.string o.type_), .v (.string o.id_), .v (.string rel)]) rfl (q := 24) (m := 22) (dl := false) (w := ⟨[], 0, 0⟩) (x := p) ?_ ?_ ?_ (by decide) hp).mono ?_)
 ·intro j hj
  dsimp only at hj ⊢
  rw [upd_ne _ _ (by omega), upd_ne _ _ (by omega), upd_ne _ _ (by omega), upd_ne _ _ (by omega)]
  rfl
 ·dsimp only
  exact upd_same _ _ _
 ·rfl
 rintro v hp2 nx2 ⟨rfl, hP⟩
 dsimp only at hP
 have h1 : hp2 1 = some (.bx zN) := hP.3 1 (by omega) (by omega) (by omega)
 have h24 := hP.1
 have hn := hP.5
 refine Z0 ?_
 generalize eA : (upd _ (some _) _ : Hp) = hpA
 have a31 : hpA 31 = some (.bx [.v (.int .i64 p.1.kind), .v (.string p.1.ref.obj.type_), .v (.string p.1.ref.obj.id_), .v (.string p.1.ref.rel), .d (.sl (p.1.subs.map eGSub)) false, .d (.sl (p.1.kids.map eGNode)) false]) := by rw [← eA, upd_same]
 have a1 : hpA 1 = some (.bx zN) := by rw [← eA, upd_ne _ _ (by omega), upd_ne _ _ (by omega)]; exact h1
 have a24 : hpA 24 = some (boxG true G 22 p.2.cnt p.2.e) := by rw [← eA, upd_ne _ _ (by omega), upd_ne _ _ (by omega)]; exact h24
 clear eA
 refine zsq (ZT 1 ?_)
 cases hz : (p.2.e == 0) with
 | true =>
  have he2 : (p.2.e != 0) = false := by rw [bne, hz]; rfl
  rw [hz, if_pos rfl] at hr
  subst hr
  refine Z1 (And.intro a24 he2) ?_
  refine ZT 1 ?_
  refine Z1 (And.intro a31 a1) ?_
  exact ZE0
 | false =>
  have he2 : (p.2.e != 0) = true := by rw [bne, hz]; rfl
  rw [hz, if_neg (by decide)] at hr
  subst hr
  refine Z1 (And.intro a24 (And.intro a1 he2)) ?_
  refine Rd_endF (by rfl) ?_
  refine Z0 ?_
  exact ZE0
end Go.Proofs.Ytjkdbakgnnhdnaa.Ab
