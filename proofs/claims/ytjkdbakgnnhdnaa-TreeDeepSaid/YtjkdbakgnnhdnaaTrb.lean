/-
 A tree that comes back to where it was, as one of the functions that are read off the code.
-/
import Derived.Test.YtjkdbakgnnhdnaaTrh
namespace Go.Proofs.Ytjkdbakgnnhdnaa.Ab
open Go.RowKit
def anyO (g : GNode → Option Bool) : List GNode → Option Bool
 | [] => some false
 | x :: r => (g x).bind fun b => if b then some true else anyO g r
def law10_backs : Nat → GNode → Option Bool
 | 0, _ => none
 | n + 1, x => if x.kids.length < 1000000000 then (anyO (law10_backs n) x.kids).map fun b => b || x.kind == 6 else none
set_option maxRecDepth 8000 in
theorem law10_backs_ok : ∀ {n : Nat} {x : GNode} {r : Bool}, law10_backs n x = some r → PureOK Try.prog 9 [D.ag (eGNode x)] (D.v (.bool r)) true
 | 0, _, _ => fun h => by cases h
 | n + 1, x, r => fun h => by
  have ih : ∀ x r, law10_backs n x = some r → PureOK Try.prog 9 [D.ag (eGNode x)] (D.v (.bool r)) true := fun x r h => law10_backs_ok h
  rw [law10_backs] at h
  split at h
  rotate_left
  ·cases h
  rename_i hl
  obtain ⟨b, hb, hr⟩ := Option.map_eq_some_iff.1 h
  generalize law10_backs n = g at ih hb
  rw [eGNode_eq]
  refine ZP tab_ok fol (rs := #[.tmp 2]) Try.func9 ?_
  refine zsq (ZT 1 ?_)
  refine Z0 ?_
  refine zsq (zsq ?_)
  refine ZT 1 ?_
  refine Z0 ?_
  obtain ⟨H, eH⟩ : ∃ H : Hp, H = upd 0 (some (.bx [.v (.int .i64 x.kind), .v (.string x.ref.obj.type_), .v (.string x.ref.obj.id_), .v (.string x.ref.rel), .d (.sl (x.subs.map eGSub)) true, .d (.sl (x.kids.map eGNode)) true])) noHp := ⟨_, rfl⟩
  rw [← eH]
  have h0 : H 0 = some (.bx [.v (.int .i64 x.kind), .v (.string x.ref.obj.type_), .v (.string x.ref.obj.id_), .v (.string x.ref.rel), .d (.sl (x.subs.map eGSub)) true, .d (.sl (x.kids.map eGNode)) true]) := by rw [eH, upd_same]
  refine zbk ?_
  refine zlp (α := { t : Nat × Nat // t.1 ≤ x.kids.length ∧ anyO g (x.kids.drop t.1) = some b }) (fun t => ⟨upd 1 (.pt 0 0) (upd 2 (.v (.bool false)) (upd 3 (.v (.int .i64 (t.1.1 : Int))) noFr)), H, t.1.2⟩) (fun t => x.kids.length - t.1.1)
   ⟨(0, 3), Nat.zero_le _, hb⟩ ?_ ?_
  ·exact wkI (wk_upd rfl (wk_upd rfl (wk_upd rfl (wk_no _))))
  ·rintro ⟨⟨i, nx⟩, hi, hc⟩
   dsimp only at hi hc
   refine zsq (ZT 1 ?_)
   by_cases hlt : i < x.kids.length
   ·have c1 : (decide ((i : Int) < (x.kids.length : Int))) = true := decide_eq_true (by omega)
    have e1 : x.kids[i]? = some x.kids[i] := List.getElem?_eq_getElem hlt
    have e2 : (x.kids.map eGNode)[i]? = some (eGNode x.kids[i]) := map_at eGNode e1
    have ed : x.kids.drop i = x.kids[i] :: x.kids.drop (i + 1) := List.drop_eq_getElem_cons hlt
    rw [ed, anyO] at hc
    obtain ⟨c, hg, hc⟩ := zbi hc
    generalize x.kids[i] = y at e2 hg
    refine Z1 (And.intro h0 c1) ?_
    refine zsq (zbk ?_)
    have wn := And.intro h0 (And.intro e2 (And.intro (zno .i64 (show (0 : Int) ≤ (i : Int) by omega)) (show ((i : Int)).toNat = i from Int.toNat_natCast _)))
    refine ZT 1 ?_
    refine Z1 wn ?_
    have hy := ih _ _ hg
    rw [eGNode_eq] at hy
    refine ZC0 hy ?_
    cases c with
    | true =>
     obtain rfl : true = b := Option.some.inj hc
     obtain rfl : true = r := hr
     refine Z0 ?_
     exact ZE0
    | false =>
     refine Z0 ?_
     refine ZT 1 ?_
     refine Z1 (w64a (n := i) (by omega)) ?_
     exact ⟨⟨(i + 1, _), hlt, hc⟩, wkI (wk_upd rfl (wk_upd rfl (wk_upd rfl (wk_no _)))), by dsimp only; omega⟩
   ·have c1 : (decide ((i : Int) < (x.kids.length : Int))) = false := decide_eq_false (by omega)
    obtain rfl : i = x.kids.length := by omega
    rw [List.drop_length] at hc
    obtain rfl : false = b := Option.some.inj hc
    obtain rfl : (x.kind == 6) = r := hr
    refine Z1 (And.intro h0 c1) ?_
    refine ZT 1 ?_
    refine Z1 h0 ?_
    exact ZE0
end Go.Proofs.Ytjkdbakgnnhdnaa.Ab
