/-
  What stands proved of Made, Ask and May, in the words of the functions that are read off the code.
-/
import Derived.Test.YtkkhgdmmbhpckaaLrs
import Derived.Test.YtkkhgdmmbhpckaaGq
import Derived.Test.YtkkhgdmmbhpckaaGna
namespace Go.Proofs.Ytkkhgdmmbhpckaa.Ab
open Go.RowKit

def toGrp (g : GGroup) : Grp := ⟨g.name, g.users⟩
def toStm (s : GStmt) : Stm := ⟨s.sid, s.deny, s.users, s.groups, s.actions, s.resources⟩
def toBnd (b : GBound) : Bnd := ⟨b.user, b.actions, b.resources⟩
def toPol (p : GPolicy) : Pol := ⟨p.users, p.actions, p.resources, p.groups.map toGrp, p.stmts.map toStm, p.bounds.map toBnd⟩
def ofGrp (g : Grp) : GGroup := ⟨g.name, g.users⟩
def ofStm (s : Stm) : GStmt := ⟨s.sid, s.deny, s.users, s.groups, s.acts, s.ress⟩
def ofBnd (b : Bnd) : GBound := ⟨b.user, b.acts, b.ress⟩
def ofPol (p : Pol) : GPolicy := ⟨p.users, p.acts, p.ress, p.grps.map ofGrp, p.stms.map ofStm, p.bnds.map ofBnd⟩
theorem map_ofGrp (l : List Grp) : (l.map ofGrp).map eGGroup = l.map grpD := by rw [List.map_map]; rfl
theorem map_ofStm (l : List Stm) : (l.map ofStm).map eGStmt = l.map stmD := by rw [List.map_map]; rfl
theorem map_ofBnd (l : List Bnd) : (l.map ofBnd).map eGBound = l.map bndD := by rw [List.map_map]; rfl
theorem map_toGrp (l : List GGroup) : (l.map toGrp).map grpD = l.map eGGroup := by rw [List.map_map]; rfl
theorem map_toStm (l : List GStmt) : (l.map toStm).map stmD = l.map eGStmt := by rw [List.map_map]; rfl
theorem map_toBnd (l : List GBound) : (l.map toBnd).map bndD = l.map eGBound := by rw [List.map_map]; rfl
theorem toPol_of (p : Pol) : toPol (ofPol p) = p := by
  have h1 : (p.grps.map ofGrp).map toGrp = p.grps := by rw [List.map_map]; exact List.map_id _
  have h2 : (p.stms.map ofStm).map toStm = p.stms := by rw [List.map_map]; exact List.map_id _
  have h3 : (p.bnds.map ofBnd).map toBnd = p.bnds := by rw [List.map_map]; exact List.map_id _
  simp only [toPol, ofPol, h1, h2, h3]
theorem eofPol (p : Pol) : eGPolicy (ofPol p) = polD p := by
  show [_, _, _, D.sl ((p.grps.map ofGrp).map eGGroup), D.sl ((p.stms.map ofStm).map eGStmt), D.sl ((p.bnds.map ofBnd).map eGBound)] = _
  rw [map_ofGrp, map_ofStm, map_ofBnd]
  rfl
theorem etoPol (p : GPolicy) : polD (toPol p) = eGPolicy p := by
  show [_, _, _, D.sl ((p.groups.map toGrp).map grpD), D.sl ((p.stmts.map toStm).map stmD), D.sl ((p.bounds.map toBnd).map bndD)] = _
  rw [map_toGrp, map_toStm, map_toBnd]
  rfl
def law23_Made (_n : Nat) (l : List Int) : Option GPolicy := some (ofPol (madeP l))
theorem law23_Made_ok {n : Nat} {l : List Int} {r : GPolicy} (h : law23_Made n l = some r) : PureOK Try.prog 11 [D.sl (List.map eI l)] (D.ag (eGPolicy r)) true := by
  obtain rfl := Option.some.inj h
  rw [eofPol]
  exact made_ok l
def law24_Ask (_n : Nat) (k : Int) : Option GAsk := some ⟨false, (askN k).who, (askN k).act, (askN k).obj⟩
theorem law24_Ask_ok {n : Nat} {k : Int} {r : GAsk} (h : law24_Ask n k = some r) : PureOK Try.prog 12 [D.v (.int .i64 k)] (D.ag (eGAsk r)) true := by
  obtain rfl := Option.some.inj h
  exact ask_ok k
open Classical in
noncomputable def glob_May (_n : Nat) (p : GPolicy) (u a r : ByteArray) : Option Bool := if FitPol (toPol p) then some (mayB (toPol p) u a r) else none
theorem glob_May_ok {n : Nat} {p : GPolicy} {u a q : ByteArray} {r : Bool} (h : glob_May n p u a q = some r) : PureOK Try.prog 13 [D.ag (eGPolicy p), D.v (.string u), D.v (.string a), D.v (.string q)] (D.v (.bool r)) true := by
  unfold glob_May at h
  split at h
  · rename_i hF
    obtain rfl := Option.some.inj h
    rw [← etoPol]
    exact may_ok (toPol p) u a q hF
  · cases h
theorem may_some {n : Nat} {p : GPolicy} (u a r : ByteArray) (h : FitPol (toPol p)) : glob_May n p u a r = some (mayB (toPol p) u a r) := if_pos h
end Go.Proofs.Ytkkhgdmmbhpckaa.Ab
