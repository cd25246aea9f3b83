/-
 The program's structures.
-/
import Derived.Test.YtjkdbakgnnhdnaaAbW
import Derived.Test.YtjkdbakgnnhdnaaTab
namespace Go.Proofs.Ytjkdbakgnnhdnaa.Ab
open Go.RowKit
structure GSub where
 type_ : ByteArray
 id_ : ByteArray
 rel : ByteArray
 deriving DecidableEq, Inhabited
abbrev eGSub (x : GSub) : List D := [D.v (.string x.type_), D.v (.string x.id_), D.v (.string x.rel)]
def kGSub (x : GSub) : Value := .agg #[.string x.type_, .string x.id_, .string x.rel]
theorem key_GSub : KeyE (true, [.string, .string, .string]) kGSub := fun a b => by
 have e : (a == b) = ((a.type_ == b.type_) && (a.id_ == b.id_) && (a.rel == b.rel)) := by
  obtain ⟨a1, a2, a3⟩ := a
  obtain ⟨b1, b2, b3⟩ := b
  rw [Bool.eq_iff_iff]
  simp [and_assoc]
 rw [e]
 simp [kGSub, keyEq, eqK, eq1, Bool.and_assoc]
structure GStep where
 kind : Int
 a : ByteArray
 b : ByteArray
 deriving DecidableEq, Inhabited
abbrev eGStep (x : GStep) : List D := [D.v (.int .i64 x.kind), D.v (.string x.a), D.v (.string x.b)]
structure GRel where
 name : ByteArray
 subs : List GSub
 expr : List GStep
 deriving DecidableEq, Inhabited
abbrev eGRel (x : GRel) : List D := [D.v (.string x.name), D.sl (List.map eGSub x.subs), D.sl (List.map eGStep x.expr)]
structure GType where
 name : ByteArray
 rels : List GRel
 deriving DecidableEq, Inhabited
abbrev eGType (x : GType) : List D := [D.v (.string x.name), D.sl (List.map eGRel x.rels)]
structure GObj where
 type_ : ByteArray
 id_ : ByteArray
 deriving DecidableEq, Inhabited
abbrev eGObj (x : GObj) : List D := [D.v (.string x.type_), D.v (.string x.id_)]
structure GTuple where
 obj : GObj
 rel : ByteArray
 sub_ : GSub
 deriving DecidableEq, Inhabited
abbrev eGTuple (x : GTuple) : List D := [D.v (.string x.obj.type_), D.v (.string x.obj.id_), D.v (.string x.rel), D.v (.string x.sub_.type_), D.v (.string x.sub_.id_), D.v (.string x.sub_.rel)]
structure GRef where
 obj : GObj
 rel : ByteArray
 deriving DecidableEq, Inhabited
abbrev eGRef (x : GRef) : List D := [D.v (.string x.obj.type_), D.v (.string x.obj.id_), D.v (.string x.rel)]
def kGRef (x : GRef) : Value := .agg #[.string x.obj.type_, .string x.obj.id_, .string x.rel]
theorem key_GRef : KeyE (true, [.string, .string, .string]) kGRef := fun a b => by
 have e : (a == b) = ((a.obj.type_ == b.obj.type_) && (a.obj.id_ == b.obj.id_) && (a.rel == b.rel)) := by
  obtain ⟨⟨a1, a2⟩, a3⟩ := a
  obtain ⟨⟨b1, b2⟩, b3⟩ := b
  rw [Bool.eq_iff_iff]
  simp [and_assoc]
 rw [e]
 simp [kGRef, keyEq, eqK, eq1, Bool.and_assoc]
structure GNode where
 kind : Int
 ref : GRef
 subs : List GSub
 kids : List GNode
 deriving Inhabited
mutual
def eGNode : GNode → List D
 | ⟨a0, a1, a2, a3⟩ => [D.v (.int .i64 a0), D.v (.string a1.obj.type_), D.v (.string a1.obj.id_), D.v (.string a1.rel), D.sl (List.map eGSub a2), D.sl (eGNodes a3)]
def eGNodes : List GNode → List (List D)
 | [] => []
 | x :: xs => eGNode x :: eGNodes xs
end
theorem eGNodes_map : ∀ l, eGNodes l = List.map eGNode l
 | [] => rfl
 | x :: xs => congrArg _ (eGNodes_map xs)
theorem eGNode_eq (x : GNode) : eGNode x = [D.v (.int .i64 x.kind), D.v (.string x.ref.obj.type_), D.v (.string x.ref.obj.id_), D.v (.string x.ref.rel), D.sl (List.map eGSub x.subs), D.sl (List.map eGNode x.kids)] := by
 cases x
 unfold eGNode
 rw [eGNodes_map]
structure WellName where
 typ : ByteArray
 rel : ByteArray
 deriving DecidableEq, Inhabited
abbrev eWellName (x : WellName) : List D := [D.v (.string x.typ), D.v (.string x.rel)]
def kWellName (x : WellName) : Value := .agg #[.string x.typ, .string x.rel]
theorem key_WellName : KeyE (true, [.string, .string]) kWellName := fun a b => by
 have e : (a == b) = ((a.typ == b.typ) && (a.rel == b.rel)) := by
  obtain ⟨a1, a2⟩ := a
  obtain ⟨b1, b2⟩ := b
  rw [Bool.eq_iff_iff]
  simp [and_assoc]
 rw [e]
 simp [kWellName, keyEq, eqK, eq1, Bool.and_assoc]
structure WellSchema where
 types : List (ByteArray × Int)
 rels : List (WellName × GRel)
 ranks : List (WellName × Int)
 deriving DecidableEq, Inhabited
abbrev eWellSchema (x : WellSchema) : List D := [D.mp (encMp Value.string false eI x.types), D.mp (encMp kWellName true eGRel x.rels), D.mp (encMp kWellName false eI x.ranks)]
structure LookLeft where
 subs : List (GRef × (List GSub))
 objs : List (ByteArray × (List ByteArray))
 deriving DecidableEq, Inhabited
abbrev eLookLeft (x : LookLeft) : List D := [D.mp (encMp kGRef false (eL eGSub) x.subs), D.mp (encMp Value.string false (eL eS) x.objs)]
structure LookRight where
 refs : List (GSub × (List GRef))
 users : List (ByteArray × (List ByteArray))
 deriving DecidableEq, Inhabited
abbrev eLookRight (x : LookRight) : List D := [D.mp (encMp kGSub false (eL eGRef) x.refs), D.mp (encMp Value.string false (eL eS) x.users)]
structure LookIndex where
 left : LookLeft
 right : LookRight
 deriving DecidableEq, Inhabited
abbrev eLookIndex (x : LookIndex) : List D := [D.mp (encMp kGRef false (eL eGSub) x.left.subs), D.mp (encMp Value.string false (eL eS) x.left.objs), D.mp (encMp kGSub false (eL eGRef) x.right.refs), D.mp (encMp Value.string false (eL eS) x.right.users)]
structure SeekGraph where
 schema : WellSchema
 index : LookIndex
 rows_ : List GTuple
 deriving DecidableEq, Inhabited
abbrev eSeekGraph (x : SeekGraph) : List D := [D.pt (eWellSchema x.schema) 0, D.pt (eLookIndex x.index) 0, D.sl (List.map eGTuple x.rows_)]
section
variable {P : Program} {tab : Nat → TI}
theorem Z0 {p q : Prop} (k : q) (e : p = q := by conv => lhs; try simp -implicitDefEqProofs only [go_sem, Bool.false_and, Int.reduceToNat, Int.reduceLT, Int.reduceLE, Int.reduceBEq, Int.reduceBNe, Nat.reduceLT, Nat.reduceBEq, Int.reduceEq, Nat.reduceEqDiff, Nat.reduceAdd, Nat.reduceSub, Nat.reduceMul, Nat.reduceLeDiff, reduceCtorEq, ↓reduceIte, or_true, or_false, true_or, false_or, accI_ne, accI_ne2, eGSub, eGStep, eGRel, eGType, eGObj, eGTuple, eGRef, eGNode_eq, eWellName, eWellSchema, eLookLeft, eLookRight, eLookIndex, eSeekGraph]) : p :=
 (e).mpr k
theorem Z1 {p q : Prop} {F : Prop} (w : F) (k : q) (e : F → p = q := by intro w; conv => lhs; try simp -implicitDefEqProofs only [go_sem, Bool.false_and, Int.reduceToNat, Int.reduceLT, Int.reduceLE, Int.reduceBEq, Int.reduceBNe, Nat.reduceLT, Nat.reduceBEq, Int.reduceEq, Nat.reduceEqDiff, Nat.reduceAdd, Nat.reduceSub, Nat.reduceMul, Nat.reduceLeDiff, reduceCtorEq, ↓reduceIte, or_true, or_false, true_or, false_or, accI_ne, accI_ne2, eGSub, eGStep, eGRel, eGType, eGObj, eGTuple, eGRef, eGNode_eq, eWellName, eWellSchema, eLookLeft, eLookRight, eLookIndex, eSeekGraph, w]) : p :=
 (e w).mpr k
theorem ZC0 {ops : Array Oper} {nx0 : Nat} {k : List It} {Q : Ex → St → Prop} {i : Nat} {r : List Oper} {dst : Option Nat} {s : St} {g : FuncId} {caps vs : List AV} {b : Bool} {is : List Nat} {d : D} {f : Bool} {ds : List D} (h2 : PureOK P g ds d f) (h : Rt P tab ops nx0 k Q i r ⟨putS dst (lift (!f && b) d) s.fr, s.hp, s.nx⟩) (h1 : toDl s.hp (vs ++ caps) = some (ds, b, is) := by first | rfl | (simp -implicitDefEqProofs only [go_sem, Bool.false_and, Int.reduceToNat, Int.reduceLT, Int.reduceLE, Int.reduceBEq, Int.reduceBNe, Nat.reduceLT, Nat.reduceBEq, Int.reduceEq, Nat.reduceEqDiff, Nat.reduceAdd, Nat.reduceSub, Nat.reduceMul, Nat.reduceLeDiff, reduceCtorEq, ↓reduceIte, or_true, or_false, true_or, false_or, accI_ne, accI_ne2, eGSub, eGStep, eGRel, eGType, eGObj, eGTuple, eGRef, eGNode_eq, eWellName, eWellSchema, eLookLeft, eLookRight, eLookIndex, eSeekGraph]; done) | (simp -implicitDefEqProofs only [go_sem, Bool.false_and, Int.reduceToNat, Int.reduceLT, Int.reduceLE, Int.reduceBEq, Int.reduceBNe, Nat.reduceLT, Nat.reduceBEq, Int.reduceEq, Nat.reduceEqDiff, Nat.reduceAdd, Nat.reduceSub, Nat.reduceMul, Nat.reduceLeDiff, reduceCtorEq, ↓reduceIte, or_true, or_false, true_or, false_or, accI_ne, accI_ne2, eGSub, eGStep, eGRel, eGType, eGObj, eGTuple, eGRef, eGNode_eq, eWellName, eWellSchema, eLookLeft, eLookRight, eLookIndex, eSeekGraph]; rfl)) (h3 : is = [] ∨ f = true := by first | exact .inr rfl | exact .inl rfl) : onCall P tab ops nx0 k Q i r dst s (.fn g caps) vs :=
 onCall_pure (h1) h2 h3 h
theorem ZD0 {ops : Array Oper} {nx0 nx : Nat} {k : List It} {Q : Ex → St → Prop} {i : Nat} {r : List Oper} {dst : Option Nat} {acc : List Rec} {ids : List Nat} {fr : Fr} {hp : Hp} {g : FuncId} {caps vs : List AV} {b : Bool} {is : List Nat} {d : D} {f : Bool} {ds : List D} (h2 : PureOK P g ds d f) (h : Rd P tab ops nx0 nx k Q i r (⟨ids, [], false⟩ :: acc) (putS dst (lift (!f && b) d) fr) hp) (h1 : toDl hp (vs ++ caps) = some (ds, b, is) := by first | rfl | (simp -implicitDefEqProofs only [go_sem, Bool.false_and, Int.reduceToNat, Int.reduceLT, Int.reduceLE, Int.reduceBEq, Int.reduceBNe, Nat.reduceLT, Nat.reduceBEq, Int.reduceEq, Nat.reduceEqDiff, Nat.reduceAdd, Nat.reduceSub, Nat.reduceMul, Nat.reduceLeDiff, reduceCtorEq, ↓reduceIte, or_true, or_false, true_or, false_or, accI_ne, accI_ne2, eGSub, eGStep, eGRel, eGType, eGObj, eGTuple, eGRef, eGNode_eq, eWellName, eWellSchema, eLookLeft, eLookRight, eLookIndex, eSeekGraph]; done) | (simp -implicitDefEqProofs only [go_sem, Bool.false_and, Int.reduceToNat, Int.reduceLT, Int.reduceLE, Int.reduceBEq, Int.reduceBNe, Nat.reduceLT, Nat.reduceBEq, Int.reduceEq, Nat.reduceEqDiff, Nat.reduceAdd, Nat.reduceSub, Nat.reduceMul, Nat.reduceLeDiff, reduceCtorEq, ↓reduceIte, or_true, or_false, true_or, false_or, accI_ne, accI_ne2, eGSub, eGStep, eGRel, eGType, eGObj, eGTuple, eGRef, eGNode_eq, eWellName, eWellSchema, eLookLeft, eLookRight, eLookIndex, eSeekGraph]; rfl)) (h3 : is = [] ∨ f = true := by first | exact .inr rfl | exact .inl rfl) : onCallD P tab ops nx0 nx k Q i r dst acc ids fr hp (.fn g caps) vs :=
 onCallD_pure (h1) h2 h3 h
theorem ZA0 {ops : Array Oper} {nx0 : Nat} {k : List It} {Q : Ex → St → Prop} {i : Nat} {r : List Oper} {dst : Option Nat} {s : St} {g : FuncId} {caps vs : List AV} {b : Bool} {is : List Nat} {d : D} {f : Bool} {zs : List DA} (h2 : PureA P g zs d f) (h : Rt P tab ops nx0 k Q i r ⟨putS dst (lift (!f && b) d) s.fr, s.hp, s.nx⟩) (h1 : toAl s.hp (vs ++ caps) = some (zs, b, is) := by first | rfl | (simp -implicitDefEqProofs only [go_sem, Bool.false_and, Int.reduceToNat, Int.reduceLT, Int.reduceLE, Int.reduceBEq, Int.reduceBNe, Nat.reduceLT, Nat.reduceBEq, Int.reduceEq, Nat.reduceEqDiff, Nat.reduceAdd, Nat.reduceSub, Nat.reduceMul, Nat.reduceLeDiff, reduceCtorEq, ↓reduceIte, or_true, or_false, true_or, false_or, accI_ne, accI_ne2, eGSub, eGStep, eGRel, eGType, eGObj, eGTuple, eGRef, eGNode_eq, eWellName, eWellSchema, eLookLeft, eLookRight, eLookIndex, eSeekGraph]; done) | (simp -implicitDefEqProofs only [go_sem, Bool.false_and, Int.reduceToNat, Int.reduceLT, Int.reduceLE, Int.reduceBEq, Int.reduceBNe, Nat.reduceLT, Nat.reduceBEq, Int.reduceEq, Nat.reduceEqDiff, Nat.reduceAdd, Nat.reduceSub, Nat.reduceMul, Nat.reduceLeDiff, reduceCtorEq, ↓reduceIte, or_true, or_false, true_or, false_or, accI_ne, accI_ne2, eGSub, eGStep, eGRel, eGType, eGObj, eGTuple, eGRef, eGNode_eq, eWellName, eWellSchema, eLookLeft, eLookRight, eLookIndex, eSeekGraph]; rfl)) (h3 : is = [] ∨ f = true := by first | exact .inr rfl | exact .inl rfl) : onCall P tab ops nx0 k Q i r dst s (.fn g caps) vs :=
 onCall_pureA (h1) h2 h3 h
theorem ZE0 {rs : Array ResultVar} {d : D} {fr b : Bool} {is : List Nat} {s : St} {v : AV} (h1 : resA tab rs s = some v := by first | (simp -implicitDefEqProofs only [go_sem, Bool.false_and, Int.reduceToNat, Int.reduceLT, Int.reduceLE, Int.reduceBEq, Int.reduceBNe, Nat.reduceLT, Nat.reduceBEq, Int.reduceEq, Nat.reduceEqDiff, Nat.reduceAdd, Nat.reduceSub, Nat.reduceMul, Nat.reduceLeDiff, reduceCtorEq, ↓reduceIte, or_true, or_false, true_or, false_or, accI_ne, accI_ne2, eGSub, eGStep, eGRel, eGType, eGObj, eGTuple, eGRef, eGNode_eq, eWellName, eWellSchema, eLookLeft, eLookRight, eLookIndex, eSeekGraph] <;> rfl) | rfl) (h2 : toR s.hp v = some (d, b, is) := by first | rfl | (simp -implicitDefEqProofs only [go_sem, Bool.false_and, Int.reduceToNat, Int.reduceLT, Int.reduceLE, Int.reduceBEq, Int.reduceBNe, Nat.reduceLT, Nat.reduceBEq, Int.reduceEq, Nat.reduceEqDiff, Nat.reduceAdd, Nat.reduceSub, Nat.reduceMul, Nat.reduceLeDiff, reduceCtorEq, ↓reduceIte, or_true, or_false, true_or, false_or, accI_ne, accI_ne2, eGSub, eGStep, eGRel, eGType, eGObj, eGTuple, eGRef, eGNode_eq, eWellName, eWellSchema, eLookLeft, eLookRight, eLookIndex, eSeekGraph]; done) | (simp -implicitDefEqProofs only [go_sem, Bool.false_and, Int.reduceToNat, Int.reduceLT, Int.reduceLE, Int.reduceBEq, Int.reduceBNe, Nat.reduceLT, Nat.reduceBEq, Int.reduceEq, Nat.reduceEqDiff, Nat.reduceAdd, Nat.reduceSub, Nat.reduceMul, Nat.reduceLeDiff, reduceCtorEq, ↓reduceIte, or_true, or_false, true_or, false_or, accI_ne, accI_ne2, eGSub, eGStep, eGRel, eGType, eGObj, eGTuple, eGRef, eGNode_eq, eWellName, eWellSchema, eLookLeft, eLookRight, eLookIndex, eSeekGraph]; rfl)) (h4 : fr = true → b = false := by intro h; first | rfl | cases h) : EndW tab rs (EndP d fr) .ret s :=
 end_pure h1 (h2) rfl h4
theorem ZE1 {rs : Array ResultVar} {d : D} {fr b : Bool} {is : List Nat} {s : St} {v : AV} {F : Prop} (w : F) (h1 : resA tab rs s = some v := by first | (simp -implicitDefEqProofs only [go_sem, Bool.false_and, Int.reduceToNat, Int.reduceLT, Int.reduceLE, Int.reduceBEq, Int.reduceBNe, Nat.reduceLT, Nat.reduceBEq, Int.reduceEq, Nat.reduceEqDiff, Nat.reduceAdd, Nat.reduceSub, Nat.reduceMul, Nat.reduceLeDiff, reduceCtorEq, ↓reduceIte, or_true, or_false, true_or, false_or, accI_ne, accI_ne2, eGSub, eGStep, eGRel, eGType, eGObj, eGTuple, eGRef, eGNode_eq, eWellName, eWellSchema, eLookLeft, eLookRight, eLookIndex, eSeekGraph] <;> rfl) | rfl) (h2 : F → toR s.hp v = some (d, b, is) := by intro w; first | rfl | (simp -implicitDefEqProofs only [go_sem, Bool.false_and, Int.reduceToNat, Int.reduceLT, Int.reduceLE, Int.reduceBEq, Int.reduceBNe, Nat.reduceLT, Nat.reduceBEq, Int.reduceEq, Nat.reduceEqDiff, Nat.reduceAdd, Nat.reduceSub, Nat.reduceMul, Nat.reduceLeDiff, reduceCtorEq, ↓reduceIte, or_true, or_false, true_or, false_or, accI_ne, accI_ne2, eGSub, eGStep, eGRel, eGType, eGObj, eGTuple, eGRef, eGNode_eq, eWellName, eWellSchema, eLookLeft, eLookRight, eLookIndex, eSeekGraph, w]; done) | (simp -implicitDefEqProofs only [go_sem, Bool.false_and, Int.reduceToNat, Int.reduceLT, Int.reduceLE, Int.reduceBEq, Int.reduceBNe, Nat.reduceLT, Nat.reduceBEq, Int.reduceEq, Nat.reduceEqDiff, Nat.reduceAdd, Nat.reduceSub, Nat.reduceMul, Nat.reduceLeDiff, reduceCtorEq, ↓reduceIte, or_true, or_false, true_or, false_or, accI_ne, accI_ne2, eGSub, eGStep, eGRel, eGType, eGObj, eGTuple, eGRef, eGNode_eq, eWellName, eWellSchema, eLookLeft, eLookRight, eLookIndex, eSeekGraph, w]; rfl)) (h4 : fr = true → b = false := by intro h; first | rfl | cases h) : EndW tab rs (EndP d fr) .ret s :=
 end_pure h1 (h2 w) rfl h4
theorem ZP (ht : TabOk P tab) (hm : P.follows .mixedOrders = true) {rs : Array ResultVar} {f : FuncId} {fn : Func} {code : Code} {ds : List D} {d : D} {fresh : Bool} (hf : P.funcs[f]? = some fn) (h : runR 0 P [.c code] (EndW tab rs (EndP d fresh)) ⟨frOf (ds.map (lift true)), noHp, 0⟩) (hr : fn.results = rs := by rfl) (hb : fn.body = some code := by rfl) (hname : (fn.name == "runtime.NumGoroutine") = false := by kernel_rfl) (hd : dstsB fn.ntmps code = true := by kernel_rfl) (hl : Nat.ble ds.length fn.ntmps = true := by rfl) : PureOK P f ds d fresh := by
 subst hr
 exact pure_runR ht hf hb hname hd (Nat.le_of_ble_eq_true hl) h
theorem ZPX (ht : TabOk P tab) (hm : P.follows .mixedOrders = true) {rs : Array ResultVar} {f : FuncId} {fn : Func} {code : Code} {zs : List DA} {d : D} {fresh : Bool} (hf : P.funcs[f]? = some fn) (h : runR 0 P [.c code] (EndW tab rs (EndX d fresh)) ⟨frOf (zs.map DA.av), noHp, 0⟩) (hr : fn.results = rs := by rfl) (hb : fn.body = some code := by rfl) (hname : (fn.name == "runtime.NumGoroutine") = false := by kernel_rfl) (hd : dstsB fn.ntmps code = true := by kernel_rfl) (hl : Nat.ble zs.length fn.ntmps = true := by rfl) : PureA P f zs d fresh := by
 subst hr
 exact pureX_runR ht hf hb hname hd (Nat.le_of_ble_eq_true hl) h
theorem ZB {ρ : Nat → Option Nat} {hp : Hp} {k j : Nat} {cs ds : List AV} (h1 : ρ k = some j) (h3 : hp j = some (.bx ds)) (h2 : renL ρ cs = some ds) : ∀ p, some (AO.bx cs) = some p → ∃ j o', ρ k = some j ∧ renO ρ p = some o' ∧ hp j = some o' := rh_one h1 (renO_bx h2) h3
theorem ZR {n N nx : Nat} {fr' fr : Fr} {hp' hp : Hp} (L : List (Nat × Nat)) (h1 : (Nat.ble n N && okL n N L) = true := by rfl) (h2 : ∀ t, fr' t = .un ∨ renA (lk n L) (fr' t) = some (fr t) := by repeat' (first | exact rf_no _ | refine rf_upd (by rfl) ?_ | refine rf_upd (ren_acc (by rfl)) ?_ | refine rf_upd (ren_accP (by rfl) (by assumption)) ?_)) (h3 : ∀ i o, hp' i = some o → ∃ j o', lk n L i = some j ∧ renO (lk n L) o = some o' ∧ hp j = some o' := by repeat' (first | exact rh_no _ | refine rh_upd (rh_one (by rfl) (by rfl) (by rfl)) ?_ | refine rh_upd (rh_acc (by rfl) (by rfl)) ?_ | refine rh_upd (rh_accP (by rfl) (by assumption) (by rfl)) ?_ | refine rh_upd rh_accN ?_ | refine rh_upd (ZB (by rfl) (by rfl) (by repeat' (first | exact renL_nil _ | refine renL_cons (by rfl) ?_ | refine renL_cons (ren_acc (by rfl)) ?_ | refine renL_cons (ren_accP (by rfl) (by assumption)) ?_))) ?_)) : WeakR n ⟨fr', hp', N⟩ ⟨fr, hp, nx⟩ := ren_mk L h1 h2 h3
theorem Y2 {A0 A1 : Prop} (a0 : A0) (a1 : A1) : A0 ∧ A1 := ⟨a0, a1⟩
theorem Y3 {A0 A1 A2 : Prop} (a0 : A0) (a1 : A1) (a2 : A2) : A0 ∧ A1 ∧ A2 := ⟨a0, a1, a2⟩
theorem Y4 {A0 A1 A2 A3 : Prop} (a0 : A0) (a1 : A1) (a2 : A2) (a3 : A3) : A0 ∧ A1 ∧ A2 ∧ A3 := ⟨a0, a1, a2, a3⟩
theorem Y5 {A0 A1 A2 A3 A4 : Prop} (a0 : A0) (a1 : A1) (a2 : A2) (a3 : A3) (a4 : A4) : A0 ∧ A1 ∧ A2 ∧ A3 ∧ A4 := ⟨a0, a1, a2, a3, a4⟩
theorem Y6 {A0 A1 A2 A3 A4 A5 : Prop} (a0 : A0) (a1 : A1) (a2 : A2) (a3 : A3) (a4 : A4) (a5 : A5) : A0 ∧ A1 ∧ A2 ∧ A3 ∧ A4 ∧ A5 := ⟨a0, a1, a2, a3, a4, a5⟩
theorem YV {α : Type} {f : α → List D} {xs : List α} (h : 0 < xs.length) : ∀ id ver, accV id ver (xs.map f) = .so id ver 0 xs.length := fun _ _ => accV_pos h
theorem YO {α : Type} {f : α → List D} {xs : List α} (h : 0 < xs.length) : ∀ sz ver br, accO sz ver br (xs.map f) = some (.rw (xs.map f) sz ver br false) := fun _ _ _ => accO_pos h
theorem Zi {α : Type} {a b : α} (h : some a = some b) : a = b := Option.some.inj h
end
theorem ZT {n : Nat} {k : List It} {Q : Ex → St → Prop} {s : St} (m : Nat) (h : run Try.prog tab (k.take m) (contR n Try.prog (k.drop m) Q) s) : runR n Try.prog k Q s := runR_take tab_ok fol m h
theorem Zo {α β : Type} (a : α) (f : α → Option β) : (some a).bind f = f a := rfl
theorem Zx {α : Type} {x : α} {C : Prop} (h : none = some x) : C := nomatch h
end Go.Proofs.Ytjkdbakgnnhdnaa.Ab
