/-
 The program's structures.
-/
import Derived.Test.YtkkhgdmmbhpckaaGreatAbW
import Derived.Test.YtkkhgdmmbhpckaaGreatTab
namespace Go.Proofs.YtkkhgdmmbhpckaaGreat.Ab
open Go.RowKit
structure GPair where
 a : ByteArray
 b : ByteArray
 deriving DecidableEq, Inhabited
abbrev eGPair (x : GPair) : List D := [D.v (.string x.a), D.v (.string x.b)]
structure GGrant where
 role : ByteArray
 op : ByteArray
 obj : ByteArray
 deriving DecidableEq, Inhabited
abbrev eGGrant (x : GGrant) : List D := [D.v (.string x.role), D.v (.string x.op), D.v (.string x.obj)]
structure GSod where
 name : ByteArray
 n_ : Int
 roles : List ByteArray
 deriving DecidableEq, Inhabited
abbrev eGSod (x : GSod) : List D := [D.v (.string x.name), D.v (.int .i64 x.n_), D.sl (List.map eS x.roles)]
structure GSession where
 name : ByteArray
 user : ByteArray
 roles : List ByteArray
 deriving DecidableEq, Inhabited
abbrev eGSession (x : GSession) : List D := [D.v (.string x.name), D.v (.string x.user), D.sl (List.map eS x.roles)]
structure GRoles where
 users : List ByteArray
 roles : List ByteArray
 inherit : List GPair
 assign : List GPair
 grants : List GGrant
 ssd : List GSod
 dsd : List GSod
 sessions : List GSession
 deriving DecidableEq, Inhabited
abbrev eGRoles (x : GRoles) : List D := [D.sl (List.map eS x.users), D.sl (List.map eS x.roles), D.sl (List.map eGPair x.inherit), D.sl (List.map eGPair x.assign), D.sl (List.map eGGrant x.grants), D.sl (List.map eGSod x.ssd), D.sl (List.map eGSod x.dsd), D.sl (List.map eGSession x.sessions)]
section
variable {P : Program} {tab : Nat → TI}
theorem Z0 {p q : Prop} (k : q) (e : p = q := by conv => lhs; try simp -implicitDefEqProofs only [go_sem, Bool.false_and, Int.reduceToNat, Int.reduceLT, Int.reduceLE, Int.reduceBEq, Int.reduceBNe, Nat.reduceLT, Nat.reduceBEq, Int.reduceEq, Nat.reduceEqDiff, Nat.reduceAdd, Nat.reduceSub, Nat.reduceMul, Nat.reduceLeDiff, reduceCtorEq, ↓reduceIte, or_true, or_false, true_or, false_or, accI_ne, accI_ne2, eGPair, eGGrant, eGSod, eGSession, eGRoles]) : p :=
 (e).mpr k
theorem Z1 {p q : Prop} {F : Prop} (w : F) (k : q) (e : F → p = q := by intro w; conv => lhs; try simp -implicitDefEqProofs only [go_sem, Bool.false_and, Int.reduceToNat, Int.reduceLT, Int.reduceLE, Int.reduceBEq, Int.reduceBNe, Nat.reduceLT, Nat.reduceBEq, Int.reduceEq, Nat.reduceEqDiff, Nat.reduceAdd, Nat.reduceSub, Nat.reduceMul, Nat.reduceLeDiff, reduceCtorEq, ↓reduceIte, or_true, or_false, true_or, false_or, accI_ne, accI_ne2, eGPair, eGGrant, eGSod, eGSession, eGRoles, w]) : p :=
 (e w).mpr k
theorem ZC0 {ops : Array Oper} {nx0 : Nat} {k : List It} {Q : Ex → St → Prop} {i : Nat} {r : List Oper} {dst : Option Nat} {s : St} {g : FuncId} {caps vs : List AV} {b : Bool} {is : List Nat} {d : D} {f : Bool} {ds : List D} (h2 : PureOK P g ds d f) (h : Rt P tab ops nx0 k Q i r ⟨putS dst (lift (!f && b) d) s.fr, s.hp, s.nx⟩) (h1 : toDl s.hp (vs ++ caps) = some (ds, b, is) := by first | rfl | (simp -implicitDefEqProofs only [go_sem, Bool.false_and, Int.reduceToNat, Int.reduceLT, Int.reduceLE, Int.reduceBEq, Int.reduceBNe, Nat.reduceLT, Nat.reduceBEq, Int.reduceEq, Nat.reduceEqDiff, Nat.reduceAdd, Nat.reduceSub, Nat.reduceMul, Nat.reduceLeDiff, reduceCtorEq, ↓reduceIte, or_true, or_false, true_or, false_or, accI_ne, accI_ne2, eGPair, eGGrant, eGSod, eGSession, eGRoles]; done) | (simp -implicitDefEqProofs only [go_sem, Bool.false_and, Int.reduceToNat, Int.reduceLT, Int.reduceLE, Int.reduceBEq, Int.reduceBNe, Nat.reduceLT, Nat.reduceBEq, Int.reduceEq, Nat.reduceEqDiff, Nat.reduceAdd, Nat.reduceSub, Nat.reduceMul, Nat.reduceLeDiff, reduceCtorEq, ↓reduceIte, or_true, or_false, true_or, false_or, accI_ne, accI_ne2, eGPair, eGGrant, eGSod, eGSession, eGRoles]; rfl)) (h3 : is = [] ∨ f = true := by first | exact .inr rfl | exact .inl rfl) : onCall P tab ops nx0 k Q i r dst s (.fn g caps) vs :=
 onCall_pure (h1) h2 h3 h
theorem ZD0 {ops : Array Oper} {nx0 nx : Nat} {k : List It} {Q : Ex → St → Prop} {i : Nat} {r : List Oper} {dst : Option Nat} {acc : List Rec} {ids : List Nat} {fr : Fr} {hp : Hp} {g : FuncId} {caps vs : List AV} {b : Bool} {is : List Nat} {d : D} {f : Bool} {ds : List D} (h2 : PureOK P g ds d f) (h : Rd P tab ops nx0 nx k Q i r (⟨ids, [], false⟩ :: acc) (putS dst (lift (!f && b) d) fr) hp) (h1 : toDl hp (vs ++ caps) = some (ds, b, is) := by first | rfl | (simp -implicitDefEqProofs only [go_sem, Bool.false_and, Int.reduceToNat, Int.reduceLT, Int.reduceLE, Int.reduceBEq, Int.reduceBNe, Nat.reduceLT, Nat.reduceBEq, Int.reduceEq, Nat.reduceEqDiff, Nat.reduceAdd, Nat.reduceSub, Nat.reduceMul, Nat.reduceLeDiff, reduceCtorEq, ↓reduceIte, or_true, or_false, true_or, false_or, accI_ne, accI_ne2, eGPair, eGGrant, eGSod, eGSession, eGRoles]; done) | (simp -implicitDefEqProofs only [go_sem, Bool.false_and, Int.reduceToNat, Int.reduceLT, Int.reduceLE, Int.reduceBEq, Int.reduceBNe, Nat.reduceLT, Nat.reduceBEq, Int.reduceEq, Nat.reduceEqDiff, Nat.reduceAdd, Nat.reduceSub, Nat.reduceMul, Nat.reduceLeDiff, reduceCtorEq, ↓reduceIte, or_true, or_false, true_or, false_or, accI_ne, accI_ne2, eGPair, eGGrant, eGSod, eGSession, eGRoles]; rfl)) (h3 : is = [] ∨ f = true := by first | exact .inr rfl | exact .inl rfl) : onCallD P tab ops nx0 nx k Q i r dst acc ids fr hp (.fn g caps) vs :=
 onCallD_pure (h1) h2 h3 h
theorem ZD1 {ops : Array Oper} {nx0 nx : Nat} {k : List It} {Q : Ex → St → Prop} {i : Nat} {r : List Oper} {dst : Option Nat} {acc : List Rec} {ids : List Nat} {fr : Fr} {hp : Hp} {g : FuncId} {caps vs : List AV} {b : Bool} {is : List Nat} {d : D} {f : Bool} {ds : List D} {F : Prop} (w : F) (h2 : PureOK P g ds d f) (h : Rd P tab ops nx0 nx k Q i r (⟨ids, [], false⟩ :: acc) (putS dst (lift (!f && b) d) fr) hp) (h1 : F → toDl hp (vs ++ caps) = some (ds, b, is) := by intro w; first | rfl | (simp -implicitDefEqProofs only [go_sem, Bool.false_and, Int.reduceToNat, Int.reduceLT, Int.reduceLE, Int.reduceBEq, Int.reduceBNe, Nat.reduceLT, Nat.reduceBEq, Int.reduceEq, Nat.reduceEqDiff, Nat.reduceAdd, Nat.reduceSub, Nat.reduceMul, Nat.reduceLeDiff, reduceCtorEq, ↓reduceIte, or_true, or_false, true_or, false_or, accI_ne, accI_ne2, eGPair, eGGrant, eGSod, eGSession, eGRoles, w]; done) | (simp -implicitDefEqProofs only [go_sem, Bool.false_and, Int.reduceToNat, Int.reduceLT, Int.reduceLE, Int.reduceBEq, Int.reduceBNe, Nat.reduceLT, Nat.reduceBEq, Int.reduceEq, Nat.reduceEqDiff, Nat.reduceAdd, Nat.reduceSub, Nat.reduceMul, Nat.reduceLeDiff, reduceCtorEq, ↓reduceIte, or_true, or_false, true_or, false_or, accI_ne, accI_ne2, eGPair, eGGrant, eGSod, eGSession, eGRoles, w]; rfl)) (h3 : is = [] ∨ f = true := by first | exact .inr rfl | exact .inl rfl) : onCallD P tab ops nx0 nx k Q i r dst acc ids fr hp (.fn g caps) vs :=
 onCallD_pure (h1 w) h2 h3 h
theorem ZA0 {ops : Array Oper} {nx0 : Nat} {k : List It} {Q : Ex → St → Prop} {i : Nat} {r : List Oper} {dst : Option Nat} {s : St} {g : FuncId} {caps vs : List AV} {b : Bool} {is : List Nat} {d : D} {f : Bool} {zs : List DA} (h2 : PureA P g zs d f) (h : Rt P tab ops nx0 k Q i r ⟨putS dst (lift (!f && b) d) s.fr, s.hp, s.nx⟩) (h1 : toAl s.hp (vs ++ caps) = some (zs, b, is) := by first | rfl | (simp -implicitDefEqProofs only [go_sem, Bool.false_and, Int.reduceToNat, Int.reduceLT, Int.reduceLE, Int.reduceBEq, Int.reduceBNe, Nat.reduceLT, Nat.reduceBEq, Int.reduceEq, Nat.reduceEqDiff, Nat.reduceAdd, Nat.reduceSub, Nat.reduceMul, Nat.reduceLeDiff, reduceCtorEq, ↓reduceIte, or_true, or_false, true_or, false_or, accI_ne, accI_ne2, eGPair, eGGrant, eGSod, eGSession, eGRoles]; done) | (simp -implicitDefEqProofs only [go_sem, Bool.false_and, Int.reduceToNat, Int.reduceLT, Int.reduceLE, Int.reduceBEq, Int.reduceBNe, Nat.reduceLT, Nat.reduceBEq, Int.reduceEq, Nat.reduceEqDiff, Nat.reduceAdd, Nat.reduceSub, Nat.reduceMul, Nat.reduceLeDiff, reduceCtorEq, ↓reduceIte, or_true, or_false, true_or, false_or, accI_ne, accI_ne2, eGPair, eGGrant, eGSod, eGSession, eGRoles]; rfl)) (h3 : is = [] ∨ f = true := by first | exact .inr rfl | exact .inl rfl) : onCall P tab ops nx0 k Q i r dst s (.fn g caps) vs :=
 onCall_pureA (h1) h2 h3 h
theorem ZE0 {rs : Array ResultVar} {d : D} {fr b : Bool} {is : List Nat} {s : St} {v : AV} (h1 : resA tab rs s = some v := by first | (simp -implicitDefEqProofs only [go_sem, Bool.false_and, Int.reduceToNat, Int.reduceLT, Int.reduceLE, Int.reduceBEq, Int.reduceBNe, Nat.reduceLT, Nat.reduceBEq, Int.reduceEq, Nat.reduceEqDiff, Nat.reduceAdd, Nat.reduceSub, Nat.reduceMul, Nat.reduceLeDiff, reduceCtorEq, ↓reduceIte, or_true, or_false, true_or, false_or, accI_ne, accI_ne2, eGPair, eGGrant, eGSod, eGSession, eGRoles] <;> rfl) | rfl) (h2 : toR s.hp v = some (d, b, is) := by first | rfl | (simp -implicitDefEqProofs only [go_sem, Bool.false_and, Int.reduceToNat, Int.reduceLT, Int.reduceLE, Int.reduceBEq, Int.reduceBNe, Nat.reduceLT, Nat.reduceBEq, Int.reduceEq, Nat.reduceEqDiff, Nat.reduceAdd, Nat.reduceSub, Nat.reduceMul, Nat.reduceLeDiff, reduceCtorEq, ↓reduceIte, or_true, or_false, true_or, false_or, accI_ne, accI_ne2, eGPair, eGGrant, eGSod, eGSession, eGRoles]; done) | (simp -implicitDefEqProofs only [go_sem, Bool.false_and, Int.reduceToNat, Int.reduceLT, Int.reduceLE, Int.reduceBEq, Int.reduceBNe, Nat.reduceLT, Nat.reduceBEq, Int.reduceEq, Nat.reduceEqDiff, Nat.reduceAdd, Nat.reduceSub, Nat.reduceMul, Nat.reduceLeDiff, reduceCtorEq, ↓reduceIte, or_true, or_false, true_or, false_or, accI_ne, accI_ne2, eGPair, eGGrant, eGSod, eGSession, eGRoles]; rfl)) (h4 : fr = true → b = false := by intro h; first | rfl | cases h) : EndW tab rs (EndP d fr) .ret s :=
 end_pure h1 (h2) rfl h4
theorem ZP (ht : TabOk P tab) (hm : P.follows .mixedOrders = true) {rs : Array ResultVar} {f : FuncId} {fn : Func} {code : Code} {ds : List D} {d : D} {fresh : Bool} (hf : P.funcs[f]? = some fn) (h : runR 0 P [.c code] (EndW tab rs (EndP d fresh)) ⟨frOf (ds.map (lift true)), noHp, 0⟩) (hr : fn.results = rs := by rfl) (hb : fn.body = some code := by rfl) (hname : (fn.name == "runtime.NumGoroutine") = false := by kernel_rfl) (hd : dstsB fn.ntmps code = true := by kernel_rfl) (hl : Nat.ble ds.length fn.ntmps = true := by rfl) : PureOK P f ds d fresh := by
 subst hr
 exact pure_runR ht hf hb hname hd (Nat.le_of_ble_eq_true hl) h
theorem ZPX (ht : TabOk P tab) (hm : P.follows .mixedOrders = true) {rs : Array ResultVar} {f : FuncId} {fn : Func} {code : Code} {zs : List DA} {d : D} {fresh : Bool} (hf : P.funcs[f]? = some fn) (h : runR 0 P [.c code] (EndW tab rs (EndX d fresh)) ⟨frOf (zs.map DA.av), noHp, 0⟩) (hr : fn.results = rs := by rfl) (hb : fn.body = some code := by rfl) (hname : (fn.name == "runtime.NumGoroutine") = false := by kernel_rfl) (hd : dstsB fn.ntmps code = true := by kernel_rfl) (hl : Nat.ble zs.length fn.ntmps = true := by rfl) : PureA P f zs d fresh := by
 subst hr
 exact pureX_runR ht hf hb hname hd (Nat.le_of_ble_eq_true hl) h
theorem ZB {ρ : Nat → Option Nat} {hp : Hp} {k j : Nat} {cs ds : List AV} (h1 : ρ k = some j) (h3 : hp j = some (.bx ds)) (h2 : renL ρ cs = some ds) : ∀ p, some (AO.bx cs) = some p → ∃ j o', ρ k = some j ∧ renO ρ p = some o' ∧ hp j = some o' := rh_one h1 (renO_bx h2) h3
theorem ZR {n N nx : Nat} {fr' fr : Fr} {hp' hp : Hp} (L : List (Nat × Nat)) (h1 : (Nat.ble n N && okL n N L) = true := by rfl) (h2 : ∀ t, fr' t = .un ∨ renA (lk n L) (fr' t) = some (fr t) := by repeat' (first | exact rf_no _ | refine rf_upd (by rfl) ?_ | refine rf_upd (ren_acc (by rfl)) ?_ | refine rf_upd (ren_accP (by rfl) (by assumption)) ?_)) (h3 : ∀ i o, hp' i = some o → ∃ j o', lk n L i = some j ∧ renO (lk n L) o = some o' ∧ hp j = some o' := by repeat' (first | exact rh_no _ | refine rh_upd (rh_one (by rfl) (by rfl) (by rfl)) ?_ | refine rh_upd (rh_acc (by rfl) (by rfl)) ?_ | refine rh_upd (rh_accP (by rfl) (by assumption) (by rfl)) ?_ | refine rh_upd rh_accN ?_ | refine rh_upd (ZB (by rfl) (by rfl) (by repeat' (first | exact renL_nil _ | refine renL_cons (by rfl) ?_ | refine renL_cons (ren_acc (by rfl)) ?_ | refine renL_cons (ren_accP (by rfl) (by assumption)) ?_))) ?_)) : WeakR n ⟨fr', hp', N⟩ ⟨fr, hp, nx⟩ := ren_mk L h1 h2 h3
theorem Y2 {A0 A1 : Prop} (a0 : A0) (a1 : A1) : A0 ∧ A1 := ⟨a0, a1⟩
theorem Y3 {A0 A1 A2 : Prop} (a0 : A0) (a1 : A1) (a2 : A2) : A0 ∧ A1 ∧ A2 := ⟨a0, a1, a2⟩
theorem Y4 {A0 A1 A2 A3 : Prop} (a0 : A0) (a1 : A1) (a2 : A2) (a3 : A3) : A0 ∧ A1 ∧ A2 ∧ A3 := ⟨a0, a1, a2, a3⟩
theorem Y5 {A0 A1 A2 A3 A4 : Prop} (a0 : A0) (a1 : A1) (a2 : A2) (a3 : A3) (a4 : A4) : A0 ∧ A1 ∧ A2 ∧ A3 ∧ A4 := ⟨a0, a1, a2, a3, a4⟩
theorem Y6 {A0 A1 A2 A3 A4 A5 : Prop} (a0 : A0) (a1 : A1) (a2 : A2) (a3 : A3) (a4 : A4) (a5 : A5) : A0 ∧ A1 ∧ A2 ∧ A3 ∧ A4 ∧ A5 := ⟨a0, a1, a2, a3, a4, a5⟩
theorem Zi {α : Type} {a b : α} (h : some a = some b) : a = b := Option.some.inj h
end
theorem ZT {n : Nat} {k : List It} {Q : Ex → St → Prop} {s : St} (m : Nat) (h : run Tryz.prog tab (k.take m) (contR n Tryz.prog (k.drop m) Q) s) : runR n Tryz.prog k Q s := runR_take tab_ok fol m h
theorem Zo {α β : Type} (a : α) (f : α → Option β) : (some a).bind f = f a := rfl
theorem Zx {α : Type} {x : α} {C : Prop} (h : none = some x) : C := nomatch h
end Go.Proofs.YtkkhgdmmbhpckaaGreat.Ab
