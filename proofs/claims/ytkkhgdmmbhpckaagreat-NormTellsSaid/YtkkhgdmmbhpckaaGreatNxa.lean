/-
 Functions, read off the code.
-/
import Derived.Test.YtkkhgdmmbhpckaaGreatRpg
import Derived.Test.YtkkhgdmmbhpckaaGreatSes
import Derived.Test.YtkkhgdmmbhpckaaGreatCpd
import Derived.Test.YtkkhgdmmbhpckaaGreatCpe
import Derived.Test.YtkkhgdmmbhpckaaGreatScb
namespace Go.Proofs.YtkkhgdmmbhpckaaGreat.Ab
open Go.RowKit
def xv_ (n : Nat) (l : List GSod) : Nat → (List GSod × Int) → Option (List GSod)
 | 0, _ => none
 | c + 1, (out, t8) =>
  (if (decide (t8 < (l.length : Int))) then
   (idx l t8).bind fun x2 =>
   (xG_ n x2.roles).bind fun t192 =>
   (app out [(⟨x2.name, x2.n_, t192⟩ : GSod)]).bind fun l2 =>
   xv_ n l c (l2, (IntKind.i64.wrap (t8 + 1)))
  else
   some out)
def zj_ (n : Nat) (_ : List GSod) (st : List GSod) (x2 : GSod) (k : List GSod → Option (List GSod)) : Option (List GSod) :=
 match st with
 | out =>
  (xG_ n x2.roles).bind fun t192 =>
  (app out [(⟨x2.name, x2.n_, t192⟩ : GSod)]).bind fun l2 =>
  k l2
def vm_ (_ : Nat) (_ : List GSod) (st : List GSod) : Option (List GSod) :=
 match st with
 | out => some out
theorem kM_ (n : Nat) (l : List GSod) (hx : l.length < 4611686018427387904) (c : Nat) (st : List GSod) (ix : Nat) (hi : ix ≤ l.length) (hc : l.length - ix < c) : xv_ n l c (match st, (ix : Int) with | out, ix => (out, ix)) = jg_ (zj_ n l) (vm_ n l) (l.drop ix) st :=
 q0_ (fun c st ix => xv_ n l c (match st, ix with | out, ix => (out, ix))) l (zj_ n l) (vm_ n l) (fun _ _ _ => rfl) hx c st ix hi hc
def vD_ (n : Nat) (l : List GSod) : Option (List GSod) :=
 (
  xv_ n l n ([], 0) : Option (List GSod)).bind fun out3 =>
 (if (decide (out3.length = 0)) then
  some []
 else
  (vT_ n out3).bind fun l3 =>
  (uj_ n l3).bind fun l4 =>
  some l4)
theorem k8_ {n : Nat} {l : List GSod} {r : List GSod} (H : vD_ n l = some r) : PureOK Tryz.prog 33 [D.sl (List.map eGSod l)] (D.sl (List.map eGSod r)) true := by
 unfold vD_ at H;refine ZP qo_ fol (rs := #[.tmp 2]) Tryz.func33 ?_;refine zsq (ZT 1 ?_);refine Z0 ?_;refine zsq (ZT 1 ?_);refine Z0 ?_;refine zsq (zsq ?_);refine ZT 1 ?_;refine Z0 ?_;obtain ⟨e_, E1, H2⟩ := zbi H;refine zjn (α := { y : List GSod // e_ = y } × Nat) (fun | ⟨⟨out3, _⟩, g3⟩ => ⟨upd 3 (accV 0 g3 (List.map eGSod out3)) noFr, upd 0 (accO 3 g3 false (List.map eGSod out3)) noHp, 1⟩) ?_ ?_
 ·refine zbk ?_
  refine zlp (α := { q : (Nat × (List GSod × Int)) × Nat // xv_ n l q.1.1 q.1.2 = some e_ }) (fun | ⟨⟨⟨c, ⟨out, t8⟩⟩, g⟩, _⟩ => ⟨upd 3 (accV 0 g (List.map eGSod out)) (upd 6 (.d (.sl (List.map eGSod l)) true) (upd 7 (.v (.int .i64 (l.length : Int))) (upd 8 (.v (.int .i64 t8)) noFr))), upd 0 (accO 3 g false (List.map eGSod out)) noHp, 1⟩) (fun q => q.1.1.1) ⟨((n, ([], 0)), 0), E1⟩ ?_ ?_
  ·exact ZR []
  ·rintro ⟨⟨⟨c, ⟨out, t8⟩⟩, g⟩, L3⟩
   rcases c with _ | c
   ·exact Zx L3
   ·unfold xv_ at L3
    try dsimp only at L3
    refine ZT 1 ?_;refine Z0 ?_;rcases zit L3 with ⟨c14, H15⟩ | ⟨c14, H15⟩
    ·obtain ⟨x2, b16, H17⟩ := zbi H15
     obtain ⟨h18, h19⟩ := zix b16;try simp only [Int.reduceToNat, Int.toNat_natCast] at h19
     have h20 := qi_ eGSod h19;obtain ⟨t192, b22, H23⟩ := zbi H17;refine Z1 (Y3 c14 (zno .i64 h18) h20) ?_;refine ZD0 (vg_ b22) ?_;obtain ⟨l2, b24, H25⟩ := zbi H23;obtain ⟨h26, h27⟩ := qj_ b24;have h26 : out.length + 1 ≤ 4294967296 := h26;have h28 : List.map eGSod out ++ [[.v (.string x2.name), .v (.int .i64 x2.n_), .sl (List.map eS t192)]] = List.map eGSod l2 := qm_ eGSod h27
     have h29 : out.length + 1 = l2.length := qn_ h27;have h30 : l2.length ≤ 4294967296 := by omega
     have q31 : 0 < l2.length := by omega
     refine Z1 (Y2 (Y6 c14 (zno .i64 h18) h20 h26 h28 h29) h30) ?_;refine qf_ (by (cases out <;> rfl)) ?_;refine Z1 (Y2 (Y6 c14 (zno .i64 h18) h20 h26 h28 h29) h30) ?_;rcases out with _ | ⟨q0, q1⟩
     ·try simp only [List.map_nil, accI, accN]
      exact ⟨⟨((c, (l2, (IntKind.i64.wrap (t8 + 1)))), 0), H25⟩, ZR [(0, 16)], Nat.lt_succ_self _⟩
     ·try simp only [List.map_cons, accI, accN]
      exact ⟨⟨((c, (l2, (IntKind.i64.wrap (t8 + 1)))), (g + 1)), H25⟩, ZR [(0, 0)], Nat.lt_succ_self _⟩
    ·refine Z1 c14 ?_
     obtain rfl := Zi H15;exact ⟨⟨⟨out, rfl⟩, g⟩, ZR [(0, 0)]⟩
 ·rintro ⟨⟨out3, he59⟩, g3⟩
  obtain rfl := he59.symm;try dsimp only at H2
  refine ZT 1 ?_;refine Z0 ?_;rcases zit H2 with ⟨c35, H36⟩ | ⟨c35, H36⟩
  ·have e37 : out3 = [] := List.eq_nil_of_length_eq_zero (of_decide_eq_true c35)
   subst e37;simp only [List.map_nil, w6_, yz_];try simp only [accK, accB]
   refine Z0 ?_;refine qz_ (InlOK.mono hN_ ?_);rintro v38 hp39 nx40 ⟨rfl, rfl, rfl⟩;refine Z0 ?_;refine qz_ (InlOK.mono ne_ ?_);rintro v41 hp42 nx43 ⟨rfl, rfl⟩;refine Z0 ?_;obtain rfl := Zi H36;exact ZE0
  ·have q44 : 0 < out3.length := by have := of_decide_eq_false c35; omega
   have h45 : ∀ i, accK i (List.map eGSod out3) = [i] := fun i => by cases hx : out3 with | nil => (rw [hx] at q44; simp at q44) | cons a r => rfl
   have h46 : ∀ b, accB b (List.map eGSod out3) = b := fun b => by cases hx : out3 with | nil => (rw [hx] at q44; simp at q44) | cons a r => rfl
   obtain ⟨l3, b50, H51⟩ := zbi H36;refine Z1 (Y6 c35 h45 h46 q44 (YV (f := eGSod) q44) (YO (f := eGSod) q44)) ?_;have h52 := dj_ b50
   refine qz_ (InlOK.mono (dV_ b50 (by first | rfl | (simp -implicitDefEqProofs only [go_sem, Bool.false_and, Int.reduceToNat, Int.reduceLT, Int.reduceLE, Int.reduceBEq, Int.reduceBNe, Nat.reduceLT, Nat.reduceBEq, Int.reduceEq, Nat.reduceEqDiff, Nat.reduceAdd, Nat.reduceSub, Nat.reduceMul, Nat.reduceLeDiff, reduceCtorEq, ↓reduceIte, eGPair, eGGrant, eGSod, eGSession, eGWord, eGLine, eGFact, c35, h45, h46, q44, xp_ (f := eGSod) q44, xq_ (f := eGSod) q44]; done) | (simp -implicitDefEqProofs only [go_sem, Bool.false_and, Int.reduceToNat, Int.reduceLT, Int.reduceLE, Int.reduceBEq, Int.reduceBNe, Nat.reduceLT, Nat.reduceBEq, Int.reduceEq, Nat.reduceEqDiff, Nat.reduceAdd, Nat.reduceSub, Nat.reduceMul, Nat.reduceLeDiff, reduceCtorEq, ↓reduceIte, eGPair, eGGrant, eGSod, eGSession, eGWord, eGLine, eGFact, c35, h45, h46, q44, xp_ (f := eGSod) q44, xq_ (f := eGSod) q44]; rfl))) ?_)
   rintro v47 hp48 nx49 ⟨rfl, rfl, rfl⟩;try rw [h52]
   obtain ⟨l4, b56, H57⟩ := zbi H51;refine Z1 (Y6 c35 h45 h46 q44 (YV (f := eGSod) q44) (YO (f := eGSod) q44)) ?_
   refine qz_ (InlOK.mono (hA_ b56 (by first | rfl | (simp -implicitDefEqProofs only [go_sem, Bool.false_and, Int.reduceToNat, Int.reduceLT, Int.reduceLE, Int.reduceBEq, Int.reduceBNe, Nat.reduceLT, Nat.reduceBEq, Int.reduceEq, Nat.reduceEqDiff, Nat.reduceAdd, Nat.reduceSub, Nat.reduceMul, Nat.reduceLeDiff, reduceCtorEq, ↓reduceIte, eGPair, eGGrant, eGSod, eGSession, eGWord, eGLine, eGFact, c35, h45, h46, q44, xp_ (f := eGSod) q44, xq_ (f := eGSod) q44]; done) | (simp -implicitDefEqProofs only [go_sem, Bool.false_and, Int.reduceToNat, Int.reduceLT, Int.reduceLE, Int.reduceBEq, Int.reduceBNe, Nat.reduceLT, Nat.reduceBEq, Int.reduceEq, Nat.reduceEqDiff, Nat.reduceAdd, Nat.reduceSub, Nat.reduceMul, Nat.reduceLeDiff, reduceCtorEq, ↓reduceIte, eGPair, eGGrant, eGSod, eGSession, eGWord, eGLine, eGFact, c35, h45, h46, q44, xp_ (f := eGSod) q44, xq_ (f := eGSod) q44]; rfl))) ?_)
   rintro v53 hp54 nx55 ⟨rfl, rfl⟩;refine Z1 (Y6 c35 h45 h46 q44 (YV (f := eGSod) q44) (YO (f := eGSod) q44)) ?_;obtain rfl := Zi H57;exact ZE1 (Y6 c35 h45 h46 q44 (YV (f := eGSod) q44) (YO (f := eGSod) q44))
def jf_ (n : Nat) (l : List GSession) : Nat → (List GSession × Int) → Option (List GSession)
 | 0, _ => none
 | c + 1, (out, t8) =>
  (if (decide (t8 < (l.length : Int))) then
   (idx l t8).bind fun x2 =>
   (xG_ n x2.roles).bind fun t192 =>
   (app out [(⟨x2.name, x2.user, t192⟩ : GSession)]).bind fun l2 =>
   jf_ n l c (l2, (IntKind.i64.wrap (t8 + 1)))
  else
   some out)
def xr_ (n : Nat) (_ : List GSession) (st : List GSession) (x2 : GSession) (k : List GSession → Option (List GSession)) : Option (List GSession) :=
 match st with
 | out =>
  (xG_ n x2.roles).bind fun t192 =>
  (app out [(⟨x2.name, x2.user, t192⟩ : GSession)]).bind fun l2 =>
  k l2
def xS_ (_ : Nat) (_ : List GSession) (st : List GSession) : Option (List GSession) :=
 match st with
 | out => some out
theorem we_ (n : Nat) (l : List GSession) (hx : l.length < 4611686018427387904) (c : Nat) (st : List GSession) (ix : Nat) (hi : ix ≤ l.length) (hc : l.length - ix < c) : jf_ n l c (match st, (ix : Int) with | out, ix => (out, ix)) = jg_ (xr_ n l) (xS_ n l) (l.drop ix) st :=
 q0_ (fun c st ix => jf_ n l c (match st, ix with | out, ix => (out, ix))) l (xr_ n l) (xS_ n l) (fun _ _ _ => rfl) hx c st ix hi hc
def xT_ (n : Nat) (l : List GSession) : Option (List GSession) :=
 (
  jf_ n l n ([], 0) : Option (List GSession)).bind fun out3 =>
 (if (decide (out3.length = 0)) then
  some []
 else
  (xA_ n out3).bind fun l3 =>
  (zO_ n l3).bind fun l4 =>
  some l4)
theorem yj_ {n : Nat} {l : List GSession} {r : List GSession} (H : xT_ n l = some r) : PureOK Tryz.prog 34 [D.sl (List.map eGSession l)] (D.sl (List.map eGSession r)) true := by
 unfold xT_ at H;refine ZP qo_ fol (rs := #[.tmp 2]) Tryz.func34 ?_;refine zsq (ZT 1 ?_);refine Z0 ?_;refine zsq (ZT 1 ?_);refine Z0 ?_;refine zsq (zsq ?_);refine ZT 1 ?_;refine Z0 ?_;obtain ⟨e_, E1, H2⟩ := zbi H
 refine zjn (α := { y : List GSession // e_ = y } × Nat) (fun | ⟨⟨out3, _⟩, g3⟩ => ⟨upd 3 (accV 0 g3 (List.map eGSession out3)) noFr, upd 0 (accO 3 g3 false (List.map eGSession out3)) noHp, 1⟩) ?_ ?_
 ·refine zbk ?_
  refine zlp (α := { q : (Nat × (List GSession × Int)) × Nat // jf_ n l q.1.1 q.1.2 = some e_ }) (fun | ⟨⟨⟨c, ⟨out, t8⟩⟩, g⟩, _⟩ => ⟨upd 3 (accV 0 g (List.map eGSession out)) (upd 6 (.d (.sl (List.map eGSession l)) true) (upd 7 (.v (.int .i64 (l.length : Int))) (upd 8 (.v (.int .i64 t8)) noFr))), upd 0 (accO 3 g false (List.map eGSession out)) noHp, 1⟩) (fun q => q.1.1.1) ⟨((n, ([], 0)), 0), E1⟩ ?_ ?_
  ·exact ZR []
  ·rintro ⟨⟨⟨c, ⟨out, t8⟩⟩, g⟩, L3⟩
   rcases c with _ | c
   ·exact Zx L3
   ·unfold jf_ at L3
    try dsimp only at L3
    refine ZT 1 ?_;refine Z0 ?_;rcases zit L3 with ⟨c14, H15⟩ | ⟨c14, H15⟩
    ·obtain ⟨x2, b16, H17⟩ := zbi H15
     obtain ⟨h18, h19⟩ := zix b16;try simp only [Int.reduceToNat, Int.toNat_natCast] at h19
     have h20 := qi_ eGSession h19;obtain ⟨t192, b22, H23⟩ := zbi H17;refine Z1 (Y3 c14 (zno .i64 h18) h20) ?_;refine ZD0 (vg_ b22) ?_;obtain ⟨l2, b24, H25⟩ := zbi H23;obtain ⟨h26, h27⟩ := qj_ b24;have h26 : out.length + 1 ≤ 4294967296 := h26;have h28 : List.map eGSession out ++ [[.v (.string x2.name), .v (.string x2.user), .sl (List.map eS t192)]] = List.map eGSession l2 := qm_ eGSession h27
     have h29 : out.length + 1 = l2.length := qn_ h27;have h30 : l2.length ≤ 4294967296 := by omega
     have q31 : 0 < l2.length := by omega
     refine Z1 (Y2 (Y6 c14 (zno .i64 h18) h20 h26 h28 h29) h30) ?_;refine qf_ (by (cases out <;> rfl)) ?_;refine Z1 (Y2 (Y6 c14 (zno .i64 h18) h20 h26 h28 h29) h30) ?_;rcases out with _ | ⟨q0, q1⟩
     ·try simp only [List.map_nil, accI, accN]
      exact ⟨⟨((c, (l2, (IntKind.i64.wrap (t8 + 1)))), 0), H25⟩, ZR [(0, 16)], Nat.lt_succ_self _⟩
     ·try simp only [List.map_cons, accI, accN]
      exact ⟨⟨((c, (l2, (IntKind.i64.wrap (t8 + 1)))), (g + 1)), H25⟩, ZR [(0, 0)], Nat.lt_succ_self _⟩
    ·refine Z1 c14 ?_
     obtain rfl := Zi H15;exact ⟨⟨⟨out, rfl⟩, g⟩, ZR [(0, 0)]⟩
 ·rintro ⟨⟨out3, he59⟩, g3⟩
  obtain rfl := he59.symm;try dsimp only at H2
  refine ZT 1 ?_;refine Z0 ?_;rcases zit H2 with ⟨c35, H36⟩ | ⟨c35, H36⟩
  ·have e37 : out3 = [] := List.eq_nil_of_length_eq_zero (of_decide_eq_true c35)
   subst e37;simp only [List.map_nil, w6_, yz_];try simp only [accK, accB]
   refine Z0 ?_;refine qz_ (InlOK.mono uO_ ?_);rintro v38 hp39 nx40 ⟨rfl, rfl, rfl⟩;refine Z0 ?_;refine qz_ (InlOK.mono gS_ ?_);rintro v41 hp42 nx43 ⟨rfl, rfl⟩;refine Z0 ?_;obtain rfl := Zi H36;exact ZE0
  ·have q44 : 0 < out3.length := by have := of_decide_eq_false c35; omega
   have h45 : ∀ i, accK i (List.map eGSession out3) = [i] := fun i => by cases hx : out3 with | nil => (rw [hx] at q44; simp at q44) | cons a r => rfl
   have h46 : ∀ b, accB b (List.map eGSession out3) = b := fun b => by cases hx : out3 with | nil => (rw [hx] at q44; simp at q44) | cons a r => rfl
   obtain ⟨l3, b50, H51⟩ := zbi H36;refine Z1 (Y6 c35 h45 h46 q44 (YV (f := eGSession) q44) (YO (f := eGSession) q44)) ?_;have h52 := yo_ b50
   refine qz_ (InlOK.mono (uv_ b50 (by first | rfl | (simp -implicitDefEqProofs only [go_sem, Bool.false_and, Int.reduceToNat, Int.reduceLT, Int.reduceLE, Int.reduceBEq, Int.reduceBNe, Nat.reduceLT, Nat.reduceBEq, Int.reduceEq, Nat.reduceEqDiff, Nat.reduceAdd, Nat.reduceSub, Nat.reduceMul, Nat.reduceLeDiff, reduceCtorEq, ↓reduceIte, eGPair, eGGrant, eGSod, eGSession, eGWord, eGLine, eGFact, c35, h45, h46, q44, xp_ (f := eGSession) q44, xq_ (f := eGSession) q44]; done) | (simp -implicitDefEqProofs only [go_sem, Bool.false_and, Int.reduceToNat, Int.reduceLT, Int.reduceLE, Int.reduceBEq, Int.reduceBNe, Nat.reduceLT, Nat.reduceBEq, Int.reduceEq, Nat.reduceEqDiff, Nat.reduceAdd, Nat.reduceSub, Nat.reduceMul, Nat.reduceLeDiff, reduceCtorEq, ↓reduceIte, eGPair, eGGrant, eGSod, eGSession, eGWord, eGLine, eGFact, c35, h45, h46, q44, xp_ (f := eGSession) q44, xq_ (f := eGSession) q44]; rfl))) ?_)
   rintro v47 hp48 nx49 ⟨rfl, rfl, rfl⟩;try rw [h52]
   obtain ⟨l4, b56, H57⟩ := zbi H51;refine Z1 (Y6 c35 h45 h46 q44 (YV (f := eGSession) q44) (YO (f := eGSession) q44)) ?_
   refine qz_ (InlOK.mono (uF_ b56 (by first | rfl | (simp -implicitDefEqProofs only [go_sem, Bool.false_and, Int.reduceToNat, Int.reduceLT, Int.reduceLE, Int.reduceBEq, Int.reduceBNe, Nat.reduceLT, Nat.reduceBEq, Int.reduceEq, Nat.reduceEqDiff, Nat.reduceAdd, Nat.reduceSub, Nat.reduceMul, Nat.reduceLeDiff, reduceCtorEq, ↓reduceIte, eGPair, eGGrant, eGSod, eGSession, eGWord, eGLine, eGFact, c35, h45, h46, q44, xp_ (f := eGSession) q44, xq_ (f := eGSession) q44]; done) | (simp -implicitDefEqProofs only [go_sem, Bool.false_and, Int.reduceToNat, Int.reduceLT, Int.reduceLE, Int.reduceBEq, Int.reduceBNe, Nat.reduceLT, Nat.reduceBEq, Int.reduceEq, Nat.reduceEqDiff, Nat.reduceAdd, Nat.reduceSub, Nat.reduceMul, Nat.reduceLeDiff, reduceCtorEq, ↓reduceIte, eGPair, eGGrant, eGSod, eGSession, eGWord, eGLine, eGFact, c35, h45, h46, q44, xp_ (f := eGSession) q44, xq_ (f := eGSession) q44]; rfl))) ?_)
   rintro v53 hp54 nx55 ⟨rfl, rfl⟩;refine Z1 (Y6 c35 h45 h46 q44 (YV (f := eGSession) q44) (YO (f := eGSession) q44)) ?_;obtain rfl := Zi H57;exact ZE1 (Y6 c35 h45 h46 q44 (YV (f := eGSession) q44) (YO (f := eGSession) q44))
def jD_ (n : Nat) (next : List (ByteArray × (List ByteArray))) (x3 : ByteArray) : Nat → (List (ByteArray × Int) × List ByteArray × Int) → Option (List (ByteArray × Int) × List ByteArray)
 | 0, _ => none
 | c + 1, (seen5, out5, t283) =>
  (if (decide (t283 < (((jh_ x3 [] next)).length : Int))) then
   (idx (jh_ x3 [] next) t283).bind fun x5 =>
   (if ((jh_ x5 0 seen5) == 0) then
    (app out5 [x5]).bind fun l3 =>
    jD_ n next x3 c ((mset x5 1 seen5), l3, (IntKind.i64.wrap (t283 + 1)))
   else
    jD_ n next x3 c (seen5, out5, (IntKind.i64.wrap (t283 + 1))))
  else
   some (seen5, out5))
def j3_ (n : Nat) (next : List (ByteArray × (List ByteArray))) : Nat → (List (ByteArray × Int) × List ByteArray × Int) → Option (List ByteArray)
 | 0, _ => none
 | c + 1, (seen4, out4, i) =>
  (if (decide (i < (out4.length : Int))) then
   (idx out4 i).bind fun x3 =>
   (
    jD_ n next x3 n (seen4, out4, 0) : Option (List (ByteArray × Int) × List ByteArray)).bind fun (seen7, out7) =>
   j3_ n next c (seen7, out7, (IntKind.i64.wrap (i + 1)))
  else
   some out4)
def jW_ (n : Nat) (role : ByteArray) (next : List (ByteArray × (List ByteArray))) : Option (List ByteArray) :=
 (
  j3_ n next n ((mset role 1 []), [role], 0) : Option (List ByteArray)).bind fun out9 =>
 (gh_ n out9).bind fun l4 =>
 some l4
theorem zB_ {n : Nat} {role : ByteArray} {next : List (ByteArray × (List ByteArray))} {r : List ByteArray} (H : jW_ n role next = some r) : PureOK Tryz.prog 26 [D.v (.string role), D.mp (vz_ Value.string false (eL eS) next)] (D.sl (List.map eS r)) true := by
 unfold jW_ at H;refine ZP qo_ fol (rs := #[.tmp 4]) Tryz.func26 ?_;refine zsq (ZT 1 ?_);refine Z0 ?_;refine zsq (ZT 1 ?_);refine Z1 (fun _ => rfl : ∀ hp : Hp, upd 1 (some (AO.mo [] false)) hp = upd 1 (some (AO.mo (encM Value.string vI ([] : List (ByteArray × Int))) false)) hp) ?_;refine zsq (ZT 1 ?_)
 refine Z1 (fun _ => rfl : ∀ hp : Hp, upd 1 (some (AO.mo [] false)) hp = upd 1 (some (AO.mo (encM Value.string vI ([] : List (ByteArray × Int))) false)) hp) ?_;refine zsq (zsq ?_);refine ZT 1 ?_;refine Z1 (fun _ => rfl : ∀ hp : Hp, upd 1 (some (AO.mo [] false)) hp = upd 1 (some (AO.mo (encM Value.string vI ([] : List (ByteArray × Int))) false)) hp) ?_;obtain ⟨e_, E1, H2⟩ := zbi H
 refine zjn (α := { y : List ByteArray // e_ = y } × Nat) (fun | ⟨⟨out9, _⟩, g9⟩ => ⟨upd 6 (.so 0 g9 0 (out9.length)) noFr, upd 0 (some (.rw (List.map eS out9) 1 g9 false false)) noHp, 1⟩) ?_ ?_
 ·refine zbk ?_
  refine zlp (α := { q : (Nat × (List (ByteArray × Int) × List ByteArray × Int)) × Nat // j3_ n next q.1.1 q.1.2 = some e_ }) (fun | ⟨⟨⟨c, ⟨seen4, out4, i⟩⟩, g4⟩, _⟩ => ⟨upd 1 (.d (.mp (vz_ Value.string false (eL eS) next)) true) (upd 5 (.mo 0) (upd 6 (.so 1 g4 0 (out4.length)) (upd 7 (.v (.int .i64 i)) noFr))), upd 0 (some (.mo (encM Value.string vI seen4) false)) (upd 1 (some (.rw (List.map eS out4) 1 g4 false false)) noHp), 2⟩) (fun q => q.1.1.1) ⟨((n, ((mset role 1 []), [role], 0)), 0), E1⟩ ?_ ?_
  ·exact uc_ [(0, 1), (1, 7)] (by rfl) (qs_ (by rfl) (qs_ (by rfl) (qs_ (by rfl) (qs_ (by rfl) (v7_ _))))) (jU_ (xo_ (by rfl) (vA_ (fun _ => rfl) _ _) (by rfl)) (jU_ (xo_ (by rfl) (by rfl) (by rfl)) (v8_ _)))
  ·rintro ⟨⟨⟨c, ⟨seen4, out4, i⟩⟩, g4⟩, L3⟩
   rcases c with _ | c
   ·exact Zx L3
   ·unfold j3_ at L3
    try dsimp only at L3
    refine zsq (ZT 1 ?_);refine Z0 ?_;rcases zit L3 with ⟨c37, H38⟩ | ⟨c37, H38⟩
    ·refine Z1 c37 ?_
     refine zsq (zbk ?_);refine zsq (ZT 1 ?_);obtain ⟨x3, b39, H40⟩ := zbi H38;obtain ⟨h41, h42⟩ := zix b39;try simp only [Int.reduceToNat, Int.toNat_natCast] at h42
     have h43 := qi_ eS h42;have h44 := zN_ h42;have h45 : w8_ (false, [.string]) (.string x3) (.d (.sl []) true) false (wr_ true (vz_ Value.string false (eL eS) next)) = some (.d (.sl (List.map eS (jh_ x3 [] next))) true, []) := lookD (b := true) (ag := false) (enc := (eL eS)) kJ_ x3 ([] : List ByteArray) false next;refine Z1 (Y5 c37 (zno .i64 h41) h43 h44 h45) ?_
     obtain ⟨e_3, E46, H47⟩ := zbi H40
     refine zjn (α := { y : List (ByteArray × Int) × List ByteArray // e_3 = y } × Nat) (fun | ⟨⟨⟨seen7, out7⟩, _⟩, g7⟩ => ⟨upd 1 (.d (.mp (vz_ Value.string false (eL eS) next)) true) (upd 5 (.mo 0) (upd 6 (.so 1 g7 0 (out7.length)) (upd 7 (.v (.int .i64 i)) noFr))), upd 0 (some (.mo (encM Value.string vI seen7) false)) (upd 1 (some (.rw (List.map eS out7) 1 g7 false false)) noHp), 2⟩) ?_ ?_
     ·refine zbk ?_
      refine zlp (α := { q : (Nat × (List (ByteArray × Int) × List ByteArray × Int)) × Nat // jD_ n next x3 q.1.1 q.1.2 = some e_3 }) (fun | ⟨⟨⟨c, ⟨seen5, out5, t283⟩⟩, g5⟩, _⟩ => ⟨upd 1 (.d (.mp (vz_ Value.string false (eL eS) next)) true) (upd 5 (.mo 0) (upd 6 (.so 1 g5 0 (out5.length)) (upd 7 (.v (.int .i64 i)) (upd 26 (.d (.sl (List.map eS (jh_ x3 [] next))) true) (upd 27 (.v (.int .i64 (((jh_ x3 [] next)).length : Int))) (upd 28 (.v (.int .i64 t283)) noFr)))))), upd 0 (some (.mo (encM Value.string vI seen5) false)) (upd 1 (some (.rw (List.map eS out5) 1 g5 false false)) noHp), 2⟩) (fun q => q.1.1.1) ⟨((n, (seen4, out4, 0)), g4), E46⟩ ?_ ?_
      ·exact uc_ [(0, 0), (1, 1)] (by rfl) (qs_ (by rfl) (qs_ (by rfl) (qs_ (by rfl) (qs_ (by rfl) (qs_ (by rfl) (qs_ (by rfl) (qs_ (by rfl) (v7_ _)))))))) (jU_ (xo_ (by rfl) (vA_ (fun _ => rfl) _ _) (by rfl)) (jU_ (xo_ (by rfl) (by rfl) (by rfl)) (v8_ _)))
      ·rintro ⟨⟨⟨c, ⟨seen5, out5, t283⟩⟩, g5⟩, L48⟩
       rcases c with _ | c
       ·exact Zx L48
       ·unfold jD_ at L48
        try dsimp only at L48
        refine ZT 1 ?_;refine Z0 ?_;rcases zit L48 with ⟨c67, H68⟩ | ⟨c67, H68⟩
        ·obtain ⟨x5, b69, H70⟩ := zbi H68
         obtain ⟨h71, h72⟩ := zix b69;try simp only [Int.reduceToNat, Int.toNat_natCast] at h72
         have h73 := qi_ eS h72;refine Z1 (Y3 c67 (zno .i64 h71) h73) ?_;rcases zit H70 with ⟨c75, H76⟩ | ⟨c75, H76⟩
         ·obtain ⟨l3, b77, H78⟩ := zbi H76
          obtain ⟨h79, h80⟩ := qj_ b77;have h79 : out5.length + 1 ≤ 4294967296 := h79;have h81 : List.map eS out5 ++ [[.v (.string x5)]] = List.map eS l3 := qm_ eS h80;have h82 : out5.length + 1 = l3.length := qn_ h80;have h83 : l3.length ≤ 4294967296 := by omega
          have q84 : 0 < l3.length := by omega
          refine Z1 (Y2 (Y6 c67 (zno .i64 h71) h73 c75 h79 h81) (Y2 h82 h83)) ?_
          exact ⟨⟨((c, ((mset x5 1 seen5), l3, (IntKind.i64.wrap (t283 + 1)))), (g5 + 1)), H78⟩, uc_ [(0, 0), (1, 1)] (by rfl) (qs_ (by rfl) (qs_ (by rfl) (qs_ (by rfl) (qs_ (by rfl) (qs_ (by rfl) (qs_ (by rfl) (qs_ (by rfl) (v7_ _)))))))) (jU_ (xo_ (by rfl) (vA_ (fun _ => rfl) _ _) (by rfl)) (jU_ (xo_ (by rfl) (by rfl) (by rfl)) (v8_ _))), Nat.lt_succ_self _⟩
         ·refine Z1 (Y4 c67 (zno .i64 h71) h73 c75) ?_
          exact ⟨⟨((c, (seen5, out5, (IntKind.i64.wrap (t283 + 1)))), g5), H76⟩, uc_ [(0, 0), (1, 1)] (by rfl) (qs_ (by rfl) (qs_ (by rfl) (qs_ (by rfl) (qs_ (by rfl) (qs_ (by rfl) (qs_ (by rfl) (qs_ (by rfl) (v7_ _)))))))) (jU_ (xo_ (by rfl) (vA_ (fun _ => rfl) _ _) (by rfl)) (jU_ (xo_ (by rfl) (by rfl) (by rfl)) (v8_ _))), Nat.lt_succ_self _⟩
        ·refine Z1 c67 ?_
         obtain rfl := Zi H68;exact ⟨⟨⟨(seen5, out5), rfl⟩, g5⟩, uc_ [(0, 0), (1, 1)] (by rfl) (qs_ (by rfl) (qs_ (by rfl) (qs_ (by rfl) (qs_ (by rfl) (v7_ _))))) (jU_ (xo_ (by rfl) (vA_ (fun _ => rfl) _ _) (by rfl)) (jU_ (xo_ (by rfl) (by rfl) (by rfl)) (v8_ _)))⟩
     ·rintro ⟨⟨⟨seen7, out7⟩, he85⟩, g7⟩
      obtain rfl := he85.symm;try dsimp only at H47
      refine Z0 ?_;refine ZT 1 ?_;refine Z0 ?_;exact ⟨⟨((c, (seen7, out7, (IntKind.i64.wrap (i + 1)))), g7), H47⟩, uc_ [(0, 0), (1, 1)] (by rfl) (qs_ (by rfl) (qs_ (by rfl) (qs_ (by rfl) (qs_ (by rfl) (v7_ _))))) (jU_ (xo_ (by rfl) (vA_ (fun _ => rfl) _ _) (by rfl)) (jU_ (xo_ (by rfl) (by rfl) (by rfl)) (v8_ _))), Nat.lt_succ_self _⟩
    ·refine Z1 c37 ?_
     obtain rfl := Zi H38;exact ⟨⟨⟨out4, rfl⟩, g4⟩, ZR [(0, 1)]⟩
 ·rintro ⟨⟨out9, he92⟩, g9⟩
  obtain rfl := he92.symm;try dsimp only at H2
  refine ZT 1 ?_;obtain ⟨l4, b89, H90⟩ := zbi H2;refine Z0 ?_;have h91 := hO_ b89
  refine qz_ (InlOK.mono (nK_ b89 (by first | rfl | (simp -implicitDefEqProofs only [go_sem, Bool.false_and, Int.reduceToNat, Int.reduceLT, Int.reduceLE, Int.reduceBEq, Int.reduceBNe, Nat.reduceLT, Nat.reduceBEq, Int.reduceEq, Nat.reduceEqDiff, Nat.reduceAdd, Nat.reduceSub, Nat.reduceMul, Nat.reduceLeDiff, reduceCtorEq, ↓reduceIte, eGPair, eGGrant, eGSod, eGSession, eGWord, eGLine, eGFact]; done) | (simp -implicitDefEqProofs only [go_sem, Bool.false_and, Int.reduceToNat, Int.reduceLT, Int.reduceLE, Int.reduceBEq, Int.reduceBNe, Nat.reduceLT, Nat.reduceBEq, Int.reduceEq, Nat.reduceEqDiff, Nat.reduceAdd, Nat.reduceSub, Nat.reduceMul, Nat.reduceLeDiff, reduceCtorEq, ↓reduceIte, eGPair, eGGrant, eGSod, eGSession, eGWord, eGLine, eGFact]; rfl))) ?_)
  rintro v86 hp87 nx88 ⟨rfl, rfl, rfl⟩;try rw [h91]
  refine Z0 ?_;obtain rfl := Zi H90;exact ZE0
def j4_ (n : Nat) (l : List GPair) : Nat → (List (ByteArray × (List ByteArray)) × Int) → Option (List (ByteArray × (List ByteArray)))
 | 0, _ => none
 | c + 1, (out2, t9) =>
  (if (decide (t9 < (l.length : Int))) then
   (idx l t9).bind fun x2 =>
   grd (decide (out2.length ≤ 4294967296)) <|
   (
    grd (famG x2.a out2) <|
    some () : Option (Unit)).bind fun _ =>
   grd (decide ((madd x2.a [x2.b] out2).length ≤ 4294967296)) <|
   j4_ n l c ((madd x2.a [x2.b] out2), (IntKind.i64.wrap (t9 + 1)))
  else
   grd (decide (out2.length ≤ 4294967296)) <|
   some out2)
def xU_ (_ : Nat) (_ : List GPair) (st : List (ByteArray × (List ByteArray))) (x2 : GPair) (k : (List (ByteArray × (List ByteArray))) → Option (List (ByteArray × (List ByteArray)))) : Option (List (ByteArray × (List ByteArray))) :=
 match st with
 | out2 =>
  grd (decide (out2.length ≤ 4294967296)) <|
  (
   grd (famG x2.a out2) <|
   some () : Option (Unit)).bind fun _ =>
  grd (decide ((madd x2.a [x2.b] out2).length ≤ 4294967296)) <|
  k (madd x2.a [x2.b] out2)
def zT_ (_ : Nat) (_ : List GPair) (st : List (ByteArray × (List ByteArray))) : Option (List (ByteArray × (List ByteArray))) :=
 match st with
 | out2 => grd (decide (out2.length ≤ 4294967296)) <|
 some out2
theorem kf_ (n : Nat) (l : List GPair) (hx : l.length < 4611686018427387904) (c : Nat) (st : List (ByteArray × (List ByteArray))) (ix : Nat) (hi : ix ≤ l.length) (hc : l.length - ix < c) : j4_ n l c (match st, (ix : Int) with | out2, ix => (out2, ix)) = jg_ (xU_ n l) (zT_ n l) (l.drop ix) st :=
 q0_ (fun c st ix => j4_ n l c (match st, ix with | out2, ix => (out2, ix))) l (xU_ n l) (zT_ n l) (fun _ _ _ => rfl) hx c st ix hi hc
def zc_ (n : Nat) (l : List GPair) : Option (List (ByteArray × (List ByteArray))) :=
 (
  j4_ n l n (([] : List (ByteArray × (List ByteArray))), 0) : Option (List (ByteArray × (List ByteArray)))).bind fun out4 =>
 grd (decide (out4.length ≤ 4294967296)) <|
 some out4
theorem vN_ {n : Nat} {l : List GPair} {r : List (ByteArray × (List ByteArray))} (H : zc_ n l = some r) : PureA Tryz.prog 27 [.d (D.sl (List.map eGPair l))] (D.mp (vz_ Value.string false (eL eS) r)) true := by
 unfold zc_ at H;refine ZPX qo_ fol (rs := #[.tmp 2]) Tryz.func27 ?_;refine zsq (ZT 1 ?_);refine Z0 ?_;refine zsq (ZT 1 ?_);refine Z0 ?_;refine zsq (zsq ?_);refine ZT 1 ?_;refine Z0 ?_;obtain ⟨e_, E1, H2⟩ := zbi H
 refine zjn (α := { y : List (ByteArray × (List ByteArray)) // e_ = y } × (Nat → Nat)) (fun | ⟨⟨out4, _⟩, g6⟩ => ⟨upd 3 (.mo 0) noFr, upd 0 (some (.mo (encF Value.string 4294967296 g6 out4) false)) (famH eS 1 4294967296 g6 out4 (noHp)), 8589934592⟩) ?_ ?_
 ·refine zbk ?_
  refine zlp (α := { q : (Nat × (List (ByteArray × (List ByteArray)) × Int)) × (Nat → Nat) // j4_ n l q.1.1 q.1.2 = some e_ }) (fun | ⟨⟨⟨c, ⟨out2, t9⟩⟩, g3⟩, _⟩ => ⟨upd 3 (.mo 0) (upd 7 (.d (.sl (List.map eGPair l)) true) (upd 8 (.v (.int .i64 (l.length : Int))) (upd 9 (.v (.int .i64 t9)) noFr))), upd 0 (some (.mo (encF Value.string 4294967296 g3 out2) false)) (famH eS 1 4294967296 g3 out2 (noHp)), 8589934592⟩) (fun q => q.1.1.1) ⟨((n, (([] : List (ByteArray × (List ByteArray))), 0)), (fun _ => 0)), E1⟩ ?_ ?_
  ·exact vl_ (R := 340282366920938463463374607431768211457) none (fun _ _ h => by cases h) [4294967296] [(0, 1)] (by rfl) (qs_ (by rfl) (qs_ (by rfl) (qs_ (by rfl) (qs_ (by rfl) (v7_ _))))) (jU_ (xo_ (by rfl) (vb_ (by rfl) (by simp) (fun _ _ h => by cases h) (by decide) rfl) (by rfl)) (k3_ (by rfl) (by simp) (fun _ _ h => by cases h) rfl (fun j p h hj => by cases h) (v8_ _)))
  ·rintro ⟨⟨⟨c, ⟨out2, t9⟩⟩, g3⟩, L3⟩
   rcases c with _ | c
   ·exact Zx L3
   ·unfold j4_ at L3
    try dsimp only at L3
    refine zsq (ZT 1 ?_);refine Z0 ?_;refine zsq (ZT 1 ?_);refine Z0 ?_;rcases zit L3 with ⟨c54, H55⟩ | ⟨c54, H55⟩
    ·refine Z1 c54 ?_
     refine zsq (zbk ?_);refine zsq (ZT 1 ?_);obtain ⟨x2, b56, H57⟩ := zbi H55;obtain ⟨h58, h59⟩ := zix b56;try simp only [Int.reduceToNat, Int.toNat_natCast] at h59
     have h60 := qi_ eGPair h59;refine Z1 (Y3 c54 (zno .i64 h58) h60) ?_;obtain ⟨g62, H63⟩ := xE_ H57;have h64 : out2.length ≤ 4294967296 := of_decide_eq_true g62;obtain ⟨e_3, E65, H66⟩ := zbi H63
     refine zjn (α := { y : Unit // e_3 = y } × (Nat → Nat)) (fun | ⟨⟨_, _⟩, g4⟩ => ⟨upd 3 (.mo 0) (upd 7 (.d (.sl (List.map eGPair l)) true) (upd 8 (.v (.int .i64 (l.length : Int))) (upd 9 (.v (.int .i64 t9)) noFr))), upd 0 (some (.mo (encF Value.string 4294967296 g4 (madd x2.a [x2.b] out2)) false)) (famH eS 1 4294967296 g4 (madd x2.a [x2.b] out2) (noHp)), 8589934592⟩) ?_ ?_
     ·refine ZT 1 ?_
      obtain ⟨g67, H68⟩ := xE_ E65;obtain ⟨g69, g70⟩ := fB_ g67;refine Z0 ?_;rcases u4_ (kv := Value.string) (B := 4294967296) (vs := g3) kJ_ x2.a out2 with ⟨n71, n72, n73⟩ | ⟨j2, xs2, o74, o75, o76, o77⟩
      ·have n78 : j0_ (false, [.string]) (.string x2.a) (encF Value.string 4294967296 g3 out2) = some none := n72
       try simp -implicitDefEqProofs only [go_sem, Nat.reduceLT, Nat.reduceEqDiff, Nat.reduceAdd, Nat.reduceLeDiff, reduceCtorEq, ↓reduceIte, yB_ n78, yD_ n78]
       refine qf_ (by kernel_rfl) ?_
       try simp -implicitDefEqProofs only [go_sem]
       obtain rfl := Zi H68
       exact ⟨⟨⟨(), rfl⟩, (vsUp (List.length out2) 0 g3)⟩, vl_ (R := 8589934607) (some (fid 4294967296 (List.length out2), 8589934607)) (fun _ _ h => by cases h; rfl) [4294967296] [(0, 0)] (by rfl) (qs_ (by rfl) (qs_ (by rfl) (qs_ (by rfl) (qs_ (by rfl) (v7_ _))))) (jU_ (xo_ (by rfl) (bZ_ (by rfl) (by simp) g69 (by first | exact (n73 _) | rfl)) (by rfl)) (m6_ (by rfl) (by simp) g69 (by first | exact (n73 _) | rfl) (fun j p h hj => by repeat (first | with_reducible exact zb_ h hj | (with_reducible refine wu_ ?_ ?_; rw [qN_]; omega) | (with_reducible refine wv_ ?_ ?_; rw [qN_]; omega))) (by rfl) (v8_ _)))⟩
      ·have o83 : j0_ (false, [.string]) (.string x2.a) (encF Value.string 4294967296 g3 out2) = some (some (j2, .so (fid 4294967296 j2) (g3 j2) 0 xs2.length)) := o76
       have h79 : j2 < 4294967296 := Nat.lt_trans (List.getElem?_eq_some_iff.1 o74).1 g69;have h80 : ∀ hp : Hp, famH eS 1 4294967296 g3 out2 hp (fid 4294967296 j2) = some (.rw (List.map eS xs2) 1 (g3 j2) false false) := fun _ => zb_ o74 h79
       have h81 : (encF Value.string 4294967296 g3 out2)[j2]? = some ((.string x2.a), .so (fid 4294967296 j2) (g3 j2) 0 xs2.length) := (dK_ _ _).trans (by rw [o74]; rfl);have h82 : xs2.length + 1 ≤ 4294967296 := by have := g70; simp only [jh_, o75, Option.getD_some] at this; omega
       have h84 : ∀ (x y : Option AO) (g : Hp), upd (fid 4294967296 j2) x (upd 0 y g) = upd 0 y (upd (fid 4294967296 j2) x g) := fun _ _ _ => wq_ (by rw [qN_]; omega);have h85 : ∀ (x y : Option AO) (g : Hp), upd (fid 4294967296 j2) x (upd 8589934595 y g) = upd 8589934595 y (upd (fid 4294967296 j2) x g) := fun _ _ _ => wq_ (by rw [qN_]; omega)
       have h86 : ∀ c : Nat, 8589934592 ≤ c → (fid 4294967296 j2 = c) = False := fun c h => rB_ h79 h;have h87 : ∀ c : Nat, 8589934592 ≤ c → (c = fid 4294967296 j2) = False := fun c h => m4_ h79 h;have h88 : ∀ (c : Nat) (x y : Option AO) (g : Hp), 8589934592 ≤ c → upd (fid 4294967296 j2) x (upd c y g) = upd c y (upd (fid 4294967296 j2) x g) := fun _ _ _ _ h => wq_ (by rw [qN_]; omega)
       obtain ⟨zs2, h89⟩ : ∃ zs, xs2 ++ [x2.b] = zs := ⟨_, rfl⟩;have h90 : List.map eS xs2 ++ [[.v (.string x2.b)]] = List.map eS zs2 := qm_ eS h89;have h91 : xs2.length + 1 = zs2.length := qn_ h89;have h92 : zs2.length ≤ 4294967296 := by omega
       have h93 : madd x2.a [x2.b] out2 = List.set out2 j2 (x2.a, zs2) := by rw [← h89]; exact o77 _
       have h94 : ∀ hp : Hp, upd (fid 4294967296 j2) (some (.rw (List.map eS zs2) 1 (g3 j2 + 1) false false)) (famH eS 1 4294967296 g3 out2 hp) = famH eS 1 4294967296 (vsUp j2 (g3 j2 + 1) g3) (List.set out2 j2 (x2.a, zs2)) hp := fun _ => fC_ (q := (x2.a, zs2)) o74 h79
       have h95 : List.set (encF Value.string 4294967296 g3 out2) j2 ((.string x2.a), .so (fid 4294967296 j2) (g3 j2 + 1) 0 zs2.length) = encF Value.string 4294967296 (vsUp j2 (g3 j2 + 1) g3) (List.set out2 j2 (x2.a, zs2)) := fE_ (q := (x2.a, zs2)) (List.getElem?_eq_some_iff.1 o74).1
       have h96 : (List.set out2 j2 (x2.a, zs2)).length ≤ 4294967296 := by rw [List.length_set]; exact Nat.le_of_lt g69
       try simp -implicitDefEqProofs only [go_sem, Nat.reduceLT, Nat.reduceEqDiff, Nat.reduceAdd, Nat.reduceLeDiff, reduceCtorEq, ↓reduceIte, yC_ o83, yE_ o83, h80, h84, h85, h86, k2_, h88, h90, h91, h92, h94, h95]
       refine m8_ (fid 4294967296 j2) 340282366920938463463374607431768211458 (by have := h79; rw [qN_]; unfold sent; omega) (by decide) (by simp [h87]) (by simp only [List.reverse_cons, List.reverse_nil, List.nil_append, List.cons_append, List.map_cons, List.map_nil, dM_, sw, Nat.reduceLeDiff, Nat.reduceLT, ↓reduceIte, v9_, h87]; kernel_rfl) ?_
       try simp -implicitDefEqProofs only [go_sem]
       obtain rfl := Zi H68
       exact ⟨⟨⟨(), rfl⟩, (vsUp j2 (g3 j2 + 1) g3)⟩, vl_ (R := 340282366920938463463374607431768211457) none (fun _ _ h => by cases h) [4294967296] [(0, 0)] (by rfl) (qs_ (by rfl) (qs_ (by rfl) (qs_ (by rfl) (qs_ (by rfl) (v7_ _))))) (jU_ (xo_ (by rfl) (vb_ (by rfl) (by simp) (fun _ _ h => by cases h) h96 (by first | exact h93 | rfl)) (by rfl)) (k3_ (by rfl) (by simp) (fun _ _ h => by cases h) (by first | exact h93 | rfl) (fun j p h hj => by repeat (first | with_reducible exact zb_ h hj | (with_reducible refine wu_ ?_ ?_; rw [qN_]; omega) | (with_reducible refine wv_ ?_ ?_; rw [qN_]; omega))) (v8_ _)))⟩
     ·rintro ⟨⟨_, he100⟩, g4⟩
      obtain rfl := he100.symm;try dsimp only at H66
      refine Z0 ?_;refine ZT 1 ?_;refine Z0 ?_;obtain ⟨g97, H98⟩ := xE_ H66;have h99 : (madd x2.a [x2.b] out2).length ≤ 4294967296 := of_decide_eq_true g97
      exact ⟨⟨((c, ((madd x2.a [x2.b] out2), (IntKind.i64.wrap (t9 + 1)))), g4), H98⟩, vl_ (R := 340282366920938463463374607431768211457) none (fun _ _ h => by cases h) [4294967296] [(0, 0)] (by rfl) (qs_ (by rfl) (qs_ (by rfl) (qs_ (by rfl) (qs_ (by rfl) (v7_ _))))) (jU_ (xo_ (by rfl) (vb_ (by rfl) (by simp) (fun _ _ h => by cases h) h99 rfl) (by rfl)) (k3_ (by rfl) (by simp) (fun _ _ h => by cases h) rfl (fun j p h hj => by repeat (first | with_reducible exact zb_ h hj | (with_reducible refine wu_ ?_ ?_; rw [qN_]; omega) | (with_reducible refine wv_ ?_ ?_; rw [qN_]; omega))) (v8_ _))), Nat.lt_succ_self _⟩
    ·refine Z1 c54 ?_
     obtain ⟨g101, H102⟩ := xE_ H55;have h103 : out2.length ≤ 4294967296 := of_decide_eq_true g101;obtain rfl := Zi H102
     exact ⟨⟨⟨out2, rfl⟩, g3⟩, vl_ (R := 340282366920938463463374607431768211457) none (fun _ _ h => by cases h) [4294967296] [(0, 0)] (by rfl) (qs_ (by rfl) (v7_ _)) (jU_ (xo_ (by rfl) (vb_ (by rfl) (by simp) (fun _ _ h => by cases h) h103 rfl) (by rfl)) (k3_ (by rfl) (by simp) (fun _ _ h => by cases h) rfl (fun j p h hj => by repeat (first | with_reducible exact zb_ h hj | (with_reducible refine wu_ ?_ ?_; rw [qN_]; omega) | (with_reducible refine wv_ ?_ ?_; rw [qN_]; omega))) (v8_ _)))⟩
 ·rintro ⟨⟨out4, he107⟩, g6⟩
  obtain rfl := he107.symm;try dsimp only at H2
  refine ZT 1 ?_;refine Z0 ?_;obtain ⟨g104, H105⟩ := xE_ H2;have h106 : out4.length ≤ 4294967296 := of_decide_eq_true g104;obtain rfl := Zi H105
  exact pV_ (b := false) (v := .mo 0) (by first | (simp -implicitDefEqProofs only [go_sem, ↓reduceIte] <;> rfl) | rfl) (ToXR.val (ToXV.one (ToX.fam (by rfl) h106 (fun j p h hj => by repeat (first | with_reducible exact zb_ h hj | (with_reducible refine wu_ ?_ ?_; rw [qN_]; omega) | (with_reducible refine wv_ ?_ ?_; rw [qN_]; omega)))) rfl)) (by intro h; first | rfl | cases h)
def zU_ (n : Nat) (p : GRoles) (role : ByteArray) : Option (List ByteArray) :=
 (zc_ n p.inherit).bind fun t8 =>
 (jW_ n role t8).bind fun t9 =>
 some t9
theorem k9_ {n : Nat} {p : GRoles} {role : ByteArray} {r : List ByteArray} (H : zU_ n p role = some r) : PureOK Tryz.prog 8 [D.ag (eGRoles p), D.v (.string role)] (D.sl (List.map eS r)) true := by
 unfold zU_ at H;refine ZP qo_ fol (rs := #[.tmp 4]) Tryz.func8 ?_;refine ZT 1 ?_;obtain ⟨t8, b1, H2⟩ := zbi H;refine Z0 ?_;refine ZA0 (vN_ b1) ?_;obtain ⟨t9, b3, H4⟩ := zbi H2;refine Z0 ?_;refine ZC0 (zB_ b3) ?_;refine Z0 ?_;obtain rfl := Zi H4;exact ZE0
def zd_ (n : Nat) (p : GRoles) : Nat → (List (ByteArray × (List ByteArray)) × Int) → Option (List (ByteArray × (List ByteArray)))
 | 0, _ => none
 | c + 1, (above2, t12) =>
  (if (decide (t12 < (p.inherit.length : Int))) then
   (idx p.inherit t12).bind fun x2 =>
   grd (decide (above2.length ≤ 4294967296)) <|
   (
    grd (famG x2.b above2) <|
    some () : Option (Unit)).bind fun _ =>
   grd (decide ((madd x2.b [x2.a] above2).length ≤ 4294967296)) <|
   zd_ n p c ((madd x2.b [x2.a] above2), (IntKind.i64.wrap (t12 + 1)))
  else
   grd (decide (above2.length ≤ 4294967296)) <|
   some above2)
def zp_ (_ : Nat) (_ : GRoles) (st : List (ByteArray × (List ByteArray))) (x2 : GPair) (k : (List (ByteArray × (List ByteArray))) → Option (List (ByteArray × (List ByteArray)))) : Option (List (ByteArray × (List ByteArray))) :=
 match st with
 | above2 =>
  grd (decide (above2.length ≤ 4294967296)) <|
  (
   grd (famG x2.b above2) <|
   some () : Option (Unit)).bind fun _ =>
  grd (decide ((madd x2.b [x2.a] above2).length ≤ 4294967296)) <|
  k (madd x2.b [x2.a] above2)
def vc_ (_ : Nat) (_ : GRoles) (st : List (ByteArray × (List ByteArray))) : Option (List (ByteArray × (List ByteArray))) :=
 match st with
 | above2 => grd (decide (above2.length ≤ 4294967296)) <|
 some above2
theorem um_ (n : Nat) (p : GRoles) (hx : p.inherit.length < 4611686018427387904) (c : Nat) (st : List (ByteArray × (List ByteArray))) (ix : Nat) (hi : ix ≤ p.inherit.length) (hc : p.inherit.length - ix < c) : zd_ n p c (match st, (ix : Int) with | above2, ix => (above2, ix)) = jg_ (zp_ n p) (vc_ n p) (p.inherit.drop ix) st :=
 q0_ (fun c st ix => zd_ n p c (match st, ix with | above2, ix => (above2, ix))) p.inherit (zp_ n p) (vc_ n p) (fun _ _ _ => rfl) hx c st ix hi hc
def wN_ (n : Nat) (p : GRoles) (role : ByteArray) : Option (List ByteArray) :=
 (
  zd_ n p n (([] : List (ByteArray × (List ByteArray))), 0) : Option (List (ByteArray × (List ByteArray)))).bind fun above4 =>
 (jW_ n role above4).bind fun t30 =>
 grd (decide (above4.length ≤ 4294967296)) <|
 some t30
theorem ga_ {n : Nat} {p : GRoles} {role : ByteArray} {r : List ByteArray} (H : wN_ n p role = some r) : PureOK Tryz.prog 9 [D.ag (eGRoles p), D.v (.string role)] (D.sl (List.map eS r)) true := by
 unfold wN_ at H;refine ZP qo_ fol (rs := #[.tmp 4]) Tryz.func9 ?_;refine zsq (ZT 1 ?_);refine Z0 ?_;refine zsq (ZT 1 ?_);refine Z0 ?_;refine zsq (zsq ?_);refine ZT 1 ?_;refine Z0 ?_;obtain ⟨e_, E1, H2⟩ := zbi H
 refine zjn (α := { y : List (ByteArray × (List ByteArray)) // e_ = y } × (Nat → Nat)) (fun | ⟨⟨above4, _⟩, g6⟩ => ⟨upd 1 (.v (.string role)) (upd 5 (.mo 0) noFr), upd 0 (some (.mo (encF Value.string 4294967296 g6 above4) false)) (famH eS 1 4294967296 g6 above4 (noHp)), 8589934592⟩) ?_ ?_
 ·refine zbk ?_
  refine zlp (α := { q : (Nat × (List (ByteArray × (List ByteArray)) × Int)) × (Nat → Nat) // zd_ n p q.1.1 q.1.2 = some e_ }) (fun | ⟨⟨⟨c, ⟨above2, t12⟩⟩, g3⟩, _⟩ => ⟨upd 1 (.v (.string role)) (upd 5 (.mo 0) (upd 10 (.d (.sl (List.map eGPair p.inherit)) true) (upd 11 (.v (.int .i64 (p.inherit.length : Int))) (upd 12 (.v (.int .i64 t12)) noFr)))), upd 0 (some (.mo (encF Value.string 4294967296 g3 above2) false)) (famH eS 1 4294967296 g3 above2 (noHp)), 8589934592⟩) (fun q => q.1.1.1) ⟨((n, (([] : List (ByteArray × (List ByteArray))), 0)), (fun _ => 0)), E1⟩ ?_ ?_
  ·exact vl_ (R := 340282366920938463463374607431768211457) none (fun _ _ h => by cases h) [4294967296] [(0, 2)] (by rfl) (qs_ (by rfl) (qs_ (by rfl) (qs_ (by rfl) (qs_ (by rfl) (qs_ (by rfl) (v7_ _)))))) (jU_ (xo_ (by rfl) (vb_ (by rfl) (by simp) (fun _ _ h => by cases h) (by decide) rfl) (by rfl)) (k3_ (by rfl) (by simp) (fun _ _ h => by cases h) rfl (fun j p h hj => by cases h) (v8_ _)))
  ·rintro ⟨⟨⟨c, ⟨above2, t12⟩⟩, g3⟩, L3⟩
   rcases c with _ | c
   ·exact Zx L3
   ·unfold zd_ at L3
    try dsimp only at L3
    refine zsq (ZT 1 ?_);refine Z0 ?_;refine zsq (ZT 1 ?_);refine Z0 ?_;rcases zit L3 with ⟨c54, H55⟩ | ⟨c54, H55⟩
    ·refine Z1 c54 ?_
     refine zsq (zbk ?_);refine zsq (ZT 1 ?_);obtain ⟨x2, b56, H57⟩ := zbi H55;obtain ⟨h58, h59⟩ := zix b56;try simp only [Int.reduceToNat, Int.toNat_natCast] at h59
     have h60 := qi_ eGPair h59;refine Z1 (Y3 c54 (zno .i64 h58) h60) ?_;obtain ⟨g62, H63⟩ := xE_ H57;have h64 : above2.length ≤ 4294967296 := of_decide_eq_true g62;obtain ⟨e_3, E65, H66⟩ := zbi H63
     refine zjn (α := { y : Unit // e_3 = y } × (Nat → Nat)) (fun | ⟨⟨_, _⟩, g4⟩ => ⟨upd 1 (.v (.string role)) (upd 5 (.mo 0) (upd 10 (.d (.sl (List.map eGPair p.inherit)) true) (upd 11 (.v (.int .i64 (p.inherit.length : Int))) (upd 12 (.v (.int .i64 t12)) noFr)))), upd 0 (some (.mo (encF Value.string 4294967296 g4 (madd x2.b [x2.a] above2)) false)) (famH eS 1 4294967296 g4 (madd x2.b [x2.a] above2) (noHp)), 8589934592⟩) ?_ ?_
     ·refine ZT 1 ?_
      obtain ⟨g67, H68⟩ := xE_ E65;obtain ⟨g69, g70⟩ := fB_ g67;refine Z0 ?_;rcases u4_ (kv := Value.string) (B := 4294967296) (vs := g3) kJ_ x2.b above2 with ⟨n71, n72, n73⟩ | ⟨j2, xs2, o74, o75, o76, o77⟩
      ·have n78 : j0_ (false, [.string]) (.string x2.b) (encF Value.string 4294967296 g3 above2) = some none := n72
       try simp -implicitDefEqProofs only [go_sem, Nat.reduceLT, Nat.reduceEqDiff, Nat.reduceAdd, Nat.reduceLeDiff, reduceCtorEq, ↓reduceIte, yB_ n78, yD_ n78]
       refine qf_ (by kernel_rfl) ?_
       try simp -implicitDefEqProofs only [go_sem]
       obtain rfl := Zi H68
       exact ⟨⟨⟨(), rfl⟩, (vsUp (List.length above2) 0 g3)⟩, vl_ (R := 8589934607) (some (fid 4294967296 (List.length above2), 8589934607)) (fun _ _ h => by cases h; rfl) [4294967296] [(0, 0)] (by rfl) (qs_ (by rfl) (qs_ (by rfl) (qs_ (by rfl) (qs_ (by rfl) (qs_ (by rfl) (v7_ _)))))) (jU_ (xo_ (by rfl) (bZ_ (by rfl) (by simp) g69 (by first | exact (n73 _) | rfl)) (by rfl)) (m6_ (by rfl) (by simp) g69 (by first | exact (n73 _) | rfl) (fun j p h hj => by repeat (first | with_reducible exact zb_ h hj | (with_reducible refine wu_ ?_ ?_; rw [qN_]; omega) | (with_reducible refine wv_ ?_ ?_; rw [qN_]; omega))) (by rfl) (v8_ _)))⟩
      ·have o83 : j0_ (false, [.string]) (.string x2.b) (encF Value.string 4294967296 g3 above2) = some (some (j2, .so (fid 4294967296 j2) (g3 j2) 0 xs2.length)) := o76
       have h79 : j2 < 4294967296 := Nat.lt_trans (List.getElem?_eq_some_iff.1 o74).1 g69;have h80 : ∀ hp : Hp, famH eS 1 4294967296 g3 above2 hp (fid 4294967296 j2) = some (.rw (List.map eS xs2) 1 (g3 j2) false false) := fun _ => zb_ o74 h79
       have h81 : (encF Value.string 4294967296 g3 above2)[j2]? = some ((.string x2.b), .so (fid 4294967296 j2) (g3 j2) 0 xs2.length) := (dK_ _ _).trans (by rw [o74]; rfl);have h82 : xs2.length + 1 ≤ 4294967296 := by have := g70; simp only [jh_, o75, Option.getD_some] at this; omega
       have h84 : ∀ (x y : Option AO) (g : Hp), upd (fid 4294967296 j2) x (upd 0 y g) = upd 0 y (upd (fid 4294967296 j2) x g) := fun _ _ _ => wq_ (by rw [qN_]; omega);have h85 : ∀ (x y : Option AO) (g : Hp), upd (fid 4294967296 j2) x (upd 8589934595 y g) = upd 8589934595 y (upd (fid 4294967296 j2) x g) := fun _ _ _ => wq_ (by rw [qN_]; omega)
       have h86 : ∀ c : Nat, 8589934592 ≤ c → (fid 4294967296 j2 = c) = False := fun c h => rB_ h79 h;have h87 : ∀ c : Nat, 8589934592 ≤ c → (c = fid 4294967296 j2) = False := fun c h => m4_ h79 h;have h88 : ∀ (c : Nat) (x y : Option AO) (g : Hp), 8589934592 ≤ c → upd (fid 4294967296 j2) x (upd c y g) = upd c y (upd (fid 4294967296 j2) x g) := fun _ _ _ _ h => wq_ (by rw [qN_]; omega)
       obtain ⟨zs2, h89⟩ : ∃ zs, xs2 ++ [x2.a] = zs := ⟨_, rfl⟩;have h90 : List.map eS xs2 ++ [[.v (.string x2.a)]] = List.map eS zs2 := qm_ eS h89;have h91 : xs2.length + 1 = zs2.length := qn_ h89;have h92 : zs2.length ≤ 4294967296 := by omega
       have h93 : madd x2.b [x2.a] above2 = List.set above2 j2 (x2.b, zs2) := by rw [← h89]; exact o77 _
       have h94 : ∀ hp : Hp, upd (fid 4294967296 j2) (some (.rw (List.map eS zs2) 1 (g3 j2 + 1) false false)) (famH eS 1 4294967296 g3 above2 hp) = famH eS 1 4294967296 (vsUp j2 (g3 j2 + 1) g3) (List.set above2 j2 (x2.b, zs2)) hp := fun _ => fC_ (q := (x2.b, zs2)) o74 h79
       have h95 : List.set (encF Value.string 4294967296 g3 above2) j2 ((.string x2.b), .so (fid 4294967296 j2) (g3 j2 + 1) 0 zs2.length) = encF Value.string 4294967296 (vsUp j2 (g3 j2 + 1) g3) (List.set above2 j2 (x2.b, zs2)) := fE_ (q := (x2.b, zs2)) (List.getElem?_eq_some_iff.1 o74).1
       have h96 : (List.set above2 j2 (x2.b, zs2)).length ≤ 4294967296 := by rw [List.length_set]; exact Nat.le_of_lt g69
       try simp -implicitDefEqProofs only [go_sem, Nat.reduceLT, Nat.reduceEqDiff, Nat.reduceAdd, Nat.reduceLeDiff, reduceCtorEq, ↓reduceIte, yC_ o83, yE_ o83, h80, h84, h85, h86, k2_, h88, h90, h91, h92, h94, h95]
       refine m8_ (fid 4294967296 j2) 340282366920938463463374607431768211458 (by have := h79; rw [qN_]; unfold sent; omega) (by decide) (by simp [h87]) (by simp only [List.reverse_cons, List.reverse_nil, List.nil_append, List.cons_append, List.map_cons, List.map_nil, dM_, sw, Nat.reduceLeDiff, Nat.reduceLT, ↓reduceIte, v9_, h87]; kernel_rfl) ?_
       try simp -implicitDefEqProofs only [go_sem]
       obtain rfl := Zi H68
       exact ⟨⟨⟨(), rfl⟩, (vsUp j2 (g3 j2 + 1) g3)⟩, vl_ (R := 340282366920938463463374607431768211457) none (fun _ _ h => by cases h) [4294967296] [(0, 0)] (by rfl) (qs_ (by rfl) (qs_ (by rfl) (qs_ (by rfl) (qs_ (by rfl) (qs_ (by rfl) (v7_ _)))))) (jU_ (xo_ (by rfl) (vb_ (by rfl) (by simp) (fun _ _ h => by cases h) h96 (by first | exact h93 | rfl)) (by rfl)) (k3_ (by rfl) (by simp) (fun _ _ h => by cases h) (by first | exact h93 | rfl) (fun j p h hj => by repeat (first | with_reducible exact zb_ h hj | (with_reducible refine wu_ ?_ ?_; rw [qN_]; omega) | (with_reducible refine wv_ ?_ ?_; rw [qN_]; omega))) (v8_ _)))⟩
     ·rintro ⟨⟨_, he100⟩, g4⟩
      obtain rfl := he100.symm;try dsimp only at H66
      refine Z0 ?_;refine ZT 1 ?_;refine Z0 ?_;obtain ⟨g97, H98⟩ := xE_ H66;have h99 : (madd x2.b [x2.a] above2).length ≤ 4294967296 := of_decide_eq_true g97
      exact ⟨⟨((c, ((madd x2.b [x2.a] above2), (IntKind.i64.wrap (t12 + 1)))), g4), H98⟩, vl_ (R := 340282366920938463463374607431768211457) none (fun _ _ h => by cases h) [4294967296] [(0, 0)] (by rfl) (qs_ (by rfl) (qs_ (by rfl) (qs_ (by rfl) (qs_ (by rfl) (qs_ (by rfl) (v7_ _)))))) (jU_ (xo_ (by rfl) (vb_ (by rfl) (by simp) (fun _ _ h => by cases h) h99 rfl) (by rfl)) (k3_ (by rfl) (by simp) (fun _ _ h => by cases h) rfl (fun j p h hj => by repeat (first | with_reducible exact zb_ h hj | (with_reducible refine wu_ ?_ ?_; rw [qN_]; omega) | (with_reducible refine wv_ ?_ ?_; rw [qN_]; omega))) (v8_ _))), Nat.lt_succ_self _⟩
    ·refine Z1 c54 ?_
     obtain ⟨g101, H102⟩ := xE_ H55;have h103 : above2.length ≤ 4294967296 := of_decide_eq_true g101;obtain rfl := Zi H102
     exact ⟨⟨⟨above2, rfl⟩, g3⟩, vl_ (R := 340282366920938463463374607431768211457) none (fun _ _ h => by cases h) [4294967296] [(0, 0)] (by rfl) (qs_ (by rfl) (qs_ (by rfl) (v7_ _))) (jU_ (xo_ (by rfl) (vb_ (by rfl) (by simp) (fun _ _ h => by cases h) h103 rfl) (by rfl)) (k3_ (by rfl) (by simp) (fun _ _ h => by cases h) rfl (fun j p h hj => by repeat (first | with_reducible exact zb_ h hj | (with_reducible refine wu_ ?_ ?_; rw [qN_]; omega) | (with_reducible refine wv_ ?_ ?_; rw [qN_]; omega))) (v8_ _)))⟩
 ·rintro ⟨⟨above4, he109⟩, g6⟩
  obtain rfl := he109.symm;try dsimp only at H2
  refine ZT 1 ?_;obtain ⟨t30, b104, H105⟩ := zbi H2;refine Z0 ?_;obtain ⟨g106, H107⟩ := xE_ H105;have h108 : above4.length ≤ 4294967296 := of_decide_eq_true g106
  refine bY_ (b := true) (by exact (PW.cons (ToXA.d (ToXV.one (ToX.one (b' := false) (is := []) rfl (fun _ => rfl)) rfl)) (PW.cons (ToXA.d (ToXV.one (ToX.fam (by rfl) h108 (fun j p h hj => by repeat (first | with_reducible exact zb_ h hj | (with_reducible refine wu_ ?_ ?_; rw [qN_]; omega) | (with_reducible refine wv_ ?_ ?_; rw [qN_]; omega)))) rfl)) PW.nil))) (PureA.of_pure (zB_ b104)) ?_
  refine Z0 ?_;obtain rfl := Zi H107;exact ZE0
theorem gb_ (xs : List ByteArray) (h : decide (xs.length = 0) = true) : PureOK Tryz.prog 28 [.sl (List.map eS xs)] (.sl []) true := by
 rw [List.eq_nil_of_length_eq_zero (of_decide_eq_true h)];exact w4_ qo_ fol Tryz.func28 (T := 23) (B := 4) rfl (by kernel_rfl) (by kernel_rfl) (by decide) rfl (by simp only [go_sem]) (by simp only [go_sem]) (by simp only [go_sem]; decide) (by simp only [go_sem]; decide)
theorem kN_ (xs : List ByteArray) (h0 : 0 < xs.length) (hn : xs.length ≤ 4294967296) {b : Bool} {hp : Hp} {nx : Nat} : InlOK Tryz.prog 28 [.d (.sl (List.map eS xs)) b] hp nx fun v hp2 nx2 => v = .so (nx + 3) 1 0 xs.length ∧ hp2 = upd (nx + 3) (some (.rw (List.map eS xs) 1 1 false false)) hp ∧ nx2 = nx + 7 := by
 have h := uh_ (e := eS) (k := 1) (b := b) (hp := hp) (nx := nx) qo_ fol Tryz.func28 (T := 23) (B := 4) rfl (by kernel_rfl) (by kernel_rfl) (by decide) rfl (by simp only [go_sem]) (by simp only [go_sem]) (by simp only [go_sem]) (by decide) (by simp only [go_sem]; decide) (fun _ => rfl) xs h0 hn;rw [qx_ (f := eS) (fun _ => rfl), Bool.not_true, Bool.and_false] at h;exact h
def qL_ (n : Nat) (t0 : List GFact) : Nat → (List ByteArray × List ByteArray × List GPair × List GPair × List GGrant × List GSod × List GSod × List GSession × Int) → Option (List ByteArray × List ByteArray × List GPair × List GPair × List GGrant × List GSod × List GSod × List GSession)
 | 0, _ => none
 | c + 1, (t30, t31, t32, t33, t34, t35, t36, t37, t8) =>
  (if (decide (t8 < (t0.length : Int))) then
   (idx t0 t8).bind fun x2 =>
   (if (x2.kind == 1) then
    (app t30 [x2.a]).bind fun l =>
    qL_ n t0 c (l, t31, t32, t33, t34, t35, t36, t37, (IntKind.i64.wrap (t8 + 1)))
   else
    (if (x2.kind == 2) then
     (app t31 [x2.a]).bind fun l2 =>
     qL_ n t0 c (t30, l2, t32, t33, t34, t35, t36, t37, (IntKind.i64.wrap (t8 + 1)))
    else
     (if (x2.kind == 3) then
      (app t32 [(⟨x2.a, x2.b⟩ : GPair)]).bind fun l3 =>
      qL_ n t0 c (t30, t31, l3, t33, t34, t35, t36, t37, (IntKind.i64.wrap (t8 + 1)))
     else
      (if (x2.kind == 4) then
       (app t33 [(⟨x2.a, x2.b⟩ : GPair)]).bind fun l4 =>
       qL_ n t0 c (t30, t31, t32, l4, t34, t35, t36, t37, (IntKind.i64.wrap (t8 + 1)))
      else
       (if (x2.kind == 5) then
        (app t34 [(⟨x2.a, x2.b, x2.c⟩ : GGrant)]).bind fun l5 =>
        qL_ n t0 c (t30, t31, t32, t33, l5, t35, t36, t37, (IntKind.i64.wrap (t8 + 1)))
       else
        (if (x2.kind == 6) then
         (if (decide (x2.l.length = 0)) then
          (app t35 [(⟨x2.a, x2.n_, []⟩ : GSod)]).bind fun l6 =>
          qL_ n t0 c (t30, t31, t32, t33, t34, l6, t36, t37, (IntKind.i64.wrap (t8 + 1)))
         else
          grd (decide (x2.l.length ≤ 4294967296)) <|
          (app t35 [(⟨x2.a, x2.n_, x2.l⟩ : GSod)]).bind fun l7 =>
          qL_ n t0 c (t30, t31, t32, t33, t34, l7, t36, t37, (IntKind.i64.wrap (t8 + 1))))
        else
         (if (x2.kind == 7) then
          (if (decide (x2.l.length = 0)) then
           (app t36 [(⟨x2.a, x2.n_, []⟩ : GSod)]).bind fun l8 =>
           qL_ n t0 c (t30, t31, t32, t33, t34, t35, l8, t37, (IntKind.i64.wrap (t8 + 1)))
          else
           grd (decide (x2.l.length ≤ 4294967296)) <|
           (app t36 [(⟨x2.a, x2.n_, x2.l⟩ : GSod)]).bind fun l9 =>
           qL_ n t0 c (t30, t31, t32, t33, t34, t35, l9, t37, (IntKind.i64.wrap (t8 + 1))))
         else
          (if (x2.kind == 8) then
           (if (decide (x2.l.length = 0)) then
            (app t37 [(⟨x2.a, x2.b, []⟩ : GSession)]).bind fun l10 =>
            qL_ n t0 c (t30, t31, t32, t33, t34, t35, t36, l10, (IntKind.i64.wrap (t8 + 1)))
           else
            grd (decide (x2.l.length ≤ 4294967296)) <|
            (app t37 [(⟨x2.a, x2.b, x2.l⟩ : GSession)]).bind fun l11 =>
            qL_ n t0 c (t30, t31, t32, t33, t34, t35, t36, l11, (IntKind.i64.wrap (t8 + 1))))
          else
           qL_ n t0 c (t30, t31, t32, t33, t34, t35, t36, t37, (IntKind.i64.wrap (t8 + 1)))))))))))
  else
   some (t30, t31, t32, t33, t34, t35, t36, t37))
def zq_ (_ : Nat) (_ : List GFact) (st : List ByteArray × List ByteArray × List GPair × List GPair × List GGrant × List GSod × List GSod × List GSession) (x2 : GFact) (k : (List ByteArray × List ByteArray × List GPair × List GPair × List GGrant × List GSod × List GSod × List GSession) → Option (List ByteArray × List ByteArray × List GPair × List GPair × List GGrant × List GSod × List GSod × List GSession)) : Option (List ByteArray × List ByteArray × List GPair × List GPair × List GGrant × List GSod × List GSod × List GSession) :=
 match st with
 | (t30, t31, t32, t33, t34, t35, t36, t37) =>
  (if (x2.kind == 1) then
   (app t30 [x2.a]).bind fun l =>
   k (l, t31, t32, t33, t34, t35, t36, t37)
  else
   (if (x2.kind == 2) then
    (app t31 [x2.a]).bind fun l2 =>
    k (t30, l2, t32, t33, t34, t35, t36, t37)
   else
    (if (x2.kind == 3) then
     (app t32 [(⟨x2.a, x2.b⟩ : GPair)]).bind fun l3 =>
     k (t30, t31, l3, t33, t34, t35, t36, t37)
    else
     (if (x2.kind == 4) then
      (app t33 [(⟨x2.a, x2.b⟩ : GPair)]).bind fun l4 =>
      k (t30, t31, t32, l4, t34, t35, t36, t37)
     else
      (if (x2.kind == 5) then
       (app t34 [(⟨x2.a, x2.b, x2.c⟩ : GGrant)]).bind fun l5 =>
       k (t30, t31, t32, t33, l5, t35, t36, t37)
      else
       (if (x2.kind == 6) then
        (if (decide (x2.l.length = 0)) then
         (app t35 [(⟨x2.a, x2.n_, []⟩ : GSod)]).bind fun l6 =>
         k (t30, t31, t32, t33, t34, l6, t36, t37)
        else
         grd (decide (x2.l.length ≤ 4294967296)) <|
         (app t35 [(⟨x2.a, x2.n_, x2.l⟩ : GSod)]).bind fun l7 =>
         k (t30, t31, t32, t33, t34, l7, t36, t37))
       else
        (if (x2.kind == 7) then
         (if (decide (x2.l.length = 0)) then
          (app t36 [(⟨x2.a, x2.n_, []⟩ : GSod)]).bind fun l8 =>
          k (t30, t31, t32, t33, t34, t35, l8, t37)
         else
          grd (decide (x2.l.length ≤ 4294967296)) <|
          (app t36 [(⟨x2.a, x2.n_, x2.l⟩ : GSod)]).bind fun l9 =>
          k (t30, t31, t32, t33, t34, t35, l9, t37))
        else
         (if (x2.kind == 8) then
          (if (decide (x2.l.length = 0)) then
           (app t37 [(⟨x2.a, x2.b, []⟩ : GSession)]).bind fun l10 =>
           k (t30, t31, t32, t33, t34, t35, t36, l10)
          else
           grd (decide (x2.l.length ≤ 4294967296)) <|
           (app t37 [(⟨x2.a, x2.b, x2.l⟩ : GSession)]).bind fun l11 =>
           k (t30, t31, t32, t33, t34, t35, t36, l11))
         else
          k (t30, t31, t32, t33, t34, t35, t36, t37)))))))))
def vd_ (_ : Nat) (_ : List GFact) (st : List ByteArray × List ByteArray × List GPair × List GPair × List GGrant × List GSod × List GSod × List GSession) : Option (List ByteArray × List ByteArray × List GPair × List GPair × List GGrant × List GSod × List GSod × List GSession) :=
 match st with
 | (t30, t31, t32, t33, t34, t35, t36, t37) => some (t30, t31, t32, t33, t34, t35, t36, t37)
theorem un_ (n : Nat) (t0 : List GFact) (hx : t0.length < 4611686018427387904) (c : Nat) (st : List ByteArray × List ByteArray × List GPair × List GPair × List GGrant × List GSod × List GSod × List GSession) (ix : Nat) (hi : ix ≤ t0.length) (hc : t0.length - ix < c) : qL_ n t0 c (match st, (ix : Int) with | (t30, t31, t32, t33, t34, t35, t36, t37), ix => (t30, t31, t32, t33, t34, t35, t36, t37, ix)) = jg_ (zq_ n t0) (vd_ n t0) (t0.drop ix) st :=
 q0_ (fun c st ix => qL_ n t0 c (match st, ix with | (t30, t31, t32, t33, t34, t35, t36, t37), ix => (t30, t31, t32, t33, t34, t35, t36, t37, ix))) t0 (zq_ n t0) (vd_ n t0) (fun _ _ _ => rfl) hx c st ix hi hc
def vO_ (n : Nat) (t0 : List GFact) : Option GRoles :=
 (
  qL_ n t0 n ([], [], [], [], [], [], [], [], 0) : Option (List ByteArray × List ByteArray × List GPair × List GPair × List GGrant × List GSod × List GSod × List GSession)).bind fun (t303, t313, t323, t333, t343, t353, t363, t373) =>
 some (⟨t303, t313, t323, t333, t343, t353, t363, t373⟩ : GRoles)
set_option maxHeartbeats 8000000 in
theorem gc_ {n : Nat} {t0 : List GFact} {r : GRoles} (H : vO_ n t0 = some r) : PureOK Tryz.prog 12 [D.sl (List.map eGFact t0)] (D.ag (eGRoles r)) true := by
 unfold vO_ at H;refine ZP qo_ fol (rs := #[.cell 2 29]) Tryz.func12 ?_;refine zsq (ZT 1 ?_);refine Z0 ?_;refine zsq (ZT 1 ?_);refine Z0 ?_;refine zsq (zsq ?_);refine ZT 1 ?_;refine Z0 ?_;obtain ⟨e_, E1, H2⟩ := zbi H
 refine zjn (α := { y : List ByteArray × List ByteArray × List GPair × List GPair × List GGrant × List GSod × List GSod × List GSession // e_ = y } × Nat × Nat × Nat × Nat × Nat × Nat × Nat × Nat) (fun | ⟨⟨⟨t303, t313, t323, t333, t343, t353, t363, t373⟩, _⟩, ⟨g17, g18, g19, g20, g21, g22, g23, g24⟩⟩ => ⟨upd 2 (.pt 0 0) (upd 3 (.pt 1 0) noFr), upd 0 (some (.bx [.v (.slice none 0 0), .v (.slice none 0 0), .v (.slice none 0 0), .v (.slice none 0 0), .v (.slice none 0 0), .v (.slice none 0 0), .v (.slice none 0 0), .v (.slice none 0 0)])) (upd 1 (some (.bx [accV 2 g17 (List.map eS t303), accV 3 g18 (List.map eS t313), accV 4 g19 (List.map eGPair t323), accV 5 g20 (List.map eGPair t333), accV 6 g21 (List.map eGGrant t343), accV 7 g22 (List.map eGSod t353), accV 8 g23 (List.map eGSod t363), accV 9 g24 (List.map eGSession t373)])) (upd 2 (accO 1 g17 false (List.map eS t303)) (upd 3 (accO 1 g18 false (List.map eS t313)) (upd 4 (accO 2 g19 false (List.map eGPair t323)) (upd 5 (accO 2 g20 false (List.map eGPair t333)) (upd 6 (accO 3 g21 false (List.map eGGrant t343)) (upd 7 (accO 3 g22 false (List.map eGSod t353)) (upd 8 (accO 3 g23 false (List.map eGSod t363)) (upd 9 (accO 3 g24 false (List.map eGSession t373)) noHp))))))))), 10⟩) ?_ ?_
 ·refine zbk ?_
  refine zlp (α := { q : (Nat × (List ByteArray × List ByteArray × List GPair × List GPair × List GGrant × List GSod × List GSod × List GSession × Int)) × Nat × Nat × Nat × Nat × Nat × Nat × Nat × Nat // qL_ n t0 q.1.1 q.1.2 = some e_ }) (fun | ⟨⟨⟨c, ⟨t30, t31, t32, t33, t34, t35, t36, t37, t8⟩⟩, ⟨g, g2, g3, g4, g5, g6, g7, g8⟩⟩, _⟩ => ⟨upd 2 (.pt 0 0) (upd 3 (.pt 1 0) (upd 6 (.d (.sl (List.map eGFact t0)) true) (upd 7 (.v (.int .i64 (t0.length : Int))) (upd 8 (.v (.int .i64 t8)) noFr)))), upd 0 (some (.bx [.v (.slice none 0 0), .v (.slice none 0 0), .v (.slice none 0 0), .v (.slice none 0 0), .v (.slice none 0 0), .v (.slice none 0 0), .v (.slice none 0 0), .v (.slice none 0 0)])) (upd 1 (some (.bx [accV 2 g (List.map eS t30), accV 3 g2 (List.map eS t31), accV 4 g3 (List.map eGPair t32), accV 5 g4 (List.map eGPair t33), accV 6 g5 (List.map eGGrant t34), accV 7 g6 (List.map eGSod t35), accV 8 g7 (List.map eGSod t36), accV 9 g8 (List.map eGSession t37)])) (upd 2 (accO 1 g false (List.map eS t30)) (upd 3 (accO 1 g2 false (List.map eS t31)) (upd 4 (accO 2 g3 false (List.map eGPair t32)) (upd 5 (accO 2 g4 false (List.map eGPair t33)) (upd 6 (accO 3 g5 false (List.map eGGrant t34)) (upd 7 (accO 3 g6 false (List.map eGSod t35)) (upd 8 (accO 3 g7 false (List.map eGSod t36)) (upd 9 (accO 3 g8 false (List.map eGSession t37)) noHp))))))))), 10⟩) (fun q => q.1.1.1) ⟨((n, ([], [], [], [], [], [], [], [], 0)), (0, 0, 0, 0, 0, 0, 0, 0)), E1⟩ ?_ ?_
  ·exact ZR [(0, 0), (1, 1)]
  ·rintro ⟨⟨⟨c, ⟨t30, t31, t32, t33, t34, t35, t36, t37, t8⟩⟩, ⟨g, g2, g3, g4, g5, g6, g7, g8⟩⟩, L3⟩
   rcases c with _ | c
   ·exact Zx L3
   ·unfold qL_ at L3
    try dsimp only at L3
    refine ZT 1 ?_;refine Z0 ?_;rcases zit L3 with ⟨c55, H56⟩ | ⟨c55, H56⟩
    ·obtain ⟨x2, b57, H58⟩ := zbi H56
     obtain ⟨h59, h60⟩ := zix b57;try simp only [Int.reduceToNat, Int.toNat_natCast] at h60
     have h61 := qi_ eGFact h60;refine Z1 (Y3 c55 (zno .i64 h59) h61) ?_;rcases zit H58 with ⟨c63, H64⟩ | ⟨c63, H64⟩
     ·obtain ⟨l, b65, H66⟩ := zbi H64
      obtain ⟨h67, h68⟩ := qj_ b65;have h67 : t30.length + 1 ≤ 4294967296 := h67;have h69 : List.map eS t30 ++ [[.v (.string x2.a)]] = List.map eS l := qm_ eS h68;have h70 : t30.length + 1 = l.length := qn_ h68;have h71 : l.length ≤ 4294967296 := by omega
      have q72 : 0 < l.length := by omega
      refine Z1 (Y2 (Y6 c55 (zno .i64 h59) h61 c63 h67 h69) (Y2 h70 h71)) ?_;rcases t30 with _ | ⟨q0, q1⟩
      ·try simp only [List.map_nil, accI, accN]
       exact ⟨⟨((c, (l, t31, t32, t33, t34, t35, t36, t37, (IntKind.i64.wrap (t8 + 1)))), (0, g2, g3, g4, g5, g6, g7, g8)), H66⟩, ZR [(0, 0), (1, 1), (2, 24), (3, 3), (4, 4), (5, 5), (6, 6), (7, 7), (8, 8), (9, 9)], Nat.lt_succ_self _⟩
      ·try simp only [List.map_cons, accI, accN]
       exact ⟨⟨((c, (l, t31, t32, t33, t34, t35, t36, t37, (IntKind.i64.wrap (t8 + 1)))), ((g + 1), g2, g3, g4, g5, g6, g7, g8)), H66⟩, ZR [(0, 0), (1, 1), (2, 2), (3, 3), (4, 4), (5, 5), (6, 6), (7, 7), (8, 8), (9, 9)], Nat.lt_succ_self _⟩
     ·refine Z1 (Y4 c55 (zno .i64 h59) h61 c63) ?_
      rcases zit H64 with ⟨c73, H74⟩ | ⟨c73, H74⟩
      ·obtain ⟨l2, b75, H76⟩ := zbi H74
       obtain ⟨h77, h78⟩ := qj_ b75;have h77 : t31.length + 1 ≤ 4294967296 := h77;have h79 : List.map eS t31 ++ [[.v (.string x2.a)]] = List.map eS l2 := qm_ eS h78;have h80 : t31.length + 1 = l2.length := qn_ h78;have h81 : l2.length ≤ 4294967296 := by omega
       have q82 : 0 < l2.length := by omega
       refine Z1 (Y2 (Y6 c55 (zno .i64 h59) h61 c63 c73 h77) (Y3 h79 h80 h81)) ?_;rcases t31 with _ | ⟨q0, q1⟩
       ·try simp only [List.map_nil, accI, accN]
        exact ⟨⟨((c, (t30, l2, t32, t33, t34, t35, t36, t37, (IntKind.i64.wrap (t8 + 1)))), (g, 0, g3, g4, g5, g6, g7, g8)), H76⟩, ZR [(0, 0), (1, 1), (2, 2), (3, 26), (4, 4), (5, 5), (6, 6), (7, 7), (8, 8), (9, 9)], Nat.lt_succ_self _⟩
       ·try simp only [List.map_cons, accI, accN]
        exact ⟨⟨((c, (t30, l2, t32, t33, t34, t35, t36, t37, (IntKind.i64.wrap (t8 + 1)))), (g, (g2 + 1), g3, g4, g5, g6, g7, g8)), H76⟩, ZR [(0, 0), (1, 1), (2, 2), (3, 3), (4, 4), (5, 5), (6, 6), (7, 7), (8, 8), (9, 9)], Nat.lt_succ_self _⟩
      ·refine Z1 (Y5 c55 (zno .i64 h59) h61 c63 c73) ?_
       rcases zit H74 with ⟨c83, H84⟩ | ⟨c83, H84⟩
       ·obtain ⟨l3, b85, H86⟩ := zbi H84
        obtain ⟨h87, h88⟩ := qj_ b85;have h87 : t32.length + 1 ≤ 4294967296 := h87;have h89 : List.map eGPair t32 ++ [[.v (.string x2.a), .v (.string x2.b)]] = List.map eGPair l3 := qm_ eGPair h88;have h90 : t32.length + 1 = l3.length := qn_ h88;have h91 : l3.length ≤ 4294967296 := by omega
        have q92 : 0 < l3.length := by omega
        refine Z1 (Y2 (Y6 c55 (zno .i64 h59) h61 c63 c73 c83) (Y4 h87 h89 h90 h91)) ?_;rcases t32 with _ | ⟨q0, q1⟩
        ·try simp only [List.map_nil, accI, accN]
         exact ⟨⟨((c, (t30, t31, l3, t33, t34, t35, t36, t37, (IntKind.i64.wrap (t8 + 1)))), (g, g2, 0, g4, g5, g6, g7, g8)), H86⟩, ZR [(0, 0), (1, 1), (2, 2), (3, 3), (4, 31), (5, 5), (6, 6), (7, 7), (8, 8), (9, 9)], Nat.lt_succ_self _⟩
        ·try simp only [List.map_cons, accI, accN]
         exact ⟨⟨((c, (t30, t31, l3, t33, t34, t35, t36, t37, (IntKind.i64.wrap (t8 + 1)))), (g, g2, (g3 + 1), g4, g5, g6, g7, g8)), H86⟩, ZR [(0, 0), (1, 1), (2, 2), (3, 3), (4, 4), (5, 5), (6, 6), (7, 7), (8, 8), (9, 9)], Nat.lt_succ_self _⟩
       ·refine Z1 (Y6 c55 (zno .i64 h59) h61 c63 c73 c83) ?_
        rcases zit H84 with ⟨c93, H94⟩ | ⟨c93, H94⟩
        ·obtain ⟨l4, b95, H96⟩ := zbi H94
         obtain ⟨h97, h98⟩ := qj_ b95;have h97 : t33.length + 1 ≤ 4294967296 := h97;have h99 : List.map eGPair t33 ++ [[.v (.string x2.a), .v (.string x2.b)]] = List.map eGPair l4 := qm_ eGPair h98;have h100 : t33.length + 1 = l4.length := qn_ h98;have h101 : l4.length ≤ 4294967296 := by omega
         have q102 : 0 < l4.length := by omega
         refine Z1 (Y2 (Y6 c55 (zno .i64 h59) h61 c63 c73 c83) (Y5 c93 h97 h99 h100 h101)) ?_;rcases t33 with _ | ⟨q0, q1⟩
         ·try simp only [List.map_nil, accI, accN]
          exact ⟨⟨((c, (t30, t31, t32, l4, t34, t35, t36, t37, (IntKind.i64.wrap (t8 + 1)))), (g, g2, g3, 0, g5, g6, g7, g8)), H96⟩, ZR [(0, 0), (1, 1), (2, 2), (3, 3), (4, 4), (5, 33), (6, 6), (7, 7), (8, 8), (9, 9)], Nat.lt_succ_self _⟩
         ·try simp only [List.map_cons, accI, accN]
          exact ⟨⟨((c, (t30, t31, t32, l4, t34, t35, t36, t37, (IntKind.i64.wrap (t8 + 1)))), (g, g2, g3, (g4 + 1), g5, g6, g7, g8)), H96⟩, ZR [(0, 0), (1, 1), (2, 2), (3, 3), (4, 4), (5, 5), (6, 6), (7, 7), (8, 8), (9, 9)], Nat.lt_succ_self _⟩
        ·refine Z1 (Y2 (Y6 c55 (zno .i64 h59) h61 c63 c73 c83) c93) ?_
         rcases zit H94 with ⟨c103, H104⟩ | ⟨c103, H104⟩
         ·obtain ⟨l5, b105, H106⟩ := zbi H104
          obtain ⟨h107, h108⟩ := qj_ b105;have h107 : t34.length + 1 ≤ 4294967296 := h107;have h109 : List.map eGGrant t34 ++ [[.v (.string x2.a), .v (.string x2.b), .v (.string x2.c)]] = List.map eGGrant l5 := qm_ eGGrant h108;have h110 : t34.length + 1 = l5.length := qn_ h108;have h111 : l5.length ≤ 4294967296 := by omega
          have q112 : 0 < l5.length := by omega
          refine Z1 (Y2 (Y6 c55 (zno .i64 h59) h61 c63 c73 c83) (Y6 c93 c103 h107 h109 h110 h111)) ?_;rcases t34 with _ | ⟨q0, q1⟩
          ·try simp only [List.map_nil, accI, accN]
           exact ⟨⟨((c, (t30, t31, t32, t33, l5, t35, t36, t37, (IntKind.i64.wrap (t8 + 1)))), (g, g2, g3, g4, 0, g6, g7, g8)), H106⟩, ZR [(0, 0), (1, 1), (2, 2), (3, 3), (4, 4), (5, 5), (6, 37), (7, 7), (8, 8), (9, 9)], Nat.lt_succ_self _⟩
          ·try simp only [List.map_cons, accI, accN]
           exact ⟨⟨((c, (t30, t31, t32, t33, l5, t35, t36, t37, (IntKind.i64.wrap (t8 + 1)))), (g, g2, g3, g4, (g5 + 1), g6, g7, g8)), H106⟩, ZR [(0, 0), (1, 1), (2, 2), (3, 3), (4, 4), (5, 5), (6, 6), (7, 7), (8, 8), (9, 9)], Nat.lt_succ_self _⟩
         ·refine Z1 (Y2 (Y6 c55 (zno .i64 h59) h61 c63 c73 c83) (Y2 c93 c103)) ?_
          rcases zit H104 with ⟨c113, H114⟩ | ⟨c113, H114⟩
          ·refine Z1 (Y2 (Y6 c55 (zno .i64 h59) h61 c63 c73 c83) (Y3 c93 c103 c113)) ?_
           rcases zit H114 with ⟨c115, H116⟩ | ⟨c115, H116⟩
           ·refine Z1 (Y2 (Y6 c55 (zno .i64 h59) h61 c63 c73 c83) (Y4 c93 c103 c113 c115)) ?_
            refine ZD0 (gb_ x2.l c115) ?_;obtain ⟨l6, b117, H118⟩ := zbi H116;obtain ⟨h119, h120⟩ := qj_ b117;have h119 : t35.length + 1 ≤ 4294967296 := h119;have h121 : List.map eGSod t35 ++ [[.v (.string x2.a), .v (.int .i64 x2.n_), .sl []]] = List.map eGSod l6 := qm_ eGSod h120;have h122 : t35.length + 1 = l6.length := qn_ h120;have h123 : l6.length ≤ 4294967296 := by omega
            have q124 : 0 < l6.length := by omega
            refine Z1 (Y3 (Y6 c55 (zno .i64 h59) h61 c63 c73 c83) (Y6 c93 c103 c113 c115 h119 h121) (Y2 h122 h123)) ?_;refine qf_ (by (cases t35 <;> rfl)) ?_;refine Z1 (Y3 (Y6 c55 (zno .i64 h59) h61 c63 c73 c83) (Y6 c93 c103 c113 c115 h119 h121) (Y2 h122 h123)) ?_;rcases t35 with _ | ⟨q0, q1⟩
            ·try simp only [List.map_nil, accI, accN]
             exact ⟨⟨((c, (t30, t31, t32, t33, t34, l6, t36, t37, (IntKind.i64.wrap (t8 + 1)))), (g, g2, g3, g4, g5, 0, g7, g8)), H118⟩, ZR [(0, 0), (1, 1), (2, 2), (3, 3), (4, 4), (5, 5), (6, 6), (7, 40), (8, 8), (9, 9)], Nat.lt_succ_self _⟩
            ·try simp only [List.map_cons, accI, accN]
             exact ⟨⟨((c, (t30, t31, t32, t33, t34, l6, t36, t37, (IntKind.i64.wrap (t8 + 1)))), (g, g2, g3, g4, g5, (g6 + 1), g7, g8)), H118⟩, ZR [(0, 0), (1, 1), (2, 2), (3, 3), (4, 4), (5, 5), (6, 6), (7, 7), (8, 8), (9, 9)], Nat.lt_succ_self _⟩
           ·obtain ⟨g125, H126⟩ := xE_ H116
            have h127 : x2.l.length ≤ 4294967296 := of_decide_eq_true g125;have q128 : 0 < x2.l.length := by have := of_decide_eq_false c115; omega
            refine Z1 (Y2 (Y6 c55 (zno .i64 h59) h61 c63 c73 c83) (Y4 c93 c103 c113 c115)) ?_;refine x9_ (ids' := []) (v := .so 46 1 0 x2.l.length) (δ := [(46, .rw (List.map eS x2.l) 1 1 false false)]) (nx' := 50) (fun hp1 _ => InlOK.mono (kN_ x2.l q128 h127) fun v2 hp2 nx2 e => e) ?_;obtain ⟨l7, b132, H133⟩ := zbi H126;obtain ⟨h134, h135⟩ := qj_ b132
            have h134 : t35.length + 1 ≤ 4294967296 := h134;have h136 : List.map eGSod t35 ++ [[.v (.string x2.a), .v (.int .i64 x2.n_), .sl (List.map eS x2.l)]] = List.map eGSod l7 := qm_ eGSod h135;have h137 : t35.length + 1 = l7.length := qn_ h135;have h138 : l7.length ≤ 4294967296 := by omega
            have q139 : 0 < l7.length := by omega
            refine Z1 (Y3 (Y6 c55 (zno .i64 h59) h61 c63 c73 c83) (Y6 c93 c103 c113 c115 h127 h134) (Y3 h136 h137 h138)) ?_;refine qf_ (by (cases t35 <;> rfl)) ?_;refine Z1 (Y3 (Y6 c55 (zno .i64 h59) h61 c63 c73 c83) (Y6 c93 c103 c113 c115 h127 h134) (Y3 h136 h137 h138)) ?_;rcases t35 with _ | ⟨q0, q1⟩
            ·try simp only [List.map_nil, accI, accN]
             exact ⟨⟨((c, (t30, t31, t32, t33, t34, l7, t36, t37, (IntKind.i64.wrap (t8 + 1)))), (g, g2, g3, g4, g5, 0, g7, g8)), H133⟩, ZR [(0, 0), (1, 1), (2, 2), (3, 3), (4, 4), (5, 5), (6, 6), (7, 40), (8, 8), (9, 9)], Nat.lt_succ_self _⟩
            ·try simp only [List.map_cons, accI, accN]
             exact ⟨⟨((c, (t30, t31, t32, t33, t34, l7, t36, t37, (IntKind.i64.wrap (t8 + 1)))), (g, g2, g3, g4, g5, (g6 + 1), g7, g8)), H133⟩, ZR [(0, 0), (1, 1), (2, 2), (3, 3), (4, 4), (5, 5), (6, 6), (7, 7), (8, 8), (9, 9)], Nat.lt_succ_self _⟩
          ·refine Z1 (Y2 (Y6 c55 (zno .i64 h59) h61 c63 c73 c83) (Y3 c93 c103 c113)) ?_
           rcases zit H114 with ⟨c140, H141⟩ | ⟨c140, H141⟩
           ·refine Z1 (Y2 (Y6 c55 (zno .i64 h59) h61 c63 c73 c83) (Y4 c93 c103 c113 c140)) ?_
            rcases zit H141 with ⟨c142, H143⟩ | ⟨c142, H143⟩
            ·refine Z1 (Y2 (Y6 c55 (zno .i64 h59) h61 c63 c73 c83) (Y5 c93 c103 c113 c140 c142)) ?_
             refine ZD0 (gb_ x2.l c142) ?_;obtain ⟨l8, b144, H145⟩ := zbi H143;obtain ⟨h146, h147⟩ := qj_ b144;have h146 : t36.length + 1 ≤ 4294967296 := h146;have h148 : List.map eGSod t36 ++ [[.v (.string x2.a), .v (.int .i64 x2.n_), .sl []]] = List.map eGSod l8 := qm_ eGSod h147;have h149 : t36.length + 1 = l8.length := qn_ h147;have h150 : l8.length ≤ 4294967296 := by omega
             have q151 : 0 < l8.length := by omega
             refine Z1 (Y3 (Y6 c55 (zno .i64 h59) h61 c63 c73 c83) (Y6 c93 c103 c113 c140 c142 h146) (Y3 h148 h149 h150)) ?_;refine qf_ (by (cases t36 <;> rfl)) ?_;refine Z1 (Y3 (Y6 c55 (zno .i64 h59) h61 c63 c73 c83) (Y6 c93 c103 c113 c140 c142 h146) (Y3 h148 h149 h150)) ?_;rcases t36 with _ | ⟨q0, q1⟩
             ·try simp only [List.map_nil, accI, accN]
              exact ⟨⟨((c, (t30, t31, t32, t33, t34, t35, l8, t37, (IntKind.i64.wrap (t8 + 1)))), (g, g2, g3, g4, g5, g6, 0, g8)), H145⟩, ZR [(0, 0), (1, 1), (2, 2), (3, 3), (4, 4), (5, 5), (6, 6), (7, 7), (8, 42), (9, 9)], Nat.lt_succ_self _⟩
             ·try simp only [List.map_cons, accI, accN]
              exact ⟨⟨((c, (t30, t31, t32, t33, t34, t35, l8, t37, (IntKind.i64.wrap (t8 + 1)))), (g, g2, g3, g4, g5, g6, (g7 + 1), g8)), H145⟩, ZR [(0, 0), (1, 1), (2, 2), (3, 3), (4, 4), (5, 5), (6, 6), (7, 7), (8, 8), (9, 9)], Nat.lt_succ_self _⟩
            ·obtain ⟨g152, H153⟩ := xE_ H143
             have h154 : x2.l.length ≤ 4294967296 := of_decide_eq_true g152;have q155 : 0 < x2.l.length := by have := of_decide_eq_false c142; omega
             refine Z1 (Y2 (Y6 c55 (zno .i64 h59) h61 c63 c73 c83) (Y5 c93 c103 c113 c140 c142)) ?_;refine x9_ (ids' := []) (v := .so 48 1 0 x2.l.length) (δ := [(48, .rw (List.map eS x2.l) 1 1 false false)]) (nx' := 52) (fun hp1 _ => InlOK.mono (kN_ x2.l q155 h154) fun v2 hp2 nx2 e => e) ?_;obtain ⟨l9, b159, H160⟩ := zbi H153;obtain ⟨h161, h162⟩ := qj_ b159
             have h161 : t36.length + 1 ≤ 4294967296 := h161;have h163 : List.map eGSod t36 ++ [[.v (.string x2.a), .v (.int .i64 x2.n_), .sl (List.map eS x2.l)]] = List.map eGSod l9 := qm_ eGSod h162;have h164 : t36.length + 1 = l9.length := qn_ h162;have h165 : l9.length ≤ 4294967296 := by omega
             have q166 : 0 < l9.length := by omega
             refine Z1 (Y3 (Y6 c55 (zno .i64 h59) h61 c63 c73 c83) (Y6 c93 c103 c113 c140 c142 h154) (Y4 h161 h163 h164 h165)) ?_;refine qf_ (by (cases t36 <;> rfl)) ?_;refine Z1 (Y3 (Y6 c55 (zno .i64 h59) h61 c63 c73 c83) (Y6 c93 c103 c113 c140 c142 h154) (Y4 h161 h163 h164 h165)) ?_;rcases t36 with _ | ⟨q0, q1⟩
             ·try simp only [List.map_nil, accI, accN]
              exact ⟨⟨((c, (t30, t31, t32, t33, t34, t35, l9, t37, (IntKind.i64.wrap (t8 + 1)))), (g, g2, g3, g4, g5, g6, 0, g8)), H160⟩, ZR [(0, 0), (1, 1), (2, 2), (3, 3), (4, 4), (5, 5), (6, 6), (7, 7), (8, 42), (9, 9)], Nat.lt_succ_self _⟩
             ·try simp only [List.map_cons, accI, accN]
              exact ⟨⟨((c, (t30, t31, t32, t33, t34, t35, l9, t37, (IntKind.i64.wrap (t8 + 1)))), (g, g2, g3, g4, g5, g6, (g7 + 1), g8)), H160⟩, ZR [(0, 0), (1, 1), (2, 2), (3, 3), (4, 4), (5, 5), (6, 6), (7, 7), (8, 8), (9, 9)], Nat.lt_succ_self _⟩
           ·refine Z1 (Y2 (Y6 c55 (zno .i64 h59) h61 c63 c73 c83) (Y4 c93 c103 c113 c140)) ?_
            rcases zit H141 with ⟨c167, H168⟩ | ⟨c167, H168⟩
            ·refine Z1 (Y2 (Y6 c55 (zno .i64 h59) h61 c63 c73 c83) (Y5 c93 c103 c113 c140 c167)) ?_
             rcases zit H168 with ⟨c169, H170⟩ | ⟨c169, H170⟩
             ·refine Z1 (Y2 (Y6 c55 (zno .i64 h59) h61 c63 c73 c83) (Y6 c93 c103 c113 c140 c167 c169)) ?_
              refine ZD0 (gb_ x2.l c169) ?_;obtain ⟨l10, b171, H172⟩ := zbi H170;obtain ⟨h173, h174⟩ := qj_ b171;have h173 : t37.length + 1 ≤ 4294967296 := h173;have h175 : List.map eGSession t37 ++ [[.v (.string x2.a), .v (.string x2.b), .sl []]] = List.map eGSession l10 := qm_ eGSession h174;have h176 : t37.length + 1 = l10.length := qn_ h174
              have h177 : l10.length ≤ 4294967296 := by omega
              have q178 : 0 < l10.length := by omega
              refine Z1 (Y3 (Y6 c55 (zno .i64 h59) h61 c63 c73 c83) (Y6 c93 c103 c113 c140 c167 c169) (Y4 h173 h175 h176 h177)) ?_;refine qf_ (by (cases t37 <;> rfl)) ?_;refine Z1 (Y3 (Y6 c55 (zno .i64 h59) h61 c63 c73 c83) (Y6 c93 c103 c113 c140 c167 c169) (Y4 h173 h175 h176 h177)) ?_;rcases t37 with _ | ⟨q0, q1⟩
              ·try simp only [List.map_nil, accI, accN]
               exact ⟨⟨((c, (t30, t31, t32, t33, t34, t35, t36, l10, (IntKind.i64.wrap (t8 + 1)))), (g, g2, g3, g4, g5, g6, g7, 0)), H172⟩, ZR [(0, 0), (1, 1), (2, 2), (3, 3), (4, 4), (5, 5), (6, 6), (7, 7), (8, 8), (9, 44)], Nat.lt_succ_self _⟩
              ·try simp only [List.map_cons, accI, accN]
               exact ⟨⟨((c, (t30, t31, t32, t33, t34, t35, t36, l10, (IntKind.i64.wrap (t8 + 1)))), (g, g2, g3, g4, g5, g6, g7, (g8 + 1))), H172⟩, ZR [(0, 0), (1, 1), (2, 2), (3, 3), (4, 4), (5, 5), (6, 6), (7, 7), (8, 8), (9, 9)], Nat.lt_succ_self _⟩
             ·obtain ⟨g179, H180⟩ := xE_ H170
              have h181 : x2.l.length ≤ 4294967296 := of_decide_eq_true g179;have q182 : 0 < x2.l.length := by have := of_decide_eq_false c169; omega
              refine Z1 (Y2 (Y6 c55 (zno .i64 h59) h61 c63 c73 c83) (Y6 c93 c103 c113 c140 c167 c169)) ?_;refine x9_ (ids' := []) (v := .so 50 1 0 x2.l.length) (δ := [(50, .rw (List.map eS x2.l) 1 1 false false)]) (nx' := 54) (fun hp1 _ => InlOK.mono (kN_ x2.l q182 h181) fun v2 hp2 nx2 e => e) ?_;obtain ⟨l11, b186, H187⟩ := zbi H180;obtain ⟨h188, h189⟩ := qj_ b186
              have h188 : t37.length + 1 ≤ 4294967296 := h188;have h190 : List.map eGSession t37 ++ [[.v (.string x2.a), .v (.string x2.b), .sl (List.map eS x2.l)]] = List.map eGSession l11 := qm_ eGSession h189;have h191 : t37.length + 1 = l11.length := qn_ h189;have h192 : l11.length ≤ 4294967296 := by omega
              have q193 : 0 < l11.length := by omega
              refine Z1 (Y3 (Y6 c55 (zno .i64 h59) h61 c63 c73 c83) (Y6 c93 c103 c113 c140 c167 c169) (Y5 h181 h188 h190 h191 h192)) ?_;refine qf_ (by (cases t37 <;> rfl)) ?_;refine Z1 (Y3 (Y6 c55 (zno .i64 h59) h61 c63 c73 c83) (Y6 c93 c103 c113 c140 c167 c169) (Y5 h181 h188 h190 h191 h192)) ?_;rcases t37 with _ | ⟨q0, q1⟩
              ·try simp only [List.map_nil, accI, accN]
               exact ⟨⟨((c, (t30, t31, t32, t33, t34, t35, t36, l11, (IntKind.i64.wrap (t8 + 1)))), (g, g2, g3, g4, g5, g6, g7, 0)), H187⟩, ZR [(0, 0), (1, 1), (2, 2), (3, 3), (4, 4), (5, 5), (6, 6), (7, 7), (8, 8), (9, 44)], Nat.lt_succ_self _⟩
              ·try simp only [List.map_cons, accI, accN]
               exact ⟨⟨((c, (t30, t31, t32, t33, t34, t35, t36, l11, (IntKind.i64.wrap (t8 + 1)))), (g, g2, g3, g4, g5, g6, g7, (g8 + 1))), H187⟩, ZR [(0, 0), (1, 1), (2, 2), (3, 3), (4, 4), (5, 5), (6, 6), (7, 7), (8, 8), (9, 9)], Nat.lt_succ_self _⟩
            ·refine Z1 (Y2 (Y6 c55 (zno .i64 h59) h61 c63 c73 c83) (Y5 c93 c103 c113 c140 c167)) ?_
             exact ⟨⟨((c, (t30, t31, t32, t33, t34, t35, t36, t37, (IntKind.i64.wrap (t8 + 1)))), (g, g2, g3, g4, g5, g6, g7, g8)), H168⟩, ZR [(0, 0), (1, 1), (2, 2), (3, 3), (4, 4), (5, 5), (6, 6), (7, 7), (8, 8), (9, 9)], Nat.lt_succ_self _⟩
    ·refine Z1 c55 ?_
     obtain rfl := Zi H56;exact ⟨⟨⟨(t30, t31, t32, t33, t34, t35, t36, t37), rfl⟩, (g, g2, g3, g4, g5, g6, g7, g8)⟩, ZR [(0, 0), (1, 1), (2, 2), (3, 3), (4, 4), (5, 5), (6, 6), (7, 7), (8, 8), (9, 9)]⟩
 ·rintro ⟨⟨⟨t303, t313, t323, t333, t343, t353, t363, t373⟩, he194⟩, ⟨g17, g18, g19, g20, g21, g22, g23, g24⟩⟩
  obtain rfl := he194.symm;try dsimp only at H2
  refine ZT 1 ?_;refine Z0 ?_;obtain rfl := Zi H2;exact ZE0
end Go.Proofs.YtkkhgdmmbhpckaaGreat.Ab
