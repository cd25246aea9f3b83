/-
 A relation's reading, told as data: what it leaves is just the reader's box.
-/
import Derived.Test.YtnmkbmefohakmaaGreatWlc
namespace Go.Proofs.YtnmkbmefohakmaaGreat.Ab
open Go.RowKit
def qD_ (n:Nat)(s:WellSchema)(x:GStep)(t18:GRel × Bool):Nat->Int->Option ((Unit) ⊕ Int)
 |0,_=>none
 |c+1,t30=>
  (if (decide (t30<(t18.1.subs.length:Int))) then
   (idx t18.1.subs t30).bind fun x3=>
   (qq_ n s x3.type_ x.b).bind fun t402=>
   (if t402.2 then
    (if (x3.rel.toList==({ data:= #[] }:ByteArray).toList) then
     qD_ n s x t18 c (IntKind.i64.wrap (t30+1))
    else
     some (.inr 13))
   else
    some (.inr 13))
  else
   some (.inl ()))
def jq_ (n:Nat)(s:WellSchema)(typ:ByteArray)(x:GStep):Option Int:=
 (qq_ n s typ x.a).bind fun t18=>
 (if t18.2 then
  (if ((t18.1.subs.length:Int)==0) then
   some 13
  else
   (
    qD_ n s x t18 n 0:Option ((Unit) ⊕ Int)).bind fun
    | .inl _=>
     some 0
    | .inr r=>some r)
 else
  some 12)
theorem wb_ {n:Nat}{s:WellSchema}{typ:ByteArray}{x:GStep}{r:Int}(H:jq_ n s typ x=some r):PureOK Tryz.prog 113 [D.pt (eWellSchema s) 0,D.v (.string typ),D.ag (eGStep x)] (D.v (.int .i64 r)) true:=by
 unfold jq_ at H;refine ZP qf_ fol (rs:= #[.tmp 6]) Tryz.func113 ?_;refine zsq (ZT 1 ?_);refine Z0 ?_;refine zsq (ZT 1 ?_);obtain⟨t18,b1,H2⟩:=zbi H;refine Z0 ?_;refine ZC0 (qB_ b1) ?_;refine Z0 ?_;refine zsq (ZT 1 ?_);refine Z0 ?_;rcases zit H2 with⟨c3,H4⟩ |⟨c3,H4⟩
 ·refine Z1 c3 ?_
  refine zsq (ZT 1 ?_);refine Z1 c3 ?_;rcases zit H4 with⟨c5,H6⟩ |⟨c5,H6⟩
  ·refine Z1 (Y2 c3 c5) ?_
   obtain rfl:=Zi H6;exact ZE0
  ·refine Z1 (Y2 c3 c5) ?_
   refine zsq (zsq ?_);refine ZT 1 ?_;refine Z1 (Y2 c3 c5) ?_;obtain⟨e_,E7,H8⟩:=zbi H6;refine zjn (α:={ y:Unit // e_= .inl y }) (fun |⟨_,_⟩=>⟨noFr,noHp,0⟩) ?_ ?_
   ·refine zbk ?_
    refine zlp (α:={ q:Nat × Int // qD_ n s x t18 q.1 q.2=some e_ }) (fun |⟨⟨c,t30⟩,_⟩=>⟨upd 0 (.d (.pt [.mp (qi_ Value.string false eI s.types),.mp (qi_ qc_ true eGRel s.rels),.mp (qi_ qc_ false eI s.ranks)] 0) true) (upd 5 (.pt 0 0) (upd 28 (.d (.sl (List.map eGSub t18.1.subs)) true) (upd 29 (.v (.int .i64 (t18.1.subs.length:Int))) (upd 30 (.v (.int .i64 t30)) noFr)))),upd 0 (some (.bx [.v (.int .i64 x.kind),.v (.string x.a),.v (.string x.b)])) noHp,1⟩) (fun q=>q.1.1) ⟨(n,0),E7⟩ ?_ ?_
    ·exact ZR [(0,0)]
    ·rintro⟨⟨c,t30⟩,L9⟩
     rcases c with _ |c
     ·exact Zx L9
     ·unfold qD_ at L9
      try dsimp only at L9
      refine ZT 1 ?_;refine Z0 ?_;rcases zit L9 with⟨c24,H25⟩ |⟨c24,H25⟩
      ·obtain⟨x3,b26,H27⟩:=zbi H25
       obtain⟨h28,h29⟩:=zix b26;try simp only[Int.reduceToNat,Int.toNat_natCast] at h29
       have h30:=qn_ eGSub h29;obtain⟨t402,b32,H33⟩:=zbi H27;refine Z1 (Y3 c24 (zno .i64 h28) h30) ?_;refine ZC0 (qB_ b32) ?_;refine Z1 (Y3 c24 (zno .i64 h28) h30) ?_;rcases zit H33 with⟨c34,H35⟩ |⟨c34,H35⟩
       ·refine Z1 (Y4 c24 (zno .i64 h28) h30 c34) ?_
        rcases zit H35 with⟨c36,H37⟩ |⟨c36,H37⟩
        ·refine Z1 (Y5 c24 (zno .i64 h28) h30 c34 c36) ?_
         exact⟨⟨(c,(IntKind.i64.wrap (t30+1))),H37⟩,ZR [(0,0)],Nat.lt_succ_self _⟩
        ·refine Z1 (Y5 c24 (zno .i64 h28) h30 c34 c36) ?_
         obtain rfl:=Zi H37;obtain rfl:=Zi H8;exact ZE0
       ·refine Z1 (Y4 c24 (zno .i64 h28) h30 c34) ?_
        obtain rfl:=Zi H35;obtain rfl:=Zi H8;exact ZE0
      ·refine Z1 c24 ?_
       obtain rfl:=Zi H25;exact⟨⟨(),rfl⟩,ZR []⟩
   ·rintro⟨_,he38⟩
    obtain rfl:=he38.symm;try dsimp only at H8
    refine ZT 1 ?_;refine Z0 ?_;obtain rfl:=Zi H8;exact ZE0
 ·refine Z1 c3 ?_
  obtain rfl:=Zi H4;exact ZE0
def qE_ (n:Nat)(c2:WellSchema)(t2:GRel):Nat->Int->Option ((Unit) ⊕ Int)
 |0,_=>none
 |c+1,t19=>
  (if (decide (t19<(t2.subs.length:Int))) then
   (idx t2.subs t19).bind fun x2=>
   (qq_ n c2 x2.type_ x2.rel).bind fun t292=>
   (if ((qk_ x2.type_ 0 c2.types)==0) then
    some (.inr 12)
   else
    (if (x2.rel.toList==({ data:= #[] }:ByteArray).toList) then
     qE_ n c2 t2 c (IntKind.i64.wrap (t19+1))
    else
     (if t292.2 then
      qE_ n c2 t2 c (IntKind.i64.wrap (t19+1))
     else
      some (.inr 12))))
  else
   some (.inl ()))
def qY_ (n:Nat)(c2:WellSchema)(_:GRel)(st:Unit)(x2:GSub)(k:Unit->Option ((Unit) ⊕ Int)):Option ((Unit) ⊕ Int):=
 match st with
 |_=>
  (qq_ n c2 x2.type_ x2.rel).bind fun t292=>
  (if ((qk_ x2.type_ 0 c2.types)==0) then
   some (.inr 12)
  else
   (if (x2.rel.toList==({ data:= #[] }:ByteArray).toList) then
    k ()
   else
    (if t292.2 then
     k ()
    else
     some (.inr 12))))
def jt_ (_:Nat)(_:WellSchema)(_:GRel)(st:Unit):Option ((Unit) ⊕ Int):=
 match st with
 |_=>some (.inl ())
theorem zR_ (n:Nat)(c2:WellSchema)(t2:GRel)(hx:t2.subs.length<4611686018427387904)(c:Nat)(st:Unit)(ix:Nat)(hi:ix<=t2.subs.length)(hc:t2.subs.length-ix<c):qE_ n c2 t2 c (match st,(ix:Int) with |_,ix=>ix)=xj_ (qY_ n c2 t2) (jt_ n c2 t2) (t2.subs.drop ix) st:=
 xb_ (fun c st ix=>qE_ n c2 t2 c (match st,ix with |_,ix=>ix)) t2.subs (qY_ n c2 t2) (jt_ n c2 t2) (fun _ _ _=>rfl) hx c st ix hi hc
def qx_ (n:Nat)(c2:WellSchema)(t1:ByteArray)(t2:GRel):Nat->Int->Option ((Unit) ⊕ Int)
 |0,_=>none
 |c+1,t53=>
  (if (decide (t53<(t2.expr.length:Int))) then
   (idx t2.expr t53).bind fun x4=>
   (if (x4.kind==2) then
    (jq_ n c2 t1 x4).bind fun t632=>
    (if (t632 != 0) then
     some (.inr t632)
    else
     qx_ n c2 t1 t2 c (IntKind.i64.wrap (t53+1)))
   else
    (qq_ n c2 t1 x4.a).bind fun t722=>
    (if t722.2 then
     qx_ n c2 t1 t2 c (IntKind.i64.wrap (t53+1))
    else
     (if (x4.kind==1) then
      some (.inr 12)
     else
      qx_ n c2 t1 t2 c (IntKind.i64.wrap (t53+1)))))
  else
   some (.inl ()))
def qZ_ (n:Nat)(c2:WellSchema)(t1:ByteArray)(_:GRel)(st:Unit)(x4:GStep)(k:Unit->Option ((Unit) ⊕ Int)):Option ((Unit) ⊕ Int):=
 match st with
 |_=>
  (if (x4.kind==2) then
   (jq_ n c2 t1 x4).bind fun t632=>
   (if (t632 != 0) then
    some (.inr t632)
   else
    k ())
  else
   (qq_ n c2 t1 x4.a).bind fun t722=>
   (if t722.2 then
    k ()
   else
    (if (x4.kind==1) then
     some (.inr 12)
    else
     k ())))
def ju_ (_:Nat)(_:WellSchema)(_:ByteArray)(_:GRel)(st:Unit):Option ((Unit) ⊕ Int):=
 match st with
 |_=>some (.inl ())
theorem zS_ (n:Nat)(c2:WellSchema)(t1:ByteArray)(t2:GRel)(hx:t2.expr.length<4611686018427387904)(c:Nat)(st:Unit)(ix:Nat)(hi:ix<=t2.expr.length)(hc:t2.expr.length-ix<c):qx_ n c2 t1 t2 c (match st,(ix:Int) with |_,ix=>ix)=xj_ (qZ_ n c2 t1 t2) (ju_ n c2 t1 t2) (t2.expr.drop ix) st:=
 xb_ (fun c st ix=>qx_ n c2 t1 t2 c (match st,ix with |_,ix=>ix)) t2.expr (qZ_ n c2 t1 t2) (ju_ n c2 t1 t2) (fun _ _ _=>rfl) hx c st ix hi hc
def jG_ (n:Nat)(c2:WellSchema)(t1:ByteArray)(t2:GRel):Option Int:=
 (
  qE_ n c2 t2 n 0:Option ((Unit) ⊕ Int)).bind fun
  | .inl _=>
   (
    qx_ n c2 t1 t2 n 0:Option ((Unit) ⊕ Int)).bind fun
    | .inl _=>
     some 0
    | .inr r=>some r
  | .inr r=>some r
theorem wc_ {n:Nat}{c2:WellSchema}{t1:ByteArray}{t2:GRel}{r:Int}(H:jG_ n c2 t1 t2=some r):PureOK Tryz.prog 89 [D.pt (eWellSchema c2) 0,D.v (.string t1),D.ag (eGRel t2)] (D.v (.int .i64 r)) true:=by
 unfold jG_ at H;refine ZP qf_ fol (rs:= #[.tmp 6]) Tryz.func89 ?_;refine zsq (ZT 1 ?_);refine Z0 ?_;refine zsq (zsq ?_);refine ZT 1 ?_;refine Z0 ?_;obtain⟨e_,E1,H2⟩:=zbi H
 refine zjn (α:={ y:Unit // e_= .inl y }) (fun |⟨_,_⟩=>⟨upd 0 (.d (.pt [.mp (qi_ Value.string false eI c2.types),.mp (qi_ qc_ true eGRel c2.rels),.mp (qi_ qc_ false eI c2.ranks)] 0) true) (upd 1 (.v (.string t1)) (upd 5 (.pt 0 0) noFr)),upd 0 (some (.bx [.v (.string t2.name),.d (.sl (List.map eGSub t2.subs)) true,.d (.sl (List.map eGStep t2.expr)) true])) noHp,1⟩) ?_ ?_
 ·refine zbk ?_
  refine zlp (α:={ q:Nat × Int // qE_ n c2 t2 q.1 q.2=some e_ }) (fun |⟨⟨c,t19⟩,_⟩=>⟨upd 0 (.d (.pt [.mp (qi_ Value.string false eI c2.types),.mp (qi_ qc_ true eGRel c2.rels),.mp (qi_ qc_ false eI c2.ranks)] 0) true) (upd 1 (.v (.string t1)) (upd 5 (.pt 0 0) (upd 17 (.d (.sl (List.map eGSub t2.subs)) true) (upd 18 (.v (.int .i64 (t2.subs.length:Int))) (upd 19 (.v (.int .i64 t19)) noFr))))),upd 0 (some (.bx [.v (.string t2.name),.d (.sl (List.map eGSub t2.subs)) true,.d (.sl (List.map eGStep t2.expr)) true])) noHp,1⟩) (fun q=>q.1.1) ⟨(n,0),E1⟩ ?_ ?_
  ·exact ZR [(0,0)]
  ·rintro⟨⟨c,t19⟩,L3⟩
   rcases c with _ |c
   ·exact Zx L3
   ·unfold qE_ at L3
    try dsimp only at L3
    refine ZT 1 ?_;refine Z0 ?_;rcases zit L3 with⟨c21,H22⟩ |⟨c21,H22⟩
    ·obtain⟨x2,b23,H24⟩:=zbi H22
     obtain⟨h25,h26⟩:=zix b23;try simp only[Int.reduceToNat,Int.toNat_natCast] at h26
     have h27:=qn_ eGSub h26;obtain⟨t292,b29,H30⟩:=zbi H24;refine Z1 (Y3 c21 (zno .i64 h25) h27) ?_;refine ZC0 (qB_ b29) ?_;have h31:j6_ (false,[.string]) (.string x2.type_) (.v (.int .i64 0)) false (xt_ true (qi_ Value.string false eI c2.types))=some (.v (.int .i64 (qk_ x2.type_ 0 c2.types)),[]):=lookD (b:=true) (ag:=false) (enc:=eI) vf_ x2.type_ (0:Int) false c2.types
     refine Z1 (Y4 c21 (zno .i64 h25) h27 h31) ?_;rcases zit H30 with⟨c32,H33⟩ |⟨c32,H33⟩
     ·refine Z1 (Y5 c21 (zno .i64 h25) h27 h31 c32) ?_
      refine qj_ (by rfl) ?_;refine Z1 (Y5 c21 (zno .i64 h25) h27 h31 c32) ?_;obtain rfl:=Zi H33;obtain rfl:=Zi H2;exact ZE0
     ·refine Z1 (Y5 c21 (zno .i64 h25) h27 h31 c32) ?_
      rcases zit H33 with⟨c34,H35⟩ |⟨c34,H35⟩
      ·refine Z1 (Y6 c21 (zno .i64 h25) h27 h31 c32 c34) ?_
       refine qj_ (by rfl) ?_;refine Z1 (Y6 c21 (zno .i64 h25) h27 h31 c32 c34) ?_;exact⟨⟨(c,(IntKind.i64.wrap (t19+1))),H35⟩,ZR [(0,0)],Nat.lt_succ_self _⟩
      ·refine Z1 (Y6 c21 (zno .i64 h25) h27 h31 c32 c34) ?_
       refine qj_ (by rfl) ?_;refine Z1 (Y6 c21 (zno .i64 h25) h27 h31 c32 c34) ?_;rcases zit H35 with⟨c36,H37⟩ |⟨c36,H37⟩
       ·refine Z1 (Y2 (Y6 c21 (zno .i64 h25) h27 h31 c32 c34) c36) ?_
        exact⟨⟨(c,(IntKind.i64.wrap (t19+1))),H37⟩,ZR [(0,0)],Nat.lt_succ_self _⟩
       ·refine Z1 (Y2 (Y6 c21 (zno .i64 h25) h27 h31 c32 c34) c36) ?_
        obtain rfl:=Zi H37;obtain rfl:=Zi H2;exact ZE0
    ·refine Z1 c21 ?_
     obtain rfl:=Zi H22;exact⟨⟨(),rfl⟩,ZR [(0,0)]⟩
 ·rintro⟨_,he82⟩
  obtain rfl:=he82.symm;try dsimp only at H2
  refine zsq (zsq ?_);refine ZT 1 ?_;refine Z0 ?_;obtain⟨e_2,E38,H39⟩:=zbi H2;refine zjn (α:={ y:Unit // e_2= .inl y }) (fun |⟨_,_⟩=>⟨noFr,noHp,0⟩) ?_ ?_
  ·refine zbk ?_
   refine zlp (α:={ q:Nat × Int // qx_ n c2 t1 t2 q.1 q.2=some e_2 }) (fun |⟨⟨c,t53⟩,_⟩=>⟨upd 0 (.d (.pt [.mp (qi_ Value.string false eI c2.types),.mp (qi_ qc_ true eGRel c2.rels),.mp (qi_ qc_ false eI c2.ranks)] 0) true) (upd 1 (.v (.string t1)) (upd 51 (.d (.sl (List.map eGStep t2.expr)) true) (upd 52 (.v (.int .i64 (t2.expr.length:Int))) (upd 53 (.v (.int .i64 t53)) noFr)))),noHp,0⟩) (fun q=>q.1.1) ⟨(n,0),E38⟩ ?_ ?_
   ·exact ZR []
   ·rintro⟨⟨c,t53⟩,L40⟩
    rcases c with _ |c
    ·exact Zx L40
    ·unfold qx_ at L40
     try dsimp only at L40
     refine ZT 1 ?_;refine Z0 ?_;rcases zit L40 with⟨c61,H62⟩ |⟨c61,H62⟩
     ·obtain⟨x4,b63,H64⟩:=zbi H62
      obtain⟨h65,h66⟩:=zix b63;try simp only[Int.reduceToNat,Int.toNat_natCast] at h66
      have h67:=qn_ eGStep h66;refine Z1 (Y3 c61 (zno .i64 h65) h67) ?_;rcases zit H64 with⟨c69,H70⟩ |⟨c69,H70⟩
      ·obtain⟨t632,b71,H72⟩:=zbi H70
       refine Z1 (Y4 c61 (zno .i64 h65) h67 c69) ?_;refine ZC0 (wb_ b71) ?_;refine Z1 (Y4 c61 (zno .i64 h65) h67 c69) ?_;rcases zit H72 with⟨c73,H74⟩ |⟨c73,H74⟩
       ·refine Z1 (Y5 c61 (zno .i64 h65) h67 c69 c73) ?_
        obtain rfl:=Zi H74;obtain rfl:=Zi H39;exact ZE0
       ·refine Z1 (Y5 c61 (zno .i64 h65) h67 c69 c73) ?_
        exact⟨⟨(c,(IntKind.i64.wrap (t53+1))),H74⟩,ZR [],Nat.lt_succ_self _⟩
      ·obtain⟨t722,b75,H76⟩:=zbi H70
       refine Z1 (Y4 c61 (zno .i64 h65) h67 c69) ?_;refine ZC0 (qB_ b75) ?_;refine Z1 (Y4 c61 (zno .i64 h65) h67 c69) ?_;rcases zit H76 with⟨c77,H78⟩ |⟨c77,H78⟩
       ·refine Z1 (Y5 c61 (zno .i64 h65) h67 c69 c77) ?_
        exact⟨⟨(c,(IntKind.i64.wrap (t53+1))),H78⟩,ZR [],Nat.lt_succ_self _⟩
       ·refine Z1 (Y5 c61 (zno .i64 h65) h67 c69 c77) ?_
        rcases zit H78 with⟨c79,H80⟩ |⟨c79,H80⟩
        ·refine Z1 (Y6 c61 (zno .i64 h65) h67 c69 c77 c79) ?_
         obtain rfl:=Zi H80;obtain rfl:=Zi H39;exact ZE0
        ·refine Z1 (Y6 c61 (zno .i64 h65) h67 c69 c77 c79) ?_
         exact⟨⟨(c,(IntKind.i64.wrap (t53+1))),H80⟩,ZR [],Nat.lt_succ_self _⟩
     ·refine Z1 c61 ?_
      obtain rfl:=Zi H62;exact⟨⟨(),rfl⟩,ZR []⟩
  ·rintro⟨_,he81⟩
   obtain rfl:=he81.symm;try dsimp only at H39
   refine ZT 1 ?_;refine Z0 ?_;obtain rfl:=Zi H39;exact ZE0
def qH_ (n:Nat)(x:GStep)(t26:GRel × Bool):Nat->(List WellWay × Int)->Option (List WellWay)
 |0,_=>none
 |c+1,(out,t32)=>
  (if (decide (t32<(t26.1.subs.length:Int))) then
   (idx t26.1.subs t32).bind fun x3=>
   (app out [(⟨(⟨x3.type_,x.b⟩:WellName),0⟩:WellWay)]).bind fun l=>
   qH_ n x t26 c (l,(IntKind.i64.wrap (t32+1)))
  else
   some out)
def jx_ (n:Nat)(s:WellSchema)(typ:ByteArray)(x:GStep):Option (List WellWay):=
 (if (x.kind==1) then
  some [(⟨(⟨typ,x.a⟩:WellName),0⟩:WellWay)]
 else
  (qq_ n s typ x.a).bind fun t26=>
  (
   qH_ n x t26 n ([],0):Option (List WellWay)).bind fun out3=>
  some out3)
theorem wE_ {n:Nat}{s:WellSchema}{typ:ByteArray}{x:GStep}{r:List WellWay}(H:jx_ n s typ x=some r):PureOK Tryz.prog 165 [D.pt (eWellSchema s) 0,D.v (.string typ),D.ag (eGStep x)] (D.sl (List.map eWellWay r)) true:=by
 unfold jx_ at H;refine ZP qf_ fol (rs:= #[.tmp 6]) Tryz.func165 ?_;refine zsq (ZT 1 ?_);refine Z0 ?_;refine zsq (ZT 1 ?_);refine Z0 ?_;rcases zit H with⟨c1,H2⟩ |⟨c1,H2⟩
 ·refine Z1 c1 ?_
  obtain rfl:=Zi H2;exact ZE1 c1
 ·refine Z1 c1 ?_
  refine zsq (ZT 1 ?_);refine Z1 c1 ?_;refine zsq (ZT 1 ?_);obtain⟨t26,b3,H4⟩:=zbi H2;refine Z1 c1 ?_;refine ZC0 (qB_ b3) ?_;refine Z1 c1 ?_;refine zsq (zsq ?_);refine ZT 1 ?_;refine Z1 c1 ?_;obtain⟨e_,E5,H6⟩:=zbi H4
  refine zjn (α:={ y:List WellWay // e_=y } × Nat) (fun |⟨⟨out3,_⟩,g3⟩=>⟨upd 7 (accV 0 g3 (List.map eWellWay out3)) noFr,upd 0 (accO 3 g3 false (List.map eWellWay out3)) noHp,1⟩) ?_ ?_
  ·refine zbk ?_
   refine zlp (α:={ q:(Nat × (List WellWay × Int)) × Nat // qH_ n x t26 q.1.1 q.1.2=some e_ }) (fun |⟨⟨⟨c,⟨out,t32⟩⟩,g⟩,_⟩=>⟨upd 5 (.pt 0 0) (upd 7 (accV 1 g (List.map eWellWay out)) (upd 30 (.d (.sl (List.map eGSub t26.1.subs)) true) (upd 31 (.v (.int .i64 (t26.1.subs.length:Int))) (upd 32 (.v (.int .i64 t32)) noFr)))),upd 0 (some (.bx [.v (.int .i64 x.kind),.v (.string x.a),.v (.string x.b)])) (upd 1 (accO 3 g false (List.map eWellWay out)) noHp),2⟩) (fun q=>q.1.1.1) ⟨((n,([],0)),0),E5⟩ ?_ ?_
   ·exact ZR [(0,0)]
   ·rintro⟨⟨⟨c,⟨out,t32⟩⟩,g⟩,L7⟩
    rcases c with _ |c
    ·exact Zx L7
    ·unfold qH_ at L7
     try dsimp only at L7
     refine ZT 1 ?_;refine Z0 ?_;rcases zit L7 with⟨c16,H17⟩ |⟨c16,H17⟩
     ·obtain⟨x3,b18,H19⟩:=zbi H17
      obtain⟨h20,h21⟩:=zix b18;try simp only[Int.reduceToNat,Int.toNat_natCast] at h21
      have h22:=qn_ eGSub h21;obtain⟨l,b24,H25⟩:=zbi H19;obtain⟨h26,h27⟩:=jV_ b24;have h26:out.length+1<=4294967296:=h26;have h28:List.map eWellWay out++[[.v (.string x3.type_),.v (.string x.b),.v (.int .i64 0)]]=List.map eWellWay l:=jD_ eWellWay h27;have h29:out.length+1=l.length:=jE_ h27;have h30:l.length<=4294967296:=by omega
      have q31:0<l.length:=by omega
      refine Z1 (Y2 (Y6 c16 (zno .i64 h20) h22 h26 h28 h29) h30) ?_;rcases out with _ |⟨q0,q1⟩
      ·try simp only[List.map_nil,accI,accN]
       exact⟨⟨((c,(l,(IntKind.i64.wrap (t32+1)))),0),H25⟩,ZR [(0,0),(1,15)],Nat.lt_succ_self _⟩
      ·try simp only[List.map_cons,accI,accN]
       exact⟨⟨((c,(l,(IntKind.i64.wrap (t32+1)))),(g+1)),H25⟩,ZR [(0,0),(1,1)],Nat.lt_succ_self _⟩
     ·refine Z1 c16 ?_
      obtain rfl:=Zi H17;exact⟨⟨⟨out,rfl⟩,g⟩,ZR [(0,1)]⟩
  ·rintro⟨⟨out3,he32⟩,g3⟩
   obtain rfl:=he32.symm;try dsimp only at H6
   refine ZT 1 ?_;refine Z0 ?_;obtain rfl:=Zi H6;exact ZE0
theorem fD_ (xs:List WellWay)(h:decide (xs.length=0)=true):PureOK Tryz.prog 166 [.sl (List.map eWellWay xs)] (.sl []) true:=by
 rw[List.eq_nil_of_length_eq_zero (of_decide_eq_true h)];exact yV_ qf_ fol Tryz.func166 (T:=201) (B:=4) rfl (by kernel_rfl) (by kernel_rfl) (by decide) rfl (by simp only[go_sem]) (by simp only[go_sem]) (by simp only[go_sem];decide) (by simp only[go_sem];decide)
theorem bx_ (xs:List WellWay)(h0:0<xs.length)(hn:xs.length<=4294967296){b:Bool}{hp:Hp}{nx:Nat}:InlOK Tryz.prog 166 [.d (.sl (List.map eWellWay xs)) b] hp nx fun v hp2 nx2=>v= .so (nx+3) 1 0 xs.length/\hp2=upd (nx+3) (some (.rw (List.map eWellWay xs) 3 1 false false)) hp/\nx2=nx+7:=by
 have h:=y1_ (e:=eWellWay) (k:=3) (b:=b) (hp:=hp) (nx:=nx) qf_ fol Tryz.func166 (T:=201) (B:=4) rfl (by kernel_rfl) (by kernel_rfl) (by decide) rfl (by simp only[go_sem]) (by simp only[go_sem]) (by simp only[go_sem]) (by decide) (by simp only[go_sem];decide) (fun _=>rfl) xs h0 hn;rw[v2_ (f:=eWellWay) (fun _=>rfl),Bool.not_true,Bool.and_false] at h;exact h
def jC_ (_:Nat):Nat->Unit->Option (Unit)
 |0,_=>none
 |_+1,_=>
  some ()
def qv_ (n:Nat)(x2:GStep)(x3:List WellWay):Nat->(List WellWay × Int)->Option (List WellWay)
 |0,_=>none
 |c+1,(t11,t48)=>
  (if (decide (t48<(x3.length:Int))) then
   (if (x2.kind==4) then
    (idx t11 t48).bind fun x6=>
    (some (List.set t11 (Int.toNat t48) (⟨x6.to,1⟩:WellWay))).bind fun l5=>
    qv_ n x2 x3 c (l5,(IntKind.i64.wrap (t48+1)))
   else
    qv_ n x2 x3 c (t11,(IntKind.i64.wrap (t48+1))))
  else
   some t11)
def qw_ (n:Nat)(c2:WellSchema)(t1:ByteArray)(t2:List GStep):Nat->(List (List WellWay) × Int)->Option (List (List WellWay))
 |0,_=>none
 |c+1,(t7,t15)=>
  (if (decide (t15<(t2.length:Int))) then
   (idx t2 t15).bind fun x2=>
   (
    (if (x2.kind==1) then
     some true
    else
     some (x2.kind==2)):Option (Bool)).bind fun t212=>
   (if t212 then
    (jx_ n c2 t1 x2).bind fun t342=>
    (app t7 [t342]).bind fun l=>
    qw_ n c2 t1 t2 c (l,(IntKind.i64.wrap (t15+1)))
   else
    (if (decide (2<=(t7.length:Int))) then
     (idx t7 (IntKind.i64.wrap ((t7.length:Int)-1))).bind fun x3=>
     (if (decide (x3.length=0)) then
      (
       jC_ n n ():Option (Unit)).bind fun _=>
      (slc t7 0 (IntKind.i64.wrap ((t7.length:Int)-2))).bind fun l2=>
      (idx t7 (IntKind.i64.wrap ((t7.length:Int)-2))).bind fun x4=>
      (if (decide (x4.length=0)) then
       none
      else
       grd (decide (x4.length<=4294967296))<|
       (app l2 [x4]).bind fun l3=>
       qw_ n c2 t1 t2 c (l3,(IntKind.i64.wrap (t15+1))))
     else
      grd (decide (x3.length<=4294967296))<|
      (
       qv_ n x2 x3 n (x3,0):Option (List WellWay)).bind fun t113=>
      (slc t7 0 (IntKind.i64.wrap ((t7.length:Int)-2))).bind fun l6=>
      (idx t7 (IntKind.i64.wrap ((t7.length:Int)-2))).bind fun x7=>
      (if (decide (x7.length=0)) then
       none
      else
       grd (decide (x7.length<=4294967296))<|
       (app x7 t113).bind fun l7=>
       (app l6 [l7]).bind fun l8=>
       qw_ n c2 t1 t2 c (l8,(IntKind.i64.wrap (t15+1)))))
    else
     qw_ n c2 t1 t2 c (t7,(IntKind.i64.wrap (t15+1)))))
  else
   some t7)
def q0_ (n:Nat)(c2:WellSchema)(t1:ByteArray)(_:List GStep)(st:List (List WellWay))(x2:GStep)(k:List (List WellWay)->Option (List (List WellWay))):Option (List (List WellWay)):=
 match st with
 |t7=>
  (
   (if (x2.kind==1) then
    some true
   else
    some (x2.kind==2)):Option (Bool)).bind fun t212=>
  (if t212 then
   (jx_ n c2 t1 x2).bind fun t342=>
   (app t7 [t342]).bind fun l=>
   k l
  else
   (if (decide (2<=(t7.length:Int))) then
    (idx t7 (IntKind.i64.wrap ((t7.length:Int)-1))).bind fun x3=>
    (if (decide (x3.length=0)) then
     (
      jC_ n n ():Option (Unit)).bind fun _=>
     (slc t7 0 (IntKind.i64.wrap ((t7.length:Int)-2))).bind fun l2=>
     (idx t7 (IntKind.i64.wrap ((t7.length:Int)-2))).bind fun x4=>
     (if (decide (x4.length=0)) then
      none
     else
      grd (decide (x4.length<=4294967296))<|
      (app l2 [x4]).bind fun l3=>
      k l3)
    else
     grd (decide (x3.length<=4294967296))<|
     (
      qv_ n x2 x3 n (x3,0):Option (List WellWay)).bind fun t113=>
     (slc t7 0 (IntKind.i64.wrap ((t7.length:Int)-2))).bind fun l6=>
     (idx t7 (IntKind.i64.wrap ((t7.length:Int)-2))).bind fun x7=>
     (if (decide (x7.length=0)) then
      none
     else
      grd (decide (x7.length<=4294967296))<|
      (app x7 t113).bind fun l7=>
      (app l6 [l7]).bind fun l8=>
      k l8))
   else
    k t7))
def jv_ (_:Nat)(_:WellSchema)(_:ByteArray)(_:List GStep)(st:List (List WellWay)):Option (List (List WellWay)):=
 match st with
 |t7=>some t7
theorem zT_ (n:Nat)(c2:WellSchema)(t1:ByteArray)(t2:List GStep)(hx:t2.length<4611686018427387904)(c:Nat)(st:List (List WellWay))(ix:Nat)(hi:ix<=t2.length)(hc:t2.length-ix<c):qw_ n c2 t1 t2 c (match st,(ix:Int) with |t7,ix=>(t7,ix))=xj_ (q0_ n c2 t1 t2) (jv_ n c2 t1 t2) (t2.drop ix) st:=
 xb_ (fun c st ix=>qw_ n c2 t1 t2 c (match st,ix with |t7,ix=>(t7,ix))) t2 (q0_ n c2 t1 t2) (jv_ n c2 t1 t2) (fun _ _ _=>rfl) hx c st ix hi hc
def jH_ (n:Nat)(c2:WellSchema)(t1:ByteArray)(t2:List GStep):Option (List WellWay):=
 (
  qw_ n c2 t1 t2 n ([],0):Option (List (List WellWay))).bind fun t73=>
 (catW n t73).bind fun t75=>
 some t75
set_option maxHeartbeats 8000000 in
theorem wd_ {n:Nat}{c2:WellSchema}{t1:ByteArray}{t2:List GStep}{r:List WellWay}(H:jH_ n c2 t1 t2=some r):PureOK Tryz.prog 141 [D.pt (eWellSchema c2) 0,D.v (.string t1),D.sl (List.map eGStep t2)] (D.sl (List.map eWellWay r)) true:=by
 unfold jH_ at H;refine ZP qf_ fol (rs:= #[.tmp 6]) Tryz.func141 ?_;refine zsq (ZT 1 ?_);refine Z0 ?_;refine zsq (ZT 1 ?_);refine Z0 ?_;refine zsq (zsq ?_);refine ZT 1 ?_;refine Z0 ?_;obtain⟨e_,E1,H2⟩:=zbi H
 refine zjn (α:={ y:List (List WellWay) // e_=y } × Nat) (fun |⟨⟨t73,_⟩,g4⟩=>⟨upd 7 (accV 0 g4 (List.map (eL eWellWay) t73)) noFr,upd 0 (accO 1 g4 false (List.map (eL eWellWay) t73)) noHp,1⟩) ?_ ?_
 ·refine zbk ?_
  refine zlp (α:={ q:(Nat × (List (List WellWay) × Int)) × Nat // qw_ n c2 t1 t2 q.1.1 q.1.2=some e_ }) (fun |⟨⟨⟨c,⟨t7,t15⟩⟩,g⟩,_⟩=>⟨upd 0 (.d (.pt [.mp (qi_ Value.string false eI c2.types),.mp (qi_ qc_ true eGRel c2.rels),.mp (qi_ qc_ false eI c2.ranks)] 0) true) (upd 1 (.v (.string t1)) (upd 7 (accV 0 g (List.map (eL eWellWay) t7)) (upd 13 (.d (.sl (List.map eGStep t2)) true) (upd 14 (.v (.int .i64 (t2.length:Int))) (upd 15 (.v (.int .i64 t15)) noFr))))),upd 0 (accO 1 g false (List.map (eL eWellWay) t7)) noHp,1⟩) (fun q=>q.1.1.1) ⟨((n,([],0)),0),E1⟩ ?_ ?_
  ·exact ZR []
  ·rintro⟨⟨⟨c,⟨t7,t15⟩⟩,g⟩,L3⟩
   rcases c with _ |c
   ·exact Zx L3
   ·unfold qw_ at L3
    try dsimp only at L3
    refine zsq (ZT 1 ?_);refine Z0 ?_;refine zsq (ZT 1 ?_);refine Z0 ?_;rcases zit L3 with⟨c21,H22⟩ |⟨c21,H22⟩
    ·refine Z1 c21 ?_
     refine zsq (zbk ?_);refine zsq (ZT 1 ?_);obtain⟨x2,b23,H24⟩:=zbi H22;obtain⟨h25,h26⟩:=zix b23;try simp only[Int.reduceToNat,Int.toNat_natCast] at h26
     have h27:=qn_ eGStep h26;refine Z1 (Y3 c21 (zno .i64 h25) h27) ?_;refine zsq (ZT 1 ?_);refine Z1 (Y3 c21 (zno .i64 h25) h27) ?_;refine zbk ?_;refine zsq ?_;obtain⟨e_3,E29,H30⟩:=zbi H24
     refine zjn (α:={ y:Bool // e_3=y } × Nat) (fun |⟨⟨t212,_⟩,g2⟩=>⟨upd 0 (.d (.pt [.mp (qi_ Value.string false eI c2.types),.mp (qi_ qc_ true eGRel c2.rels),.mp (qi_ qc_ false eI c2.ranks)] 0) true) (upd 1 (.v (.string t1)) (upd 7 (accV 0 g2 (List.map (eL eWellWay) t7)) (upd 9 (.pt 1 0) (upd 10 (.v (.int .i64 (t7.length:Int))) (upd 13 (.d (.sl (List.map eGStep t2)) true) (upd 14 (.v (.int .i64 (t2.length:Int))) (upd 15 (.v (.int .i64 t15)) (upd 21 (.v (.bool t212)) noFr)))))))),upd 0 (accO 1 g2 false (List.map (eL eWellWay) t7)) (upd 1 (some (.bx [.v (.int .i64 x2.kind),.v (.string x2.a),.v (.string x2.b)])) noHp),2⟩) ?_ ?_
     ·refine ZT 1 ?_
      refine Z0 ?_;rcases zit E29 with⟨c31,H32⟩ |⟨c31,H32⟩
      ·refine Z1 c31 ?_
       obtain rfl:=Zi H32;exact⟨⟨⟨true,rfl⟩,g⟩,ZR [(0,0),(1,4)]⟩
      ·refine Z1 c31 ?_
       obtain rfl:=Zi H32;exact⟨⟨⟨(x2.kind==2),rfl⟩,g⟩,ZR [(0,0),(1,4)]⟩
     ·rintro⟨⟨t212,he181⟩,g2⟩
      obtain rfl:=he181.symm;try dsimp only at H30
      rcases zit H30 with⟨c33,H34⟩ |⟨c33,H34⟩
      ·refine qs_ (by rfl) c33 ?_
       refine Z1 c33 ?_;refine ZT 4 ?_;obtain⟨t342,b35,H36⟩:=zbi H34;refine Z1 c33 ?_;refine ZC0 (wE_ b35) ?_;obtain⟨l,b37,H38⟩:=zbi H36;obtain⟨h39,h40⟩:=jV_ b37;have h39:t7.length+1<=4294967296:=h39;have h41:List.map (eL eWellWay) t7++[[.sl (List.map eWellWay t342)]]=List.map (eL eWellWay) l:=jD_ (eL eWellWay) h40;have h42:t7.length+1=l.length:=jE_ h40
       have h43:l.length<=4294967296:=by omega
       have q44:0<l.length:=by omega
       refine Z1 (Y5 c33 h39 h41 h42 h43) ?_;rcases t7 with _ |⟨q0,q1⟩
       ·try simp only[List.map_nil,accI,accN]
        exact⟨⟨((c,(l,(IntKind.i64.wrap (t15+1)))),0),H38⟩,ZR [(0,8)],Nat.lt_succ_self _⟩
       ·try simp only[List.map_cons,accI,accN]
        exact⟨⟨((c,(l,(IntKind.i64.wrap (t15+1)))),(g2+1)),H38⟩,ZR [(0,0)],Nat.lt_succ_self _⟩
      ·refine qg_ (by rfl) c33 ?_
       refine Z1 c33 ?_;refine zsq (ZT 1 ?_);refine Z1 c33 ?_;rcases zit H34 with⟨c45,H46⟩ |⟨c45,H46⟩
       ·refine qs_ (by rfl) c45 ?_
        refine Z1 (Y2 c33 c45) ?_;refine zsq (ZT 1 ?_);obtain⟨x3,b47,H48⟩:=zbi H46;obtain⟨h49,h50⟩:=zix b47;try simp only[Int.reduceToNat,Int.toNat_natCast] at h50
        have h51:=qn_ (eL eWellWay) h50;have h52:=vA_ h50;have q53:0<t7.length:=by omega
        refine Z1 (Y2 (Y6 c33 c45 (zno .i64 h49) h51 h52 (YV (f:=(eL eWellWay)) q53)) (YO (f:=(eL eWellWay)) q53)) ?_;rcases zit H48 with⟨c54,H55⟩ |⟨c54,H55⟩
        ·refine Z1 (Y2 (Y6 c33 c45 (zno .i64 h49) h51 h52 (YV (f:=(eL eWellWay)) q53)) (Y2 (YO (f:=(eL eWellWay)) q53) c54)) ?_
         refine ZC0 (fD_ x3 c54) ?_;refine Z1 (Y2 (Y6 c33 c45 (zno .i64 h49) h51 h52 (YV (f:=(eL eWellWay)) q53)) (Y2 (YO (f:=(eL eWellWay)) q53) c54)) ?_;refine zsq (zsq ?_);refine ZT 1 ?_;refine Z1 (Y2 (Y6 c33 c45 (zno .i64 h49) h51 h52 (YV (f:=(eL eWellWay)) q53)) (Y2 (YO (f:=(eL eWellWay)) q53) c54)) ?_;obtain⟨e_4,E56,H57⟩:=zbi H55
         refine zjn (α:={ y:Unit // e_4=y }) (fun |⟨_,_⟩=>⟨upd 0 (.d (.pt [.mp (qi_ Value.string false eI c2.types),.mp (qi_ qc_ true eGRel c2.rels),.mp (qi_ qc_ false eI c2.ranks)] 0) true) (upd 1 (.v (.string t1)) (upd 7 (.so 0 g2 0 (t7.length)) (upd 10 (.v (.int .i64 (t7.length:Int))) (upd 11 (.d (.sl (List.map eWellWay [])) false) (upd 13 (.d (.sl (List.map eGStep t2)) true) (upd 14 (.v (.int .i64 (t2.length:Int))) (upd 15 (.v (.int .i64 t15)) noFr))))))),upd 0 (some (.rw (List.map (eL eWellWay) t7) 1 g2 false false)) noHp,1⟩) ?_ ?_
         ·refine zbk ?_
          refine zlp (α:={ q:Nat × Unit // jC_ n q.1 q.2=some e_4 }) (fun |⟨⟨c,_⟩,_⟩=>⟨upd 0 (.d (.pt [.mp (qi_ Value.string false eI c2.types),.mp (qi_ qc_ true eGRel c2.rels),.mp (qi_ qc_ false eI c2.ranks)] 0) true) (upd 1 (.v (.string t1)) (upd 7 (.so 0 g2 0 (t7.length)) (upd 9 (.pt 1 0) (upd 10 (.v (.int .i64 (t7.length:Int))) (upd 11 (.d (.sl (List.map eWellWay [])) false) (upd 13 (.d (.sl (List.map eGStep t2)) true) (upd 14 (.v (.int .i64 (t2.length:Int))) (upd 15 (.v (.int .i64 t15)) (upd 47 (.v (.int .i64 0)) (upd 48 (.v (.int .i64 0)) noFr)))))))))),upd 0 (some (.rw (List.map (eL eWellWay) t7) 1 g2 false false)) (upd 1 (some (.bx [.v (.int .i64 x2.kind),.v (.string x2.a),.v (.string x2.b)])) noHp),2⟩) (fun q=>q.1.1) ⟨(n,()),E56⟩ ?_ ?_
          ·exact ZR [(0,0),(1,1)]
          ·rintro⟨⟨c,_⟩,L58⟩
           rcases c with _ |c
           ·exact Zx L58
           ·unfold jC_ at L58
            try dsimp only at L58
            refine ZT 1 ?_;refine Z0 ?_;obtain rfl:=Zi L58;exact⟨⟨(),rfl⟩,ZR [(0,0)]⟩
         ·rintro⟨_,he93⟩
          obtain rfl:=he93.symm;try dsimp only at H57
          refine ZT 4 ?_;obtain⟨l2,b59,H60⟩:=zbi H57;obtain⟨h61,h62,h63,h64⟩:=fh_ b59;have h65:0<=Int.toNat (IntKind.i64.wrap ((t7.length:Int)-2)):=by omega
          have h66:Int.toNat (IntKind.i64.wrap ((t7.length:Int)-2))<=t7.length:=by omega
          have h68:Int.toNat (IntKind.i64.wrap ((t7.length:Int)-2))-0=l2.length:=by rw[h64];simp;try omega
          have h67:List.take l2.length (List.map (eL eWellWay) t7)=List.map (eL eWellWay) l2:=hm_ (eL eWellWay) h64;try simp only[Int.toNat_natCast] at h65 h66 h67 h68
          obtain⟨x4,b69,H70⟩:=zbi H60;obtain⟨h71,h72⟩:=zix b69;try simp only[Int.reduceToNat,Int.toNat_natCast] at h72
          have h73:=qn_ (eL eWellWay) h72;have h74:=vA_ h72;refine Z1 (Y2 (Y6 (zno .i64 (Int.le_trans h61 h62)) h65 h66 h68 h67 (zno .i64 h71)) (Y2 h73 h74)) ?_;rcases zit H70 with⟨c75,H76⟩ |⟨c75,H76⟩
          ·refine Z1 (Y2 (Y6 (zno .i64 (Int.le_trans h61 h62)) h65 h66 h68 h67 (zno .i64 h71)) (Y3 h73 h74 c75)) ?_
           refine ZD0 (fD_ x4 c75) ?_;cases H76
          ·obtain⟨g77,H78⟩:=q9_ H76
           have h79:x4.length<=4294967296:=of_decide_eq_true g77;have q80:0<x4.length:=by have:=of_decide_eq_false c75;omega
           refine Z1 (Y2 (Y6 (zno .i64 (Int.le_trans h61 h62)) h65 h66 h68 h67 (zno .i64 h71)) (Y3 h73 h74 c75)) ?_;refine q3_ (ids':=[]) (v:=.so 19 1 0 x4.length) (δ:=[(19,.rw (List.map eWellWay x4) 3 1 false false)]) (nx':=23) (fun hp1 _=>InlOK.mono (bx_ x4 q80 h79) fun v2 hp2 nx2 e=>e) ?_;have h84:x4.length<=4294967296:=by omega
           obtain⟨l3,b85,H86⟩:=zbi H78;obtain⟨h87,h88⟩:=jV_ b85;have h87:l2.length+1<=4294967296:=h87;have h89:List.map (eL eWellWay) l2++[[.sl (List.map eWellWay x4)]]=List.map (eL eWellWay) l3:=jD_ (eL eWellWay) h88;have h90:l2.length+1=l3.length:=jE_ h88;have h91:l3.length<=4294967296:=by omega
           have q92:0<l3.length:=by omega
           have hq_:(l2.length<=t7.length)=True:=eq_true (by omega);try simp -implicitDefEqProofs only[go_sem,Bool.false_and,Nat.reduceLT,Nat.reduceEqDiff,Nat.reduceAdd,Nat.reduceLeDiff,reduceCtorEq, ↓reduceIte,h67,h79,Nat.add_zero,List.append_nil,h89,h90,h91,hq_]
           refine qj_ (by rfl) ?_;try simp -implicitDefEqProofs only[go_sem,Nat.reduceEqDiff,Nat.reduceAdd,reduceCtorEq, ↓reduceIte]
           exact⟨⟨((c,(l3,(IntKind.i64.wrap (t15+1)))),(g2+1)),H86⟩,ZR [(0,0)],Nat.lt_succ_self _⟩
        ·obtain⟨g94,H95⟩:=q9_ H55
         have h96:x3.length<=4294967296:=of_decide_eq_true g94;have q97:0<x3.length:=by have:=of_decide_eq_false c54;omega
         refine Z1 (Y2 (Y6 c33 c45 (zno .i64 h49) h51 h52 (YV (f:=(eL eWellWay)) q53)) (Y2 (YO (f:=(eL eWellWay)) q53) c54)) ?_;refine qe_ (InlOK.mono (bx_ x3 q97 h96) ?_);rintro v98 hp99 nx100 ⟨rfl,rfl,rfl⟩;refine Z1 (Y2 (Y6 c33 c45 (zno .i64 h49) h51 h52 (YV (f:=(eL eWellWay)) q53)) (Y3 (YO (f:=(eL eWellWay)) q53) c54 h96)) ?_;refine zsq (zsq ?_);refine ZT 1 ?_
         refine Z1 (Y2 (Y6 c33 c45 (zno .i64 h49) h51 h52 (YV (f:=(eL eWellWay)) q53)) (Y3 (YO (f:=(eL eWellWay)) q53) c54 h96)) ?_;obtain⟨e_5,E101,H102⟩:=zbi H95
         refine zjn (α:={ y:List WellWay // e_5=y }) (fun |⟨t113,_⟩=>⟨upd 0 (.d (.pt [.mp (qi_ Value.string false eI c2.types),.mp (qi_ qc_ true eGRel c2.rels),.mp (qi_ qc_ false eI c2.ranks)] 0) true) (upd 1 (.v (.string t1)) (upd 7 (.so 0 g2 0 (t7.length)) (upd 10 (.v (.int .i64 (t7.length:Int))) (upd 11 (.so 1 1 0 (t113.length)) (upd 13 (.d (.sl (List.map eGStep t2)) true) (upd 14 (.v (.int .i64 (t2.length:Int))) (upd 15 (.v (.int .i64 t15)) noFr))))))),upd 0 (some (.rw (List.map (eL eWellWay) t7) 1 g2 false false)) (upd 1 (some (.rw (List.map eWellWay t113) 3 1 false false)) noHp),2⟩) ?_ ?_
         ·refine zbk ?_
          refine zlp (α:={ q:Nat × (List WellWay × Int) // qv_ n x2 x3 q.1 q.2=some e_5 }) (fun |⟨⟨c,⟨t11,t48⟩⟩,_⟩=>⟨upd 0 (.d (.pt [.mp (qi_ Value.string false eI c2.types),.mp (qi_ qc_ true eGRel c2.rels),.mp (qi_ qc_ false eI c2.ranks)] 0) true) (upd 1 (.v (.string t1)) (upd 7 (.so 0 g2 0 (t7.length)) (upd 9 (.pt 1 0) (upd 10 (.v (.int .i64 (t7.length:Int))) (upd 11 (.so 2 1 0 (t11.length)) (upd 13 (.d (.sl (List.map eGStep t2)) true) (upd 14 (.v (.int .i64 (t2.length:Int))) (upd 15 (.v (.int .i64 t15)) (upd 47 (.v (.int .i64 (x3.length:Int))) (upd 48 (.v (.int .i64 t48)) noFr)))))))))),upd 0 (some (.rw (List.map (eL eWellWay) t7) 1 g2 false false)) (upd 1 (some (.bx [.v (.int .i64 x2.kind),.v (.string x2.a),.v (.string x2.b)])) (upd 2 (some (.rw (List.map eWellWay t11) 3 1 false false)) noHp)),3⟩) (fun q=>q.1.1) ⟨(n,(x3,0)),E101⟩ ?_ ?_
          ·exact ZR [(0,0),(1,1),(2,15)]
          ·rintro⟨⟨c,⟨t11,t48⟩⟩,L103⟩
           rcases c with _ |c
           ·exact Zx L103
           ·unfold qv_ at L103
            try dsimp only at L103
            refine ZT 1 ?_;refine Z0 ?_;rcases zit L103 with⟨c122,H123⟩ |⟨c122,H123⟩
            ·refine Z1 c122 ?_
             rcases zit H123 with⟨c124,H125⟩ |⟨c124,H125⟩
             ·obtain⟨x6,b126,H127⟩:=zbi H125
              obtain⟨h128,h129⟩:=zix b126;try simp only[Int.reduceToNat,Int.toNat_natCast] at h129
              have h130:=qn_ eWellWay h129;have h131:=vA_ h129;obtain⟨l5,b132,H133⟩:=zbi H127;have h134:List.set t11 (Int.toNat t48) (⟨x6.to,1⟩:WellWay)=l5:=Option.some.inj b132;have h135:List.set (List.map eWellWay t11) (Int.toNat t48) [.v (.string x6.to.typ),.v (.string x6.to.rel),.v (.int .i64 1)]=List.map eWellWay l5:=by rw[<-h134,List.map_set]
              try simp only[List.map_cons,List.map_nil] at h135
              have h136:t11.length=l5.length:=by rw[<-h134,List.length_set]
              have h137:∀w,AV.so 2 w 0 t11.length=AV.so 2 w 0 l5.length:=fun w=>by rw[h136]
              have h138:(Int.toNat t48)<l5.length:=by omega
              refine Z1 (Y2 (Y6 c122 c124 (zno .i64 h128) h130 h131 h135) (Y2 h137 h138)) ?_;exact⟨⟨(c,(l5,(IntKind.i64.wrap (t48+1)))),H133⟩,ZR [(0,0),(1,1),(2,2)],Nat.lt_succ_self _⟩
             ·refine Z1 (Y2 c122 c124) ?_
              exact⟨⟨(c,(t11,(IntKind.i64.wrap (t48+1)))),H125⟩,ZR [(0,0),(1,1),(2,2)],Nat.lt_succ_self _⟩
            ·refine Z1 c122 ?_
             obtain rfl:=Zi H123;exact⟨⟨t11,rfl⟩,ZR [(0,0),(1,2)]⟩
         ·rintro⟨t113,he180⟩
          obtain rfl:=he180.symm;try dsimp only at H102
          refine ZT 4 ?_;obtain⟨l6,b139,H140⟩:=zbi H102;obtain⟨h141,h142,h143,h144⟩:=fh_ b139;have h145:0<=Int.toNat (IntKind.i64.wrap ((t7.length:Int)-2)):=by omega
          have h146:Int.toNat (IntKind.i64.wrap ((t7.length:Int)-2))<=t7.length:=by omega
          have h148:Int.toNat (IntKind.i64.wrap ((t7.length:Int)-2))-0=l6.length:=by rw[h144];simp;try omega
          have h147:List.take l6.length (List.map (eL eWellWay) t7)=List.map (eL eWellWay) l6:=hm_ (eL eWellWay) h144;try simp only[Int.toNat_natCast] at h145 h146 h147 h148
          obtain⟨x7,b149,H150⟩:=zbi H140;obtain⟨h151,h152⟩:=zix b149;try simp only[Int.reduceToNat,Int.toNat_natCast] at h152
          have h153:=qn_ (eL eWellWay) h152;have h154:=vA_ h152;refine Z1 (Y2 (Y6 (zno .i64 (Int.le_trans h141 h142)) h145 h146 h148 h147 (zno .i64 h151)) (Y2 h153 h154)) ?_;rcases zit H150 with⟨c155,H156⟩ |⟨c155,H156⟩
          ·refine Z1 (Y2 (Y6 (zno .i64 (Int.le_trans h141 h142)) h145 h146 h148 h147 (zno .i64 h151)) (Y3 h153 h154 c155)) ?_
           refine ZD0 (fD_ x7 c155) ?_;cases H156
          ·obtain⟨g157,H158⟩:=q9_ H156
           have h159:x7.length<=4294967296:=of_decide_eq_true g157;have q160:0<x7.length:=by have:=of_decide_eq_false c155;omega
           refine Z1 (Y2 (Y6 (zno .i64 (Int.le_trans h141 h142)) h145 h146 h148 h147 (zno .i64 h151)) (Y3 h153 h154 c155)) ?_;refine q3_ (ids':=[]) (v:=.so 20 1 0 x7.length) (δ:=[(20,.rw (List.map eWellWay x7) 3 1 false false)]) (nx':=24) (fun hp1 _=>InlOK.mono (bx_ x7 q160 h159) fun v2 hp2 nx2 e=>e) ?_;obtain⟨l7,b164,H165⟩:=zbi H158;obtain⟨h166,h167⟩:=jV_ b164
           have h166:x7.length+t113.length<=4294967296:=h166;have h168:List.map eWellWay x7++List.map eWellWay t113=List.map eWellWay l7:=jD_ eWellWay h167;have h169:x7.length+t113.length=l7.length:=jE_ h167;have h170:l7.length<=4294967296:=by omega
           have q171:0<l7.length:=by omega
           obtain⟨l8,b172,H173⟩:=zbi H165;obtain⟨h174,h175⟩:=jV_ b172;have h174:l6.length+1<=4294967296:=h174;have h176:List.map (eL eWellWay) l6++[[.sl (List.map eWellWay l7)]]=List.map (eL eWellWay) l8:=jD_ (eL eWellWay) h175;have h177:l6.length+1=l8.length:=jE_ h175;have h178:l8.length<=4294967296:=by omega
           have q179:0<l8.length:=by omega
           have hq_:(l6.length<=t7.length)=True:=eq_true (by omega);refine Z1 (And.intro hq_ (Y4 (Y6 (zno .i64 (Int.le_trans h141 h142)) h145 h146 h148 h147 (zno .i64 h151)) (Y6 h153 h154 c155 h159 (ja_ (n:=3) (f:=eWellWay) (fun _=>rfl) t113) h166) (Y6 h168 h169 h170 h174 h176 h177) h178)) ?_;refine qj_ (by rfl) ?_
           refine Z1 (Y4 (Y6 (zno .i64 (Int.le_trans h141 h142)) h145 h146 h148 h147 (zno .i64 h151)) (Y6 h153 h154 c155 h159 (ja_ (n:=3) (f:=eWellWay) (fun _=>rfl) t113) h166) (Y6 h168 h169 h170 h174 h176 h177) h178) ?_;exact⟨⟨((c,(l8,(IntKind.i64.wrap (t15+1)))),(g2+1)),H173⟩,ZR [(0,0)],Nat.lt_succ_self _⟩
       ·refine qg_ (by rfl) c45 ?_
        refine Z1 (Y2 c33 c45) ?_;refine ZT 4 ?_;refine Z1 (Y2 c33 c45) ?_;exact⟨⟨((c,(t7,(IntKind.i64.wrap (t15+1)))),g2),H46⟩,ZR [(0,0)],Nat.lt_succ_self _⟩
    ·refine Z1 c21 ?_
     obtain rfl:=Zi H22;exact⟨⟨⟨t7,rfl⟩,g⟩,ZR [(0,0)]⟩
 ·rintro⟨⟨t73,he184⟩,g4⟩
  obtain rfl:=he184.symm;try dsimp only at H2
  refine ZT 1 ?_;obtain⟨t75,b182,H183⟩:=zbi H2;refine Z0 ?_;refine ZC0 (c4_ b182) ?_;refine Z0 ?_;obtain rfl:=Zi H183;exact ZE0
theorem InlOK.canon {P:Program}{f:FuncId}{vs:List AV}{hp hp0:Hp}{nx:Nat}{R:AV->Hp->Nat->Prop}{v0:AV}(h:InlOK P f vs hp nx R)(k:∀v hp2 nx2,R v hp2 nx2->nx<=nx2->WeakR nx ⟨upd 0 v0 noFr,hp0,nx⟩ ⟨upd 0 v noFr,hp2,nx2⟩):
  InlOK P f vs hp nx fun v hp2 nx2=>v=v0/\hp2=hp0/\nx2=nx:=by
 refine⟨h.1,fun g c args h1 h2 h3 h4 h5=> ?_⟩;let g0:Gh:=⟨g.base,g.M0,0⟩
 refine(h.2 g0 c args h1 h2 (h3.fb 0) h4 fun j x hj=>by obtain⟨u,e1,e2⟩:=h5 j x hj;exact⟨u,e1,e2.tr (Trp.fb g c 0)⟩).mono ?_;rintro e w' ⟨u,v,c',nx',e1,e2,e3,e4,e5,e6,e7,e8⟩;have hk:=k v c'.hp nx' e2 e7;obtain⟨a,ha,hd⟩:∃a:Act,a.tmps= #[u]/\a.defers= []:=⟨{ tmps:= #[u],defers:=[] },rfl,rfl⟩;have hs:Sim g0 ⟨upd 0 v noFr,c'.hp,nx'⟩ c' a 1:=by
  refine⟨rfl,e5,fun i hi=> ?_,fun t=> ?_,by rw[ha];rfl,Nat.zero_le _,by rw[hd];trivial⟩
  ·rcases e8 i hi with h6 |h6
   ·exact Nat.lt_of_lt_of_le (h2 i h6) e7
   ·exact h6.2
  ·cases t with
   |zero=>rw[ha];exact e6
   |succ t=>trivial
 obtain⟨c2,q1,q2,q3,q4,q5⟩:=hs.weakR e7 hk;have hu:RAt g0 c2 v0 u:=by
  have:=q1.fr 0
  rw[ha] at this;exact this
 have tu:=Trp.unfb g c2 0;refine⟨u,v0,c2,nx,e1,⟨rfl,q1.hp,rfl⟩,q2.trans e3,(e4.toR.trans q3).toE (h3.fb 0) h2,q1.hr.tr tu q1.hr.le q1.hr.m0 (fun id o ho=>(q1.hr.dom id o ho).2.1) (Nat.le_refl _),hu.tr tu,Nat.le_refl _,fun i hi=> ?_⟩;have hi2:=q1.kn i hi;rcases q5 i hi with h6 |h6
 ·rcases e8 i h6 with h7 |h7
  ·exact .inl h7
  ·exact absurd hi2 (Nat.not_lt.2 h7.1)
 ·exact absurd hi2 (Nat.not_lt.2 h6)
def oldR (nx:Nat):Nat->Option Nat:=fun i=>if i<nx then some i else none
def Shut (nx:Nat)(hp:Hp):Prop:=∀i o,hp i=some o->renO (oldR nx) o=some o
theorem dr_ {hp:Hp}{id ver sz:Nat}{es:List (List D)}(h:es≠[]->hp id=some (.rw es sz ver false false)):∃is,toD1 hp (accV id ver es)=some (.sl es,false,is)/\∀i∈is,es≠[]/\i=id:=by
 cases es with
 |nil=>exact⟨[],rfl,fun i hi=>nomatch hi⟩
 |cons a r=>
  have h1:=h (by simp);exact⟨[id],by simp[accV,toD1,h1],fun i hi=>⟨by simp,List.mem_singleton.1 hi⟩⟩
def ovD (eq:Bool)(g:GRel)(ov:AV):AV:=if eq then .d (.sl (g.expr.map eGStep)) false else ov
theorem pw_ {n c f:Nat}{hp:Hp}{nx q:Nat}{x:Rdr}{y:Rdr × GRel}{bl:Bool}{ov:AV}(hf:∀j,nx<=j->hp j=none)(hcl:Shut nx hp)(hq:hp q=some (boxRd x bl ov))(h:relM n c f x=some y):
  InlOK Tryz.prog 57 [.pt q 0] hp nx fun v hp2 nx2=>v= .ag [.v (.string y.2.name),.d (.sl (y.2.subs.map eGSub)) false,.d (.sl (y.2.expr.map eGStep)) false]/\hp2=upd q (some (boxRd y.1 bl (ovD (vJ_ n x) y.2 ov))) hp/\nx2=nx:=by
 have hqn:q<nx:=qm_ hf hq;refine(rel_ok hf hq h).canon ?_;rintro v hp2 nx2 ⟨ov2,sid,sver,eid,ever,rfl,hb,eov,s1,e1,fr,new,le⟩ hle;have hov:renA (oldR nx) ov=some ov:=by
  have h1:=hcl q _ hq;simp only[boxRd,renO,renL,renA,Option.map_eq_some_iff] at h1;cases e:renA (oldR nx) ov with
  |none=>rw[e] at h1;simp at h1
  |some w=>rw[e] at h1;simpa using h1
 obtain⟨i1,d1,m1⟩:=dr_ (hp:=hp2) (id:=sid) (ver:=sver) (sz:=3) (es:=y.2.subs.map eGSub) fun hn=>(s1 (by simpa using hn)).1;obtain⟨i2,d2,m2⟩:=dr_ (hp:=hp2) (id:=eid) (ver:=ever) (sz:=3) (es:=y.2.expr.map eGStep) fun hn=>(e1 (by simpa using hn)).1;obtain⟨hp0,e0⟩:∃hp0,hp0=upd q (some (boxRd y.1 bl (ovD (vJ_ n x) y.2 ov))) hp:=⟨_,rfl⟩;rw[<-e0]
 have hD:∀j o,hp0 j=some o->j<nx:=fun j o hj=>by
  rw[e0] at hj;by_cases e:j=q
  ·omega
  ·rw[qb_ _ _ e] at hj
   exact qm_ hf hj
 have f1:∀i∈i1,∀o,hp0 i=some o->o.fz=true:=fun i hi o ho=>by
  obtain⟨k1,rfl⟩:=m1 i hi
  have:=hD _ _ ho
  have:=(s1 (by simpa using k1)).2.1
  omega
 have f2:∀i∈i2,∀o,hp0 i=some o->o.fz=true:=fun i hi o ho=>by
  obtain⟨k1,rfl⟩:=m2 i hi
  have:=hD _ _ ho
  have:=(e1 (by simpa using k1)).2.1
  omega
 refine .trans (m:=⟨upd 0 (.ag [.v (.string y.2.name),.d (.sl (y.2.subs.map eGSub)) false,.d (.sl (y.2.expr.map eGStep)) false]) noFr,hp0,nx2⟩) (.ren (oldR nx) ⟨fun i hi=>if_pos hi,fun i j hi h=> ?_,fun i i' j h1 h2=> ?_,fun t=> ?_,fun i o ho=> ?_,Nat.le_refl _⟩) (.dat ⟨fun t=> ?_,fun i o' ho=> ?_,Nat.le_refl _⟩)
 ·rw[show oldR nx i=none from if_neg (by omega)] at h
  cases h
 ·unfold oldR at h1 h2
  split at h1
  ·split at h2
   ·cases h1
    cases h2;rfl
   ·cases h2
  ·cases h1
 ·cases t with
  |zero=>exact .inr rfl
  |succ t=>exact .inl rfl
 ·have hi:=hD _ _ ho
  refine⟨i,o,if_pos hi,?_,ho⟩;by_cases e:i=q
  ·subst e
   dsimp only at ho;rw[e0,qd_] at ho;cases ho;unfold ovD;split
   ·rfl
   ·simp[boxRd,renO,renL,renA,hov]
  ·dsimp only at ho
   rw[e0,qb_ _ _ e] at ho;exact hcl i o ho
 ·cases t with
  |zero=>exact .ag (.cons (.same _) (.cons (.dat _ _ _ _ i1 d1 id f1) (.cons (.dat _ _ _ _ i2 d2 id f2) .nil)))
  |succ t=>exact .same _
 ·dsimp only at ho⊢
  by_cases e:i=q
  ·subst e
   rw[e0,qd_] at ho;cases ho;refine⟨_,hb,?_⟩;cases he:vJ_ n x with
   |true=>
    rw[he,if_pos rfl] at eov;rw[eov];exact .bx (cs:=[_,_,_,_,_,_,_,_]) (.cons (.same _) (.cons (.same _) (.cons (.same _) (.cons (.same _) (.cons (.same _) (.cons (.same _) (.cons (.dat _ _ _ _ i2 d2 id f2) (.cons (.same _) .nil))))))))
   |false=>
    rw[he,if_neg (by decide)] at eov;rw[eov];exact .same _
  ·rw[e0,qb_ _ _ e] at ho
   exact⟨o',by rw[fr i (qm_ hf ho) e];exact ho,.same _⟩
end Go.Proofs.YtnmkbmefohakmaaGreat.Ab
