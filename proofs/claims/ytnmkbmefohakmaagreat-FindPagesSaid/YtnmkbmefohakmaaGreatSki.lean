/-
 Tuples that are found: what the index holds. No program in sight.
-/
import Derived.Test.YtnmkbmefohakmaaGreatMda
namespace Go.Proofs.YtnmkbmefohakmaaGreat.Ab
open Go.RowKit
def j7_ (_:Nat)(p:GPage):Option Bool:=
 (if (decide (p.most<1)) then
  some true
 else
  some (decide (1000<p.most)))
theorem x9_ {n:Nat}{p:GPage}{r:Bool}(H:j7_ n p=some r):PureOK Tryz.prog 78 [D.ag (eGPage p)] (D.v (.bool r)) true:=by
 unfold j7_ at H;refine ZP qf_ fol (rs:= #[.tmp 2]) Tryz.func78 ?_;refine ZT 1 ?_;refine Z0 ?_;rcases zit H with⟨c1,H2⟩ |⟨c1,H2⟩
 ·refine Z1 c1 ?_
  obtain rfl:=Zi H2;exact ZE0
 ·refine Z1 c1 ?_
  obtain rfl:=Zi H2;exact ZE0
def zd_ (n:Nat)(l:List GType)(rows_:List GTuple)(typ:ByteArray)(rel:ByteArray)(p:GPage):Option (SeekGraph × Int):=
 (j7_ n p).bind fun t15=>
 (if t15 then
  none
 else
  (wC_ n l rows_).bind fun t19=>
  (if (t19.2==0) then
   (qu_ n (⟨(⟨t19.1.schema.types,t19.1.schema.rels,t19.1.schema.ranks⟩:WellSchema),(⟨(⟨t19.1.index.left.subs,t19.1.index.left.objs⟩:LookLeft),(⟨t19.1.index.right.refs,t19.1.index.right.users⟩:LookRight)⟩:LookIndex),t19.1.rows_⟩:SeekGraph) typ rel).bind fun t28=>
   (if t28 then
    some ((⟨(⟨t19.1.schema.types,t19.1.schema.rels,t19.1.schema.ranks⟩:WellSchema),(⟨(⟨t19.1.index.left.subs,t19.1.index.left.objs⟩:LookLeft),(⟨t19.1.index.right.refs,t19.1.index.right.users⟩:LookRight)⟩:LookIndex),t19.1.rows_⟩:SeekGraph),t19.2)
   else
    none)
  else
   some ((⟨(⟨t19.1.schema.types,t19.1.schema.rels,t19.1.schema.ranks⟩:WellSchema),(⟨(⟨t19.1.index.left.subs,t19.1.index.left.objs⟩:LookLeft),(⟨t19.1.index.right.refs,t19.1.index.right.users⟩:LookRight)⟩:LookIndex),t19.1.rows_⟩:SeekGraph),t19.2)))
theorem wZ_ {n:Nat}{l:List GType}{rows_:List GTuple}{typ:ByteArray}{rel:ByteArray}{p:GPage}{r:SeekGraph × Int}(H:zd_ n l rows_ typ rel p=some r):PureA Tryz.prog 43 [.d (D.sl (List.map eGType l)),.d (D.sl (List.map eGTuple rows_)),.d (D.v (.string typ)),.d (D.v (.string rel)),.d (D.ag (eGPage p))] (D.tu [D.pt (eSeekGraph r.1) 0,D.v (.int .i64 r.2)]) false:=by
 unfold zd_ at H;refine ZPX qf_ fol (rs:= #[.tmp 10,.tmp 11]) Tryz.func43 ?_;refine ZT 1 ?_;obtain⟨t15,b1,H2⟩:=zbi H;refine Z0 ?_;refine ZC0 (x9_ b1) ?_;refine Z0 ?_;rcases zit H2 with⟨c3,H4⟩ |⟨c3,H4⟩
 ·refine Z1 c3 ?_
  cases H4
 ·obtain⟨t19,b5,H6⟩:=zbi H4
  refine Z1 c3 ?_;refine ZA0 (gs_ b5) ?_;refine Z1 c3 ?_;rcases zit H6 with⟨c7,H8⟩ |⟨c7,H8⟩
  ·obtain⟨t28,b9,H10⟩:=zbi H8
   refine Z1 (Y2 c3 c7) ?_;refine ZC0 (zu_ b9) ?_;refine Z1 (Y2 c3 c7) ?_;rcases zit H10 with⟨c11,H12⟩ |⟨c11,H12⟩
   ·refine Z1 (Y3 c3 c7 c11) ?_
    obtain rfl:=Zi H12
    exact xN_ (b:=true) (v:=.tu [.d (.pt [.pt [.mp (qi_ Value.string false eI t19.1.schema.types),.mp (qi_ qc_ true eGRel t19.1.schema.rels),.mp (qi_ qc_ false eI t19.1.schema.ranks)] 0,.pt [.mp (qi_ xs_ false (eL eGSub) t19.1.index.left.subs),.mp (qi_ Value.string false (eL eS) t19.1.index.left.objs),.mp (qi_ xK_ false (eL eGRef) t19.1.index.right.refs),.mp (qi_ Value.string false (eL eS) t19.1.index.right.users)] 0,.sl (List.map eGTuple t19.1.rows_)] 0) true,.v (.int .i64 t19.2)]) (by first |(simp -implicitDefEqProofs only[go_sem,Nat.reduceEqDiff, ↓reduceIte]<;>rfl) |rfl) (ToXR.tu (PW.cons (ToXV.one (ToX.one (b':=true) (is:=[]) rfl (fun _=>rfl)) rfl) (PW.cons (ToXV.one (ToX.one (b':=false) (is:=[]) rfl (fun _=>rfl)) rfl) PW.nil))) (by intro h;first |rfl |cases h)
   ·refine Z1 (Y3 c3 c7 c11) ?_
    cases H12
  ·refine Z1 (Y2 c3 c7) ?_
   obtain rfl:=Zi H8
   exact xN_ (b:=true) (v:=.tu [.d (.pt [.pt [.mp (qi_ Value.string false eI t19.1.schema.types),.mp (qi_ qc_ true eGRel t19.1.schema.rels),.mp (qi_ qc_ false eI t19.1.schema.ranks)] 0,.pt [.mp (qi_ xs_ false (eL eGSub) t19.1.index.left.subs),.mp (qi_ Value.string false (eL eS) t19.1.index.left.objs),.mp (qi_ xK_ false (eL eGRef) t19.1.index.right.refs),.mp (qi_ Value.string false (eL eS) t19.1.index.right.users)] 0,.sl (List.map eGTuple t19.1.rows_)] 0) true,.v (.int .i64 t19.2)]) (by first |(simp -implicitDefEqProofs only[go_sem,Nat.reduceEqDiff, ↓reduceIte]<;>rfl) |rfl) (ToXR.tu (PW.cons (ToXV.one (ToX.one (b':=true) (is:=[]) rfl (fun _=>rfl)) rfl) (PW.cons (ToXV.one (ToX.one (b':=false) (is:=[]) rfl (fun _=>rfl)) rfl) PW.nil))) (by intro h;first |rfl |cases h)
def jb_ (n:Nat)(id_:ByteArray)(c2:SeekGraph)(c3:ByteArray)(c4:ByteArray)(c5:GSub):Option Bool:=
 (xA_ n (⟨c2.schema,c2.index,c2.rows_⟩:SeekGraph) (⟨c3,id_⟩:GObj) c4 c5).bind fun t13=>
 some t13
theorem zE_ {n:Nat}{id_:ByteArray}{c2:SeekGraph}{c3:ByteArray}{c4:ByteArray}{c5:GSub}{r:Bool}(H:jb_ n id_ c2 c3 c4 c5=some r):PureOK Tryz.prog 46 [D.v (.string id_),D.pt [D.pt (eSeekGraph c2) 0] 0,D.pt [D.v (.string c3)] 0,D.pt [D.v (.string c4)] 0,D.pt (eGSub c5) 0] (D.v (.bool r)) true:=by
 unfold jb_ at H;refine ZP qf_ fol (rs:= #[.tmp 6]) Tryz.func46 ?_;refine ZT 1 ?_;obtain⟨t13,b1,H2⟩:=zbi H;refine Z0 ?_;refine ZC0 (uy_ b1) ?_;refine Z0 ?_;obtain rfl:=Zi H2;exact ZE0
def qp_ (n:Nat)(l:List ByteArray)(p:GPage)(c2:SeekGraph)(c3:ByteArray)(c4:ByteArray)(c5:GSub):Nat->(List ByteArray × Int)->Option ((List ByteArray) ⊕ (List ByteArray × Bool))
 |0,_=>none
 |c+1,(out,t13)=>
  (if (decide (t13<(l.length:Int))) then
   (idx l t13).bind fun x2=>
   (
    (if (Op.bytesLess x2.toList p.after.toList||x2.toList==p.after.toList) then
     (if (p.after.toList==({ data:= #[] }:ByteArray).toList) then
      (jb_ n x2 (⟨c2.schema,c2.index,c2.rows_⟩:SeekGraph) c3 c4 c5).bind fun t293=>
      some (!t293)
     else
      some true)
    else
     (jb_ n x2 (⟨c2.schema,c2.index,c2.rows_⟩:SeekGraph) c3 c4 c5).bind fun t294=>
     some (!t294)):Option (Bool)).bind fun t312=>
   (if t312 then
    qp_ n l p c2 c3 c4 c5 c (out,(IntKind.i64.wrap (t13+1)))
   else
    (if ((out.length:Int)==p.most) then
     some (.inr (out,true))
    else
     (app out [x2]).bind fun l2=>
     qp_ n l p c2 c3 c4 c5 c (l2,(IntKind.i64.wrap (t13+1)))))
  else
   some (.inl out))
def q4_ (n:Nat)(_:List ByteArray)(p:GPage)(c2:SeekGraph)(c3:ByteArray)(c4:ByteArray)(c5:GSub)(st:List ByteArray)(x2:ByteArray)(k:List ByteArray->Option ((List ByteArray) ⊕ (List ByteArray × Bool))):Option ((List ByteArray) ⊕ (List ByteArray × Bool)):=
 match st with
 |out=>
  (
   (if (Op.bytesLess x2.toList p.after.toList||x2.toList==p.after.toList) then
    (if (p.after.toList==({ data:= #[] }:ByteArray).toList) then
     (jb_ n x2 (⟨c2.schema,c2.index,c2.rows_⟩:SeekGraph) c3 c4 c5).bind fun t293=>
     some (!t293)
    else
     some true)
   else
    (jb_ n x2 (⟨c2.schema,c2.index,c2.rows_⟩:SeekGraph) c3 c4 c5).bind fun t294=>
    some (!t294)):Option (Bool)).bind fun t312=>
  (if t312 then
   k out
  else
   (if ((out.length:Int)==p.most) then
    some (.inr (out,true))
   else
    (app out [x2]).bind fun l2=>
    k l2))
def q5_ (_:Nat)(_:List ByteArray)(_:GPage)(_:SeekGraph)(_:ByteArray)(_:ByteArray)(_:GSub)(st:List ByteArray):Option ((List ByteArray) ⊕ (List ByteArray × Bool)):=
 match st with
 |out=>some (.inl out)
theorem xr_ (n:Nat)(l:List ByteArray)(p:GPage)(c2:SeekGraph)(c3:ByteArray)(c4:ByteArray)(c5:GSub)(hx:l.length<4611686018427387904)(c:Nat)(st:List ByteArray)(ix:Nat)(hi:ix<=l.length)(hc:l.length-ix<c):qp_ n l p c2 c3 c4 c5 c (match st,(ix:Int) with |out,ix=>(out,ix))=xj_ (q4_ n l p c2 c3 c4 c5) (q5_ n l p c2 c3 c4 c5) (l.drop ix) st:=
 xb_ (fun c st ix=>qp_ n l p c2 c3 c4 c5 c (match st,ix with |out,ix=>(out,ix))) l (q4_ n l p c2 c3 c4 c5) (q5_ n l p c2 c3 c4 c5) (fun _ _ _=>rfl) hx c st ix hi hc
def qr_ (n:Nat)(l:List ByteArray)(p:GPage)(c2:SeekGraph)(c3:ByteArray)(c4:ByteArray)(c5:GSub):Option (List ByteArray × Bool):=
 (
  qp_ n l p c2 c3 c4 c5 n ([],0):Option ((List ByteArray) ⊕ (List ByteArray × Bool))).bind fun
  | .inl out3=>
   some (out3,false)
  | .inr r=>some r
theorem jP_ {n:Nat}{l:List ByteArray}{p:GPage}{c2:SeekGraph}{c3:ByteArray}{c4:ByteArray}{c5:GSub}{r:List ByteArray × Bool}(H:qr_ n l p c2 c3 c4 c5=some r):PureA Tryz.prog 44 [.d (D.sl (List.map eS l)),.d (D.ag (eGPage p)),.fn 46 [D.pt [D.pt (eSeekGraph c2) 0] 0,D.pt [D.v (.string c3)] 0,D.pt [D.v (.string c4)] 0,D.pt (eGSub c5) 0]] (D.tu [D.sl (List.map eS r.1),D.v (.bool r.2)]) true:=by
 unfold qr_ at H;refine ZPA qf_ fol (rs:= #[.tmp 6,.tmp 7]) Tryz.func44 ?_;refine zsq (ZT 1 ?_);refine Z0 ?_;refine zsq (ZT 1 ?_);refine Z0 ?_;refine zsq (zsq ?_);refine ZT 1 ?_;refine Z0 ?_;obtain⟨e_,E1,H2⟩:=zbi H
 refine zjn (α:={ y:List ByteArray // e_= .inl y } × Nat) (fun |⟨⟨out3,_⟩,g4⟩=>⟨upd 8 (accV 0 g4 (List.map eS out3)) noFr,upd 0 (accO 1 g4 false (List.map eS out3)) noHp,1⟩) ?_ ?_
 ·refine zbk ?_
  refine zlp (α:={ q:(Nat × (List ByteArray × Int)) × Nat // qp_ n l p c2 c3 c4 c5 q.1.1 q.1.2=some e_ }) (fun |⟨⟨⟨c,⟨out,t13⟩⟩,g⟩,_⟩=>⟨upd 2 (.fn 46 [.d (.pt [.pt [.pt [.mp (qi_ Value.string false eI c2.schema.types),.mp (qi_ qc_ true eGRel c2.schema.rels),.mp (qi_ qc_ false eI c2.schema.ranks)] 0,.pt [.mp (qi_ xs_ false (eL eGSub) c2.index.left.subs),.mp (qi_ Value.string false (eL eS) c2.index.left.objs),.mp (qi_ xK_ false (eL eGRef) c2.index.right.refs),.mp (qi_ Value.string false (eL eS) c2.index.right.users)] 0,.sl (List.map eGTuple c2.rows_)] 0] 0) true,.d (.pt [.v (.string c3)] 0) true,.d (.pt [.v (.string c4)] 0) true,.d (.pt [.v (.string c5.type_),.v (.string c5.id_),.v (.string c5.rel)] 0) true]) (upd 4 (.pt 0 0) (upd 8 (accV 1 g (List.map eS out)) (upd 11 (.d (.sl (List.map eS l)) true) (upd 12 (.v (.int .i64 (l.length:Int))) (upd 13 (.v (.int .i64 t13)) noFr))))),upd 0 (some (.bx [.v (.string p.after),.v (.int .i64 p.most)])) (upd 1 (accO 1 g false (List.map eS out)) noHp),2⟩) (fun q=>q.1.1.1) ⟨((n,([],0)),0),E1⟩ ?_ ?_
  ·exact ZR [(0,0)]
  ·rintro⟨⟨⟨c,⟨out,t13⟩⟩,g⟩,L3⟩
   rcases c with _ |c
   ·exact Zx L3
   ·unfold qp_ at L3
    try dsimp only at L3
    refine zsq (ZT 1 ?_);refine Z0 ?_;refine zsq (ZT 1 ?_);refine Z0 ?_;rcases zit L3 with⟨c27,H28⟩ |⟨c27,H28⟩
    ·refine Z1 c27 ?_
     refine zsq (zbk ?_);refine zsq (ZT 1 ?_);obtain⟨x2,b29,H30⟩:=zbi H28;obtain⟨h31,h32⟩:=zix b29;try simp only[Int.reduceToNat,Int.toNat_natCast] at h32
     have h33:=qn_ eS h32;refine Z1 (Y3 c27 (zno .i64 h31) h33) ?_;refine zsq (zsq ?_);obtain⟨e_3,E35,H36⟩:=zbi H30
     refine zjn (α:={ y:Bool // e_3=y } × Nat) (fun |⟨⟨t312,_⟩,g2⟩=>⟨upd 2 (.fn 46 [.d (.pt [.pt [.pt [.mp (qi_ Value.string false eI c2.schema.types),.mp (qi_ qc_ true eGRel c2.schema.rels),.mp (qi_ qc_ false eI c2.schema.ranks)] 0,.pt [.mp (qi_ xs_ false (eL eGSub) c2.index.left.subs),.mp (qi_ Value.string false (eL eS) c2.index.left.objs),.mp (qi_ xK_ false (eL eGRef) c2.index.right.refs),.mp (qi_ Value.string false (eL eS) c2.index.right.users)] 0,.sl (List.map eGTuple c2.rows_)] 0] 0) true,.d (.pt [.v (.string c3)] 0) true,.d (.pt [.v (.string c4)] 0) true,.d (.pt [.v (.string c5.type_),.v (.string c5.id_),.v (.string c5.rel)] 0) true]) (upd 4 (.pt 0 0) (upd 8 (accV 1 g2 (List.map eS out)) (upd 10 (.v (.string x2)) (upd 11 (.d (.sl (List.map eS l)) true) (upd 12 (.v (.int .i64 (l.length:Int))) (upd 13 (.v (.int .i64 t13)) (upd 31 (.v (.bool t312)) noFr))))))),upd 0 (some (.bx [.v (.string p.after),.v (.int .i64 p.most)])) (upd 1 (accO 1 g2 false (List.map eS out)) noHp),2⟩) ?_ ?_
     ·refine ZT 1 ?_
      refine Z0 ?_;rcases zit E35 with⟨c37,H38⟩ |⟨c37,H38⟩
      ·refine Z1 c37 ?_
       rcases zit H38 with⟨c39,H40⟩ |⟨c39,H40⟩
       ·obtain⟨t293,b41,H42⟩:=zbi H40
        refine Z1 (Y2 c37 c39) ?_;refine ZC0 (zE_ b41) ?_;refine Z1 (Y2 c37 c39) ?_;obtain rfl:=Zi H42;exact⟨⟨⟨(!t293),rfl⟩,g⟩,ZR [(0,0),(1,1)]⟩
       ·refine Z1 (Y2 c37 c39) ?_
        obtain rfl:=Zi H40;exact⟨⟨⟨true,rfl⟩,g⟩,ZR [(0,0),(1,1)]⟩
      ·obtain⟨t294,b43,H44⟩:=zbi H38
       refine Z1 c37 ?_;refine ZC0 (zE_ b43) ?_;refine Z1 c37 ?_;obtain rfl:=Zi H44;exact⟨⟨⟨(!t294),rfl⟩,g⟩,ZR [(0,0),(1,1)]⟩
     ·rintro⟨⟨t312,he57⟩,g2⟩
      obtain rfl:=he57.symm;try dsimp only at H36
      refine ZT 4 ?_;refine Z0 ?_;rcases zit H36 with⟨c45,H46⟩ |⟨c45,H46⟩
      ·refine Z1 c45 ?_
       exact⟨⟨((c,(out,(IntKind.i64.wrap (t13+1)))),g2),H46⟩,ZR [(0,0),(1,1)],Nat.lt_succ_self _⟩
      ·refine Z1 c45 ?_
       rcases zit H46 with⟨c47,H48⟩ |⟨c47,H48⟩
       ·refine Z1 (Y2 c45 c47) ?_
        obtain rfl:=Zi H48;obtain rfl:=Zi H2;exact ZE1 (Y2 c45 c47)
       ·obtain⟨l2,b49,H50⟩:=zbi H48
        obtain⟨h51,h52⟩:=jV_ b49;have h51:out.length+1<=4294967296:=h51;have h53:List.map eS out++[[.v (.string x2)]]=List.map eS l2:=jD_ eS h52;have h54:out.length+1=l2.length:=jE_ h52;have h55:l2.length<=4294967296:=by omega
        have q56:0<l2.length:=by omega
        refine Z1 (Y6 c45 c47 h51 h53 h54 h55) ?_;rcases out with _ |⟨q0,q1⟩
        ·try simp only[List.map_nil,accI,accN]
         exact⟨⟨((c,(l2,(IntKind.i64.wrap (t13+1)))),0),H50⟩,ZR [(0,0),(1,10)],Nat.lt_succ_self _⟩
        ·try simp only[List.map_cons,accI,accN]
         exact⟨⟨((c,(l2,(IntKind.i64.wrap (t13+1)))),(g2+1)),H50⟩,ZR [(0,0),(1,1)],Nat.lt_succ_self _⟩
    ·refine Z1 c27 ?_
     obtain rfl:=Zi H28;exact⟨⟨⟨out,rfl⟩,g⟩,ZR [(0,1)]⟩
 ·rintro⟨⟨out3,he58⟩,g4⟩
  obtain rfl:=he58.symm;try dsimp only at H2
  refine ZT 1 ?_;refine Z0 ?_;obtain rfl:=Zi H2;exact ZE0
def xT_ (n:Nat)(l:List GType)(rows_:List GTuple)(typ:ByteArray)(rel:ByteArray)(s:GSub)(p:GPage):Option (List ByteArray × Bool × Int):=
 (zd_ n l rows_ typ rel p).bind fun t25=>
 (
  (if (t25.2==12) then
   some (!(s.rel.toList==({ data:= #[] }:ByteArray).toList))
  else
   some false):Option (Bool)).bind fun t34=>
 (
  (if t34 then
   some 13
  else
   some t25.2):Option (Int)).bind fun e_3=>
 (if (e_3 != 0) then
  some ([],false,e_3)
 else
  (if (s.rel.toList==({ data:= #[] }:ByteArray).toList) then
   (ze_ n (⟨(⟨t25.1.index.left.subs,t25.1.index.left.objs⟩:LookLeft),(⟨t25.1.index.right.refs,t25.1.index.right.users⟩:LookRight)⟩:LookIndex) typ).bind fun t49=>
   (if (decide (t49.length=0)) then
    (qr_ n [] p (⟨(⟨t25.1.schema.types,t25.1.schema.rels,t25.1.schema.ranks⟩:WellSchema),(⟨(⟨t25.1.index.left.subs,t25.1.index.left.objs⟩:LookLeft),(⟨t25.1.index.right.refs,t25.1.index.right.users⟩:LookRight)⟩:LookIndex),t25.1.rows_⟩:SeekGraph) typ rel s).bind fun t52=>
    some (t52.1,t52.2,0)
   else
    (qr_ n t49 p (⟨(⟨t25.1.schema.types,t25.1.schema.rels,t25.1.schema.ranks⟩:WellSchema),(⟨(⟨t25.1.index.left.subs,t25.1.index.left.objs⟩:LookLeft),(⟨t25.1.index.right.refs,t25.1.index.right.users⟩:LookRight)⟩:LookIndex),t25.1.rows_⟩:SeekGraph) typ rel s).bind fun t522=>
    some (t522.1,t522.2,0))
  else
   some ([],false,13)))
theorem y9_ {n:Nat}{l:List GType}{rows_:List GTuple}{typ:ByteArray}{rel:ByteArray}{s:GSub}{p:GPage}{r:List ByteArray × Bool × Int}(H:xT_ n l rows_ typ rel s p=some r):PureOK Tryz.prog 21 [D.sl (List.map eGType l),D.sl (List.map eGTuple rows_),D.v (.string typ),D.v (.string rel),D.ag (eGSub s),D.ag (eGPage p)] (D.tu [D.sl (List.map eS r.1),D.v (.bool r.2.1),D.v (.int .i64 r.2.2)]) true:=by
 unfold xT_ at H;refine ZP qf_ fol (rs:= #[.tmp 12,.tmp 13,.tmp 14]) Tryz.func21 ?_;refine zsq (ZT 1 ?_);refine Z0 ?_;refine zsq (ZT 1 ?_);obtain⟨t25,b1,H2⟩:=zbi H;refine Z0 ?_;refine ZA0 (wZ_ b1) ?_;refine Z0 ?_;refine zsq (zsq ?_);obtain⟨e_,E3,H4⟩:=zbi H2
 refine zjn (α:={ y:Bool // e_=y }) (fun |⟨t34,_⟩=>⟨upd 8 (.pt 0 0) (upd 9 (.pt 1 0) (upd 10 (.pt 2 0) (upd 11 (.pt 3 0) (upd 15 (.pt 4 0) (upd 16 (.v (.int .i64 t25.2)) (upd 34 (.v (.bool t34)) noFr)))))),upd 0 (some (.bx [.v (.string typ)])) (upd 1 (some (.bx [.v (.string rel)])) (upd 2 (some (.bx [.v (.string s.type_),.v (.string s.id_),.v (.string s.rel)])) (upd 3 (some (.bx [.v (.string p.after),.v (.int .i64 p.most)])) (upd 4 (some (.bx [.d (.pt [.pt [.mp (qi_ Value.string false eI t25.1.schema.types),.mp (qi_ qc_ true eGRel t25.1.schema.rels),.mp (qi_ qc_ false eI t25.1.schema.ranks)] 0,.pt [.mp (qi_ xs_ false (eL eGSub) t25.1.index.left.subs),.mp (qi_ Value.string false (eL eS) t25.1.index.left.objs),.mp (qi_ xK_ false (eL eGRef) t25.1.index.right.refs),.mp (qi_ Value.string false (eL eS) t25.1.index.right.users)] 0,.sl (List.map eGTuple t25.1.rows_)] 0) true])) noHp)))),5⟩) ?_ ?_
 ·refine ZT 1 ?_
  refine Z0 ?_;rcases zit E3 with⟨c5,H6⟩ |⟨c5,H6⟩
  ·refine Z1 c5 ?_
   obtain rfl:=Zi H6;exact⟨⟨(!(s.rel.toList==({ data:= #[] }:ByteArray).toList)),rfl⟩,ZR [(0,0),(1,1),(2,2),(3,3),(4,16)]⟩
  ·refine Z1 c5 ?_
   obtain rfl:=Zi H6;exact⟨⟨false,rfl⟩,ZR [(0,0),(1,1),(2,2),(3,3),(4,16)]⟩
 ·rintro⟨t34,he40⟩
  obtain rfl:=he40.symm;try dsimp only at H4
  obtain⟨e_2,E7,H8⟩:=zbi H4
  refine zjn (α:={ y:Int // e_2=y }) (fun |⟨e_3,_⟩=>⟨upd 8 (.pt 0 0) (upd 9 (.pt 1 0) (upd 10 (.pt 2 0) (upd 11 (.pt 3 0) (upd 15 (.pt 4 0) (upd 16 (.v (.int .i64 e_3)) noFr))))),upd 0 (some (.bx [.v (.string typ)])) (upd 1 (some (.bx [.v (.string rel)])) (upd 2 (some (.bx [.v (.string s.type_),.v (.string s.id_),.v (.string s.rel)])) (upd 3 (some (.bx [.v (.string p.after),.v (.int .i64 p.most)])) (upd 4 (some (.bx [.d (.pt [.pt [.mp (qi_ Value.string false eI t25.1.schema.types),.mp (qi_ qc_ true eGRel t25.1.schema.rels),.mp (qi_ qc_ false eI t25.1.schema.ranks)] 0,.pt [.mp (qi_ xs_ false (eL eGSub) t25.1.index.left.subs),.mp (qi_ Value.string false (eL eS) t25.1.index.left.objs),.mp (qi_ xK_ false (eL eGRef) t25.1.index.right.refs),.mp (qi_ Value.string false (eL eS) t25.1.index.right.users)] 0,.sl (List.map eGTuple t25.1.rows_)] 0) true])) noHp)))),5⟩) ?_ ?_
  ·refine ZT 1 ?_
   refine Z0 ?_;rcases zit E7 with⟨c9,H10⟩ |⟨c9,H10⟩
   ·refine Z1 c9 ?_
    obtain rfl:=Zi H10;exact⟨⟨13,rfl⟩,ZR [(0,0),(1,1),(2,2),(3,3),(4,4)]⟩
   ·refine Z1 c9 ?_
    obtain rfl:=Zi H10;exact⟨⟨t25.2,rfl⟩,ZR [(0,0),(1,1),(2,2),(3,3),(4,4)]⟩
  ·rintro⟨e_3,he39⟩
   obtain rfl:=he39.symm;try dsimp only at H8
   refine ZT 1 ?_;refine Z0 ?_;rcases zit H8 with⟨c11,H12⟩ |⟨c11,H12⟩
   ·refine Z1 c11 ?_
    obtain rfl:=Zi H12;exact ZE0
   ·refine Z1 c11 ?_
    rcases zit H12 with⟨c13,H14⟩ |⟨c13,H14⟩
    ·obtain⟨t49,b15,H16⟩:=zbi H14
     refine Z1 (Y2 c11 c13) ?_;rcases zit H16 with⟨c17,H18⟩ |⟨c17,H18⟩
     ·refine Z1 (Y3 c11 c13 c17) ?_
      refine q3_ (ids':=[]) (v:=.v (.slice none 0 0)) (δ:=[]) (nx':=48) (fun hp1 _=>InlOK.mono (uO_ b15 c17) fun v2 hp2 nx2 e=>e) ?_;obtain⟨t52,b22,H23⟩:=zbi H18;refine Z1 (Y3 c11 c13 c17) ?_
      refine ve_ [4,0,1,2] (by intro hp1 h1;have h24:=h1 4 (by simp);have h25:=h1 0 (by simp);have h26:=h1 1 (by simp);have h27:=h1 2 (by simp);(try simp -implicitDefEqProofs only[go_sem,Nat.reduceEqDiff,reduceCtorEq, ↓reduceIte] at h24);(try simp -implicitDefEqProofs only[go_sem, ↓reduceIte] at h25);(try simp -implicitDefEqProofs only[go_sem,reduceCtorEq, ↓reduceIte] at h26);(try simp -implicitDefEqProofs only[go_sem,Nat.reduceEqDiff,reduceCtorEq, ↓reduceIte] at h27);first |(simp -implicitDefEqProofs only[go_sem,eLookIndex,eGSub,eGPage,eSeekGraph,eWellSchema,h24,h25,h26,h27];done) |(simp -implicitDefEqProofs only[go_sem,eLookIndex,eGSub,eGPage,eSeekGraph,eWellSchema,h24,h25,h26,h27];rfl)) (jP_ b22) (by first |exact .inr rfl |exact .inl rfl) ?_
      refine Z1 (Y3 c11 c13 c17) ?_;refine qj_ (by rfl) ?_;refine Z1 (Y3 c11 c13 c17) ?_;obtain rfl:=Zi H23;exact ZE0
     ·have q31:0<t49.length:=by have:=of_decide_eq_false c17;omega
      refine Z1 (Y3 c11 c13 c17) ?_;refine q3_ (ids':=[]) (v:=.so 42 2 0 t49.length) (δ:=[(42,.rw (List.map eS t49) 1 2 false false)]) (nx':=51) (fun hp1 _=>InlOK.mono (bb_ b15 q31) fun v2 hp2 nx2 e=>e) ?_;obtain⟨t522,b32,H33⟩:=zbi H18;refine Z1 (Y3 c11 c13 c17) ?_
      refine ve_ [42,4,0,1,2] (by intro hp1 h1;have h34:=h1 42 (by simp);have h35:=h1 4 (by simp);have h36:=h1 0 (by simp);have h37:=h1 1 (by simp);have h38:=h1 2 (by simp);(try simp -implicitDefEqProofs only[go_sem, ↓reduceIte] at h34);(try simp -implicitDefEqProofs only[go_sem,Nat.reduceEqDiff,reduceCtorEq, ↓reduceIte] at h35);(try simp -implicitDefEqProofs only[go_sem,reduceCtorEq, ↓reduceIte] at h36);(try simp -implicitDefEqProofs only[go_sem,Nat.reduceEqDiff,reduceCtorEq, ↓reduceIte] at h37);(try simp -implicitDefEqProofs only[go_sem,Nat.reduceEqDiff,reduceCtorEq, ↓reduceIte] at h38);first |(simp -implicitDefEqProofs only[go_sem, ↓reduceIte,eLookIndex,eGSub,eGPage,eSeekGraph,eWellSchema,h34,h35,h36,h37,h38];done) |(simp -implicitDefEqProofs only[go_sem, ↓reduceIte,eLookIndex,eGSub,eGPage,eSeekGraph,eWellSchema,h34,h35,h36,h37,h38];rfl)) (jP_ b32) (by first |exact .inr rfl |exact .inl rfl) ?_
      refine Z1 (Y3 c11 c13 c17) ?_;refine qj_ (by rfl) ?_;refine Z1 (Y3 c11 c13 c17) ?_;obtain rfl:=Zi H33;exact ZE0
    ·refine Z1 (Y2 c11 c13) ?_
     obtain rfl:=Zi H14;exact ZE0
def qU_ (n:Nat)(id_:ByteArray)(c2:SeekGraph)(c3:GObj)(c4:ByteArray)(c5:ByteArray):Option Bool:=
 (xA_ n (⟨c2.schema,c2.index,c2.rows_⟩:SeekGraph) c3 c4 (⟨c5,id_,ByteArray.empty⟩:GSub)).bind fun t13=>
 some t13
theorem zn_ {n:Nat}{id_:ByteArray}{c2:SeekGraph}{c3:GObj}{c4:ByteArray}{c5:ByteArray}{r:Bool}(H:qU_ n id_ c2 c3 c4 c5=some r):PureOK Tryz.prog 49 [D.v (.string id_),D.pt [D.pt (eSeekGraph c2) 0] 0,D.pt (eGObj c3) 0,D.pt [D.v (.string c4)] 0,D.pt [D.v (.string c5)] 0] (D.v (.bool r)) true:=by
 unfold qU_ at H;refine ZP qf_ fol (rs:= #[.tmp 6]) Tryz.func49 ?_;refine ZT 1 ?_;obtain⟨t13,b1,H2⟩:=zbi H;refine Z0 ?_;refine ZC0 (uy_ b1) ?_;refine Z0 ?_;obtain rfl:=Zi H2;exact ZE0
theorem cl47_n {hp:Hp}{nx:Nat}:InlOK Tryz.prog 47 [.v (.slice none 0 0)] hp nx fun v hp2 nx2=>v= .v (.slice none 0 0)/\hp2=hp/\nx2=nx+4:=by
 refine qN_ (tab:=tab) qf_ fol Tryz.func47 rfl (by kernel_rfl) (by kernel_rfl) (by simp[Tryz.f47]) ?_;simp -implicitDefEqProofs only[go_sem,Nat.reduceAdd,reduceCtorEq, ↓reduceIte];exact jM_ (v:=.v (.slice none 0 0)) (by simp -implicitDefEqProofs only[go_sem, ↓reduceIte,Tryz.f47]<;>rfl) ⟨rfl,rfl,rfl⟩
theorem cl47_s {xs:List ByteArray}{id ver:Nat}{hp:Hp}{nx:Nat}(hi:hp id=some (.rw (List.map eS xs) 1 ver false false))(hid:id<nx)(hn:xs.length<=4294967296):InlOK Tryz.prog 47 [.so id ver 0 xs.length] hp nx fun v hp2 nx2=>v= .so (nx+3) 1 0 xs.length/\hp2=upd (nx+3) (some (.rw (List.map eS xs) 1 1 false false)) hp/\nx2=nx+7:=by
 have h1:(id=nx+3)=False:=eq_false (by omega);have h3:(List.map eS xs).length=xs.length:=List.length_map ..;have h4:chk 1 (List.map eS xs)=true:=ja_ (n:=1) (f:=eS) (fun _=>rfl) xs;refine qN_ (tab:=tab) qf_ fol Tryz.func47 rfl (by kernel_rfl) (by kernel_rfl) (by simp[Tryz.f47]) ?_
 simp -implicitDefEqProofs only[go_sem,Nat.reduceLT,Nat.reduceEqDiff,Nat.reduceAdd,Nat.reduceLeDiff,reduceCtorEq, ↓reduceIte,h1,hi,h3,h4,hn,Nat.zero_le,Nat.add_assoc,Nat.zero_add,Nat.le_refl,and_self];exact jM_ (by simp -implicitDefEqProofs only[go_sem, ↓reduceIte,Tryz.f47]<;>rfl) ⟨rfl,qI_ _ _ _ _,rfl⟩
def qo_ (n:Nat)(l:List ByteArray)(p:GPage)(c2:SeekGraph)(c3:GObj)(c4:ByteArray)(c5:ByteArray):Nat->(List ByteArray × Int)->Option ((List ByteArray) ⊕ (List ByteArray × Bool))
 |0,_=>none
 |c+1,(out,t13)=>
  (if (decide (t13<(l.length:Int))) then
   (idx l t13).bind fun x2=>
   (
    (if (Op.bytesLess x2.toList p.after.toList||x2.toList==p.after.toList) then
     (if (p.after.toList==({ data:= #[] }:ByteArray).toList) then
      (qU_ n x2 (⟨c2.schema,c2.index,c2.rows_⟩:SeekGraph) c3 c4 c5).bind fun t293=>
      some (!t293)
     else
      some true)
    else
     (qU_ n x2 (⟨c2.schema,c2.index,c2.rows_⟩:SeekGraph) c3 c4 c5).bind fun t294=>
     some (!t294)):Option (Bool)).bind fun t312=>
   (if t312 then
    qo_ n l p c2 c3 c4 c5 c (out,(IntKind.i64.wrap (t13+1)))
   else
    (if ((out.length:Int)==p.most) then
     some (.inr (out,true))
    else
     (app out [x2]).bind fun l2=>
     qo_ n l p c2 c3 c4 c5 c (l2,(IntKind.i64.wrap (t13+1)))))
  else
   some (.inl out))
def qV_ (n:Nat)(_:List ByteArray)(p:GPage)(c2:SeekGraph)(c3:GObj)(c4:ByteArray)(c5:ByteArray)(st:List ByteArray)(x2:ByteArray)(k:List ByteArray->Option ((List ByteArray) ⊕ (List ByteArray × Bool))):Option ((List ByteArray) ⊕ (List ByteArray × Bool)):=
 match st with
 |out=>
  (
   (if (Op.bytesLess x2.toList p.after.toList||x2.toList==p.after.toList) then
    (if (p.after.toList==({ data:= #[] }:ByteArray).toList) then
     (qU_ n x2 (⟨c2.schema,c2.index,c2.rows_⟩:SeekGraph) c3 c4 c5).bind fun t293=>
     some (!t293)
    else
     some true)
   else
    (qU_ n x2 (⟨c2.schema,c2.index,c2.rows_⟩:SeekGraph) c3 c4 c5).bind fun t294=>
    some (!t294)):Option (Bool)).bind fun t312=>
  (if t312 then
   k out
  else
   (if ((out.length:Int)==p.most) then
    some (.inr (out,true))
   else
    (app out [x2]).bind fun l2=>
    k l2))
def qW_ (_:Nat)(_:List ByteArray)(_:GPage)(_:SeekGraph)(_:GObj)(_:ByteArray)(_:ByteArray)(st:List ByteArray):Option ((List ByteArray) ⊕ (List ByteArray × Bool)):=
 match st with
 |out=>some (.inl out)
theorem xk_ (n:Nat)(l:List ByteArray)(p:GPage)(c2:SeekGraph)(c3:GObj)(c4:ByteArray)(c5:ByteArray)(hx:l.length<4611686018427387904)(c:Nat)(st:List ByteArray)(ix:Nat)(hi:ix<=l.length)(hc:l.length-ix<c):qo_ n l p c2 c3 c4 c5 c (match st,(ix:Int) with |out,ix=>(out,ix))=xj_ (qV_ n l p c2 c3 c4 c5) (qW_ n l p c2 c3 c4 c5) (l.drop ix) st:=
 xb_ (fun c st ix=>qo_ n l p c2 c3 c4 c5 c (match st,ix with |out,ix=>(out,ix))) l (qV_ n l p c2 c3 c4 c5) (qW_ n l p c2 c3 c4 c5) (fun _ _ _=>rfl) hx c st ix hi hc
def qy_ (n:Nat)(l:List ByteArray)(p:GPage)(c2:SeekGraph)(c3:GObj)(c4:ByteArray)(c5:ByteArray):Option (List ByteArray × Bool):=
 (
  qo_ n l p c2 c3 c4 c5 n ([],0):Option ((List ByteArray) ⊕ (List ByteArray × Bool))).bind fun
  | .inl out3=>
   some (out3,false)
  | .inr r=>some r
theorem xU_ {n:Nat}{l:List ByteArray}{p:GPage}{c2:SeekGraph}{c3:GObj}{c4:ByteArray}{c5:ByteArray}{r:List ByteArray × Bool}(H:qy_ n l p c2 c3 c4 c5=some r):PureA Tryz.prog 44 [.d (D.sl (List.map eS l)),.d (D.ag (eGPage p)),.fn 49 [D.pt [D.pt (eSeekGraph c2) 0] 0,D.pt (eGObj c3) 0,D.pt [D.v (.string c4)] 0,D.pt [D.v (.string c5)] 0]] (D.tu [D.sl (List.map eS r.1),D.v (.bool r.2)]) true:=by
 unfold qy_ at H;refine ZPA qf_ fol (rs:= #[.tmp 6,.tmp 7]) Tryz.func44 ?_;refine zsq (ZT 1 ?_);refine Z0 ?_;refine zsq (ZT 1 ?_);refine Z0 ?_;refine zsq (zsq ?_);refine ZT 1 ?_;refine Z0 ?_;obtain⟨e_,E1,H2⟩:=zbi H
 refine zjn (α:={ y:List ByteArray // e_= .inl y } × Nat) (fun |⟨⟨out3,_⟩,g4⟩=>⟨upd 8 (accV 0 g4 (List.map eS out3)) noFr,upd 0 (accO 1 g4 false (List.map eS out3)) noHp,1⟩) ?_ ?_
 ·refine zbk ?_
  refine zlp (α:={ q:(Nat × (List ByteArray × Int)) × Nat // qo_ n l p c2 c3 c4 c5 q.1.1 q.1.2=some e_ }) (fun |⟨⟨⟨c,⟨out,t13⟩⟩,g⟩,_⟩=>⟨upd 2 (.fn 49 [.d (.pt [.pt [.pt [.mp (qi_ Value.string false eI c2.schema.types),.mp (qi_ qc_ true eGRel c2.schema.rels),.mp (qi_ qc_ false eI c2.schema.ranks)] 0,.pt [.mp (qi_ xs_ false (eL eGSub) c2.index.left.subs),.mp (qi_ Value.string false (eL eS) c2.index.left.objs),.mp (qi_ xK_ false (eL eGRef) c2.index.right.refs),.mp (qi_ Value.string false (eL eS) c2.index.right.users)] 0,.sl (List.map eGTuple c2.rows_)] 0] 0) true,.d (.pt [.v (.string c3.type_),.v (.string c3.id_)] 0) true,.d (.pt [.v (.string c4)] 0) true,.d (.pt [.v (.string c5)] 0) true]) (upd 4 (.pt 0 0) (upd 8 (accV 1 g (List.map eS out)) (upd 11 (.d (.sl (List.map eS l)) true) (upd 12 (.v (.int .i64 (l.length:Int))) (upd 13 (.v (.int .i64 t13)) noFr))))),upd 0 (some (.bx [.v (.string p.after),.v (.int .i64 p.most)])) (upd 1 (accO 1 g false (List.map eS out)) noHp),2⟩) (fun q=>q.1.1.1) ⟨((n,([],0)),0),E1⟩ ?_ ?_
  ·exact ZR [(0,0)]
  ·rintro⟨⟨⟨c,⟨out,t13⟩⟩,g⟩,L3⟩
   rcases c with _ |c
   ·exact Zx L3
   ·unfold qo_ at L3
    try dsimp only at L3
    refine zsq (ZT 1 ?_);refine Z0 ?_;refine zsq (ZT 1 ?_);refine Z0 ?_;rcases zit L3 with⟨c27,H28⟩ |⟨c27,H28⟩
    ·refine Z1 c27 ?_
     refine zsq (zbk ?_);refine zsq (ZT 1 ?_);obtain⟨x2,b29,H30⟩:=zbi H28;obtain⟨h31,h32⟩:=zix b29;try simp only[Int.reduceToNat,Int.toNat_natCast] at h32
     have h33:=qn_ eS h32;refine Z1 (Y3 c27 (zno .i64 h31) h33) ?_;refine zsq (zsq ?_);obtain⟨e_3,E35,H36⟩:=zbi H30
     refine zjn (α:={ y:Bool // e_3=y } × Nat) (fun |⟨⟨t312,_⟩,g2⟩=>⟨upd 2 (.fn 49 [.d (.pt [.pt [.pt [.mp (qi_ Value.string false eI c2.schema.types),.mp (qi_ qc_ true eGRel c2.schema.rels),.mp (qi_ qc_ false eI c2.schema.ranks)] 0,.pt [.mp (qi_ xs_ false (eL eGSub) c2.index.left.subs),.mp (qi_ Value.string false (eL eS) c2.index.left.objs),.mp (qi_ xK_ false (eL eGRef) c2.index.right.refs),.mp (qi_ Value.string false (eL eS) c2.index.right.users)] 0,.sl (List.map eGTuple c2.rows_)] 0] 0) true,.d (.pt [.v (.string c3.type_),.v (.string c3.id_)] 0) true,.d (.pt [.v (.string c4)] 0) true,.d (.pt [.v (.string c5)] 0) true]) (upd 4 (.pt 0 0) (upd 8 (accV 1 g2 (List.map eS out)) (upd 10 (.v (.string x2)) (upd 11 (.d (.sl (List.map eS l)) true) (upd 12 (.v (.int .i64 (l.length:Int))) (upd 13 (.v (.int .i64 t13)) (upd 31 (.v (.bool t312)) noFr))))))),upd 0 (some (.bx [.v (.string p.after),.v (.int .i64 p.most)])) (upd 1 (accO 1 g2 false (List.map eS out)) noHp),2⟩) ?_ ?_
     ·refine ZT 1 ?_
      refine Z0 ?_;rcases zit E35 with⟨c37,H38⟩ |⟨c37,H38⟩
      ·refine Z1 c37 ?_
       rcases zit H38 with⟨c39,H40⟩ |⟨c39,H40⟩
       ·obtain⟨t293,b41,H42⟩:=zbi H40
        refine Z1 (Y2 c37 c39) ?_;refine ZC0 (zn_ b41) ?_;refine Z1 (Y2 c37 c39) ?_;obtain rfl:=Zi H42;exact⟨⟨⟨(!t293),rfl⟩,g⟩,ZR [(0,0),(1,1)]⟩
       ·refine Z1 (Y2 c37 c39) ?_
        obtain rfl:=Zi H40;exact⟨⟨⟨true,rfl⟩,g⟩,ZR [(0,0),(1,1)]⟩
      ·obtain⟨t294,b43,H44⟩:=zbi H38
       refine Z1 c37 ?_;refine ZC0 (zn_ b43) ?_;refine Z1 c37 ?_;obtain rfl:=Zi H44;exact⟨⟨⟨(!t294),rfl⟩,g⟩,ZR [(0,0),(1,1)]⟩
     ·rintro⟨⟨t312,he57⟩,g2⟩
      obtain rfl:=he57.symm;try dsimp only at H36
      refine ZT 4 ?_;refine Z0 ?_;rcases zit H36 with⟨c45,H46⟩ |⟨c45,H46⟩
      ·refine Z1 c45 ?_
       exact⟨⟨((c,(out,(IntKind.i64.wrap (t13+1)))),g2),H46⟩,ZR [(0,0),(1,1)],Nat.lt_succ_self _⟩
      ·refine Z1 c45 ?_
       rcases zit H46 with⟨c47,H48⟩ |⟨c47,H48⟩
       ·refine Z1 (Y2 c45 c47) ?_
        obtain rfl:=Zi H48;obtain rfl:=Zi H2;exact ZE1 (Y2 c45 c47)
       ·obtain⟨l2,b49,H50⟩:=zbi H48
        obtain⟨h51,h52⟩:=jV_ b49;have h51:out.length+1<=4294967296:=h51;have h53:List.map eS out++[[.v (.string x2)]]=List.map eS l2:=jD_ eS h52;have h54:out.length+1=l2.length:=jE_ h52;have h55:l2.length<=4294967296:=by omega
        have q56:0<l2.length:=by omega
        refine Z1 (Y6 c45 c47 h51 h53 h54 h55) ?_;rcases out with _ |⟨q0,q1⟩
        ·try simp only[List.map_nil,accI,accN]
         exact⟨⟨((c,(l2,(IntKind.i64.wrap (t13+1)))),0),H50⟩,ZR [(0,0),(1,10)],Nat.lt_succ_self _⟩
        ·try simp only[List.map_cons,accI,accN]
         exact⟨⟨((c,(l2,(IntKind.i64.wrap (t13+1)))),(g2+1)),H50⟩,ZR [(0,0),(1,1)],Nat.lt_succ_self _⟩
    ·refine Z1 c27 ?_
     obtain rfl:=Zi H28;exact⟨⟨⟨out,rfl⟩,g⟩,ZR [(0,1)]⟩
 ·rintro⟨⟨out3,he58⟩,g4⟩
  obtain rfl:=he58.symm;try dsimp only at H2
  refine ZT 1 ?_;refine Z0 ?_;obtain rfl:=Zi H2;exact ZE0
def xu_ (n:Nat)(l:List GType)(rows_:List GTuple)(o:GObj)(rel:ByteArray)(typ:ByteArray)(p:GPage):Option (List ByteArray × Bool × Int):=
 (zd_ n l rows_ o.type_ rel p).bind fun t27=>
 (if (t27.2 != 0) then
  some ([],false,t27.2)
 else
  (
   (zf_ n (⟨(⟨t27.1.index.left.subs,t27.1.index.left.objs⟩:LookLeft),(⟨t27.1.index.right.refs,t27.1.index.right.users⟩:LookRight)⟩:LookIndex) typ).bind fun t40=>
   (if (decide (t40.length=0)) then
    some []
   else
    grd (decide (t40.length<=4294967296))<|
    some t40):Option (List ByteArray)).bind fun users=>
  (qy_ n users p (⟨(⟨t27.1.schema.types,t27.1.schema.rels,t27.1.schema.ranks⟩:WellSchema),(⟨(⟨t27.1.index.left.subs,t27.1.index.left.objs⟩:LookLeft),(⟨t27.1.index.right.refs,t27.1.index.right.users⟩:LookRight)⟩:LookIndex),t27.1.rows_⟩:SeekGraph) o rel typ).bind fun t46=>
  some (t46.1,t46.2,0))
theorem kU_ {n:Nat}{l:List GType}{rows_:List GTuple}{o:GObj}{rel:ByteArray}{typ:ByteArray}{p:GPage}{r:List ByteArray × Bool × Int}(H:xu_ n l rows_ o rel typ p=some r):PureOK Tryz.prog 22 [D.sl (List.map eGType l),D.sl (List.map eGTuple rows_),D.ag (eGObj o),D.v (.string rel),D.v (.string typ),D.ag (eGPage p)] (D.tu [D.sl (List.map eS r.1),D.v (.bool r.2.1),D.v (.int .i64 r.2.2)]) true:=by
 unfold xu_ at H;refine ZP qf_ fol (rs:= #[.tmp 12,.tmp 13,.tmp 14]) Tryz.func22 ?_;refine zsq (ZT 1 ?_);refine Z0 ?_;refine zsq (ZT 1 ?_);obtain⟨t27,b1,H2⟩:=zbi H;refine Z0 ?_;refine ZA0 (wZ_ b1) ?_;refine Z0 ?_;refine zsq (ZT 1 ?_);refine Z0 ?_;rcases zit H2 with⟨c3,H4⟩ |⟨c3,H4⟩
 ·refine Z1 c3 ?_
  obtain rfl:=Zi H4;exact ZE0
 ·refine Z1 c3 ?_
  refine zsq ?_;obtain⟨e_,E5,H6⟩:=zbi H4
  refine zjn (α:={ y:List ByteArray // e_=y } × Nat) (fun |⟨⟨users,_⟩,g⟩=>⟨upd 8 (.pt 0 0) (upd 9 (.pt 1 0) (upd 10 (.pt 2 0) (upd 11 (.pt 3 0) (upd 15 (.pt 4 0) (upd 17 (accV 5 g (List.map eS users)) noFr))))),upd 0 (some (.bx [.v (.string o.type_),.v (.string o.id_)])) (upd 1 (some (.bx [.v (.string rel)])) (upd 2 (some (.bx [.v (.string typ)])) (upd 3 (some (.bx [.v (.string p.after),.v (.int .i64 p.most)])) (upd 4 (some (.bx [.d (.pt [.pt [.mp (qi_ Value.string false eI t27.1.schema.types),.mp (qi_ qc_ true eGRel t27.1.schema.rels),.mp (qi_ qc_ false eI t27.1.schema.ranks)] 0,.pt [.mp (qi_ xs_ false (eL eGSub) t27.1.index.left.subs),.mp (qi_ Value.string false (eL eS) t27.1.index.left.objs),.mp (qi_ xK_ false (eL eGRef) t27.1.index.right.refs),.mp (qi_ Value.string false (eL eS) t27.1.index.right.users)] 0,.sl (List.map eGTuple t27.1.rows_)] 0) true])) (upd 5 (accO 1 g false (List.map eS users)) noHp))))),6⟩) ?_ ?_
  ·refine ZT 1 ?_
   obtain⟨t40,b7,H8⟩:=zbi E5;refine Z0 ?_;rcases zit H8 with⟨c9,H10⟩ |⟨c9,H10⟩
   ·refine Z1 c9 ?_
    refine q3_ (ids':=[]) (v:=.v (.slice none 0 0)) (δ:=[]) (nx':=54) (fun hp1 _=>InlOK.mono (uP_ b7 c9) fun v2 hp2 nx2 e=>e) ?_;refine Z1 c9 ?_;refine q3_ (ids':=[]) (v:=.v (.slice none 0 0)) (δ:=[]) (nx':=58) (fun hp1 _=>InlOK.mono cl47_n fun v2 hp2 nx2 e=>e) ?_;refine Z1 c9 ?_;refine qj_ (by rfl) ?_;refine Z1 c9 ?_;obtain rfl:=Zi H10
    exact⟨⟨⟨[],rfl⟩,0⟩,ZR [(0,0),(1,1),(2,2),(3,3),(4,17)]⟩
   ·have q20:0<t40.length:=by have:=of_decide_eq_false c9;omega
    refine Z1 c9 ?_;refine q3_ (ids':=[]) (v:=.so 48 2 0 t40.length) (δ:=[(48,.rw (List.map eS t40) 1 2 false false)]) (nx':=57) (fun hp1 _=>InlOK.mono (bc_ b7 q20) fun v2 hp2 nx2 e=>e) ?_;refine Z1 c9 ?_;obtain⟨g21,H22⟩:=q9_ H10;have h23:t40.length<=4294967296:=of_decide_eq_true g21
    refine q3_ (ids':=[48]) (v:=.so 60 1 0 t40.length) (δ:=[(60,.rw (List.map eS t40) 1 1 false false)]) (nx':=64) (fun hp1 h1=>InlOK.mono (cl47_s ((h1.1 48 (by simp)).trans (by first |rfl |(simp -implicitDefEqProofs only[go_sem,Nat.reduceEqDiff,reduceCtorEq, ↓reduceIte];done))) (by decide) h23) fun v2 hp2 nx2 e=>e) ?_
    refine Z1 (Y2 c9 h23) ?_;refine qj_ (by rfl) ?_;refine Z1 (Y2 c9 h23) ?_;obtain rfl:=Zi H22;exact⟨⟨⟨t40,rfl⟩,1⟩,ZR [(0,0),(1,1),(2,2),(3,3),(4,17),(5,60)]⟩
  ·rintro⟨⟨users,he29⟩,g⟩
   obtain rfl:=he29.symm;try dsimp only at H6
   refine ZT 1 ?_;obtain⟨t46,b27,H28⟩:=zbi H6;refine Z0 ?_;refine ZA0 (xU_ b27) ?_;refine Z0 ?_;obtain rfl:=Zi H28;exact ZE0
theorem c1_ {n:Nat}{l:List GTuple}(h:l.length<=4294967296):bi_ n l=some (tO.ofL l):=if_pos h
section
variable {K α:Type}[BEq K][LawfulBEq K]
theorem bp_ (k k':K)(ys:List α):∀es:List (K × List α),qk_ k [] (madd k' ys es)=if k==k' then qk_ k [] es++ys else qk_ k [] es
 |[]=>by
  cases h:(k==k')<;>simp[madd,qk_,mget,h]
 |p::r=>by
  have ih:=bp_ k k' ys r;cases h1:(k'==p.1) with
  |true=>
   have e1:k'=p.1:=by simpa using h1
   cases h2:(k==k') with
   |true=>
    have e2:k=k':=by simpa using h2
    subst e2;simp[madd,qk_,mget,h1]
   |false=>
    have h3:(k==p.1)=false:=by rw[<-e1];exact h2
    simp[madd,qk_,mget,h1,h2,h3]
  |false=>
   cases h3:(k==p.1) with
   |true=>
    have e3:k=p.1:=by simpa using h3
    have h2:(k==k')=false:=by
     cases h2:(k==k') with
     |false=>rfl
     |true=>
      have e2:k=k':=by simpa using h2
      rw[<-e2,e3] at h1;simp at h1
    simp[madd,qk_,mget,h1,h2,h3]
   |false=>
    simp only[qk_] at ih;simp[madd,qk_,mget,h1,h3,ih]
omit [LawfulBEq K] in
theorem hB_ (k:K)(ys:List α):∀es:List (K × List α),(madd k ys es).length<=es.length+1
 |[]=>by simp[madd]
 |p::r=>by
  have ih:=hB_ k ys r;unfold madd;split<;>simp <;>omega
structure small (m:Nat) (es:List (K × List α)):Prop where
 l:es.length<=m
 g:∀k,(qk_ k [] es).length<=m
theorem small.add {m:Nat}{es:List (K × List α)}(h:small m es)(k:K)(y:α):small (m+1) (madd k [y] es):=⟨Nat.le_trans (hB_ k [y] es) (Nat.add_le_add_right h.l 1),fun k'=>by
 rw[bp_]
 have:=h.g k'
 split
 ·rw[List.length_append,List.length_singleton];omega
 ·omega⟩
omit [LawfulBEq K] in
theorem small.up {m m':Nat}{es:List (K × List α)}(h:small m es)(k:m<=m'):small m' es:=⟨Nat.le_trans h.l k,fun x=>Nat.le_trans (h.g x) k⟩
omit [LawfulBEq K] in
theorem xz_ {m:Nat}:small m ([]:List (K × List α)):=⟨Nat.zero_le _,fun _=>Nat.zero_le _⟩
omit [LawfulBEq K] in
theorem small.fam {m:Nat}{es:List (K × List α)}(h:small m es)(hm:m<4294967296)(k:K):famG k es=true:=by
 have h1:=h.l;have h2:=h.g k;simp only[famG,Bool.and_eq_true,decide_eq_true_eq];omega
omit [LawfulBEq K] in
theorem small.dec {m:Nat}{es:List (K × List α)}(h:small m es)(hm:m<=4294967296):decide (es.length<=4294967296)=true:=decide_eq_true (Nat.le_trans h.l hm)
theorem yi_ {β:Type}(key:β->K)(val:β->α)(k:K):∀(l:List β) (es:List (K × List α)),qk_ k [] (l.foldl (fun es t=>madd (key t) [val t] es) es)=qk_ k [] es++(l.filter fun t=>k==key t).map val
 |[],es=>by simp
 |t::r,es=>by
  rw[List.foldl_cons,yi_ key val k r,bp_,List.filter_cons];split<;>simp
theorem vc_ {β:Type}(key:β->K)(val:β->α):∀(l:List β) (m:Nat) (es:List (K × List α)),small m es->small (m+l.length) (l.foldl (fun es t=>madd (key t) [val t] es) es)
 |[],m,es,h=>h
 |t::r,m,es,h=>by
  have:=vc_ key val r (m+1) _ (h.add (key t) (val t))
  rw[List.foldl_cons,List.length_cons,show m+(r.length+1)=m+1+r.length by omega];exact this
end
theorem zQ_ {β:Type}{c:Bool}{k:Option β}(h:c=true):grd c k=k:=by
 unfold grd;rw[if_pos h]
theorem dF_ {β:Type}(x:List β)(h:x.length<=4294967296):(if (decide (x.length=0)) then some [] else grd (decide (x.length<=4294967296))<|some x)=some x:=by
 by_cases h0:x.length=0
 ·rw[decide_eq_true h0,if_pos rfl,List.eq_nil_of_length_eq_zero h0]
 ·rw[decide_eq_false h0,if_neg (by decide),decide_eq_true h]
  rfl
def kR (t:GTuple):GRef:=⟨t.obj,t.rel⟩
def bare (t:GTuple):Bool:=decide (t.sub_.rel={ data:= #[] })
def mq_ (l:List GTuple)(es:List (GRef × List GSub)):List (GRef × List GSub):=l.foldl (fun es t=>madd (kR t) [t.sub_] es) es
def mr_ (l:List GTuple)(es:List (ByteArray × List ByteArray)):List (ByteArray × List ByteArray):=l.foldl (fun es t=>madd t.obj.type_ [t.obj.id_] es) es
def mRefs (l:List GTuple)(es:List (GSub × List GRef)):List (GSub × List GRef):=l.foldl (fun es t=>madd t.sub_ [kR t] es) es
def gp_ (l:List GTuple)(es:List (ByteArray × List ByteArray)):List (ByteArray × List ByteArray):=(l.filter bare).foldl (fun es t=>madd t.sub_.type_ [t.sub_.id_] es) es
theorem c2_ {n m:Nat}{t16:List GTuple}{t:GTuple}{a:List (GRef × List GSub)}{b:List (ByteArray × List ByteArray)}{c:List (GSub × List GRef)}{d:List (ByteArray × List ByteArray)}(ha:small m a)(hb:small m b)(hc:small m c)(hd:small m d)(hm:m+1<4294967296)(k):
  xX_ n t16 (a,b,c,d) t k=k (madd (kR t) [t.sub_] a,madd t.obj.type_ [t.obj.id_] b,madd t.sub_ [kR t] c,if bare t then madd t.sub_.type_ [t.sub_.id_] d else d):=by
 have h1:decide ((madd (⟨t.obj,t.rel⟩:GRef) [t.sub_] a).length<=4294967296)=true:=(ha.add (kR t) t.sub_).dec (by omega);have h2:=(hb.add t.obj.type_ t.obj.id_).dec (by omega);have h3:decide ((madd t.sub_ [(⟨t.obj,t.rel⟩:GRef)] c).length<=4294967296)=true:=(hc.add t.sub_ (kR t)).dec (by omega);have h4:=(hd.add t.sub_.type_ t.sub_.id_).dec (by omega);unfold xX_;dsimp only
 rw[zQ_ (ha.dec (by omega)),zQ_ (hb.dec (by omega)),zQ_ (hc.dec (by omega)),zQ_ (hd.dec (by omega)),zQ_ (ha.fam (by omega) _),Zo,zQ_ h1,zQ_ (hc.fam (by omega) _),Zo,zQ_ h3,zQ_ (hb.fam (by omega) _),Zo,beqS,zQ_ h2,zQ_ h2];unfold bare kR;cases decide (t.sub_.rel={ data:= #[] })
 ·rfl
 ·rw[if_pos rfl,if_pos rfl,zQ_ (hd.fam (by omega) _),Zo,zQ_ h4]
theorem pO_ (n:Nat)(t16:List GTuple):∀(l:List GTuple) (m:Nat) (a:List (GRef × List GSub)) (b:List (ByteArray × List ByteArray)) (c:List (GSub × List GRef)) (d:List (ByteArray × List ByteArray)),small m a->small m b->small m c->small m d->m+l.length<4294967296->
  xj_ (xX_ n t16) (xY_ n t16) l (a,b,c,d)=some (mq_ l a,mr_ l b,mRefs l c,gp_ l d)
 |[],m,a,b,c,d,ha,hb,hc,hd,hm=>by
  rw[List.length_nil] at hm;show xY_ n t16 (a,b,c,d)=_;unfold xY_;dsimp only;rw[zQ_ (ha.dec (by omega)),zQ_ (hb.dec (by omega)),zQ_ (hc.dec (by omega)),zQ_ (hd.dec (by omega))];rfl
 |t::r,m,a,b,c,d,ha,hb,hc,hd,hm=>by
  rw[List.length_cons] at hm;have h4:small (m+1) (if bare t then madd t.sub_.type_ [t.sub_.id_] d else d):=by
   split
   ·exact hd.add _ _
   ·exact hd.up (Nat.le_succ m)
  rw[xj_,c2_ ha hb hc hd (by omega),pO_ n t16 r (m+1) _ _ _ _ (ha.add _ _) (hb.add _ _) (hc.add _ _) h4 (by omega)];unfold mq_ mr_ mRefs gp_;rw[List.foldl_cons,List.foldl_cons,List.foldl_cons,List.filter_cons];cases bare t<;>rfl
def ixO (l:List GTuple):LookIndex:=⟨⟨mq_ (tO.ofL l) [],mr_ (tO.ofL l) []⟩,⟨mRefs (tO.ofL l) [],gp_ (tO.ofL l) []⟩⟩
theorem fy_ {n:Nat}{l:List GTuple}(h:l.length<=1000000)(hn:1000000<n):uC_ n l=some (ixO l):=by
 have hl:=zL_ tO l;have hz:=fun{K α:Type} [BEq K]=>@xz_ K α _ 0;have hL:xp_ n (tO.ofL l) n (([]:List (GRef × List GSub)),([]:List (ByteArray × List ByteArray)),([]:List (GSub × List GRef)),([]:List (ByteArray × List ByteArray)),0)=_:=uB_ n (tO.ofL l) (by omega) n ([],[],[],[]) 0 (by omega) (by omega)
 rw[List.drop_zero,pO_ n _ _ 0 [] [] [] [] xz_ xz_ xz_ xz_ (by omega)] at hL;have s1:small (0+(tO.ofL l).length) (mq_ (tO.ofL l) []):=vc_ _ _ _ 0 [] xz_;have s2:small (0+(tO.ofL l).length) (mr_ (tO.ofL l) []):=vc_ _ _ _ 0 [] xz_;have s3:small (0+(tO.ofL l).length) (mRefs (tO.ofL l) []):=vc_ _ _ _ 0 [] xz_
 have s4:small (0+((tO.ofL l).filter bare).length) (gp_ (tO.ofL l) []):=vc_ _ _ _ 0 [] xz_;have hf:((tO.ofL l).filter bare).length<=(tO.ofL l).length:=List.length_filter_le _ _;unfold uC_;rw[c1_ (by omega),Zo,hL,Zo];dsimp only;rw[zQ_ (s1.dec (by omega)),zQ_ (s2.dec (by omega)),zQ_ (s3.dec (by omega)),zQ_ (s4.dec (by omega))];rfl
def wa_ (s:List GTuple)(o:GObj)(rel:ByteArray):List GSub:=(s.filter fun t=>(⟨o,rel⟩:GRef)==kR t).map (·.sub_)
def up_ (s:List GTuple)(x:ByteArray):List ByteArray:=(s.filter fun t=>x==t.obj.type_).map (·.obj.id_)
def kN_ (s:List GTuple)(x:ByteArray):List ByteArray:=((s.filter bare).filter fun t=>x==t.sub_.type_).map (·.sub_.id_)
theorem sD_ (s:List GTuple)(o:GObj)(rel:ByteArray):qk_ (⟨o,rel⟩:GRef) [] (mq_ s [])=wa_ s o rel:=by
 unfold mq_ wa_;rw[yi_];rfl
theorem pP_ (s:List GTuple)(x:ByteArray):qk_ x [] (mr_ s [])=up_ s x:=by
 unfold mr_ up_;rw[yi_];rfl
theorem pQ_ (s:List GTuple)(x:ByteArray):qk_ x [] (gp_ s [])=kN_ s x:=by
 unfold gp_ kN_;rw[yi_];rfl
theorem uq_ (s:List GTuple)(o:GObj)(rel:ByteArray):(wa_ s o rel).length<=s.length:=by unfold wa_;rw[List.length_map];exact List.length_filter_le _ _
theorem gq_ (s:List GTuple)(x:ByteArray):(up_ s x).length<=s.length:=by unfold up_;rw[List.length_map];exact List.length_filter_le _ _
end Go.Proofs.YtnmkbmefohakmaaGreat.Ab
