/-
 The search's nodes as they stand: a map of pointers, boxes, rows that grow.
-/
import Derived.Test.YtnmkbmefohakmaaGreatSk2
namespace Go.Proofs.YtnmkbmefohakmaaGreat.Ab
open Go.RowKit
def qq_ (_:Nat)(s:WellSchema)(typ:ByteArray)(rel:ByteArray):Option (GRel × Bool):=
 some ((⟨(qk_ (⟨typ,rel⟩:WellName) (⟨ByteArray.empty,[],[]⟩:GRel) s.rels).name,(qk_ (⟨typ,rel⟩:WellName) (⟨ByteArray.empty,[],[]⟩:GRel) s.rels).subs,(qk_ (⟨typ,rel⟩:WellName) (⟨ByteArray.empty,[],[]⟩:GRel) s.rels).expr⟩:GRel),(mhas (⟨typ,rel⟩:WellName) s.rels))
theorem qB_ {n:Nat}{s:WellSchema}{typ:ByteArray}{rel:ByteArray}{r:GRel × Bool}(H:qq_ n s typ rel=some r):PureOK Tryz.prog 65 [D.pt (eWellSchema s) 0,D.v (.string typ),D.v (.string rel)] (D.tu [D.ag (eGRel r.1),D.v (.bool r.2)]) false:=by
 unfold qq_ at H;refine ZP qf_ fol (rs:= #[.cell 6 52,.tmp 7]) Tryz.func65 ?_;refine ZT 1 ?_
 have h1:j6_ (true,[.string,.string]) (.agg #[.string typ,.string rel]) (.d (.ag [.v (.string ByteArray.empty),.sl [],.sl []]) true) true (xt_ true (qi_ qc_ true eGRel s.rels))=some (.tu [.d (.ag [.v (.string (qk_ (⟨typ,rel⟩:WellName) (⟨ByteArray.empty,[],[]⟩:GRel) s.rels).name),.sl (List.map eGSub (qk_ (⟨typ,rel⟩:WellName) (⟨ByteArray.empty,[],[]⟩:GRel) s.rels).subs),.sl (List.map eGStep (qk_ (⟨typ,rel⟩:WellName) (⟨ByteArray.empty,[],[]⟩:GRel) s.rels).expr)]) true,.v (.bool (mhas (⟨typ,rel⟩:WellName) s.rels))],[]):=lookD (b:=true) (ag:=true) (enc:=eGRel) jn_ (⟨typ,rel⟩:WellName) ((⟨ByteArray.empty,[],[]⟩:GRel):GRel) true s.rels
 refine Z1 h1 ?_;obtain rfl:=Zi H;exact ZE0
theorem cT_ (xs:List GSub)(h:decide (xs.length=0)=true):PureOK Tryz.prog 145 [.sl (List.map eGSub xs)] (.sl []) true:=by
 rw[List.eq_nil_of_length_eq_zero (of_decide_eq_true h)];exact yV_ qf_ fol Tryz.func145 (T:=49) (B:=4) rfl (by kernel_rfl) (by kernel_rfl) (by decide) rfl (by simp only[go_sem]) (by simp only[go_sem]) (by simp only[go_sem];decide) (by simp only[go_sem];decide)
theorem sv_ (xs:List GSub)(h0:0<xs.length)(hn:xs.length<=4294967296){b:Bool}{hp:Hp}{nx:Nat}:InlOK Tryz.prog 145 [.d (.sl (List.map eGSub xs)) b] hp nx fun v hp2 nx2=>v= .so (nx+3) 1 0 xs.length/\hp2=upd (nx+3) (some (.rw (List.map eGSub xs) 3 1 false false)) hp/\nx2=nx+7:=by
 have h:=y1_ (e:=eGSub) (k:=3) (b:=b) (hp:=hp) (nx:=nx) qf_ fol Tryz.func145 (T:=49) (B:=4) rfl (by kernel_rfl) (by kernel_rfl) (by decide) rfl (by simp only[go_sem]) (by simp only[go_sem]) (by simp only[go_sem]) (by decide) (by simp only[go_sem];decide) (fun _=>rfl) xs h0 hn;rw[v2_ (f:=eGSub) (fun _=>rfl),Bool.not_true,Bool.and_false] at h;exact h
theorem cU_ {hp:Hp}{nx:Nat}:InlOK Tryz.prog 145 [.v (.slice none 0 0)] hp nx fun v hp2 nx2=>v= .v (.slice none 0 0)/\hp2=hp/\nx2=nx+4:=by
 refine qN_ (tab:=tab) qf_ fol Tryz.func145 rfl (by kernel_rfl) (by kernel_rfl) (by simp[Tryz.f145]) ?_;simp -implicitDefEqProofs only[go_sem,Nat.reduceAdd,reduceCtorEq, ↓reduceIte];exact jM_ (v:=.v (.slice none 0 0)) (by simp -implicitDefEqProofs only[go_sem, ↓reduceIte,Tryz.f145]<;>rfl) ⟨rfl,rfl,rfl⟩
def jm_ (_:Nat)(x:LookLeft)(o:GObj)(rel:ByteArray):Option (List GSub):=
 (if (mhas (⟨o,rel⟩:GRef) x.subs) then
  (if (decide ((qk_ (⟨o,rel⟩:GRef) [] x.subs).length=0)) then
   some []
  else
   grd (decide ((qk_ (⟨o,rel⟩:GRef) [] x.subs).length<=4294967296))<|
   some (qk_ (⟨o,rel⟩:GRef) [] x.subs))
 else
  some [])
theorem xJ_ {n:Nat}{x:LookLeft}{o:GObj}{rel:ByteArray}{r:List GSub}(H:jm_ n x o rel=some r):PureOK Tryz.prog 123 [D.pt (eLookLeft x) 0,D.ag (eGObj o),D.v (.string rel)] (D.sl (List.map eGSub r)) true:=by
 unfold jm_ at H;refine ZP qf_ fol (rs:= #[.tmp 6]) Tryz.func123 ?_;refine ZT 1 ?_;refine Z0 ?_;rcases zit H with⟨c1,H2⟩ |⟨c1,H2⟩
 ·have h3:j6_ (true,[.string,.string,.string]) (.agg #[.string o.type_,.string o.id_,.string rel]) (.v (.slice none 0 0)) false (xt_ true (qi_ xs_ false (eL eGSub) x.subs))=some (.d (.sl (List.map eGSub (qk_ (⟨o,rel⟩:GRef) [] x.subs))) true,[]):=y7_ (b:=true) (ag:=false) (enc:=(eL eGSub)) vj_ (⟨o,rel⟩:GRef) ([]:List GSub) x.subs _ c1
  refine Z1 (Y2 c1 h3) ?_;rcases zit H2 with⟨c4,H5⟩ |⟨c4,H5⟩
  ·refine Z1 (Y3 c1 h3 c4) ?_
   refine ZD0 (cT_ (qk_ (⟨o,rel⟩:GRef) [] x.subs) c4) ?_;refine Z1 (Y3 c1 h3 c4) ?_;refine qj_ (by rfl) ?_;refine Z1 (Y3 c1 h3 c4) ?_;obtain rfl:=Zi H5;exact ZE0
  ·obtain⟨g6,H7⟩:=q9_ H5
   have h8:(qk_ (⟨o,rel⟩:GRef) [] x.subs).length<=4294967296:=of_decide_eq_true g6;have q9:0<(qk_ (⟨o,rel⟩:GRef) [] x.subs).length:=by have:=of_decide_eq_false c4;omega
   refine Z1 (Y3 c1 h3 c4) ?_;refine q3_ (ids':=[]) (v:=.so 15 1 0 (qk_ (⟨o,rel⟩:GRef) [] x.subs).length) (δ:=[(15,.rw (List.map eGSub (qk_ (⟨o,rel⟩:GRef) [] x.subs)) 3 1 false false)]) (nx':=19) (fun hp1 _=>InlOK.mono (sv_ (qk_ (⟨o,rel⟩:GRef) [] x.subs) q9 h8) fun v2 hp2 nx2 e=>e) ?_;refine Z1 (Y4 c1 h3 c4 h8) ?_;refine qj_ (by rfl) ?_;refine Z1 (Y4 c1 h3 c4 h8) ?_
   obtain rfl:=Zi H7;exact ZE1 (Y4 c1 h3 c4 h8)
 ·have h13:j6_ (true,[.string,.string,.string]) (.agg #[.string o.type_,.string o.id_,.string rel]) (.v (.slice none 0 0)) false (xt_ true (qi_ xs_ false (eL eGSub) x.subs))=some (.v (.slice none 0 0),[]):=y8_ (b:=true) (ag:=false) (enc:=(eL eGSub)) vj_ (⟨o,rel⟩:GRef) x.subs _ c1
  refine Z1 (Y2 c1 h13) ?_;refine q3_ (ids':=[]) (v:=.v (.slice none 0 0)) (δ:=[]) (nx':=16) (fun hp1 _=>InlOK.mono cU_ fun v2 hp2 nx2 e=>e) ?_;refine Z1 (Y2 c1 h13) ?_;refine qj_ (by rfl) ?_;refine Z1 (Y2 c1 h13) ?_;obtain rfl:=Zi H2;exact ZE0
def qJ_ (n:Nat)(x:GStep)(t19:List GSub):Nat->(List GRef × Int)->Option (List GRef)
 |0,_=>none
 |c+1,(out,t21)=>
  (if (decide (t21<(t19.length:Int))) then
   (idx t19 t21).bind fun x3=>
   (app out [(⟨(⟨x3.type_,x3.id_⟩:GObj),x.b⟩:GRef)]).bind fun l=>
   qJ_ n x t19 c (l,(IntKind.i64.wrap (t21+1)))
  else
   some out)
def jX_ (_:Nat)(x:GStep)(_:List GSub)(st:List GRef)(x3:GSub)(k:List GRef->Option (List GRef)):Option (List GRef):=
 match st with
 |out=>
  (app out [(⟨(⟨x3.type_,x3.id_⟩:GObj),x.b⟩:GRef)]).bind fun l=>
  k l
def jY_ (_:Nat)(_:GStep)(_:List GSub)(st:List GRef):Option (List GRef):=
 match st with
 |out=>some out
theorem zO_ (n:Nat)(x:GStep)(t19:List GSub)(hx:t19.length<4611686018427387904)(c:Nat)(st:List GRef)(ix:Nat)(hi:ix<=t19.length)(hc:t19.length-ix<c):qJ_ n x t19 c (match st,(ix:Int) with |out,ix=>(out,ix))=xj_ (jX_ n x t19) (jY_ n x t19) (t19.drop ix) st:=
 xb_ (fun c st ix=>qJ_ n x t19 c (match st,ix with |out,ix=>(out,ix))) t19 (jX_ n x t19) (jY_ n x t19) (fun _ _ _=>rfl) hx c st ix hi hc
def jp_ (n:Nat)(g:SeekGraph)(o:GObj)(x:GStep):Option (List GRef):=
 (jm_ n g.index.left o x.a).bind fun t19=>
 (
  qJ_ n x t19 n ([],0):Option (List GRef)).bind fun out3=>
 some out3
theorem x4_ {n:Nat}{g:SeekGraph}{o:GObj}{x:GStep}{r:List GRef}(H:jp_ n g o x=some r):PureOK Tryz.prog 122 [D.pt (eSeekGraph g) 0,D.ag (eGObj o),D.ag (eGStep x)] (D.sl (List.map eGRef r)) true:=by
 unfold jp_ at H;refine ZP qf_ fol (rs:= #[.tmp 6]) Tryz.func122 ?_;refine zsq (ZT 1 ?_);refine Z0 ?_;refine zsq (ZT 1 ?_);refine Z0 ?_;refine zsq (zsq ?_);refine ZT 1 ?_;obtain⟨t19,b1,H2⟩:=zbi H;refine Z0 ?_
 refine x8_ (b:=true) [] (fun hp1 h1=>by exact(PW.cons (ToXA.d (ToXV.one (ToX.rbE 2 (ToX.one (b':=true) (is:=[]) rfl (fun _=>rfl)) (by rfl)) rfl)) (PW.cons (ToXA.d (ToXV.agP (PW.cons (ToX.one (b':=false) (is:=[]) rfl (fun _=>rfl)) (PW.cons (ToX.one (b':=false) (is:=[]) rfl (fun _=>rfl)) PW.nil)))) (PW.cons (ToXA.d (ToXV.one (ToX.one (b':=false) (is:=[]) rfl (fun _=>rfl)) rfl)) PW.nil)))) (PureA.of_pure (xJ_ b1)) ?_
 refine Z0 ?_;refine qj_ (by rfl) ?_;refine Z0 ?_;obtain⟨e_,E3,H4⟩:=zbi H2;refine zjn (α:={ y:List GRef // e_=y } × Nat) (fun |⟨⟨out3,_⟩,g4⟩=>⟨upd 7 (accV 0 g4 (List.map eGRef out3)) noFr,upd 0 (accO 3 g4 false (List.map eGRef out3)) noHp,1⟩) ?_ ?_
 ·refine zbk ?_
  refine zlp (α:={ q:(Nat × (List GRef × Int)) × Nat // qJ_ n x t19 q.1.1 q.1.2=some e_ }) (fun |⟨⟨⟨c,⟨out,t21⟩⟩,g2⟩,_⟩=>⟨upd 5 (.pt 0 0) (upd 7 (accV 1 g2 (List.map eGRef out)) (upd 19 (.d (.sl (List.map eGSub t19)) false) (upd 20 (.v (.int .i64 (t19.length:Int))) (upd 21 (.v (.int .i64 t21)) noFr)))),upd 0 (some (.bx [.v (.int .i64 x.kind),.v (.string x.a),.v (.string x.b)])) (upd 1 (accO 3 g2 false (List.map eGRef out)) noHp),2⟩) (fun q=>q.1.1.1) ⟨((n,([],0)),0),E3⟩ ?_ ?_
  ·exact ZR [(0,1)]
  ·rintro⟨⟨⟨c,⟨out,t21⟩⟩,g2⟩,L5⟩
   rcases c with _ |c
   ·exact Zx L5
   ·unfold qJ_ at L5
    try dsimp only at L5
    refine ZT 1 ?_;refine Z0 ?_;rcases zit L5 with⟨c14,H15⟩ |⟨c14,H15⟩
    ·obtain⟨x3,b16,H17⟩:=zbi H15
     obtain⟨h18,h19⟩:=zix b16;try simp only[Int.reduceToNat,Int.toNat_natCast] at h19
     have h20:=qn_ eGSub h19;obtain⟨l,b22,H23⟩:=zbi H17;obtain⟨h24,h25⟩:=jV_ b22;have h24:out.length+1<=4294967296:=h24;have h26:List.map eGRef out++[[.v (.string x3.type_),.v (.string x3.id_),.v (.string x.b)]]=List.map eGRef l:=jD_ eGRef h25;have h27:out.length+1=l.length:=jE_ h25;have h28:l.length<=4294967296:=by omega
     have q29:0<l.length:=by omega
     refine Z1 (Y2 (Y6 c14 (zno .i64 h18) h20 h24 h26 h27) h28) ?_;rcases out with _ |⟨q0,q1⟩
     ·try simp only[List.map_nil,accI,accN]
      exact⟨⟨((c,(l,(IntKind.i64.wrap (t21+1)))),0),H23⟩,ZR [(0,0),(1,17)],Nat.lt_succ_self _⟩
     ·try simp only[List.map_cons,accI,accN]
      exact⟨⟨((c,(l,(IntKind.i64.wrap (t21+1)))),(g2+1)),H23⟩,ZR [(0,0),(1,1)],Nat.lt_succ_self _⟩
    ·refine Z1 c14 ?_
     obtain rfl:=Zi H15;exact⟨⟨⟨out,rfl⟩,g2⟩,ZR [(0,1)]⟩
 ·rintro⟨⟨out3,he30⟩,g4⟩
  obtain rfl:=he30.symm;try dsimp only at H4
  refine ZT 1 ?_;refine Z0 ?_;obtain rfl:=Zi H4;exact ZE0
def qt_ (n:Nat)(c2:SeekGraph)(t1:GRef)(t22:GRel × Bool):Nat->(List GRef × Int)->Option (List GRef)
 |0,_=>none
 |c+1,(t7,t28)=>
  (if (decide (t28<(t22.1.expr.length:Int))) then
   (idx t22.1.expr t28).bind fun x2=>
   (if (x2.kind==1) then
    (app t7 [(⟨t1.obj,x2.a⟩:GRef)]).bind fun l2=>
    qt_ n c2 t1 t22 c (l2,(IntKind.i64.wrap (t28+1)))
   else
    (if (x2.kind==2) then
     (jp_ n (⟨c2.schema,c2.index,c2.rows_⟩:SeekGraph) t1.obj x2).bind fun t512=>
     (if (decide (t7.length=0)) then
      (app [] t512).bind fun _=>
      qt_ n c2 t1 t22 c (t512,(IntKind.i64.wrap (t28+1)))
     else
      (app t7 t512).bind fun l4=>
      qt_ n c2 t1 t22 c (l4,(IntKind.i64.wrap (t28+1))))
    else
     qt_ n c2 t1 t22 c (t7,(IntKind.i64.wrap (t28+1)))))
  else
   some t7)
def qL_ (n:Nat)(t69:List GSub):Nat->(List GRef × Int)->Option (List GRef)
 |0,_=>none
 |c+1,(t74,t71)=>
  (if (decide (t71<(t69.length:Int))) then
   (idx t69 t71).bind fun x4=>
   (if (x4.rel.toList==({ data:= #[] }:ByteArray).toList) then
    qL_ n t69 c (t74,(IntKind.i64.wrap (t71+1)))
   else
    (app t74 [(⟨(⟨x4.type_,x4.id_⟩:GObj),x4.rel⟩:GRef)]).bind fun l6=>
    qL_ n t69 c (l6,(IntKind.i64.wrap (t71+1))))
  else
   some t74)
def jj_ (_:Nat)(_:List GSub)(st:List GRef)(x4:GSub)(k:List GRef->Option (List GRef)):Option (List GRef):=
 match st with
 |t74=>
  (if (x4.rel.toList==({ data:= #[] }:ByteArray).toList) then
   k t74
  else
   (app t74 [(⟨(⟨x4.type_,x4.id_⟩:GObj),x4.rel⟩:GRef)]).bind fun l6=>
   k l6)
def xa_ (_:Nat)(_:List GSub)(st:List GRef):Option (List GRef):=
 match st with
 |t74=>some t74
theorem vi_ (n:Nat)(t69:List GSub)(hx:t69.length<4611686018427387904)(c:Nat)(st:List GRef)(ix:Nat)(hi:ix<=t69.length)(hc:t69.length-ix<c):qL_ n t69 c (match st,(ix:Int) with |t74,ix=>(t74,ix))=xj_ (jj_ n t69) (xa_ n t69) (t69.drop ix) st:=
 xb_ (fun c st ix=>qL_ n t69 c (match st,ix with |t74,ix=>(t74,ix))) t69 (jj_ n t69) (xa_ n t69) (fun _ _ _=>rfl) hx c st ix hi hc
def jr_ (n:Nat)(c2:SeekGraph)(t1:GRef):Option (List GRef):=
 (qq_ n c2.schema t1.obj.type_ t1.rel).bind fun t22=>
 (
  qt_ n c2 t1 t22 n ([],0):Option (List GRef)).bind fun t73=>
 (if (decide (0<(t22.1.expr.length:Int))) then
  some t73
 else
  (jm_ n c2.index.left t1.obj t1.rel).bind fun t69=>
  (
   qL_ n t69 n (t73,0):Option (List GRef)).bind fun t76=>
  some t76)
set_option maxHeartbeats 8000000 in
theorem w5_ {n:Nat}{c2:SeekGraph}{t1:GRef}{r:List GRef}(H:jr_ n c2 t1=some r):PureOK Tryz.prog 96 [D.pt (eSeekGraph c2) 0,D.ag (eGRef t1)] (D.sl (List.map eGRef r)) true:=by
 unfold jr_ at H;refine ZP qf_ fol (rs:= #[.tmp 4]) Tryz.func96 ?_;refine zsq (ZT 1 ?_);refine Z0 ?_;refine zsq (ZT 1 ?_);obtain⟨t22,b1,H2⟩:=zbi H;refine Z0 ?_;refine ZD0 (qB_ b1) ?_;refine Z0 ?_;refine qj_ (by rfl) ?_;refine Z0 ?_;refine zsq (ZT 1 ?_);refine Z0 ?_;refine zsq (zsq ?_);refine ZT 1 ?_;refine Z0 ?_;obtain⟨e_,E3,H4⟩:=zbi H2
 refine zjn (α:={ y:List GRef // e_=y } × Nat) (fun |⟨⟨t73,_⟩,g3⟩=>⟨upd 0 (.d (.pt [.pt [.mp (qi_ Value.string false eI c2.schema.types),.mp (qi_ qc_ true eGRel c2.schema.rels),.mp (qi_ qc_ false eI c2.schema.ranks)] 0,.pt [.mp (qi_ xs_ false (eL eGSub) c2.index.left.subs),.mp (qi_ Value.string false (eL eS) c2.index.left.objs),.mp (qi_ xK_ false (eL eGRef) c2.index.right.refs),.mp (qi_ Value.string false (eL eS) c2.index.right.users)] 0,.sl (List.map eGTuple c2.rows_)] 0) true) (upd 3 (.pt 0 0) (upd 5 (.pt 1 0) (upd 7 (accV 2 g3 (List.map eGRef t73)) noFr))),upd 0 (some (.bx [.v (.string t1.obj.type_),.v (.string t1.obj.id_),.v (.string t1.rel)])) (upd 1 (some (.bx [.v (.string t22.1.name),.d (.sl (List.map eGSub t22.1.subs)) true,.d (.sl (List.map eGStep t22.1.expr)) true])) (upd 2 (accO 3 g3 false (List.map eGRef t73)) noHp)),3⟩) ?_ ?_
 ·refine zbk ?_
  refine zlp (α:={ q:(Nat × (List GRef × Int)) × Nat // qt_ n c2 t1 t22 q.1.1 q.1.2=some e_ }) (fun |⟨⟨⟨c,⟨t7,t28⟩⟩,g⟩,_⟩=>⟨upd 0 (.d (.pt [.pt [.mp (qi_ Value.string false eI c2.schema.types),.mp (qi_ qc_ true eGRel c2.schema.rels),.mp (qi_ qc_ false eI c2.schema.ranks)] 0,.pt [.mp (qi_ xs_ false (eL eGSub) c2.index.left.subs),.mp (qi_ Value.string false (eL eS) c2.index.left.objs),.mp (qi_ xK_ false (eL eGRef) c2.index.right.refs),.mp (qi_ Value.string false (eL eS) c2.index.right.users)] 0,.sl (List.map eGTuple c2.rows_)] 0) true) (upd 3 (.pt 0 0) (upd 5 (.pt 1 0) (upd 7 (accV 2 g (List.map eGRef t7)) (upd 26 (.d (.sl (List.map eGStep t22.1.expr)) true) (upd 27 (.v (.int .i64 (t22.1.expr.length:Int))) (upd 28 (.v (.int .i64 t28)) noFr)))))),upd 0 (some (.bx [.v (.string t1.obj.type_),.v (.string t1.obj.id_),.v (.string t1.rel)])) (upd 1 (some (.bx [.v (.string t22.1.name),.d (.sl (List.map eGSub t22.1.subs)) true,.d (.sl (List.map eGStep t22.1.expr)) true])) (upd 2 (accO 3 g false (List.map eGRef t7)) noHp)),3⟩) (fun q=>q.1.1.1) ⟨((n,([],0)),0),E3⟩ ?_ ?_
  ·exact ZR [(0,0),(1,15)]
  ·rintro⟨⟨⟨c,⟨t7,t28⟩⟩,g⟩,L5⟩
   rcases c with _ |c
   ·exact Zx L5
   ·unfold qt_ at L5
    try dsimp only at L5
    refine ZT 1 ?_;refine Z0 ?_;rcases zit L5 with⟨c24,H25⟩ |⟨c24,H25⟩
    ·obtain⟨x2,b26,H27⟩:=zbi H25
     obtain⟨h28,h29⟩:=zix b26;try simp only[Int.reduceToNat,Int.toNat_natCast] at h29
     have h30:=qn_ eGStep h29;refine Z1 (Y3 c24 (zno .i64 h28) h30) ?_;rcases zit H27 with⟨c32,H33⟩ |⟨c32,H33⟩
     ·obtain⟨l2,b34,H35⟩:=zbi H33
      obtain⟨h36,h37⟩:=jV_ b34;have h36:t7.length+1<=4294967296:=h36;have h38:List.map eGRef t7++[[.v (.string t1.obj.type_),.v (.string t1.obj.id_),.v (.string x2.a)]]=List.map eGRef l2:=jD_ eGRef h37;have h39:t7.length+1=l2.length:=jE_ h37;have h40:l2.length<=4294967296:=by omega
      have q41:0<l2.length:=by omega
      refine Z1 (Y2 (Y6 c24 (zno .i64 h28) h30 c32 h36 h38) (Y2 h39 h40)) ?_;rcases t7 with _ |⟨q0,q1⟩
      ·try simp only[List.map_nil,accI,accN]
       exact⟨⟨((c,(l2,(IntKind.i64.wrap (t28+1)))),0),H35⟩,ZR [(0,0),(1,1),(2,19)],Nat.lt_succ_self _⟩
      ·try simp only[List.map_cons,accI,accN]
       exact⟨⟨((c,(l2,(IntKind.i64.wrap (t28+1)))),(g+1)),H35⟩,ZR [(0,0),(1,1),(2,2)],Nat.lt_succ_self _⟩
     ·refine Z1 (Y4 c24 (zno .i64 h28) h30 c32) ?_
      rcases zit H33 with⟨c42,H43⟩ |⟨c42,H43⟩
      ·obtain⟨t512,b44,H45⟩:=zbi H43
       refine Z1 (Y5 c24 (zno .i64 h28) h30 c32 c42) ?_;refine ZC0 (x4_ b44) ?_;refine Z1 (Y6 c24 (zno .i64 h28) h30 c32 c42 (ja_ (n:=3) (f:=eGRef) (fun _=>rfl) t512)) ?_;rcases zit H45 with⟨c46,H47⟩ |⟨c46,H47⟩
       ·have e48:t7= []:=List.eq_nil_of_length_eq_zero (of_decide_eq_true c46)
        subst e48;simp only[List.map_nil,wS_,k7_];try simp only[accK,accB]
        obtain⟨l3,b49,H50⟩:=zbi H47;obtain⟨h51,h52⟩:=jV_ b49;have h52:t512=l3:=h52;subst h52;have h51:t512.length<=4294967296:=by have:=h51;simpa using this
        refine Z1 (Y2 (Y6 c24 (zno .i64 h28) h30 c32 c42 (ja_ (n:=3) (f:=eGRef) (fun _=>rfl) t512)) h51) ?_;exact⟨⟨((c,(t512,(IntKind.i64.wrap (t28+1)))),0),H50⟩,ZR [(0,0),(1,1),(2,20)],Nat.lt_succ_self _⟩
       ·have q53:0<t7.length:=by have:=of_decide_eq_false c46;omega
        have h54:∀i,accK i (List.map eGRef t7)= [i]:=fun i=>by cases hx:t7 with |nil=>(rw[hx] at q53;simp at q53) |cons a r=>rfl
        have h55:∀b,accB b (List.map eGRef t7)=b:=fun b=>by cases hx:t7 with |nil=>(rw[hx] at q53;simp at q53) |cons a r=>rfl
        obtain⟨l4,b56,H57⟩:=zbi H47;obtain⟨h58,h59⟩:=jV_ b56;have h58:t7.length+t512.length<=4294967296:=h58;have h60:List.map eGRef t7++List.map eGRef t512=List.map eGRef l4:=jD_ eGRef h59;have h61:t7.length+t512.length=l4.length:=jE_ h59;have h62:l4.length<=4294967296:=by omega
        have q63:0<l4.length:=by omega
        refine Z1 (Y3 (Y6 c24 (zno .i64 h28) h30 c32 c42 (ja_ (n:=3) (f:=eGRef) (fun _=>rfl) t512)) (Y6 c46 h54 h55 q53 (YV (f:=eGRef) q53) (YO (f:=eGRef) q53)) (Y4 h58 h60 h61 h62)) ?_;exact⟨⟨((c,(l4,(IntKind.i64.wrap (t28+1)))),(g+1)),H57⟩,ZR [(0,0),(1,1),(2,2)],Nat.lt_succ_self _⟩
      ·refine Z1 (Y5 c24 (zno .i64 h28) h30 c32 c42) ?_
       exact⟨⟨((c,(t7,(IntKind.i64.wrap (t28+1)))),g),H43⟩,ZR [(0,0),(1,1),(2,2)],Nat.lt_succ_self _⟩
    ·refine Z1 c24 ?_
     obtain rfl:=Zi H25;exact⟨⟨⟨t7,rfl⟩,g⟩,ZR [(0,0),(1,1),(2,2)]⟩
 ·rintro⟨⟨t73,he108⟩,g3⟩
  obtain rfl:=he108.symm;try dsimp only at H4
  refine zsq (ZT 1 ?_);refine Z0 ?_;rcases zit H4 with⟨c64,H65⟩ |⟨c64,H65⟩
  ·refine Z1 c64 ?_
   obtain rfl:=Zi H65;exact ZE1 c64
  ·refine Z1 c64 ?_
   refine zsq (zsq ?_);refine ZT 1 ?_;obtain⟨t69,b66,H67⟩:=zbi H65;refine Z1 c64 ?_
   refine x8_ (b:=true) [] (fun hp1 h1=>by exact(PW.cons (ToXA.d (ToXV.one (ToX.rbE 2 (ToX.one (b':=true) (is:=[]) rfl (fun _=>rfl)) (by rfl)) rfl)) (PW.cons (ToXA.d (ToXV.agP (PW.cons (ToX.one (b':=false) (is:=[]) rfl (fun _=>rfl)) (PW.cons (ToX.one (b':=false) (is:=[]) rfl (fun _=>rfl)) PW.nil)))) (PW.cons (ToXA.d (ToXV.one (ToX.one (b':=false) (is:=[]) rfl (fun _=>rfl)) rfl)) PW.nil)))) (PureA.of_pure (xJ_ b66)) ?_
   refine Z1 c64 ?_;refine qj_ (by rfl) ?_;refine Z1 c64 ?_;obtain⟨e_2,E68,H69⟩:=zbi H67;refine zjn (α:={ y:List GRef // e_2=y } × Nat) (fun |⟨⟨t76,_⟩,g7⟩=>⟨upd 7 (accV 0 g7 (List.map eGRef t76)) noFr,upd 0 (accO 3 g7 false (List.map eGRef t76)) noHp,1⟩) ?_ ?_
   ·refine zbk ?_
    refine zlp (α:={ q:(Nat × (List GRef × Int)) × Nat // qL_ n t69 q.1.1 q.1.2=some e_2 }) (fun |⟨⟨⟨c,⟨t74,t71⟩⟩,g5⟩,_⟩=>⟨upd 7 (accV 0 g5 (List.map eGRef t74)) (upd 69 (.d (.sl (List.map eGSub t69)) false) (upd 70 (.v (.int .i64 (t69.length:Int))) (upd 71 (.v (.int .i64 t71)) noFr))),upd 0 (accO 3 g5 false (List.map eGRef t74)) noHp,1⟩) (fun q=>q.1.1.1) ⟨((n,(t73,0)),g3),E68⟩ ?_ ?_
    ·exact ZR [(0,2)]
    ·rintro⟨⟨⟨c,⟨t74,t71⟩⟩,g5⟩,L70⟩
     rcases c with _ |c
     ·exact Zx L70
     ·unfold qL_ at L70
      try dsimp only at L70
      refine ZT 1 ?_;refine Z0 ?_;rcases zit L70 with⟨c89,H90⟩ |⟨c89,H90⟩
      ·obtain⟨x4,b91,H92⟩:=zbi H90
       obtain⟨h93,h94⟩:=zix b91;try simp only[Int.reduceToNat,Int.toNat_natCast] at h94
       have h95:=qn_ eGSub h94;refine Z1 (Y3 c89 (zno .i64 h93) h95) ?_;rcases zit H92 with⟨c97,H98⟩ |⟨c97,H98⟩
       ·refine Z1 (Y4 c89 (zno .i64 h93) h95 c97) ?_
        exact⟨⟨((c,(t74,(IntKind.i64.wrap (t71+1)))),g5),H98⟩,ZR [(0,0)],Nat.lt_succ_self _⟩
       ·obtain⟨l6,b99,H100⟩:=zbi H98
        obtain⟨h101,h102⟩:=jV_ b99;have h101:t74.length+1<=4294967296:=h101;have h103:List.map eGRef t74++[[.v (.string x4.type_),.v (.string x4.id_),.v (.string x4.rel)]]=List.map eGRef l6:=jD_ eGRef h102;have h104:t74.length+1=l6.length:=jE_ h102;have h105:l6.length<=4294967296:=by omega
        have q106:0<l6.length:=by omega
        refine Z1 (Y2 (Y6 c89 (zno .i64 h93) h95 c97 h101 h103) (Y2 h104 h105)) ?_;rcases t74 with _ |⟨q0,q1⟩
        ·try simp only[List.map_nil,accI,accN]
         exact⟨⟨((c,(l6,(IntKind.i64.wrap (t71+1)))),0),H100⟩,ZR [(0,19)],Nat.lt_succ_self _⟩
        ·try simp only[List.map_cons,accI,accN]
         exact⟨⟨((c,(l6,(IntKind.i64.wrap (t71+1)))),(g5+1)),H100⟩,ZR [(0,0)],Nat.lt_succ_self _⟩
      ·refine Z1 c89 ?_
       obtain rfl:=Zi H90;exact⟨⟨⟨t74,rfl⟩,g5⟩,ZR [(0,0)]⟩
   ·rintro⟨⟨t76,he107⟩,g7⟩
    obtain rfl:=he107.symm;try dsimp only at H69
    refine ZT 1 ?_;refine Z0 ?_;obtain rfl:=Zi H69;exact ZE0
def x1_ (_:Nat)(s:WellSchema)(typ:ByteArray)(rel:ByteArray):Option Int:=
 some (qk_ (⟨typ,rel⟩:WellName) 0 s.ranks)
theorem wy_ {n:Nat}{s:WellSchema}{typ:ByteArray}{rel:ByteArray}{r:Int}(H:x1_ n s typ rel=some r):PureOK Tryz.prog 95 [D.pt (eWellSchema s) 0,D.v (.string typ),D.v (.string rel)] (D.v (.int .i64 r)) true:=by
 unfold x1_ at H;refine ZP qf_ fol (rs:= #[.tmp 6]) Tryz.func95 ?_;refine ZT 1 ?_;have h1:j6_ (true,[.string,.string]) (.agg #[.string typ,.string rel]) (.v (.int .i64 0)) false (xt_ true (qi_ qc_ false eI s.ranks))=some (.v (.int .i64 (qk_ (⟨typ,rel⟩:WellName) 0 s.ranks)),[]):=lookD (b:=true) (ag:=false) (enc:=eI) jn_ (⟨typ,rel⟩:WellName) (0:Int) false s.ranks
 refine Z1 h1 ?_;obtain rfl:=Zi H;exact ZE0
abbrev NodesAt (hp:Hp)(es:List (Value × AV))(is:GRef->Bool)(l:List GRef):Prop:=∀r∈l,∃id rk dp ab,NodeAt es r id/\hp id=some (.bx [rk,dp,ab,.v (.bool (is r))])
def pK_ (n:Nat)(G:SeekGraph)(ob:GObj)(x:GStep):Option (List GRef):=if x.kind==1 then some [⟨ob,x.a⟩] else jp_ n G ob x
theorem zP_ {hp:Hp}{nx i:Nat}{o:AO}(hf:∀j,nx<=j->hp j=none)(h:hp i=some o):(i=nx+1)=False:=eq_false fun e=>by
 have:=qm_ hf h
 omega
theorem bl_ {hp:Hp}{nx:Nat}{x y:Option AO}(hf:∀j,nx<=j->hp j=none):Less hp (upd (nx+1) x (upd nx y hp)):=⟨fun i=>by
 by_cases h:i<nx
 ·exact .inr (by simp[upd,show i≠nx by omega,show i≠nx+1 by omega])
 ·exact .inl (hf i (by omega))⟩
theorem bm_ {hp:Hp}{nx q m n:Nat}{bg:Bool}{vo vx:AV}{G:SeekGraph}{ob:GObj}{x:GStep}{l:List GRef}{o:AV}{s1 s2 s3:AV}{es:List (Value × AV)}{dl:Bool}{is:GRef->Bool}(hf:∀j,nx<=j->hp j=none)
  (hq:hp q=some (.bx [.d (.pt (eSeekGraph G) 0) bg,s1,s2,s3,.mo m,o])) (hm:hp m=some (.mo es dl)) (hl:pK_ n G ob x=some l) (hN:NodesAt hp es is l) (hx:l.length<4611686018427387904) (ho:qP_ vo=some [.v (.string ob.type_),.v (.string ob.id_)]) (hx2:qP_ vx=some [.v (.int .i64 x.kind),.v (.string x.a),.v (.string x.b)]):
  ∃nx',nx<=nx'/\InlOK Tryz.prog 147 [.pt q 0,vo,vx] hp nx fun v hp2 nx2=>v= .v (.bool (l.any is))/\hp2=hp/\nx2=nx':=by
 unfold pK_ at hl;rcases hk:(x.kind==1) with _ |_
 ·rw[hk,if_neg (by simp)] at hl
  obtain⟨hp1,e1⟩:∃hp1,hp1=upd (nx+1) (some (.bx [.v (.int .i64 x.kind),.v (.string x.a),.v (.string x.b)])) (upd nx (some (.bx [.v (.string ob.type_),.v (.string ob.id_)])) hp):=⟨_,rfl⟩;have old:∀ {i:Nat} {o:AO},hp i=some o->hp1 i=some o:=fun{i o} h=>by
   have:=qm_ hf h
   rw[e1,qb_ _ _ (by omega),qb_ _ _ (by omega)];exact h
  obtain⟨nx',g1,g2⟩:=ti_ (nx:=nx+3+3+10) (b:=false) (is:=is) (l:=l) (fun j hj=>by rw[e1,qb_ _ _ (by omega),qb_ _ _ (by omega)];exact hf j (by omega)) (old hq) (old hm) (fun r hr=>by
   obtain⟨id,rk,dp,ab,k1,k2⟩:=hN r hr;exact⟨id,rk,dp,ab,k1,old k2⟩) hx
  refine⟨nx',by omega,qN_ qf_ fol Tryz.func147 (by rfl) (by kernel_rfl) (by kernel_rfl) (by exact Nat.le_of_ble_eq_true rfl) ?_⟩;have w:=And.intro ho <|And.intro hx2 <|And.intro (show(nx=nx+1)=False from eq_false (by omega))<|And.intro (jQ_ hf hq) (And.intro (jQ_ hf hm) (And.intro (zP_ hf hq) (And.intro (zP_ hf hm) (And.intro hq (And.intro hm hk)))));refine Z1 w ?_
  refine ZD0 (x4_ hl) ?_;refine Z1 w ?_;rw[<-e1];refine j1_ (δ:=[]) g2 ?_;refine Z0 ?_;refine qj_ (by rfl) ?_;refine Z0 ?_;exact⟨_,hp,rfl,by rw[e1];exact bl_ hf,rfl,rfl,rfl⟩
 ·rw[hk,if_pos rfl] at hl
  cases hl;obtain⟨id,rk,dp,ab,e1,e2⟩:=hN _ (List.mem_cons_self ..);refine⟨nx+3+3+13,by omega,qN_ qf_ fol Tryz.func147 (by rfl) (by kernel_rfl) (by kernel_rfl) (by exact Nat.le_of_ble_eq_true rfl) ?_⟩
  have w:=And.intro ho <|And.intro hx2 <|And.intro (show(nx=nx+1)=False from eq_false (by omega))<|And.intro (jQ_ hf hq) (And.intro (jQ_ hf hm) (And.intro (jQ_ hf e2) (And.intro (zP_ hf hq) (And.intro (zP_ hf hm) (And.intro (zP_ hf e2) (And.intro hq (And.intro hm (And.intro e1 (And.intro e2 hk)))))))));refine Z1 w ?_;refine qj_ (by rfl) ?_;refine Z1 w ?_
  exact⟨_,hp,rfl,bl_ hf,by simp[qd_],rfl,rfl⟩
def q6_ (n:Nat)(s:List GSub)(v:GSub):Nat->Int->Option ((Unit) ⊕ Int)
 |0,_=>none
 |c+1,t8=>
  (if (decide (t8<(s.length:Int))) then
   (idx s t8).bind fun x2=>
   (if ((v.type_==x2.type_)&&((v.id_==x2.id_)&&(v.rel==x2.rel))) then
    some (.inr t8)
   else
    q6_ n s v c (IntKind.i64.wrap (t8+1)))
  else
   some (.inl ()))
def xi_ (n:Nat)(s:List GSub)(v:GSub):Option Int:=
 (
  q6_ n s v n 0:Option ((Unit) ⊕ Int)).bind fun
  | .inl _=>
   some (-1)
  | .inr r=>some r
theorem wz_ {n:Nat}{s:List GSub}{v:GSub}{r:Int}(H:xi_ n s v=some r):PureOK Tryz.prog 117 [D.sl (List.map eGSub s),D.ag (eGSub v)] (D.v (.int .i64 r)) true:=by
 unfold xi_ at H;refine ZP qf_ fol (rs:= #[.tmp 4]) Tryz.func117 ?_;refine zsq (ZT 1 ?_);refine Z0 ?_;refine zsq (zsq ?_);refine ZT 1 ?_;refine Z0 ?_;obtain⟨e_,E1,H2⟩:=zbi H;refine zjn (α:={ y:Unit // e_= .inl y }) (fun |⟨_,_⟩=>⟨noFr,noHp,0⟩) ?_ ?_
 ·refine zbk ?_
  refine zlp (α:={ q:Nat × Int // q6_ n s v q.1 q.2=some e_ }) (fun |⟨⟨c,t8⟩,_⟩=>⟨upd 0 (.d (.sl (List.map eGSub s)) true) (upd 3 (.pt 0 0) (upd 7 (.v (.int .i64 (s.length:Int))) (upd 8 (.v (.int .i64 t8)) noFr))),upd 0 (some (.bx [.v (.string v.type_),.v (.string v.id_),.v (.string v.rel)])) noHp,1⟩) (fun q=>q.1.1) ⟨(n,0),E1⟩ ?_ ?_
  ·exact ZR [(0,0)]
  ·rintro⟨⟨c,t8⟩,L3⟩
   rcases c with _ |c
   ·exact Zx L3
   ·unfold q6_ at L3
    try dsimp only at L3
    refine ZT 1 ?_;refine Z0 ?_;rcases zit L3 with⟨c14,H15⟩ |⟨c14,H15⟩
    ·obtain⟨x2,b16,H17⟩:=zbi H15
     obtain⟨h18,h19⟩:=zix b16;try simp only[Int.reduceToNat,Int.toNat_natCast] at h19
     have h20:=qn_ eGSub h19;refine Z1 (Y3 c14 (zno .i64 h18) h20) ?_;refine qj_ (by rfl) ?_;refine Z1 (Y3 c14 (zno .i64 h18) h20) ?_;rcases zit H17 with⟨c22,H23⟩ |⟨c22,H23⟩
     ·refine Z1 (Y4 c14 (zno .i64 h18) h20 c22) ?_
      obtain rfl:=Zi H23;obtain rfl:=Zi H2;exact ZE0
     ·refine Z1 (Y4 c14 (zno .i64 h18) h20 c22) ?_
      exact⟨⟨(c,(IntKind.i64.wrap (t8+1))),H23⟩,ZR [(0,0)],Nat.lt_succ_self _⟩
    ·refine Z1 c14 ?_
     obtain rfl:=Zi H15;exact⟨⟨(),rfl⟩,ZR []⟩
 ·rintro⟨_,he24⟩
  obtain rfl:=he24.symm;try dsimp only at H2
  refine ZT 1 ?_;refine Z0 ?_;obtain rfl:=Zi H2;exact ZE0
def qO_ (n:Nat)(s:List GSub)(v:GSub):Option Bool:=
 (xi_ n s v).bind fun t7=>
 some (decide (0<=t7))
theorem xD_ {n:Nat}{s:List GSub}{v:GSub}{r:Bool}(H:qO_ n s v=some r):PureOK Tryz.prog 93 [D.sl (List.map eGSub s),D.ag (eGSub v)] (D.v (.bool r)) true:=by
 unfold qO_ at H;refine ZP qf_ fol (rs:= #[.tmp 4]) Tryz.func93 ?_;refine ZT 1 ?_;obtain⟨t7,b1,H2⟩:=zbi H;refine Z0 ?_;refine ZC0 (wz_ b1) ?_;refine Z0 ?_;obtain rfl:=Zi H2;exact ZE0
set_option maxRecDepth 4000 in
theorem now_ok {hp:Hp}{nx q m n rid:Nat}{bd:Bool}{G:SeekGraph}{r:GRef}{s:GSub}{rel:GRel × Bool}{subs:List GSub}{c:Bool}{deps:List GRef}{o rk ab rx:AV}{es:List (Value × AV)}{dl:Bool}{is:GRef->Bool}(hf:∀j,nx<=j->hp j=none)
  (hq:hp q=some (.bx [.d (.pt (eSeekGraph G) 0) true,.v (.string s.type_),.v (.string s.id_),.v (.string s.rel),.mo m,o])) (hm:hp m=some (.mo es dl)) (hr:NodeAt es r rid) (hn:hp rid=some (.bx [rk,.d (.sl (deps.map eGRef)) bd,ab,rx]))
  (h1:qq_ n G.schema r.obj.type_ r.rel=some rel) (h2:rel.1.expr= []) (h3:jm_ n G.index.left r.obj r.rel=some subs) (h4:qO_ n subs s=some c)
  (hN:NodesAt hp es is deps) (hx:deps.length<4611686018427387904):
  ∃nx',nx<=nx'/\InlOK Tryz.prog 100 [.pt q 0,.ag [.v (.string r.obj.type_),.v (.string r.obj.id_),.v (.string r.rel)]] hp nx fun v hp2 nx2=>v= .v (.bool (c||deps.any is))/\hp2=hp/\nx2=nx':=by
 obtain⟨⟨rn,rs,re⟩,ro⟩:=rel;cases h2;have n0:nw nx q=0:=th_ (qm_ hf hq);have n1:nw nx nx=1:=pJ_;have n2:nw nx (nx+2+16)=19:=by unfold nw;omega
 have w:=And.intro (show(nx=nx+2+16)=False from eq_false (by omega))<|And.intro (show(q=nx+2+16)=False from eq_false (by have:=qm_ hf hq;omega))<|And.intro (show(m=nx+2+16)=False from eq_false (by have:=qm_ hf hm;omega))<|And.intro (show(rid=nx+2+16)=False from eq_false (by have:=qm_ hf hn;omega))<|And.intro (jQ_ hf hq) (And.intro (jQ_ hf hm) (And.intro (jQ_ hf hn) (And.intro hq (And.intro hm (And.intro hr hn)))))
 obtain⟨hp1,e1⟩:∃hp1,hp1=upd (nx+2+16) (some (.bx [.v (.string rn),.d (.sl (rs.map eGSub)) true,.d (.sl []) true])) (upd (nx+2+16) (some (.bx [.v (.string ByteArray.empty),.v (.slice none 0 0),.v (.slice none 0 0)])) (upd nx (some (.bx [.v (.string r.obj.type_),.v (.string r.obj.id_),.v (.string r.rel)])) hp)):=⟨_,rfl⟩
 have old:∀ {i:Nat} {o:AO},hp i=some o->hp1 i=some o:=fun{i o} h=>by
  have:=qm_ hf h
  rw[e1,qb_ _ _ (by omega),qb_ _ _ (by omega),qb_ _ _ (by omega)];exact h
 have less:Less hp hp1:=⟨fun i=>by
  by_cases h:i<nx
  ·exact .inr (by rw[e1,qb_ _ _ (by omega),qb_ _ _ (by omega),qb_ _ _ (by omega)])
  ·exact .inl (hf i (by omega))⟩
 obtain⟨nx',g1,g2⟩:=ti_ (nx:=nx+2+19+4+33) (b:=bd) (is:=is) (l:=deps) (fun j hj=>by rw[e1,qb_ _ _ (by omega),qb_ _ _ (by omega),qb_ _ _ (by omega)];exact hf j (by omega)) (old hq) (old hm) (fun r hr=>by
   obtain⟨id,rk,dp,ab,k1,k2⟩:=hN r hr;exact⟨id,rk,dp,ab,k1,old k2⟩) hx
 refine⟨if c then nx+2+19+4+33 else nx',by split<;>omega,qN_ qf_ fol Tryz.func100 (by rfl) (by kernel_rfl) (by kernel_rfl) (by exact Nat.le_of_ble_eq_true rfl) ?_⟩
 refine Z1 w ?_;refine ZD0 (qB_ h1) ?_;refine Z1 w ?_;refine x2_ (nw nx) _ rfl (by simp only[List.reverse_cons,List.reverse_nil,List.nil_append,List.cons_append,List.map_cons,List.map_nil,vL_,n0,n1,n2];rfl) (by rfl) ?_;refine Z1 w ?_
 refine x8_ (b:=true) [] (fun hp1 h1=>by exact(PW.cons (ToXA.d (ToXV.one (ToX.rbE 2 (ToX.one (b':=true) (is:=[]) rfl (fun _=>rfl)) (by rfl)) rfl)) (PW.cons (ToXA.d (ToXV.agP (PW.cons (ToX.one (b':=false) (is:=[]) rfl (fun _=>rfl)) (PW.cons (ToX.one (b':=false) (is:=[]) rfl (fun _=>rfl)) PW.nil)))) (PW.cons (ToXA.d (ToXV.one (ToX.one (b':=false) (is:=[]) rfl (fun _=>rfl)) rfl)) PW.nil)))) (PureA.of_pure (xJ_ h3)) ?_
 refine Z1 w ?_;refine ZD0 (xD_ h4) ?_;cases c with
 |true=>
  refine Z1 w ?_;refine qj_ (by rfl) ?_;refine Z1 w ?_;exact⟨_,hp,rfl,by rw[<-e1];exact less,rfl,rfl,rfl⟩
 |false=>
  refine Z1 w ?_;rw[<-e1];refine j1_ (δ:=[]) g2 ?_;refine Z0 ?_;refine qj_ (by rfl) ?_;refine Z0 ?_;exact⟨_,hp,rfl,less,rfl,rfl,rfl⟩
structure PN where
 k:GRef
 rank:Int
 deps:List GRef
 above:List GRef
 is:Bool
structure Nd extends PN where
 id:Nat
 rid:Nat
 ver:Nat
def pN:Option Nat->AV
 |none=>.v (.pointer none)
 |some id=>.pt id 0
def ixN (N:List Nd):List (GRef × Option Nat):=N.map fun n=>(n.k,some n.id)
def mapN (N:List Nd):List (Value × AV):=encM xs_ pN (ixN N)
def boxN (n:Nd):AO:=.bx [.v (.int .i64 n.rank),.d (.sl (n.deps.map eGRef)) false,accV n.rid n.ver (n.above.map eGRef),.v (.bool n.is)]
def zw_ (r:GRef):List Nd->Option Nd
 |[]=>none
 |n::l=>if r==n.k then some n else zw_ r l
def jd_ (r:GRef):List PN->Option PN
 |[]=>none
 |n::l=>if r==n.k then some n else jd_ r l
abbrev pns (N:List Nd):List PN:=N.map Nd.toPN
theorem jF_ (r:GRef):∀N:List Nd,jd_ r (pns N)=(zw_ r N).map Nd.toPN
 |[]=>rfl
 |n::l=>by
  have ih:=jF_ r l;unfold zw_;show(if r==n.k then some n.toPN else jd_ r (pns l))=_
  split
  ·rfl
  ·exact ih
theorem xf_ {r:GRef}:∀ {N:List Nd} {n:Nd},zw_ r N=some n->n∈N/\n.k=r
 |[],_,h=>by cases h
 |x::l,n,h=>by
  unfold zw_ at h;split at h
  ·rename_i e
   cases h;exact⟨List.mem_cons_self ..,(eq_of_beq e).symm⟩
  ·obtain⟨h1,h2⟩:=xf_ h
   exact⟨List.mem_cons_of_mem _ h1,h2⟩
theorem go_ {r:GRef}:∀ {N:List Nd},zw_ r N=none->∀n∈N,n.k≠r
 |[],_,_,hm=>by cases hm
 |x::l,h,n,hm=>by
  unfold zw_ at h;split at h
  ·cases h
  ·rename_i e
   rcases List.mem_cons.1 hm with rfl |hm
   ·exact fun e2=>e (by rw[e2];exact beq_self_eq_true _)
   ·exact go_ h n hm
theorem yg_ (r:GRef):∀N:List Nd,mget r (ixN N)=(zw_ r N).map fun n=>some n.id
 |[]=>rfl
 |n::l=>by
  have ih:=yg_ r l;unfold zw_;by_cases e:(r==n.k)=true
  ·simp[ixN,mget,e]
  ·simp only[ixN,List.map_cons,mget,e]
   simpa [ixN] using ih
theorem xP_ {r:GRef}{N:List Nd}{n:Nd}(h:zw_ r N=some n):NodeAt (mapN N) r n.id:=by
 have:=z2_ (ev:=pN) vj_ r none false (ixN N)
 simp only[qk_,yg_,h] at this;exact this
theorem bn_ {r:GRef}{N:List Nd}(h:zw_ r N=none):j6_ (true,[.string,.string,.string]) (.agg #[.string r.obj.type_,.string r.obj.id_,.string r.rel]) (.v (.pointer none)) false (mapN N)=some (.v (.pointer none),[]):=by
 have:=z2_ (ev:=pN) vj_ r none false (ixN N)
 simp only[qk_,yg_,h] at this;exact this
theorem cW_ {r:GRef}{N:List Nd}(h:zw_ r N=none)(n:Nd)(hk:n.k=r):mput (true,[.string,.string,.string]) (.agg #[.string r.obj.type_,.string r.obj.id_,.string r.rel]) (.pt n.id 0) (mapN N)=some (mapN (N++[n])):=by
 have h1:=k8_ (ev:=pN) vj_ r (some n.id) (ixN N);obtain⟨o,_,_,h3⟩:=xS_ (ev:=pN) vj_ r (ixN N);have h4:=(h3 (by rw[yg_,h];rfl)).2 (some n.id);rw[h4] at h1;subst hk;have e:ixN N++[(n.k,some n.id)]=ixN (N++[n]):=by simp[ixN]
 rw[e] at h1;exact h1
structure InvN (hp:Hp) (m:Nat) (N:List Nd):Prop where
 map:hp m=some (.mo (mapN N) false)
 box:∀n∈N,hp n.id=some (boxN n)
 row:∀n∈N,n.above≠[]->hp n.rid=accO 3 n.ver false (n.above.map eGRef)
 keys:(N.map (·.k)).Nodup
 ids:(N.map (·.id)).Nodup
 rids:∀a∈N,∀b∈N,a.above≠[]->b.above≠[]->a.rid=b.rid->a.k=b.k
theorem InvN.at_ {hp:Hp}{m:Nat}{N:List Nd}(h:InvN hp m N){l:List GRef}(hl:∀r∈l,(zw_ r N).isSome=true):NodesAt hp (mapN N) (fun r=>((jd_ r (pns N)).map (·.is)).getD false) l:=fun r hr=>by
 obtain⟨n,hn⟩:=Option.isSome_iff_exists.1 (hl r hr);refine⟨n.id,.v (.int .i64 n.rank),.d (.sl (n.deps.map eGRef)) false,accV n.rid n.ver (n.above.map eGRef),xP_ hn,?_⟩;rw[h.box n (xf_ hn).1];simp only[jF_,hn,Option.map_some,Option.getD_some];rfl
theorem jc_ {sz ver:Nat}{br:Bool}{l:List GRef}(h:l≠[]):accO sz ver br (l.map eGRef)=some (.rw (l.map eGRef) sz ver br false):=by
 cases l with
 |nil=>exact absurd rfl h
 |cons x r=>simp[accO]
def uo_ (N:List Nd):List Nat:=(N.filter fun n=> !n.above.isEmpty).map (·.rid)
theorem zq_ {N:List Nd}{n:Nd}(hn:n∈N)(ha:n.above≠[]):n.rid∈uo_ N:=List.mem_map_of_mem (List.mem_filter.2 ⟨hn,by cases h:n.above with |nil=>exact absurd h ha |cons _ _=>rfl⟩)
theorem va_ {N:List Nd}{i:Nat}(h:i∈uo_ N):∃n∈N,n.above≠[]/\n.rid=i:=by
 obtain⟨n,h1,rfl⟩:=List.mem_map.1 h;obtain⟨h2,h3⟩:=List.mem_filter.1 h1;exact⟨n,h2,fun e=>by rw[e] at h3;simp at h3,rfl⟩
theorem InvN.more {hp hp':Hp}{m:Nat}{N:List Nd}(h:InvN hp m N)(em:hp' m=hp m)(eb:∀n∈N,hp' n.id=hp n.id)(er:∀n∈N,n.above≠[]->hp' n.rid=hp n.rid):InvN hp' m N where
 map:=em▸h.map
 box:=fun n hn=>(eb n hn).trans (h.box n hn)
 row:=fun n hn ha=>(er n hn ha).trans (h.row n hn ha)
 keys:=h.keys
 ids:=h.ids
 rids:=h.rids
theorem InvN.upd_row {hp:Hp}{m i:Nat}{o:Option AO}{N:List Nd}(h:InvN hp m N)(hi:hp i=none\/∃es sz v b f,hp i=some (.rw es sz v b f))(hr:i∉uo_ N):InvN (upd i o hp) m N:=by
 have ne:∀ {j:Nat} {x:AO},hp j=some x->(∀es sz v b f,x≠ .rw es sz v b f)->j≠i:=fun hj hx e=>by
  subst e;rcases hi with hi |⟨es,sz,v,b,f,hi⟩
  ·rw[hj] at hi
   cases hi
  ·rw[hj] at hi
   cases hi;exact hx _ _ _ _ _ rfl
 exact h.more (qb_ _ _ (ne h.map fun _ _ _ _ _ e=>by cases e)) (fun n hn=>qb_ _ _ (ne (h.box n hn) fun _ _ _ _ _ e=>by cases e)) fun n hn ha=>qb_ _ _ fun e=>hr (e▸zq_ hn ha)
theorem InvN.upd_new {hp:Hp}{m i:Nat}{o:Option AO}{N:List Nd}(h:InvN hp m N)(hi:hp i=none):InvN (upd i o hp) m N:=h.upd_row (.inl hi) fun hm=>by
 obtain⟨n,h1,h2,h3⟩:=va_ hm
 have:=h.row n h1 h2
 rw[h3,hi,jc_ h2] at this;cases this
end Go.Proofs.YtnmkbmefohakmaaGreat.Ab
