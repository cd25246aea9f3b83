/-
 What is asked of any schema: the error of one that does not hold together, too.
-/
import Derived.Test.YtnmkbmefohakmaaGreatTea
namespace Go.Proofs.YtnmkbmefohakmaaGreat.Ab
open Go.RowKit
def j7_ (n:Nat)(rows_:List GTuple)(t13:WellSchema × Int):Nat->(List GTuple × Int)->Option (List GTuple)
 |0,_=>none
 |c+1,(fit,t21)=>
  (if (decide (t21<(rows_.length:Int))) then
   (idx rows_ t21).bind fun x2=>
   (qZ_ n (⟨t13.1.types,t13.1.rels,t13.1.ranks⟩:WellSchema) x2).bind fun t272=>
   (if t272 then
    (app fit [x2]).bind fun l2=>
    j7_ n rows_ t13 c (l2,(IntKind.i64.wrap (t21+1)))
   else
    j7_ n rows_ t13 c (fit,(IntKind.i64.wrap (t21+1))))
  else
   some fit)
def vq_ (n:Nat)(_:List GTuple)(t13:WellSchema × Int)(st:List GTuple)(x2:GTuple)(k:List GTuple->Option (List GTuple)):Option (List GTuple):=
 match st with
 |fit=>
  (qZ_ n (⟨t13.1.types,t13.1.rels,t13.1.ranks⟩:WellSchema) x2).bind fun t272=>
  (if t272 then
   (app fit [x2]).bind fun l2=>
   k l2
  else
   k fit)
def vr_ (_:Nat)(_:List GTuple)(_:WellSchema × Int)(st:List GTuple):Option (List GTuple):=
 match st with
 |fit=>some fit
theorem y1_ (n:Nat)(rows_:List GTuple)(t13:WellSchema × Int)(hx:rows_.length<4611686018427387904)(c:Nat)(st:List GTuple)(ix:Nat)(hi:ix<=rows_.length)(hc:rows_.length-ix<c):j7_ n rows_ t13 c (match st,(ix:Int) with |fit,ix=>(fit,ix))=xg_ (vq_ n rows_ t13) (vr_ n rows_ t13) (rows_.drop ix) st:=
 xq_ (fun c st ix=>j7_ n rows_ t13 c (match st,ix with |fit,ix=>(fit,ix))) rows_ (vq_ n rows_ t13) (vr_ n rows_ t13) (fun _ _ _=>rfl) hx c st ix hi hc
def y2_ (n:Nat)(l:List GType)(rows_:List GTuple):Option (SeekGraph × Int):=
 (gW_ n l).bind fun t13=>
 (if (t13.2 != 0) then
  none
 else
  (
   j7_ n rows_ t13 n ([],0):Option (List GTuple)).bind fun fit3=>
  (y0_ n fit3).bind fun t35=>
  (if (decide (fit3.length=0)) then
   some ((⟨(⟨t13.1.types,t13.1.rels,t13.1.ranks⟩:WellSchema),t35,[]⟩:SeekGraph),0)
  else
   some ((⟨(⟨t13.1.types,t13.1.rels,t13.1.ranks⟩:WellSchema),t35,fit3⟩:SeekGraph),0)))
theorem h5_ {n:Nat}{l:List GType}{rows_:List GTuple}{r:SeekGraph × Int}(H:y2_ n l rows_=some r):PureA Tryz.prog 32 [.d (D.sl (List.map eGType l)),.d (D.sl (List.map eGTuple rows_))] (D.tu [D.pt (eSeekGraph r.1) 0,D.v (.int .i64 r.2)]) false:=by
 unfold y2_ at H;refine ZPX qh_ fol (rs:= #[.tmp 4,.tmp 5]) Tryz.func32 ?_;refine zsq (ZT 1 ?_);refine Z0 ?_;refine zsq (ZT 1 ?_);obtain⟨t13,b1,H2⟩:=zbi H;refine Z0 ?_;refine ZC0 (h2_ b1) ?_;refine Z0 ?_;refine zsq (ZT 1 ?_);refine Z0 ?_;rcases zit H2 with⟨c3,H4⟩ |⟨c3,H4⟩
 ·refine Z1 c3 ?_
  cases H4
 ·refine Z1 c3 ?_
  refine zsq (ZT 1 ?_);refine Z1 c3 ?_;refine zsq (zsq ?_);refine ZT 1 ?_;refine Z1 c3 ?_;obtain⟨e_,E5,H6⟩:=zbi H4
  refine zjn (α:={ y:List GTuple // e_=y } × Nat) (fun |⟨⟨fit3,_⟩,g3⟩=>⟨upd 6 (.d (.pt [.mp (qs_ Value.string false eI t13.1.types),.mp (qs_ qd_ true eGRel t13.1.rels),.mp (qs_ qd_ false eI t13.1.ranks)] 0) true) (upd 8 (accV 0 g3 (List.map eGTuple fit3)) noFr),upd 0 (accO 6 g3 false (List.map eGTuple fit3)) noHp,1⟩) ?_ ?_
  ·refine zbk ?_
   refine zlp (α:={ q:(Nat × (List GTuple × Int)) × Nat // j7_ n rows_ t13 q.1.1 q.1.2=some e_ }) (fun |⟨⟨⟨c,⟨fit,t21⟩⟩,g⟩,_⟩=>⟨upd 6 (.d (.pt [.mp (qs_ Value.string false eI t13.1.types),.mp (qs_ qd_ true eGRel t13.1.rels),.mp (qs_ qd_ false eI t13.1.ranks)] 0) true) (upd 8 (accV 0 g (List.map eGTuple fit)) (upd 19 (.d (.sl (List.map eGTuple rows_)) true) (upd 20 (.v (.int .i64 (rows_.length:Int))) (upd 21 (.v (.int .i64 t21)) noFr)))),upd 0 (accO 6 g false (List.map eGTuple fit)) noHp,1⟩) (fun q=>q.1.1.1) ⟨((n,([],0)),0),E5⟩ ?_ ?_
   ·exact ZR []
   ·rintro⟨⟨⟨c,⟨fit,t21⟩⟩,g⟩,L7⟩
    rcases c with _ |c
    ·exact Zx L7
    ·unfold j7_ at L7
     try dsimp only at L7
     refine ZT 1 ?_;refine Z0 ?_;rcases zit L7 with⟨c20,H21⟩ |⟨c20,H21⟩
     ·obtain⟨x2,b22,H23⟩:=zbi H21
      obtain⟨h24,h25⟩:=zix b22;try simp only[Int.reduceToNat,Int.toNat_natCast] at h25
      have h26:=qm_ eGTuple h25;obtain⟨t272,b28,H29⟩:=zbi H23;refine Z1 (Y3 c20 (zno .i64 h24) h26) ?_;refine ZC0 (wa_ b28) ?_;refine Z1 (Y3 c20 (zno .i64 h24) h26) ?_;rcases zit H29 with⟨c30,H31⟩ |⟨c30,H31⟩
      ·obtain⟨l2,b32,H33⟩:=zbi H31
       obtain⟨h34,h35⟩:=j1_ b32;have h34:fit.length+1<=4294967296:=h34;have h36:List.map eGTuple fit++[[.v (.string x2.obj.type_),.v (.string x2.obj.id_),.v (.string x2.rel),.v (.string x2.sub_.type_),.v (.string x2.sub_.id_),.v (.string x2.sub_.rel)]]=List.map eGTuple l2:=jD_ eGTuple h35;have h37:fit.length+1=l2.length:=jE_ h35
       have h38:l2.length<=4294967296:=by omega
       have q39:0<l2.length:=by omega
       refine Z1 (Y2 (Y6 c20 (zno .i64 h24) h26 c30 h34 h36) (Y2 h37 h38)) ?_;rcases fit with _ |⟨q0,q1⟩
       ·try simp only[List.map_nil,accI,accN]
        exact⟨⟨((c,(l2,(IntKind.i64.wrap (t21+1)))),0),H33⟩,ZR [(0,12)],Nat.lt_succ_self _⟩
       ·try simp only[List.map_cons,accI,accN]
        exact⟨⟨((c,(l2,(IntKind.i64.wrap (t21+1)))),(g+1)),H33⟩,ZR [(0,0)],Nat.lt_succ_self _⟩
      ·refine Z1 (Y4 c20 (zno .i64 h24) h26 c30) ?_
       exact⟨⟨((c,(fit,(IntKind.i64.wrap (t21+1)))),g),H31⟩,ZR [(0,0)],Nat.lt_succ_self _⟩
     ·refine Z1 c20 ?_
      obtain rfl:=Zi H21;exact⟨⟨⟨fit,rfl⟩,g⟩,ZR [(0,0)]⟩
  ·rintro⟨⟨fit3,he48⟩,g3⟩
   obtain rfl:=he48.symm;try dsimp only at H6
   refine ZT 1 ?_;obtain⟨t35,b40,H41⟩:=zbi H6;refine Z0 ?_;refine ZA0 (h4_ b40) ?_;refine Z0 ?_;rcases zit H41 with⟨c42,H43⟩ |⟨c42,H43⟩
   ·have e44:fit3= []:=List.eq_nil_of_length_eq_zero (of_decide_eq_true c42)
    subst e44;simp only[List.map_nil,kC_,gm_];try simp only[accK,accB]
    refine Z0 ?_;obtain rfl:=Zi H43
    exact x2_ (b:=true) (v:=.tu [.pt 6 0,.v (.int .i64 0)]) (by first |(simp -implicitDefEqProofs only[go_sem,Nat.reduceEqDiff, ↓reduceIte]<;>rfl) |rfl) (ToXR.tu (PW.cons (ToXV.one (ToX.place (by rfl) (PW.cons (ToX.one (b':=true) (is:=[]) rfl (fun _=>rfl)) (PW.cons (ToX.one (b':=false) (is:=[]) rfl (fun _=>rfl)) (PW.cons (ToX.one (b':=false) (is:=[]) rfl (fun _=>rfl)) PW.nil)))) rfl) (PW.cons (ToXV.one (ToX.one (b':=false) (is:=[]) rfl (fun _=>rfl)) rfl) PW.nil))) (by intro h;first |rfl |cases h)
   ·have q45:0<fit3.length:=by have:=of_decide_eq_false c42;omega
    have h46:∀i,accK i (List.map eGTuple fit3)= [i]:=fun i=>by cases hx:fit3 with |nil=>(rw[hx] at q45;simp at q45) |cons a r=>rfl
    have h47:∀b,accB b (List.map eGTuple fit3)=b:=fun b=>by cases hx:fit3 with |nil=>(rw[hx] at q45;simp at q45) |cons a r=>rfl
    refine Z1 (Y6 c42 h46 h47 q45 (YV (f:=eGTuple) q45) (YO (f:=eGTuple) q45)) ?_;obtain rfl:=Zi H43
    exact x2_ (b:=true) (v:=.tu [.pt 6 0,.v (.int .i64 0)]) (by first |(simp -implicitDefEqProofs only[go_sem,Nat.reduceEqDiff, ↓reduceIte]<;>rfl) |rfl) (ToXR.tu (PW.cons (ToXV.one (ToX.place (by rfl) (PW.cons (ToX.one (b':=true) (is:=[]) rfl (fun _=>rfl)) (PW.cons (ToX.one (b':=false) (is:=[]) rfl (fun _=>rfl)) (PW.cons (ToX.one (b':=false) (is:=[0]) (by first |rfl |(simp -implicitDefEqProofs only[go_sem,reduceCtorEq, ↓reduceIte];done) |(simp -implicitDefEqProofs only[go_sem,Bool.false_and,Int.reduceToNat,Int.reduceLT,Int.reduceLE,Int.reduceBEq,Int.reduceBNe,Nat.reduceLT,Nat.reduceBEq,Int.reduceEq,Nat.reduceEqDiff,Nat.reduceAdd,Nat.reduceSub,Nat.reduceMul,Nat.reduceLeDiff,reduceCtorEq, ↓reduceIte,eGRel,eGObj,eGSub,eGStep,eGRef,eGTuple,eGType,eWellSchema,eWellName,eLookIndex,eLookLeft,eLookRight,eSeekGraph,c42,h46,h47,q45,jP_ (f:=eGTuple) q45,vC_ (f:=eGTuple) q45];rfl)) (fun _=>rfl)) PW.nil)))) rfl) (PW.cons (ToXV.one (ToX.one (b':=false) (is:=[]) rfl (fun _=>rfl)) rfl) PW.nil))) (by intro h;first |rfl |cases h)
def jZ_ (n:Nat)(g:SeekGraph)(typ:ByteArray)(rel:ByteArray):Option Bool:=
 (qn_ n g.schema typ rel).bind fun t16=>
 some t16.2
theorem wb_ {n:Nat}{g:SeekGraph}{typ:ByteArray}{rel:ByteArray}{r:Bool}(H:jZ_ n g typ rel=some r):PureOK Tryz.prog 33 [D.pt (eSeekGraph g) 0,D.v (.string typ),D.v (.string rel)] (D.v (.bool r)) true:=by
 unfold jZ_ at H;refine ZP qh_ fol (rs:= #[.tmp 6]) Tryz.func33 ?_;refine ZT 1 ?_;obtain⟨t16,b1,H2⟩:=zbi H;refine Z0 ?_;refine ZC0 (qv_ b1) ?_;refine Z0 ?_;obtain rfl:=Zi H2;exact ZE0
def vJ_ (n:Nat)(l:List GType)(rows_:List GTuple)(o:GObj)(rel:ByteArray)(s:GSub):Option (Bool × Int):=
 (y2_ n l rows_).bind fun t17=>
 (if (t17.2 != 0) then
  some (false,t17.2)
 else
  (if (s.rel.toList==({ data:= #[] }:ByteArray).toList) then
   (jZ_ n (⟨(⟨t17.1.schema.types,t17.1.schema.rels,t17.1.schema.ranks⟩:WellSchema),(⟨(⟨t17.1.index.left.subs,t17.1.index.left.objs⟩:LookLeft),(⟨t17.1.index.right.refs,t17.1.index.right.users⟩:LookRight)⟩:LookIndex),t17.1.rows_⟩:SeekGraph) o.type_ rel).bind fun t33=>
   (if t33 then
    (xl_ n (⟨(⟨t17.1.schema.types,t17.1.schema.rels,t17.1.schema.ranks⟩:WellSchema),(⟨(⟨t17.1.index.left.subs,t17.1.index.left.objs⟩:LookLeft),(⟨t17.1.index.right.refs,t17.1.index.right.users⟩:LookRight)⟩:LookIndex),t17.1.rows_⟩:SeekGraph) o rel s).bind fun t39=>
    some (t39,0)
   else
    some (false,12))
  else
   some (false,13)))
theorem gX_ {n:Nat}{l:List GType}{rows_:List GTuple}{o:GObj}{rel:ByteArray}{s:GSub}{r:Bool × Int}(H:vJ_ n l rows_ o rel s=some r):PureOK Tryz.prog 13 [D.sl (List.map eGType l),D.sl (List.map eGTuple rows_),D.ag (eGObj o),D.v (.string rel),D.ag (eGSub s)] (D.tu [D.v (.bool r.1),D.v (.int .i64 r.2)]) true:=by
 unfold vJ_ at H;refine ZP qh_ fol (rs:= #[.tmp 10,.tmp 11]) Tryz.func13 ?_;refine ZT 1 ?_;obtain⟨t17,b1,H2⟩:=zbi H;refine Z0 ?_;refine ZA0 (h5_ b1) ?_;refine Z0 ?_;rcases zit H2 with⟨c3,H4⟩ |⟨c3,H4⟩
 ·refine Z1 c3 ?_
  obtain rfl:=Zi H4;exact ZE0
 ·refine Z1 c3 ?_
  rcases zit H4 with⟨c5,H6⟩ |⟨c5,H6⟩
  ·obtain⟨t33,b7,H8⟩:=zbi H6
   refine Z1 (Y2 c3 c5) ?_;refine ZC0 (wb_ b7) ?_;refine Z1 (Y2 c3 c5) ?_;rcases zit H8 with⟨c9,H10⟩ |⟨c9,H10⟩
   ·obtain⟨t39,b11,H12⟩:=zbi H10
    refine Z1 (Y3 c3 c5 c9) ?_;refine ZC0 (d8_ b11) ?_;refine Z1 (Y3 c3 c5 c9) ?_;obtain rfl:=Zi H12;exact ZE0
   ·refine Z1 (Y3 c3 c5 c9) ?_
    obtain rfl:=Zi H10;exact ZE0
  ·refine Z1 (Y2 c3 c5) ?_
   obtain rfl:=Zi H6;exact ZE0
theorem clT:PureOK Tryz.prog 118 [.sl []] (.sl []) true:=
 zt_ qh_ fol Tryz.func118 (T:=26) (B:=4) rfl (by kernel_rfl) (by kernel_rfl) (by decide) rfl (by simp only[go_sem]) (by simp only[go_sem]) (by simp only[go_sem];decide) (by simp only[go_sem];decide)
theorem clU:PureOK Tryz.prog 145 [.sl []] (.sl []) true:=
 zt_ qh_ fol Tryz.func145 (T:=49) (B:=4) rfl (by kernel_rfl) (by kernel_rfl) (by decide) rfl (by simp only[go_sem]) (by simp only[go_sem]) (by simp only[go_sem];decide) (by simp only[go_sem];decide)
theorem clW:PureOK Tryz.prog 166 [.sl []] (.sl []) true:=
 zt_ qh_ fol Tryz.func166 (T:=201) (B:=4) rfl (by kernel_rfl) (by kernel_rfl) (by decide) rfl (by simp only[go_sem]) (by simp only[go_sem]) (by simp only[go_sem];decide) (by simp only[go_sem];decide)
def s1_:List Pr1:=[prS 138,prN 118,prN 145,prN 166]
theorem xj_:∀p∈s1_,nc_ Tryz.prog p:=by
 intro p hp;simp only[s1_,List.mem_cons,List.not_mem_nil,or_false] at hp;rcases hp with rfl |rfl |rfl |rfl
 ·exact csOk
 ·exact nd_ clT
 ·exact nd_ clU
 ·exact nd_ clW
def L9:List (List D):=[[.v (.string { data:= #[117] }),.sl []],[.v (.string { data:= #[103] }),.sl [[.v (.string { data:= #[109] }),.sl [[.v (.string { data:= #[117] }),.v (.string ByteArray.empty),.v (.string ByteArray.empty)],[.v (.string { data:= #[103] }),.v (.string ByteArray.empty),.v (.string { data:= #[109] })]],.sl []]]],[.v (.string { data:= #[100] }),.sl [[.v (.string { data:= #[111] }),.sl [[.v (.string { data:= #[117] }),.v (.string ByteArray.empty),.v (.string ByteArray.empty)]],.sl []],[.v (.string { data:= #[118] }),.sl [[.v (.string { data:= #[103] }),.v (.string ByteArray.empty),.v (.string { data:= #[109] })]],.sl []],[.v (.string { data:= #[99,97,110] }),.sl [],.sl [[.v (.int .i64 1),.v (.string { data:= #[111] }),.v (.string ByteArray.empty)],[.v (.int .i64 1),.v (.string { data:= #[118] }),.v (.string ByteArray.empty)],[.v (.int .i64 3),.v (.string ByteArray.empty),.v (.string ByteArray.empty)],[.v (.int .i64 1),.v (.string { data:= #[110,111,116] }),.v (.string ByteArray.empty)],[.v (.int .i64 4),.v (.string ByteArray.empty),.v (.string ByteArray.empty)]]],[.v (.string { data:= #[110,111,116] }),.sl [[.v (.string { data:= #[117] }),.v (.string ByteArray.empty),.v (.string ByteArray.empty)]],.sl []]]]]
set_option maxRecDepth 100000 in
theorem types9:PureOK Tryz.prog 8 [(.v (.string { data:= #[116,121,112,101,32,117,32,116,121,112,101,32,103,32,123,32,109,58,32,117,32,124,32,103,35,109,59,32,125,32,116,121,112,101,32,100,32,123,32,111,58,32,117,59,32,118,58,32,103,35,109,59,32,99,97,110,32,61,32,40,111,32,43,32,118,41,32,45,32,110,111,116,59,32,110,111,116,58,32,117,59,32,125] }))] (.sl L9) true:=wY_ (N:=100000) (n:=200) fol (xN_ _ xj_) (by kernel_rfl)
def R9:List (List D):=[[.v (.string { data:= #[103] }),.v (.string { data:= #[49] }),.v (.string { data:= #[109] }),.v (.string { data:= #[117] }),.v (.string { data:= #[97] }),.v (.string ByteArray.empty)],[.v (.string { data:= #[103] }),.v (.string { data:= #[50] }),.v (.string { data:= #[109] }),.v (.string { data:= #[103] }),.v (.string { data:= #[49] }),.v (.string { data:= #[109] })],[.v (.string { data:= #[103] }),.v (.string { data:= #[49] }),.v (.string { data:= #[109] }),.v (.string { data:= #[103] }),.v (.string { data:= #[50] }),.v (.string { data:= #[109] })],[.v (.string { data:= #[100] }),.v (.string { data:= #[120] }),.v (.string { data:= #[118] }),.v (.string { data:= #[103] }),.v (.string { data:= #[50] }),.v (.string { data:= #[109] })],[.v (.string { data:= #[100] }),.v (.string { data:= #[120] }),.v (.string { data:= #[111] }),.v (.string { data:= #[117] }),.v (.string { data:= #[98] }),.v (.string ByteArray.empty)],[.v (.string { data:= #[100] }),.v (.string { data:= #[120] }),.v (.string { data:= #[110,111,116] }),.v (.string { data:= #[117] }),.v (.string { data:= #[98] }),.v (.string ByteArray.empty)]]
set_option maxRecDepth 100000 in
theorem rows9:PureOK Tryz.prog 35 [.sl [[(.v (.string { data:= #[103,58,49,35,109,64,117,58,97] }))],[(.v (.string { data:= #[103,58,50,35,109,64,103,58,49,35,109] }))],[(.v (.string { data:= #[103,58,49,35,109,64,103,58,50,35,109] }))],[(.v (.string { data:= #[100,58,120,35,118,64,103,58,50,35,109] }))],[(.v (.string { data:= #[100,58,120,35,111,64,117,58,98] }))],[(.v (.string { data:= #[100,58,120,35,110,111,116,64,117,58,98] }))]]] (.sl R9) true:=wY_ (N:=100000) (n:=200) fol (xN_ _ xj_) (by kernel_rfl)
set_option maxRecDepth 100000 in
theorem chk1:PureOK Tryz.prog 13 [.sl L9,.sl R9,.ag [(.v (.string { data:= #[100] })),(.v (.string { data:= #[120] }))],(.v (.string { data:= #[99,97,110] })),.ag [(.v (.string { data:= #[117] })),(.v (.string { data:= #[97] })),(.v (.string { data:= #[] }))]] (.tu [.v (.bool true),.v (.int .i64 0)]) true:=wY_ (N:=100000) (n:=200) fol (xN_ _ xj_) (by kernel_rfl)
set_option maxRecDepth 100000 in
theorem chk2:PureOK Tryz.prog 13 [.sl L9,.sl R9,.ag [(.v (.string { data:= #[100] })),(.v (.string { data:= #[120] }))],(.v (.string { data:= #[99,97,110] })),.ag [(.v (.string { data:= #[117] })),(.v (.string { data:= #[98] })),(.v (.string { data:= #[] }))]] (.tu [.v (.bool false),.v (.int .i64 0)]) true:=wY_ (N:=100000) (n:=200) fol (xN_ _ xj_) (by kernel_rfl)
set_option maxRecDepth 100000 in
theorem chk3:PureOK Tryz.prog 13 [.sl L9,.sl R9,.ag [(.v (.string { data:= #[100] })),(.v (.string { data:= #[120] }))],(.v (.string { data:= #[110,111] })),.ag [(.v (.string ByteArray.empty)),(.v (.string ByteArray.empty)),(.v (.string ByteArray.empty))]] (.tu [.v (.bool false),.v (.int .i64 12)]) true:=wY_ (N:=100000) (n:=200) fol (xN_ _ xj_) (by kernel_rfl)
def A9:List (List D):=[[.v (.string { data:= #[100] }),.v (.string { data:= #[120] }),.v (.string { data:= #[99,97,110] })],[.v (.string { data:= #[100] }),.v (.string { data:= #[120] }),.v (.string { data:= #[118] })],[.v (.string { data:= #[103] }),.v (.string { data:= #[49] }),.v (.string { data:= #[109] })],[.v (.string { data:= #[103] }),.v (.string { data:= #[50] }),.v (.string { data:= #[109] })]]
set_option maxRecDepth 100000 in
theorem all9:PureOK Tryz.prog 36 [.sl L9,.sl R9,.ag [(.v (.string { data:= #[117] })),(.v (.string { data:= #[97] })),(.v (.string { data:= #[] }))]] (.tu [.sl A9,.v (.int .i64 0)]) true:=wY_ (N:=100000) (n:=200) fol (xN_ _ xj_) (by kernel_rfl)
set_option maxRecDepth 100000 in
theorem len9:A9.length=4:=rfl
theorem awake9:PureOK Tryz.prog 14 [] (.v (.bool true)) true:=by
 refine gd_ (tab:=tab) qh_ fol Tryz.func14 rfl (by kernel_rfl) (by kernel_rfl) (by simp[Tryz.f14]) ?_
 simp -implicitDefEqProofs only[go_sem,Nat.reduceAdd]
 refine js_ (by simp -implicitDefEqProofs only[go_sem]<;>rfl) types9 (.inr rfl) ?_
 simp -implicitDefEqProofs only[go_sem,Bool.and_self,beq_self_eq_true,Nat.reduceLT,Nat.reduceAdd,Nat.reduceLeDiff, ↓reduceIte]
 refine js_ (by simp -implicitDefEqProofs only[go_sem, ↓reduceIte]<;>rfl) rows9 (.inr rfl) ?_
 simp -implicitDefEqProofs only[go_sem,Bool.and_self,Nat.reduceEqDiff,Nat.reduceAdd,Nat.reduceLeDiff, ↓reduceIte]
 refine js_ (by simp -implicitDefEqProofs only[go_sem]<;>rfl) chk1 (.inr rfl) ?_
 simp -implicitDefEqProofs only[go_sem,Bool.and_self,Nat.reduceEqDiff,Nat.reduceAdd,Nat.reduceLeDiff, ↓reduceIte]
 refine js_ (by simp -implicitDefEqProofs only[go_sem]<;>rfl) chk2 (.inr rfl) ?_
 simp -implicitDefEqProofs only[go_sem,Bool.and_self,Nat.reduceEqDiff,Nat.reduceAdd,Nat.reduceLeDiff, ↓reduceIte]
 refine js_ (by simp -implicitDefEqProofs only[go_sem]<;>rfl) chk3 (.inr rfl) ?_
 simp -implicitDefEqProofs only[go_sem,Bool.and_self,Nat.reduceEqDiff,Nat.reduceAdd,Nat.reduceLeDiff, ↓reduceIte]
 refine js_ (by simp -implicitDefEqProofs only[go_sem]<;>rfl) all9 (.inr rfl) ?_
 simp -implicitDefEqProofs only[go_sem,Bool.and_self,beq_self_eq_true,Nat.reduceEqDiff,Nat.reduceAdd, ↓reduceIte]
 exact j9_ (by simp -implicitDefEqProofs only[go_sem, ↓reduceIte,Tryz.f14]<;>rfl) rfl (by simp[len9]) (fun _=>rfl)
def wZ_ (_n:Nat):Option Bool:=some true
theorem gw_ {n:Nat}{r:Bool}(h:wZ_ n=some r):PureOK Tryz.prog 14 [] (.v (.bool r)) true:=by
 cases h;exact awake9
def jk_ (n:Nat)(l:List GType)(rows_:List GTuple)(o:GObj)(rel:ByteArray)(s:GSub):Option (Bool × Int):=match w5_ n l with
 |some (.inr e)=>if e != 0 then some (false,e) else none
 |_=>vJ_ n l rows_ o rel s
theorem zi_ {n:Nat}{l:List GType}{rows_:List GTuple}{o:GObj}{rel:ByteArray}{s:GSub}{r:Bool × Int}(H:jk_ n l rows_ o rel s=some r):PureOK Tryz.prog 13 [D.sl (List.map eGType l),D.sl (List.map eGTuple rows_),D.ag (eGObj o),D.v (.string rel),D.ag (eGSub s)] (D.tu [D.v (.bool r.1),D.v (.int .i64 r.2)]) true:=by
 unfold jk_ at H;split at H
 ·rename_i e h
  split at H
  ·rename_i he
   cases H;exact ui_ h he
  ·cases H
 ·exact gX_ H
end Go.Proofs.YtnmkbmefohakmaaGreat.Ab
