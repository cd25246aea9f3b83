/-
 Functions, read off the code.
-/
import Derived.Test.YtnmkbmefohakmaaGreatTea
namespace Go.Proofs.YtnmkbmefohakmaaGreat.Ab
open Go.RowKit
def xq_ (n:Nat)(rows_:List GTuple)(t13:WellSchema × Int):Nat->(List GTuple × Int)->Option (List GTuple)
 |0,_=>none
 |c+1,(fit,t21)=>
  (if (decide (t21<(rows_.length:Int))) then
   (idx rows_ t21).bind fun x2=>
   (ji_ n (⟨t13.1.types,t13.1.rels,t13.1.ranks⟩:WellSchema) x2).bind fun t272=>
   (if t272 then
    (app fit [x2]).bind fun l2=>
    xq_ n rows_ t13 c (l2,(IntKind.i64.wrap (t21+1)))
   else
    xq_ n rows_ t13 c (fit,(IntKind.i64.wrap (t21+1))))
  else
   some fit)
def vP_ (n:Nat)(_:List GTuple)(t13:WellSchema × Int)(st:List GTuple)(x2:GTuple)(k:List GTuple->Option (List GTuple)):Option (List GTuple):=
 match st with
 |fit=>
  (ji_ n (⟨t13.1.types,t13.1.rels,t13.1.ranks⟩:WellSchema) x2).bind fun t272=>
  (if t272 then
   (app fit [x2]).bind fun l2=>
   k l2
  else
   k fit)
def vQ_ (_:Nat)(_:List GTuple)(_:WellSchema × Int)(st:List GTuple):Option (List GTuple):=
 match st with
 |fit=>some fit
theorem uD_ (n:Nat)(rows_:List GTuple)(t13:WellSchema × Int)(hx:rows_.length<4611686018427387904)(c:Nat)(st:List GTuple)(ix:Nat)(hi:ix<=rows_.length)(hc:rows_.length-ix<c):xq_ n rows_ t13 c (match st,(ix:Int) with |fit,ix=>(fit,ix))=xj_ (vP_ n rows_ t13) (vQ_ n rows_ t13) (rows_.drop ix) st:=
 xb_ (fun c st ix=>xq_ n rows_ t13 c (match st,ix with |fit,ix=>(fit,ix))) rows_ (vP_ n rows_ t13) (vQ_ n rows_ t13) (fun _ _ _=>rfl) hx c st ix hi hc
def wC_ (n:Nat)(l:List GType)(rows_:List GTuple):Option (SeekGraph × Int):=
 (bt_ n l).bind fun t13=>
 (if (t13.2 != 0) then
  none
 else
  (
   xq_ n rows_ t13 n ([],0):Option (List GTuple)).bind fun fit3=>
  (uC_ n fit3).bind fun t35=>
  (if (decide (fit3.length=0)) then
   some ((⟨(⟨t13.1.types,t13.1.rels,t13.1.ranks⟩:WellSchema),t35,[]⟩:SeekGraph),0)
  else
   some ((⟨(⟨t13.1.types,t13.1.rels,t13.1.ranks⟩:WellSchema),t35,fit3⟩:SeekGraph),0)))
theorem gs_ {n:Nat}{l:List GType}{rows_:List GTuple}{r:SeekGraph × Int}(H:wC_ n l rows_=some r):PureA Tryz.prog 32 [.d (D.sl (List.map eGType l)),.d (D.sl (List.map eGTuple rows_))] (D.tu [D.pt (eSeekGraph r.1) 0,D.v (.int .i64 r.2)]) false:=by
 unfold wC_ at H;refine ZPX qf_ fol (rs:= #[.tmp 4,.tmp 5]) Tryz.func32 ?_;refine zsq (ZT 1 ?_);refine Z0 ?_;refine zsq (ZT 1 ?_);obtain⟨t13,b1,H2⟩:=zbi H;refine Z0 ?_;refine ZC0 (mt_ b1) ?_;refine Z0 ?_;refine zsq (ZT 1 ?_);refine Z0 ?_;rcases zit H2 with⟨c3,H4⟩ |⟨c3,H4⟩
 ·refine Z1 c3 ?_
  cases H4
 ·refine Z1 c3 ?_
  refine zsq (ZT 1 ?_);refine Z1 c3 ?_;refine zsq (zsq ?_);refine ZT 1 ?_;refine Z1 c3 ?_;obtain⟨e_,E5,H6⟩:=zbi H4
  refine zjn (α:={ y:List GTuple // e_=y } × Nat) (fun |⟨⟨fit3,_⟩,g3⟩=>⟨upd 6 (.d (.pt [.mp (qi_ Value.string false eI t13.1.types),.mp (qi_ qc_ true eGRel t13.1.rels),.mp (qi_ qc_ false eI t13.1.ranks)] 0) true) (upd 8 (accV 0 g3 (List.map eGTuple fit3)) noFr),upd 0 (accO 6 g3 false (List.map eGTuple fit3)) noHp,1⟩) ?_ ?_
  ·refine zbk ?_
   refine zlp (α:={ q:(Nat × (List GTuple × Int)) × Nat // xq_ n rows_ t13 q.1.1 q.1.2=some e_ }) (fun |⟨⟨⟨c,⟨fit,t21⟩⟩,g⟩,_⟩=>⟨upd 6 (.d (.pt [.mp (qi_ Value.string false eI t13.1.types),.mp (qi_ qc_ true eGRel t13.1.rels),.mp (qi_ qc_ false eI t13.1.ranks)] 0) true) (upd 8 (accV 0 g (List.map eGTuple fit)) (upd 19 (.d (.sl (List.map eGTuple rows_)) true) (upd 20 (.v (.int .i64 (rows_.length:Int))) (upd 21 (.v (.int .i64 t21)) noFr)))),upd 0 (accO 6 g false (List.map eGTuple fit)) noHp,1⟩) (fun q=>q.1.1.1) ⟨((n,([],0)),0),E5⟩ ?_ ?_
   ·exact ZR []
   ·rintro⟨⟨⟨c,⟨fit,t21⟩⟩,g⟩,L7⟩
    rcases c with _ |c
    ·exact Zx L7
    ·unfold xq_ at L7
     try dsimp only at L7
     refine ZT 1 ?_;refine Z0 ?_;rcases zit L7 with⟨c20,H21⟩ |⟨c20,H21⟩
     ·obtain⟨x2,b22,H23⟩:=zbi H21
      obtain⟨h24,h25⟩:=zix b22;try simp only[Int.reduceToNat,Int.toNat_natCast] at h25
      have h26:=qn_ eGTuple h25;obtain⟨t272,b28,H29⟩:=zbi H23;refine Z1 (Y3 c20 (zno .i64 h24) h26) ?_;refine ZC0 (wB_ b28) ?_;refine Z1 (Y3 c20 (zno .i64 h24) h26) ?_;rcases zit H29 with⟨c30,H31⟩ |⟨c30,H31⟩
      ·obtain⟨l2,b32,H33⟩:=zbi H31
       obtain⟨h34,h35⟩:=jV_ b32;have h34:fit.length+1<=4294967296:=h34;have h36:List.map eGTuple fit++[[.v (.string x2.obj.type_),.v (.string x2.obj.id_),.v (.string x2.rel),.v (.string x2.sub_.type_),.v (.string x2.sub_.id_),.v (.string x2.sub_.rel)]]=List.map eGTuple l2:=jD_ eGTuple h35;have h37:fit.length+1=l2.length:=jE_ h35
       have h38:l2.length<=4294967296:=by omega
       have q39:0<l2.length:=by omega
       refine Z1 (Y2 (Y6 c20 (zno .i64 h24) h26 c30 h34 h36) (Y2 h37 h38)) ?_;rcases fit with _ |⟨q0,q1⟩
       ·try simp only[List.map_nil,accI,accN]
        exact⟨⟨((c,(l2,(IntKind.i64.wrap (t21+1)))),0),H33⟩,ZR [(0,12)],Nat.lt_succ_self _⟩
       ·try simp only[List.map_cons,accI,accN]
        exact⟨⟨((c,(l2,(IntKind.i64.wrap (t21+1)))),(g+1)),H33⟩,ZR [(0,0)],Nat.lt_succ_self _⟩
      ·refine Z1 (Y4 c20 (zno .i64 h24) h26 c30) ?_
       exact⟨⟨((c,(fit,(IntKind.i64.wrap (t21+1)))),g),H31⟩,ZR [(0,0)],Nat.lt_succ_self _⟩
     ·refine Z1 c20 ?_
      obtain rfl:=Zi H21;exact⟨⟨⟨fit,rfl⟩,g⟩,ZR [(0,0)]⟩
  ·rintro⟨⟨fit3,he48⟩,g3⟩
   obtain rfl:=he48.symm;try dsimp only at H6
   refine ZT 1 ?_;obtain⟨t35,b40,H41⟩:=zbi H6;refine Z0 ?_;refine ZA0 (mv_ b40) ?_;refine Z0 ?_;rcases zit H41 with⟨c42,H43⟩ |⟨c42,H43⟩
   ·have e44:fit3= []:=List.eq_nil_of_length_eq_zero (of_decide_eq_true c42)
    subst e44;simp only[List.map_nil,wS_,k7_];try simp only[accK,accB]
    refine Z0 ?_;obtain rfl:=Zi H43
    exact xN_ (b:=true) (v:=.tu [.pt 6 0,.v (.int .i64 0)]) (by first |(simp -implicitDefEqProofs only[go_sem,Nat.reduceEqDiff, ↓reduceIte]<;>rfl) |rfl) (ToXR.tu (PW.cons (ToXV.one (ToX.place (by rfl) (PW.cons (ToX.one (b':=true) (is:=[]) rfl (fun _=>rfl)) (PW.cons (ToX.one (b':=false) (is:=[]) rfl (fun _=>rfl)) (PW.cons (ToX.one (b':=false) (is:=[]) rfl (fun _=>rfl)) PW.nil)))) rfl) (PW.cons (ToXV.one (ToX.one (b':=false) (is:=[]) rfl (fun _=>rfl)) rfl) PW.nil))) (by intro h;first |rfl |cases h)
   ·have q45:0<fit3.length:=by have:=of_decide_eq_false c42;omega
    have h46:∀i,accK i (List.map eGTuple fit3)= [i]:=fun i=>by cases hx:fit3 with |nil=>(rw[hx] at q45;simp at q45) |cons a r=>rfl
    have h47:∀b,accB b (List.map eGTuple fit3)=b:=fun b=>by cases hx:fit3 with |nil=>(rw[hx] at q45;simp at q45) |cons a r=>rfl
    refine Z1 (Y6 c42 h46 h47 q45 (YV (f:=eGTuple) q45) (YO (f:=eGTuple) q45)) ?_;obtain rfl:=Zi H43
    exact xN_ (b:=true) (v:=.tu [.pt 6 0,.v (.int .i64 0)]) (by first |(simp -implicitDefEqProofs only[go_sem,Nat.reduceEqDiff, ↓reduceIte]<;>rfl) |rfl) (ToXR.tu (PW.cons (ToXV.one (ToX.place (by rfl) (PW.cons (ToX.one (b':=true) (is:=[]) rfl (fun _=>rfl)) (PW.cons (ToX.one (b':=false) (is:=[]) rfl (fun _=>rfl)) (PW.cons (ToX.one (b':=false) (is:=[0]) (by first |rfl |(simp -implicitDefEqProofs only[go_sem,reduceCtorEq, ↓reduceIte];done) |(simp -implicitDefEqProofs only[go_sem,Bool.false_and,Int.reduceToNat,Int.reduceLT,Int.reduceLE,Int.reduceBEq,Int.reduceBNe,Nat.reduceLT,Nat.reduceBEq,Int.reduceEq,Nat.reduceEqDiff,Nat.reduceAdd,Nat.reduceSub,Nat.reduceMul,Nat.reduceLeDiff,reduceCtorEq, ↓reduceIte,eGRel,eGObj,eGSub,eGStep,eGRef,eGTuple,eGType,eWellSchema,eWellName,eLookIndex,eLookLeft,eLookRight,eSeekGraph,c42,h46,h47,q45,xh_ (f:=eGTuple) q45,wU_ (f:=eGTuple) q45];rfl)) (fun _=>rfl)) PW.nil)))) rfl) (PW.cons (ToXV.one (ToX.one (b':=false) (is:=[]) rfl (fun _=>rfl)) rfl) PW.nil))) (by intro h;first |rfl |cases h)
def qu_ (n:Nat)(g:SeekGraph)(typ:ByteArray)(rel:ByteArray):Option Bool:=
 (qq_ n g.schema typ rel).bind fun t16=>
 some t16.2
theorem zu_ {n:Nat}{g:SeekGraph}{typ:ByteArray}{rel:ByteArray}{r:Bool}(H:qu_ n g typ rel=some r):PureOK Tryz.prog 33 [D.pt (eSeekGraph g) 0,D.v (.string typ),D.v (.string rel)] (D.v (.bool r)) true:=by
 unfold qu_ at H;refine ZP qf_ fol (rs:= #[.tmp 6]) Tryz.func33 ?_;refine ZT 1 ?_;obtain⟨t16,b1,H2⟩:=zbi H;refine Z0 ?_;refine ZC0 (qB_ b1) ?_;refine Z0 ?_;obtain rfl:=Zi H2;exact ZE0
def jz_ (_:Nat)(k2:Int)(c2:List Int):Option Int:=
 (if (decide (k2<(c2.length:Int))) then
  (idx c2 k2).bind fun x=>
  some x
 else
  some 0)
theorem j2_ {n:Nat}{k2:Int}{c2:List Int}{r:Int}(H:jz_ n k2 c2=some r):PureOK Tryz.prog 27 [D.v (.int .i64 k2),D.pt [D.sl (List.map eI c2)] 0] (D.v (.int .i64 r)) true:=by
 unfold jz_ at H;refine ZP qf_ fol (rs:= #[.tmp 3]) Tryz.func27 ?_;refine ZT 1 ?_;refine Z0 ?_;rcases zit H with⟨c1,H2⟩ |⟨c1,H2⟩
 ·obtain⟨x,b3,H4⟩:=zbi H2
  obtain⟨h5,h6⟩:=zix b3;try simp only[Int.reduceToNat,Int.toNat_natCast] at h6
  have h7:=qn_ eI h6;refine Z1 (Y3 c1 (zno .i64 h5) h7) ?_;obtain rfl:=Zi H4;exact ZE0
 ·refine Z1 c1 ?_
  obtain rfl:=Zi H2;exact ZE0
def j3_ (_:Nat)(n_:Int):Option ByteArray:=
 (idx ([{ data:= #[117] },{ data:= #[117] },{ data:= #[97,35,114] },{ data:= #[98,35,114] },{ data:= #[97,35,115] },{ data:= #[98,35,112] },{ data:= #[97] },{ data:= #[98] },{ data:= #[117] },{ data:= #[97,35,113] }]:List ByteArray) (Int.tmod (IntKind.i64.wrap (an n_ 255:Int)) 10)).bind fun x=>
 some x
theorem vD_ {n:Nat}{n_:Int}{r:ByteArray}(H:j3_ n n_=some r):PureOK Tryz.prog 28 [D.v (.int .i64 n_)] (D.v (.string r)) true:=by
 unfold j3_ at H;refine ZP qf_ fol (rs:= #[.tmp 2]) Tryz.func28 ?_;refine ZT 1 ?_;obtain⟨x,b1,H2⟩:=zbi H;obtain⟨h3,h4⟩:=zix b1;try simp only[Int.reduceToNat,Int.toNat_natCast] at h4
 have h5:=qn_ eS h4;simp only[List.map_cons,List.map_nil,eS] at h5;have h6:=vA_ h4;simp only[List.length_cons,List.length_nil,Nat.reduceAdd] at h6;refine Z1 (Y3 (zno .i64 h3) h5 h6) ?_;obtain rfl:=Zi H2;exact ZE0
def jI_ (_:Nat)(n_:Int):Option ByteArray:=
 (idx ([{ data:= #[114] },{ data:= #[115] },{ data:= #[114] },{ data:= #[115] },{ data:= #[115,45,62,114] },{ data:= #[115,45,62,112] },{ data:= #[112] },{ data:= #[113] }]:List ByteArray) (IntKind.i64.wrap (an n_ 7:Int))).bind fun x=>
 some x
theorem xx_ {n:Nat}{n_:Int}{r:ByteArray}(H:jI_ n n_=some r):PureOK Tryz.prog 29 [D.v (.int .i64 n_)] (D.v (.string r)) true:=by
 unfold jI_ at H;refine ZP qf_ fol (rs:= #[.tmp 2]) Tryz.func29 ?_;refine ZT 1 ?_;obtain⟨x,b1,H2⟩:=zbi H;obtain⟨h3,h4⟩:=zix b1;try simp only[Int.reduceToNat,Int.toNat_natCast] at h4
 have h5:=qn_ eS h4;simp only[List.map_cons,List.map_nil,eS] at h5;have h6:=vA_ h4;simp only[List.length_cons,List.length_nil,Nat.reduceAdd] at h6;refine Z1 (Y3 (zno .i64 h3) h5 h6) ?_;obtain rfl:=Zi H2;exact ZE0
def jl_ (n:Nat)(t0:List Int)(t7:Int):Nat->(ByteArray × Int)->Option (ByteArray)
 |0,_=>none
 |c+1,(t68,t93)=>
  (if (decide (t93<2)) then
   (jz_ n (IntKind.i64.wrap ((IntKind.i64.wrap (t7+1))+t93)) t0).bind fun t674=>
   (cat t68 ({ data:= #[32] })).bind fun s62=>
   (idx ([{ data:= #[112] },{ data:= #[113] }]:List ByteArray) t93).bind fun x11=>
   (cat s62 x11).bind fun s63=>
   (cat s63 ({ data:= #[32,61,32] })).bind fun s64=>
   (jI_ n t674).bind fun t784=>
   (cat s64 t784).bind fun s65=>
   (idx ([{ data:= #[32,43,32] },{ data:= #[32,38,32] },{ data:= #[32,45,32] },{ data:= #[32,43,32] }]:List ByteArray) (IntKind.i64.wrap (an (sh t674 4) 3:Int))).bind fun x12=>
   (cat s65 x12).bind fun s66=>
   (jI_ n (sh t674 8)).bind fun t904=>
   (cat s66 t904).bind fun s67=>
   (if ((IntKind.i64.wrap (an (sh t674 12) 1:Int))==1) then
    (idx ([{ data:= #[32,43,32] },{ data:= #[32,38,32] },{ data:= #[32,45,32] },{ data:= #[32,45,32,40] }]:List ByteArray) (IntKind.i64.wrap (an (sh t674 13) 3:Int))).bind fun x13=>
    (cat s67 x13).bind fun s68=>
    (jI_ n (sh t674 16)).bind fun t1074=>
    (cat s68 t1074).bind fun s69=>
    (if ((IntKind.i64.wrap (an (sh t674 13) 3:Int))==3) then
     (cat s69 ({ data:= #[32,38,32] })).bind fun s70=>
     (jI_ n (sh t674 20)).bind fun t1184=>
     (cat s70 t1184).bind fun s71=>
     (cat s71 ({ data:= #[41] })).bind fun s72=>
     (cat s72 ({ data:= #[59] })).bind fun s73=>
     jl_ n t0 t7 c (s73,(IntKind.i64.wrap (t93+1)))
    else
     (cat s69 ({ data:= #[59] })).bind fun s74=>
     jl_ n t0 t7 c (s74,(IntKind.i64.wrap (t93+1))))
   else
    (cat s67 ({ data:= #[59] })).bind fun s75=>
    jl_ n t0 t7 c (s75,(IntKind.i64.wrap (t93+1))))
  else
   some t68)
def jJ_ (n:Nat)(t0:List Int):Nat->(ByteArray × Int × Int)->Option (ByteArray)
 |0,_=>none
 |c+1,(t65,t7,t8)=>
  (if (decide (t8<2)) then
   (cat t65 ({ data:= #[116,121,112,101,32] })).bind fun s39=>
   (idx ([{ data:= #[97] },{ data:= #[98] }]:List ByteArray) t8).bind fun x7=>
   (cat s39 x7).bind fun s40=>
   (cat s40 ({ data:= #[32,123,32,114,58,32] })).bind fun s41=>
   (jz_ n t7 t0).bind fun t272=>
   (j3_ n t272).bind fun t282=>
   (cat s41 t282).bind fun s42=>
   (jz_ n t7 t0).bind fun t322=>
   (
    (if ((IntKind.i64.wrap (an (sh t322 8) 1:Int))==1) then
     (cat s42 ({ data:= #[32,124,32] })).bind fun s43=>
     (jz_ n t7 t0).bind fun t412=>
     (j3_ n (sh t412 9)).bind fun t432=>
     (cat s43 t432).bind fun s44=>
     some s44
    else
     some s42):Option (ByteArray)).bind fun t66=>
   (cat t66 ({ data:= #[59,32,115,58,32] })).bind fun s45=>
   (jz_ n t7 t0).bind fun t502=>
   (idx ([{ data:= #[97] },{ data:= #[98] },{ data:= #[97,32,124,32,98] },{ data:= #[117,32,124,32,97] }]:List ByteArray) (Int.tmod (IntKind.i64.wrap (an (sh t502 20) 255:Int)) 4)).bind fun x8=>
   (cat s45 x8).bind fun s46=>
   (cat s46 ({ data:= #[59] })).bind fun s47=>
   (
    jl_ n t0 t7 n (s47,0):Option (ByteArray)).bind fun t610=>
   (cat t610 ({ data:= #[32,125,10] })).bind fun s76=>
   jJ_ n t0 c (s76,(IntKind.i64.wrap (t7+3)),(IntKind.i64.wrap (t8+1)))
  else
   some t65)
def vE_ (n:Nat)(t0:List Int):Option ByteArray:=
 (
  jJ_ n t0 n ({ data:= #[116,121,112,101,32,117,10] },0,0):Option (ByteArray)).bind fun t612=>
 some t612
set_option maxHeartbeats 8000000 in
theorem dj_ {n:Nat}{t0:List Int}{r:ByteArray}(H:vE_ n t0=some r):PureOK Tryz.prog 9 [D.sl (List.map eI t0)] (D.v (.string r)) true:=by
 unfold vE_ at H;refine ZP qf_ fol (rs:= #[.tmp 2]) Tryz.func9 ?_;refine zsq (ZT 1 ?_);refine Z0 ?_;refine zsq (ZT 1 ?_);refine Z0 ?_;refine zsq (ZT 1 ?_);refine Z0 ?_;refine zsq (ZT 1 ?_);refine Z0 ?_;refine zsq (ZT 1 ?_);refine Z0 ?_;refine zsq (ZT 1 ?_);refine Z0 ?_;refine zsq (zsq ?_);refine ZT 1 ?_;refine Z0 ?_;obtain⟨e_,E1,H2⟩:=zbi H
 refine zjn (α:={ y:ByteArray // e_=y }) (fun |⟨t612,_⟩=>⟨upd 6 (.v (.string t612)) noFr,noHp,0⟩) ?_ ?_
 ·refine zbk ?_
  refine zlp (α:={ q:Nat × (ByteArray × Int × Int) // jJ_ n t0 q.1 q.2=some e_ }) (fun |⟨⟨c,⟨t65,t7,t8⟩⟩,_⟩=>⟨upd 3 (.fn 27 [.pt 0 0]) (upd 4 (.fn 28 []) (upd 5 (.fn 29 []) (upd 6 (.v (.string t65)) (upd 7 (.v (.int .i64 t7)) (upd 8 (.v (.int .i64 t8)) noFr))))),upd 0 (some (.bx [.d (.sl (List.map eI t0)) true])) noHp,1⟩) (fun q=>q.1.1) ⟨(n,({ data:= #[116,121,112,101,32,117,10] },0,0)),E1⟩ ?_ ?_
  ·exact ZR [(0,0)]
  ·rintro⟨⟨c,⟨t65,t7,t8⟩⟩,L3⟩
   rcases c with _ |c
   ·exact Zx L3
   ·unfold jJ_ at L3
    try dsimp only at L3
    refine zsq (ZT 1 ?_);refine Z0 ?_;rcases zit L3 with⟨c265,H266⟩ |⟨c265,H266⟩
    ·refine Z1 c265 ?_
     refine zsq (zbk ?_);refine zsq (ZT 1 ?_);obtain⟨s39,b267,H268⟩:=zbi H266;obtain⟨h269,h270⟩:=zct b267;have h271:t65.size+5<=maxLen:=h269;obtain⟨x7,b272,H273⟩:=zbi H268;obtain⟨h274,h275⟩:=zix b272;try simp only[Int.reduceToNat,Int.toNat_natCast] at h275
     have h276:=qn_ eS h275;simp only[List.map_cons,List.map_nil,eS] at h276;have h277:=vA_ h275;simp only[List.length_cons,List.length_nil,Nat.reduceAdd] at h277;obtain⟨s40,b278,H279⟩:=zbi H273;obtain⟨h280,h281⟩:=zct b278;obtain⟨s41,b282,H283⟩:=zbi H279;obtain⟨h284,h285⟩:=zct b282;have h286:s40.size+6<=maxLen:=h284;obtain⟨t272,b287,H288⟩:=zbi H283
     refine Z1 (Y2 (Y6 c265 h269 h270 h271 (zno .i64 h274) h276) (Y6 h277 h280 h281 h284 h285 h286)) ?_
     refine ve_ [0] (by intro hp1 h1;have h289:=h1 0 (by simp);(try simp -implicitDefEqProofs only[go_sem,reduceCtorEq, ↓reduceIte] at h289);first |(simp -implicitDefEqProofs only[go_sem,h289];done) |(simp -implicitDefEqProofs only[go_sem,h289];rfl)) (PureA.of_pure (j2_ b287)) (by first |exact .inr rfl |exact .inl rfl) ?_
     obtain⟨t282,b290,H291⟩:=zbi H288;refine Z1 (Y2 (Y6 c265 h269 h270 h271 (zno .i64 h274) h276) (Y6 h277 h280 h281 h284 h285 h286)) ?_;refine ZD0 (vD_ b290) ?_;obtain⟨s42,b292,H293⟩:=zbi H291;obtain⟨h294,h295⟩:=zct b292;refine Z1 (Y3 (Y6 c265 h269 h270 h271 (zno .i64 h274) h276) (Y6 h277 h280 h281 h284 h285 h286) (Y2 h294 h295)) ?_;refine qj_ (by rfl) ?_
     refine Z1 (Y3 (Y6 c265 h269 h270 h271 (zno .i64 h274) h276) (Y6 h277 h280 h281 h284 h285 h286) (Y2 h294 h295)) ?_;refine zsq (zsq ?_);refine ZT 1 ?_;obtain⟨t322,b296,H297⟩:=zbi H293;refine Z1 (Y3 (Y6 c265 h269 h270 h271 (zno .i64 h274) h276) (Y6 h277 h280 h281 h284 h285 h286) (Y2 h294 h295)) ?_
     refine ZA1 (Y3 (Y6 c265 h269 h270 h271 (zno .i64 h274) h276) (Y6 h277 h280 h281 h284 h285 h286) (Y2 h294 h295)) (PureA.of_pure (j2_ b296)) ?_;refine Z1 (Y3 (Y6 c265 h269 h270 h271 (zno .i64 h274) h276) (Y6 h277 h280 h281 h284 h285 h286) (Y2 h294 h295)) ?_;obtain⟨e_4,E298,H299⟩:=zbi H297
     refine zjn (α:={ y:ByteArray // e_4=y }) (fun |⟨t66,_⟩=>⟨upd 3 (.fn 27 [.pt 0 0]) (upd 4 (.fn 28 []) (upd 5 (.fn 29 []) (upd 6 (.v (.string t66)) (upd 7 (.v (.int .i64 t7)) (upd 8 (.v (.int .i64 t8)) noFr))))),upd 0 (some (.bx [.d (.sl (List.map eI t0)) true])) noHp,1⟩) ?_ ?_
     ·refine ZT 1 ?_
      refine Z0 ?_;rcases zit E298 with⟨c300,H301⟩ |⟨c300,H301⟩
      ·obtain⟨s43,b302,H303⟩:=zbi H301
       obtain⟨h304,h305⟩:=zct b302;have h306:s42.size+3<=maxLen:=h304;obtain⟨t412,b307,H308⟩:=zbi H303;refine Z1 (Y4 c300 h304 h305 h306) ?_;refine ZA1 (Y4 c300 h304 h305 h306) (PureA.of_pure (j2_ b307)) ?_;obtain⟨t432,b309,H310⟩:=zbi H308;refine Z1 (Y4 c300 h304 h305 h306) ?_;refine ZC0 (vD_ b309) ?_;obtain⟨s44,b311,H312⟩:=zbi H310;obtain⟨h313,h314⟩:=zct b311
       refine Z1 (Y6 c300 h304 h305 h306 h313 h314) ?_;obtain rfl:=Zi H312;exact⟨⟨s44,rfl⟩,ZR [(0,0)]⟩
      ·refine Z1 c300 ?_
       obtain rfl:=Zi H301;exact⟨⟨s42,rfl⟩,ZR [(0,0)]⟩
     ·rintro⟨t66,he533⟩
      obtain rfl:=he533.symm;try dsimp only at H299
      refine zsq (ZT 1 ?_);obtain⟨s45,b315,H316⟩:=zbi H299;obtain⟨h317,h318⟩:=zct b315;have h319:t66.size+5<=maxLen:=h317;obtain⟨t502,b320,H321⟩:=zbi H316;refine Z1 (Y3 h317 h318 h319) ?_;refine ZA1 (Y3 h317 h318 h319) (PureA.of_pure (j2_ b320)) ?_;obtain⟨x8,b322,H323⟩:=zbi H321;obtain⟨h324,h325⟩:=zix b322
      try simp only[Int.reduceToNat,Int.toNat_natCast] at h325
      have h326:=qn_ eS h325;simp only[List.map_cons,List.map_nil,eS] at h326;have h327:=vA_ h325;simp only[List.length_cons,List.length_nil,Nat.reduceAdd] at h327;obtain⟨s46,b328,H329⟩:=zbi H323;obtain⟨h330,h331⟩:=zct b328;obtain⟨s47,b332,H333⟩:=zbi H329;obtain⟨h334,h335⟩:=zct b332;have h336:s46.size+1<=maxLen:=h334
      refine Z1 (Y2 (Y6 h317 h318 h319 (zno .i64 h324) h326 h327) (Y5 h330 h331 h334 h335 h336)) ?_;refine zsq (zsq ?_);refine ZT 1 ?_;refine Z1 (Y2 (Y6 h317 h318 h319 (zno .i64 h324) h326 h327) (Y5 h330 h331 h334 h335 h336)) ?_;obtain⟨e_5,E337,H338⟩:=zbi H333
      refine zjn (α:={ y:ByteArray // e_5=y }) (fun |⟨t610,_⟩=>⟨upd 3 (.fn 27 [.pt 0 0]) (upd 4 (.fn 28 []) (upd 5 (.fn 29 []) (upd 6 (.v (.string t610)) (upd 7 (.v (.int .i64 t7)) (upd 8 (.v (.int .i64 t8)) noFr))))),upd 0 (some (.bx [.d (.sl (List.map eI t0)) true])) noHp,1⟩) ?_ ?_
      ·refine zbk ?_
       refine zlp (α:={ q:Nat × (ByteArray × Int) // jl_ n t0 t7 q.1 q.2=some e_5 }) (fun |⟨⟨c,⟨t68,t93⟩⟩,_⟩=>⟨upd 3 (.fn 27 [.pt 0 0]) (upd 4 (.fn 28 []) (upd 5 (.fn 29 []) (upd 6 (.v (.string t68)) (upd 7 (.v (.int .i64 t7)) (upd 8 (.v (.int .i64 t8)) (upd 9 (.v (.int .i64 t93)) noFr)))))),upd 0 (some (.bx [.d (.sl (List.map eI t0)) true])) noHp,1⟩) (fun q=>q.1.1) ⟨(n,(s47,0)),E337⟩ ?_ ?_
       ·exact ZR [(0,0)]
       ·rintro⟨⟨c,⟨t68,t93⟩⟩,L339⟩
        rcases c with _ |c
        ·exact Zx L339
        ·unfold jl_ at L339
         try dsimp only at L339
         refine ZT 1 ?_;refine Z0 ?_;rcases zit L339 with⟨c430,H431⟩ |⟨c430,H431⟩
         ·obtain⟨t674,b432,H433⟩:=zbi H431
          refine Z1 c430 ?_;refine ZA1 c430 (PureA.of_pure (j2_ b432)) ?_;obtain⟨s62,b434,H435⟩:=zbi H433;obtain⟨h436,h437⟩:=zct b434;have h438:t68.size+1<=maxLen:=h436;obtain⟨x11,b439,H440⟩:=zbi H435;obtain⟨h441,h442⟩:=zix b439;try simp only[Int.reduceToNat,Int.toNat_natCast] at h442
          have h443:=qn_ eS h442;simp only[List.map_cons,List.map_nil,eS] at h443;have h444:=vA_ h442;simp only[List.length_cons,List.length_nil,Nat.reduceAdd] at h444;obtain⟨s63,b445,H446⟩:=zbi H440;obtain⟨h447,h448⟩:=zct b445;obtain⟨s64,b449,H450⟩:=zbi H446;obtain⟨h451,h452⟩:=zct b449;have h453:s63.size+3<=maxLen:=h451
          obtain⟨t784,b454,H455⟩:=zbi H450;refine Z1 (Y2 (Y6 c430 h436 h437 h438 (zno .i64 h441) h443) (Y6 h444 h447 h448 h451 h452 h453)) ?_;refine ZD0 (xx_ b454) ?_;obtain⟨s65,b456,H457⟩:=zbi H455;obtain⟨h458,h459⟩:=zct b456;obtain⟨x12,b460,H461⟩:=zbi H457;obtain⟨h462,h463⟩:=zix b460;try simp only[Int.reduceToNat,Int.toNat_natCast] at h463
          have h464:=qn_ eS h463;simp only[List.map_cons,List.map_nil,eS] at h464;have h465:=vA_ h463;simp only[List.length_cons,List.length_nil,Nat.reduceAdd] at h465;obtain⟨s66,b466,H467⟩:=zbi H461;obtain⟨h468,h469⟩:=zct b466;obtain⟨t904,b470,H471⟩:=zbi H467
          refine Z1 (Y4 (Y6 c430 h436 h437 h438 (zno .i64 h441) h443) (Y6 h444 h447 h448 h451 h452 h453) (Y6 h458 h459 (zno .i64 h462) h464 h465 h468) h469) ?_;refine ZD0 (xx_ b470) ?_;obtain⟨s67,b472,H473⟩:=zbi H471;obtain⟨h474,h475⟩:=zct b472
          refine Z1 (Y4 (Y6 c430 h436 h437 h438 (zno .i64 h441) h443) (Y6 h444 h447 h448 h451 h452 h453) (Y6 h458 h459 (zno .i64 h462) h464 h465 h468) (Y3 h469 h474 h475)) ?_;refine qj_ (by rfl) ?_;refine Z1 (Y4 (Y6 c430 h436 h437 h438 (zno .i64 h441) h443) (Y6 h444 h447 h448 h451 h452 h453) (Y6 h458 h459 (zno .i64 h462) h464 h465 h468) (Y3 h469 h474 h475)) ?_
          rcases zit H473 with⟨c476,H477⟩ |⟨c476,H477⟩
          ·obtain⟨x13,b478,H479⟩:=zbi H477
           obtain⟨h480,h481⟩:=zix b478;try simp only[Int.reduceToNat,Int.toNat_natCast] at h481
           have h482:=qn_ eS h481;simp only[List.map_cons,List.map_nil,eS] at h482;have h483:=vA_ h481;simp only[List.length_cons,List.length_nil,Nat.reduceAdd] at h483;obtain⟨s68,b484,H485⟩:=zbi H479;obtain⟨h486,h487⟩:=zct b484;obtain⟨t1074,b488,H489⟩:=zbi H485
           refine Z1 (Y5 (Y6 c430 h436 h437 h438 (zno .i64 h441) h443) (Y6 h444 h447 h448 h451 h452 h453) (Y6 h458 h459 (zno .i64 h462) h464 h465 h468) (Y6 h469 h474 h475 c476 (zno .i64 h480) h482) (Y3 h483 h486 h487)) ?_;refine ZD0 (xx_ b488) ?_;obtain⟨s69,b490,H491⟩:=zbi H489;obtain⟨h492,h493⟩:=zct b490
           refine Z1 (Y5 (Y6 c430 h436 h437 h438 (zno .i64 h441) h443) (Y6 h444 h447 h448 h451 h452 h453) (Y6 h458 h459 (zno .i64 h462) h464 h465 h468) (Y6 h469 h474 h475 c476 (zno .i64 h480) h482) (Y5 h483 h486 h487 h492 h493)) ?_;refine qj_ (by rfl) ?_
           refine Z1 (Y5 (Y6 c430 h436 h437 h438 (zno .i64 h441) h443) (Y6 h444 h447 h448 h451 h452 h453) (Y6 h458 h459 (zno .i64 h462) h464 h465 h468) (Y6 h469 h474 h475 c476 (zno .i64 h480) h482) (Y5 h483 h486 h487 h492 h493)) ?_;rcases zit H491 with⟨c494,H495⟩ |⟨c494,H495⟩
           ·obtain⟨s70,b496,H497⟩:=zbi H495
            obtain⟨h498,h499⟩:=zct b496;have h500:s69.size+3<=maxLen:=h498;obtain⟨t1184,b501,H502⟩:=zbi H497;refine Z1 (Y6 (Y6 c430 h436 h437 h438 (zno .i64 h441) h443) (Y6 h444 h447 h448 h451 h452 h453) (Y6 h458 h459 (zno .i64 h462) h464 h465 h468) (Y6 h469 h474 h475 c476 (zno .i64 h480) h482) (Y6 h483 h486 h487 h492 h493 c494) (Y3 h498 h499 h500)) ?_
            refine ZC0 (xx_ b501) ?_;obtain⟨s71,b503,H504⟩:=zbi H502;obtain⟨h505,h506⟩:=zct b503;obtain⟨s72,b507,H508⟩:=zbi H504;obtain⟨h509,h510⟩:=zct b507;have h511:s71.size+1<=maxLen:=h509;obtain⟨s73,b512,H513⟩:=zbi H508;obtain⟨h514,h515⟩:=zct b512;have h516:s72.size+1<=maxLen:=h514
            refine Z1 (Y2 (Y6 (Y6 c430 h436 h437 h438 (zno .i64 h441) h443) (Y6 h444 h447 h448 h451 h452 h453) (Y6 h458 h459 (zno .i64 h462) h464 h465 h468) (Y6 h469 h474 h475 c476 (zno .i64 h480) h482) (Y6 h483 h486 h487 h492 h493 c494) (Y6 h498 h499 h500 h505 h506 h509)) (Y5 h510 h511 h514 h515 h516)) ?_
            exact⟨⟨(c,(s73,(IntKind.i64.wrap (t93+1)))),H513⟩,ZR [(0,0)],Nat.lt_succ_self _⟩
           ·obtain⟨s74,b517,H518⟩:=zbi H495
            obtain⟨h519,h520⟩:=zct b517;have h521:s69.size+1<=maxLen:=h519;refine Z1 (Y6 (Y6 c430 h436 h437 h438 (zno .i64 h441) h443) (Y6 h444 h447 h448 h451 h452 h453) (Y6 h458 h459 (zno .i64 h462) h464 h465 h468) (Y6 h469 h474 h475 c476 (zno .i64 h480) h482) (Y6 h483 h486 h487 h492 h493 c494) (Y3 h519 h520 h521)) ?_
            exact⟨⟨(c,(s74,(IntKind.i64.wrap (t93+1)))),H518⟩,ZR [(0,0)],Nat.lt_succ_self _⟩
          ·obtain⟨s75,b522,H523⟩:=zbi H477
           obtain⟨h524,h525⟩:=zct b522;have h526:s67.size+1<=maxLen:=h524;refine Z1 (Y5 (Y6 c430 h436 h437 h438 (zno .i64 h441) h443) (Y6 h444 h447 h448 h451 h452 h453) (Y6 h458 h459 (zno .i64 h462) h464 h465 h468) (Y6 h469 h474 h475 c476 h524 h525) h526) ?_;exact⟨⟨(c,(s75,(IntKind.i64.wrap (t93+1)))),H523⟩,ZR [(0,0)],Nat.lt_succ_self _⟩
         ·refine Z1 c430 ?_
          obtain rfl:=Zi H431;exact⟨⟨t68,rfl⟩,ZR [(0,0)]⟩
      ·rintro⟨t610,he532⟩
       obtain rfl:=he532.symm;try dsimp only at H338
       refine ZT 3 ?_;obtain⟨s76,b527,H528⟩:=zbi H338;obtain⟨h529,h530⟩:=zct b527;have h531:t610.size+3<=maxLen:=h529;refine Z1 (Y3 h529 h530 h531) ?_;exact⟨⟨(c,(s76,(IntKind.i64.wrap (t7+3)),(IntKind.i64.wrap (t8+1)))),H528⟩,ZR [(0,0)],Nat.lt_succ_self _⟩
    ·refine Z1 c265 ?_
     obtain rfl:=Zi H266;exact⟨⟨t65,rfl⟩,ZR []⟩
 ·rintro⟨t612,he534⟩
  obtain rfl:=he534.symm;try dsimp only at H2
  refine ZT 1 ?_;refine Z0 ?_;obtain rfl:=Zi H2;exact ZE0
def kr_ (_:Nat)(n_:Int):Option ByteArray:=
 (idx ([{ data:= #[97] },{ data:= #[98] },{ data:= #[99] },{ data:= #[100] },{ data:= #[97,98] },{ data:= #[98,45,49] },{ data:= #[120,46,121] },{ data:= #[48] }]:List ByteArray) (IntKind.i64.wrap (an n_ 7:Int))).bind fun x=>
 some x
theorem gg_ {n:Nat}{n_:Int}{r:ByteArray}(H:kr_ n n_=some r):PureOK Tryz.prog 59 [D.v (.int .i64 n_)] (D.v (.string r)) true:=by
 unfold kr_ at H;refine ZP qf_ fol (rs:= #[.tmp 2]) Tryz.func59 ?_;refine ZT 1 ?_;obtain⟨x,b1,H2⟩:=zbi H;obtain⟨h3,h4⟩:=zix b1;try simp only[Int.reduceToNat,Int.toNat_natCast] at h4
 have h5:=qn_ eS h4;simp only[List.map_cons,List.map_nil,eS] at h5;have h6:=vA_ h4;simp only[List.length_cons,List.length_nil,Nat.reduceAdd] at h6;refine Z1 (Y3 (zno .i64 h3) h5 h6) ?_;obtain rfl:=Zi H2;exact ZE0
def z5_ (n:Nat)(n_:Int):Option GTuple:=
 (idx ([{ data:= #[97] },{ data:= #[98] }]:List ByteArray) (IntKind.i64.wrap (an n_ 1:Int))).bind fun x=>
 (kr_ n (sh n_ 1)).bind fun t11=>
 (idx ([{ data:= #[114] },{ data:= #[115] }]:List ByteArray) (IntKind.i64.wrap (an (sh n_ 4) 1:Int))).bind fun x2=>
 (idx ([{ data:= #[117] },{ data:= #[97] },{ data:= #[98] }]:List ByteArray) (Int.tmod (IntKind.i64.wrap (an (sh n_ 5) 255:Int)) 3)).bind fun x3=>
 (kr_ n (sh n_ 13)).bind fun t28=>
 (if ((IntKind.i64.wrap (an (sh n_ 16) 3:Int))==0) then
  (idx ([{ data:= #[114] },{ data:= #[115] }]:List ByteArray) (IntKind.i64.wrap (an (sh n_ 18) 1:Int))).bind fun x4=>
  some (⟨(⟨x,t11⟩:GObj),x2,(⟨x3,t28,x4⟩:GSub)⟩:GTuple)
 else
  some (⟨(⟨x,t11⟩:GObj),x2,(⟨x3,t28,ByteArray.empty⟩:GSub)⟩:GTuple))
theorem kG_ {n:Nat}{n_:Int}{r:GTuple}(H:z5_ n n_=some r):PureOK Tryz.prog 30 [D.v (.int .i64 n_)] (D.ag (eGTuple r)) true:=by
 unfold z5_ at H;refine ZP qf_ fol (rs:= #[.cell 2 35]) Tryz.func30 ?_;refine ZT 1 ?_;obtain⟨x,b1,H2⟩:=zbi H;obtain⟨h3,h4⟩:=zix b1;try simp only[Int.reduceToNat,Int.toNat_natCast] at h4
 have h5:=qn_ eS h4;simp only[List.map_cons,List.map_nil,eS] at h5;have h6:=vA_ h4;simp only[List.length_cons,List.length_nil,Nat.reduceAdd] at h6;obtain⟨t11,b7,H8⟩:=zbi H2;refine Z1 (Y3 (zno .i64 h3) h5 h6) ?_;refine ZD0 (gg_ b7) ?_;obtain⟨x2,b9,H10⟩:=zbi H8;obtain⟨h11,h12⟩:=zix b9;try simp only[Int.reduceToNat,Int.toNat_natCast] at h12
 have h13:=qn_ eS h12;simp only[List.map_cons,List.map_nil,eS] at h13;have h14:=vA_ h12;simp only[List.length_cons,List.length_nil,Nat.reduceAdd] at h14;obtain⟨x3,b15,H16⟩:=zbi H10;obtain⟨h17,h18⟩:=zix b15;try simp only[Int.reduceToNat,Int.toNat_natCast] at h18
 have h19:=qn_ eS h18;simp only[List.map_cons,List.map_nil,eS] at h19;have h20:=vA_ h18;simp only[List.length_cons,List.length_nil,Nat.reduceAdd] at h20;obtain⟨t28,b21,H22⟩:=zbi H16;refine Z1 (Y2 (Y6 (zno .i64 h3) h5 h6 (zno .i64 h11) h13 h14) (Y3 (zno .i64 h17) h19 h20)) ?_;refine ZD0 (gg_ b21) ?_
 refine Z1 (Y2 (Y6 (zno .i64 h3) h5 h6 (zno .i64 h11) h13 h14) (Y3 (zno .i64 h17) h19 h20)) ?_;refine qj_ (by kernel_rfl) ?_;refine Z1 (Y2 (Y6 (zno .i64 h3) h5 h6 (zno .i64 h11) h13 h14) (Y3 (zno .i64 h17) h19 h20)) ?_;rcases zit H22 with⟨c23,H24⟩ |⟨c23,H24⟩
 ·obtain⟨x4,b25,H26⟩:=zbi H24
  obtain⟨h27,h28⟩:=zix b25;try simp only[Int.reduceToNat,Int.toNat_natCast] at h28
  have h29:=qn_ eS h28;simp only[List.map_cons,List.map_nil,eS] at h29;have h30:=vA_ h28;simp only[List.length_cons,List.length_nil,Nat.reduceAdd] at h30;refine Z1 (Y3 (Y6 (zno .i64 h3) h5 h6 (zno .i64 h11) h13 h14) (Y6 (zno .i64 h17) h19 h20 c23 (zno .i64 h27) h29) h30) ?_;obtain rfl:=Zi H26;exact ZE0
 ·refine Z1 (Y2 (Y6 (zno .i64 h3) h5 h6 (zno .i64 h11) h13 h14) (Y4 (zno .i64 h17) h19 h20 c23)) ?_
  obtain rfl:=Zi H24;exact ZE0
def jN_ (n:Nat)(l:List Int):Nat->(List GTuple × Int)->Option (List GTuple)
 |0,_=>none
 |c+1,(out,i)=>
  (
   (if (decide (i<(l.length:Int))) then
    some (decide (i<80))
   else
    some false):Option (Bool)).bind fun t122=>
  (if t122 then
   (idx l i).bind fun x2=>
   (z5_ n x2).bind fun t202=>
   (app out [t202]).bind fun l2=>
   jN_ n l c (l2,(IntKind.i64.wrap (i+1)))
  else
   some out)
def z6_ (n:Nat)(l:List Int):Option (List GTuple):=
 (
  jN_ n l n ([],0):Option (List GTuple)).bind fun out3=>
 some out3
theorem g8_ {n:Nat}{l:List Int}{r:List GTuple}(H:z6_ n l=some r):PureOK Tryz.prog 10 [D.sl (List.map eI l)] (D.sl (List.map eGTuple r)) true:=by
 unfold z6_ at H;refine ZP qf_ fol (rs:= #[.tmp 2]) Tryz.func10 ?_;refine zsq (ZT 1 ?_);refine Z0 ?_;refine zsq (ZT 1 ?_);refine Z0 ?_;refine zsq (zsq ?_);refine ZT 1 ?_;refine Z0 ?_;obtain⟨e_,E1,H2⟩:=zbi H
 refine zjn (α:={ y:List GTuple // e_=y } × Nat) (fun |⟨⟨out3,_⟩,g4⟩=>⟨upd 3 (accV 0 g4 (List.map eGTuple out3)) noFr,upd 0 (accO 6 g4 false (List.map eGTuple out3)) noHp,1⟩) ?_ ?_
 ·refine zbk ?_
  refine zlp (α:={ q:(Nat × (List GTuple × Int)) × Nat // jN_ n l q.1.1 q.1.2=some e_ }) (fun |⟨⟨⟨c,⟨out,i⟩⟩,g⟩,_⟩=>⟨upd 0 (.d (.sl (List.map eI l)) true) (upd 3 (accV 0 g (List.map eGTuple out)) (upd 4 (.v (.int .i64 i)) noFr)),upd 0 (accO 6 g false (List.map eGTuple out)) noHp,1⟩) (fun q=>q.1.1.1) ⟨((n,([],0)),0),E1⟩ ?_ ?_
  ·exact ZR []
  ·rintro⟨⟨⟨c,⟨out,i⟩⟩,g⟩,L3⟩
   rcases c with _ |c
   ·exact Zx L3
   ·unfold jN_ at L3
    try dsimp only at L3
    refine zsq (zsq ?_);obtain⟨e_3,E19,H20⟩:=zbi L3;refine zjn (α:={ y:Bool // e_3=y } × Nat) (fun |⟨⟨t122,_⟩,g2⟩=>⟨upd 0 (.d (.sl (List.map eI l)) true) (upd 3 (accV 0 g2 (List.map eGTuple out)) (upd 4 (.v (.int .i64 i)) (upd 12 (.v (.bool t122)) noFr))),upd 0 (accO 6 g2 false (List.map eGTuple out)) noHp,1⟩) ?_ ?_
    ·refine ZT 1 ?_
     refine Z0 ?_;rcases zit E19 with⟨c21,H22⟩ |⟨c21,H22⟩
     ·refine Z1 c21 ?_
      obtain rfl:=Zi H22;exact⟨⟨⟨(decide (i<80)),rfl⟩,g⟩,ZR [(0,0)]⟩
     ·refine Z1 c21 ?_
      obtain rfl:=Zi H22;exact⟨⟨⟨false,rfl⟩,g⟩,ZR [(0,0)]⟩
    ·rintro⟨⟨t122,he41⟩,g2⟩
     obtain rfl:=he41.symm;try dsimp only at H20
     refine ZT 2 ?_;refine Z0 ?_;rcases zit H20 with⟨c23,H24⟩ |⟨c23,H24⟩
     ·obtain⟨x2,b25,H26⟩:=zbi H24
      obtain⟨h27,h28⟩:=zix b25;try simp only[Int.reduceToNat,Int.toNat_natCast] at h28
      have h29:=qn_ eI h28;obtain⟨t202,b31,H32⟩:=zbi H26;refine Z1 (Y3 c23 (zno .i64 h27) h29) ?_;refine ZC0 (kG_ b31) ?_;obtain⟨l2,b33,H34⟩:=zbi H32;obtain⟨h35,h36⟩:=jV_ b33;have h35:out.length+1<=4294967296:=h35
      have h37:List.map eGTuple out++[[.v (.string t202.obj.type_),.v (.string t202.obj.id_),.v (.string t202.rel),.v (.string t202.sub_.type_),.v (.string t202.sub_.id_),.v (.string t202.sub_.rel)]]=List.map eGTuple l2:=jD_ eGTuple h36;have h38:out.length+1=l2.length:=jE_ h36;have h39:l2.length<=4294967296:=by omega
      have q40:0<l2.length:=by omega
      refine Z1 (Y2 (Y6 c23 (zno .i64 h27) h29 h35 h37 h38) h39) ?_;rcases out with _ |⟨q0,q1⟩
      ·try simp only[List.map_nil,accI,accN]
       exact⟨⟨((c,(l2,(IntKind.i64.wrap (i+1)))),0),H34⟩,ZR [(0,8)],Nat.lt_succ_self _⟩
      ·try simp only[List.map_cons,accI,accN]
       exact⟨⟨((c,(l2,(IntKind.i64.wrap (i+1)))),(g2+1)),H34⟩,ZR [(0,0)],Nat.lt_succ_self _⟩
     ·refine Z1 c23 ?_
      obtain rfl:=Zi H24;exact⟨⟨⟨out,rfl⟩,g2⟩,ZR [(0,0)]⟩
 ·rintro⟨⟨out3,he42⟩,g4⟩
  obtain rfl:=he42.symm;try dsimp only at H2
  refine ZT 1 ?_;refine Z0 ?_;obtain rfl:=Zi H2;exact ZE0
def z7_ (n:Nat)(n_:Int):Option (GObj × ByteArray × GSub):=
 (z5_ n n_).bind fun t7=>
 (idx ([{ data:= #[114] },{ data:= #[115] },{ data:= #[112] },{ data:= #[113] },{ data:= #[112] },{ data:= #[113] },{ data:= #[122] },{ data:= #[112] }]:List ByteArray) (IntKind.i64.wrap (an (sh n_ 24) 7:Int))).bind fun x=>
 some (t7.obj,x,(⟨t7.sub_.type_,t7.sub_.id_,{ data:= #[] }⟩:GSub))
theorem g9_ {n:Nat}{n_:Int}{r:GObj × ByteArray × GSub}(H:z7_ n n_=some r):PureOK Tryz.prog 11 [D.v (.int .i64 n_)] (D.tu [D.ag (eGObj r.1),D.v (.string r.2.1),D.ag (eGSub r.2.2)]) true:=by
 unfold z7_ at H;refine ZP qf_ fol (rs:= #[.cell 2 29,.tmp 3,.cell 4 31]) Tryz.func11 ?_;refine ZT 1 ?_;obtain⟨t7,b1,H2⟩:=zbi H;refine Z0 ?_;refine ZC0 (kG_ b1) ?_;obtain⟨x,b3,H4⟩:=zbi H2;obtain⟨h5,h6⟩:=zix b3;try simp only[Int.reduceToNat,Int.toNat_natCast] at h6
 have h7:=qn_ eS h6;simp only[List.map_cons,List.map_nil,eS] at h7;have h8:=vA_ h6;simp only[List.length_cons,List.length_nil,Nat.reduceAdd] at h8;refine Z1 (Y3 (zno .i64 h5) h7 h8) ?_;refine qj_ (by rfl) ?_;refine Z1 (Y3 (zno .i64 h5) h7 h8) ?_;obtain rfl:=Zi H4;exact ZE0
def ks_ (_:Nat)(c2:Int):Option Bool:=
 (if (decide (97<=c2)) then
  (if (decide (c2<=122)) then
   some true
  else
   (if (decide (48<=c2)) then
    some (decide (c2<=57))
   else
    some false))
 else
  (if (decide (48<=c2)) then
   some (decide (c2<=57))
  else
   some false))
def xW_ (n:Nat)(s:ByteArray):Nat->Int->Option ((Unit) ⊕ Bool)
 |0,_=>none
 |c+1,i=>
  (if (decide (i<(s.size:Int))) then
   (bidx s i).bind fun ch3=>
   (ks_ n ch3).bind fun t272=>
   (if t272 then
    xW_ n s c (IntKind.i64.wrap (i+1))
   else
    (if (ch3 != 95) then
     (if (ch3 != 45) then
      (if (ch3 != 46) then
       some (.inr false)
      else
       xW_ n s c (IntKind.i64.wrap (i+1)))
     else
      xW_ n s c (IntKind.i64.wrap (i+1)))
    else
     xW_ n s c (IntKind.i64.wrap (i+1))))
  else
   some (.inl ()))
def vF_ (n:Nat)(s:ByteArray):Option Bool:=
 (
  (if (decide ((s.size:Int)<1)) then
   some true
  else
   (if (decide (30<(s.size:Int))) then
    some true
   else
    (bidx s 0).bind fun ch=>
    (ks_ n ch).bind fun t15=>
    some (!t15))):Option (Bool)).bind fun t17=>
 (if t17 then
  some false
 else
  (
   xW_ n s n 0:Option ((Unit) ⊕ Bool)).bind fun
   | .inl _=>
    some true
   | .inr r=>some r)
def xm_ (n:Nat)(s:ByteArray):Nat->Int->Option ((Unit) ⊕ Bool)
 |0,_=>none
 |c+1,i=>
  (if (decide (i<(s.size:Int))) then
   (bidx s i).bind fun ch2=>
   (ks_ n ch2).bind fun t152=>
   (if t152 then
    xm_ n s c (IntKind.i64.wrap (i+1))
   else
    (if (ch2 != 95) then
     (if (ch2 != 45) then
      (if (ch2 != 46) then
       (if (ch2 != 47) then
        (if (ch2 != 124) then
         (if (ch2 != 42) then
          some (.inr false)
         else
          xm_ n s c (IntKind.i64.wrap (i+1)))
        else
         xm_ n s c (IntKind.i64.wrap (i+1)))
       else
        xm_ n s c (IntKind.i64.wrap (i+1)))
      else
       xm_ n s c (IntKind.i64.wrap (i+1)))
     else
      xm_ n s c (IntKind.i64.wrap (i+1)))
    else
     xm_ n s c (IntKind.i64.wrap (i+1))))
  else
   some (.inl ()))
def fq_ (n:Nat)(s:ByteArray):Option Bool:=
 (
  xm_ n s n 0:Option ((Unit) ⊕ Bool)).bind fun
  | .inl _=>
   (if (decide (1<=(s.size:Int))) then
    some (decide ((s.size:Int)<=250))
   else
    some false)
  | .inr r=>some r
def pk_ (n:Nat)(t:GTuple):Option Bool:=
 (vF_ n t.obj.type_).bind fun t6=>
 (if t6 then
  (fq_ n t.obj.id_).bind fun t11=>
  (if t11 then
   (vF_ n t.rel).bind fun t16=>
   (if t16 then
    (vF_ n t.sub_.type_).bind fun t22=>
    (if t22 then
     (fq_ n t.sub_.id_).bind fun t28=>
     (if t28 then
      (if (t.sub_.rel.toList==({ data:= #[] }:ByteArray).toList) then
       some true
      else
       (vF_ n t.sub_.rel).bind fun t39=>
       some t39)
     else
      some false)
    else
     some false)
   else
    some false)
  else
   some false)
 else
  some false)
end Go.Proofs.YtnmkbmefohakmaaGreat.Ab
