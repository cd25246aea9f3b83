/-
 Functions, read off the code.
-/
import Derived.Test.YtnmkbmefohakmaaGreatSk1
namespace Go.Proofs.YtnmkbmefohakmaaGreat.Ab
open Go.RowKit
def jg_ (_:Nat)(k2:Int)(c2:List Int):Option Int:=
 (if (decide (k2<(c2.length:Int))) then
  (idx c2 k2).bind fun x=>
  some x
 else
  some 0)
theorem jK_ {n:Nat}{k2:Int}{c2:List Int}{r:Int}(H:jg_ n k2 c2=some r):PureOK Tryz.prog 27 [D.v (.int .i64 k2),D.pt [D.sl (List.map eI c2)] 0] (D.v (.int .i64 r)) true:=by
 unfold jg_ at H;refine ZP qh_ fol (rs:= #[.tmp 3]) Tryz.func27 ?_;refine ZT 1 ?_;refine Z0 ?_;rcases zit H with⟨c1,H2⟩ |⟨c1,H2⟩
 ·obtain⟨x,b3,H4⟩:=zbi H2
  obtain⟨h5,h6⟩:=zix b3;try simp only[Int.reduceToNat,Int.toNat_natCast] at h6
  have h7:=qm_ eI h6;refine Z1 (Y3 c1 (zno .i64 h5) h7) ?_;obtain rfl:=Zi H4;exact ZE0
 ·refine Z1 c1 ?_
  obtain rfl:=Zi H2;exact ZE0
def jL_ (_:Nat)(n_:Int):Option ByteArray:=
 (idx ([{ data:= #[117] },{ data:= #[117] },{ data:= #[97,35,114] },{ data:= #[98,35,114] },{ data:= #[97,35,115] },{ data:= #[98,35,112] },{ data:= #[97] },{ data:= #[98] },{ data:= #[117] },{ data:= #[97,35,113] }]:List ByteArray) (Int.tmod (IntKind.i64.wrap (an n_ 255:Int)) 10)).bind fun x=>
 some x
theorem vg_ {n:Nat}{n_:Int}{r:ByteArray}(H:jL_ n n_=some r):PureOK Tryz.prog 28 [D.v (.int .i64 n_)] (D.v (.string r)) true:=by
 unfold jL_ at H;refine ZP qh_ fol (rs:= #[.tmp 2]) Tryz.func28 ?_;refine ZT 1 ?_;obtain⟨x,b1,H2⟩:=zbi H;obtain⟨h3,h4⟩:=zix b1;try simp only[Int.reduceToNat,Int.toNat_natCast] at h4
 have h5:=qm_ eS h4;simp only[List.map_cons,List.map_nil,eS] at h5;have h6:=vd_ h4;simp only[List.length_cons,List.length_nil,Nat.reduceAdd] at h6;refine Z1 (Y3 (zno .i64 h3) h5 h6) ?_;obtain rfl:=Zi H2;exact ZE0
def jq_ (_:Nat)(n_:Int):Option ByteArray:=
 (idx ([{ data:= #[114] },{ data:= #[115] },{ data:= #[114] },{ data:= #[115] },{ data:= #[115,45,62,114] },{ data:= #[115,45,62,112] },{ data:= #[112] },{ data:= #[113] }]:List ByteArray) (IntKind.i64.wrap (an n_ 7:Int))).bind fun x=>
 some x
theorem xa_ {n:Nat}{n_:Int}{r:ByteArray}(H:jq_ n n_=some r):PureOK Tryz.prog 29 [D.v (.int .i64 n_)] (D.v (.string r)) true:=by
 unfold jq_ at H;refine ZP qh_ fol (rs:= #[.tmp 2]) Tryz.func29 ?_;refine ZT 1 ?_;obtain⟨x,b1,H2⟩:=zbi H;obtain⟨h3,h4⟩:=zix b1;try simp only[Int.reduceToNat,Int.toNat_natCast] at h4
 have h5:=qm_ eS h4;simp only[List.map_cons,List.map_nil,eS] at h5;have h6:=vd_ h4;simp only[List.length_cons,List.length_nil,Nat.reduceAdd] at h6;refine Z1 (Y3 (zno .i64 h3) h5 h6) ?_;obtain rfl:=Zi H2;exact ZE0
def q1_ (n:Nat)(t0:List Int)(t7:Int):Nat->(ByteArray × Int)->Option (ByteArray)
 |0,_=>none
 |c+1,(t68,t93)=>
  (if (decide (t93<2)) then
   (jg_ n (IntKind.i64.wrap ((IntKind.i64.wrap (t7+1))+t93)) t0).bind fun t674=>
   (cat t68 ({ data:= #[32] })).bind fun s62=>
   (idx ([{ data:= #[112] },{ data:= #[113] }]:List ByteArray) t93).bind fun x11=>
   (cat s62 x11).bind fun s63=>
   (cat s63 ({ data:= #[32,61,32] })).bind fun s64=>
   (jq_ n t674).bind fun t784=>
   (cat s64 t784).bind fun s65=>
   (idx ([{ data:= #[32,43,32] },{ data:= #[32,38,32] },{ data:= #[32,45,32] },{ data:= #[32,43,32] }]:List ByteArray) (IntKind.i64.wrap (an (sh t674 4) 3:Int))).bind fun x12=>
   (cat s65 x12).bind fun s66=>
   (jq_ n (sh t674 8)).bind fun t904=>
   (cat s66 t904).bind fun s67=>
   (if ((IntKind.i64.wrap (an (sh t674 12) 1:Int))==1) then
    (idx ([{ data:= #[32,43,32] },{ data:= #[32,38,32] },{ data:= #[32,45,32] },{ data:= #[32,45,32,40] }]:List ByteArray) (IntKind.i64.wrap (an (sh t674 13) 3:Int))).bind fun x13=>
    (cat s67 x13).bind fun s68=>
    (jq_ n (sh t674 16)).bind fun t1074=>
    (cat s68 t1074).bind fun s69=>
    (if ((IntKind.i64.wrap (an (sh t674 13) 3:Int))==3) then
     (cat s69 ({ data:= #[32,38,32] })).bind fun s70=>
     (jq_ n (sh t674 20)).bind fun t1184=>
     (cat s70 t1184).bind fun s71=>
     (cat s71 ({ data:= #[41] })).bind fun s72=>
     (cat s72 ({ data:= #[59] })).bind fun s73=>
     q1_ n t0 t7 c (s73,(IntKind.i64.wrap (t93+1)))
    else
     (cat s69 ({ data:= #[59] })).bind fun s74=>
     q1_ n t0 t7 c (s74,(IntKind.i64.wrap (t93+1))))
   else
    (cat s67 ({ data:= #[59] })).bind fun s75=>
    q1_ n t0 t7 c (s75,(IntKind.i64.wrap (t93+1))))
  else
   some t68)
def jr_ (n:Nat)(t0:List Int):Nat->(ByteArray × Int × Int)->Option (ByteArray)
 |0,_=>none
 |c+1,(t65,t7,t8)=>
  (if (decide (t8<2)) then
   (cat t65 ({ data:= #[116,121,112,101,32] })).bind fun s39=>
   (idx ([{ data:= #[97] },{ data:= #[98] }]:List ByteArray) t8).bind fun x7=>
   (cat s39 x7).bind fun s40=>
   (cat s40 ({ data:= #[32,123,32,114,58,32] })).bind fun s41=>
   (jg_ n t7 t0).bind fun t272=>
   (jL_ n t272).bind fun t282=>
   (cat s41 t282).bind fun s42=>
   (jg_ n t7 t0).bind fun t322=>
   (
    (if ((IntKind.i64.wrap (an (sh t322 8) 1:Int))==1) then
     (cat s42 ({ data:= #[32,124,32] })).bind fun s43=>
     (jg_ n t7 t0).bind fun t412=>
     (jL_ n (sh t412 9)).bind fun t432=>
     (cat s43 t432).bind fun s44=>
     some s44
    else
     some s42):Option (ByteArray)).bind fun t66=>
   (cat t66 ({ data:= #[59,32,115,58,32] })).bind fun s45=>
   (jg_ n t7 t0).bind fun t502=>
   (idx ([{ data:= #[97] },{ data:= #[98] },{ data:= #[97,32,124,32,98] },{ data:= #[117,32,124,32,97] }]:List ByteArray) (Int.tmod (IntKind.i64.wrap (an (sh t502 20) 255:Int)) 4)).bind fun x8=>
   (cat s45 x8).bind fun s46=>
   (cat s46 ({ data:= #[59] })).bind fun s47=>
   (
    q1_ n t0 t7 n (s47,0):Option (ByteArray)).bind fun t610=>
   (cat t610 ({ data:= #[32,125,10] })).bind fun s76=>
   jr_ n t0 c (s76,(IntKind.i64.wrap (t7+3)),(IntKind.i64.wrap (t8+1)))
  else
   some t65)
def vh_ (n:Nat)(t0:List Int):Option ByteArray:=
 (
  jr_ n t0 n ({ data:= #[116,121,112,101,32,117,10] },0,0):Option (ByteArray)).bind fun t612=>
 some t612
set_option maxHeartbeats 8000000 in
theorem bM_ {n:Nat}{t0:List Int}{r:ByteArray}(H:vh_ n t0=some r):PureOK Tryz.prog 9 [D.sl (List.map eI t0)] (D.v (.string r)) true:=by
 unfold vh_ at H;refine ZP qh_ fol (rs:= #[.tmp 2]) Tryz.func9 ?_;refine zsq (ZT 1 ?_);refine Z0 ?_;refine zsq (ZT 1 ?_);refine Z0 ?_;refine zsq (ZT 1 ?_);refine Z0 ?_;refine zsq (ZT 1 ?_);refine Z0 ?_;refine zsq (ZT 1 ?_);refine Z0 ?_;refine zsq (ZT 1 ?_);refine Z0 ?_;refine zsq (zsq ?_);refine ZT 1 ?_;refine Z0 ?_;obtain⟨e_,E1,H2⟩:=zbi H
 refine zjn (α:={ y:ByteArray // e_=y }) (fun |⟨t612,_⟩=>⟨upd 6 (.v (.string t612)) noFr,noHp,0⟩) ?_ ?_
 ·refine zbk ?_
  refine zlp (α:={ q:Nat × (ByteArray × Int × Int) // jr_ n t0 q.1 q.2=some e_ }) (fun |⟨⟨c,⟨t65,t7,t8⟩⟩,_⟩=>⟨upd 3 (.fn 27 [.pt 0 0]) (upd 4 (.fn 28 []) (upd 5 (.fn 29 []) (upd 6 (.v (.string t65)) (upd 7 (.v (.int .i64 t7)) (upd 8 (.v (.int .i64 t8)) noFr))))),upd 0 (some (.bx [.d (.sl (List.map eI t0)) true])) noHp,1⟩) (fun q=>q.1.1) ⟨(n,({ data:= #[116,121,112,101,32,117,10] },0,0)),E1⟩ ?_ ?_
  ·exact ZR [(0,0)]
  ·rintro⟨⟨c,⟨t65,t7,t8⟩⟩,L3⟩
   rcases c with _ |c
   ·exact Zx L3
   ·unfold jr_ at L3
    try dsimp only at L3
    refine zsq (ZT 1 ?_);refine Z0 ?_;rcases zit L3 with⟨c265,H266⟩ |⟨c265,H266⟩
    ·refine Z1 c265 ?_
     refine zsq (zbk ?_);refine zsq (ZT 1 ?_);obtain⟨s39,b267,H268⟩:=zbi H266;obtain⟨h269,h270⟩:=zct b267;have h271:t65.size+5<=maxLen:=h269;obtain⟨x7,b272,H273⟩:=zbi H268;obtain⟨h274,h275⟩:=zix b272;try simp only[Int.reduceToNat,Int.toNat_natCast] at h275
     have h276:=qm_ eS h275;simp only[List.map_cons,List.map_nil,eS] at h276;have h277:=vd_ h275;simp only[List.length_cons,List.length_nil,Nat.reduceAdd] at h277;obtain⟨s40,b278,H279⟩:=zbi H273;obtain⟨h280,h281⟩:=zct b278;obtain⟨s41,b282,H283⟩:=zbi H279;obtain⟨h284,h285⟩:=zct b282;have h286:s40.size+6<=maxLen:=h284;obtain⟨t272,b287,H288⟩:=zbi H283
     refine Z1 (Y2 (Y6 c265 h269 h270 h271 (zno .i64 h274) h276) (Y6 h277 h280 h281 h284 h285 h286)) ?_
     refine gp_ [0] (by intro hp1 h1;have h289:=h1 0 (by simp);(try simp -implicitDefEqProofs only[go_sem,reduceCtorEq, ↓reduceIte] at h289);first |(simp -implicitDefEqProofs only[go_sem,h289];done) |(simp -implicitDefEqProofs only[go_sem,h289];rfl)) (PureA.of_pure (jK_ b287)) (by first |exact .inr rfl |exact .inl rfl) ?_
     obtain⟨t282,b290,H291⟩:=zbi H288;refine Z1 (Y2 (Y6 c265 h269 h270 h271 (zno .i64 h274) h276) (Y6 h277 h280 h281 h284 h285 h286)) ?_;refine ZD0 (vg_ b290) ?_;obtain⟨s42,b292,H293⟩:=zbi H291;obtain⟨h294,h295⟩:=zct b292;refine Z1 (Y3 (Y6 c265 h269 h270 h271 (zno .i64 h274) h276) (Y6 h277 h280 h281 h284 h285 h286) (Y2 h294 h295)) ?_;refine qj_ (by rfl) ?_
     refine Z1 (Y3 (Y6 c265 h269 h270 h271 (zno .i64 h274) h276) (Y6 h277 h280 h281 h284 h285 h286) (Y2 h294 h295)) ?_;refine zsq (zsq ?_);refine ZT 1 ?_;obtain⟨t322,b296,H297⟩:=zbi H293;refine Z1 (Y3 (Y6 c265 h269 h270 h271 (zno .i64 h274) h276) (Y6 h277 h280 h281 h284 h285 h286) (Y2 h294 h295)) ?_
     refine ZA1 (Y3 (Y6 c265 h269 h270 h271 (zno .i64 h274) h276) (Y6 h277 h280 h281 h284 h285 h286) (Y2 h294 h295)) (PureA.of_pure (jK_ b296)) ?_;refine Z1 (Y3 (Y6 c265 h269 h270 h271 (zno .i64 h274) h276) (Y6 h277 h280 h281 h284 h285 h286) (Y2 h294 h295)) ?_;obtain⟨e_4,E298,H299⟩:=zbi H297
     refine zjn (α:={ y:ByteArray // e_4=y }) (fun |⟨t66,_⟩=>⟨upd 3 (.fn 27 [.pt 0 0]) (upd 4 (.fn 28 []) (upd 5 (.fn 29 []) (upd 6 (.v (.string t66)) (upd 7 (.v (.int .i64 t7)) (upd 8 (.v (.int .i64 t8)) noFr))))),upd 0 (some (.bx [.d (.sl (List.map eI t0)) true])) noHp,1⟩) ?_ ?_
     ·refine ZT 1 ?_
      refine Z0 ?_;rcases zit E298 with⟨c300,H301⟩ |⟨c300,H301⟩
      ·obtain⟨s43,b302,H303⟩:=zbi H301
       obtain⟨h304,h305⟩:=zct b302;have h306:s42.size+3<=maxLen:=h304;obtain⟨t412,b307,H308⟩:=zbi H303;refine Z1 (Y4 c300 h304 h305 h306) ?_;refine ZA1 (Y4 c300 h304 h305 h306) (PureA.of_pure (jK_ b307)) ?_;obtain⟨t432,b309,H310⟩:=zbi H308;refine Z1 (Y4 c300 h304 h305 h306) ?_;refine ZC0 (vg_ b309) ?_;obtain⟨s44,b311,H312⟩:=zbi H310;obtain⟨h313,h314⟩:=zct b311
       refine Z1 (Y6 c300 h304 h305 h306 h313 h314) ?_;obtain rfl:=Zi H312;exact⟨⟨s44,rfl⟩,ZR [(0,0)]⟩
      ·refine Z1 c300 ?_
       obtain rfl:=Zi H301;exact⟨⟨s42,rfl⟩,ZR [(0,0)]⟩
     ·rintro⟨t66,he533⟩
      obtain rfl:=he533.symm;try dsimp only at H299
      refine zsq (ZT 1 ?_);obtain⟨s45,b315,H316⟩:=zbi H299;obtain⟨h317,h318⟩:=zct b315;have h319:t66.size+5<=maxLen:=h317;obtain⟨t502,b320,H321⟩:=zbi H316;refine Z1 (Y3 h317 h318 h319) ?_;refine ZA1 (Y3 h317 h318 h319) (PureA.of_pure (jK_ b320)) ?_;obtain⟨x8,b322,H323⟩:=zbi H321;obtain⟨h324,h325⟩:=zix b322
      try simp only[Int.reduceToNat,Int.toNat_natCast] at h325
      have h326:=qm_ eS h325;simp only[List.map_cons,List.map_nil,eS] at h326;have h327:=vd_ h325;simp only[List.length_cons,List.length_nil,Nat.reduceAdd] at h327;obtain⟨s46,b328,H329⟩:=zbi H323;obtain⟨h330,h331⟩:=zct b328;obtain⟨s47,b332,H333⟩:=zbi H329;obtain⟨h334,h335⟩:=zct b332;have h336:s46.size+1<=maxLen:=h334
      refine Z1 (Y2 (Y6 h317 h318 h319 (zno .i64 h324) h326 h327) (Y5 h330 h331 h334 h335 h336)) ?_;refine zsq (zsq ?_);refine ZT 1 ?_;refine Z1 (Y2 (Y6 h317 h318 h319 (zno .i64 h324) h326 h327) (Y5 h330 h331 h334 h335 h336)) ?_;obtain⟨e_5,E337,H338⟩:=zbi H333
      refine zjn (α:={ y:ByteArray // e_5=y }) (fun |⟨t610,_⟩=>⟨upd 3 (.fn 27 [.pt 0 0]) (upd 4 (.fn 28 []) (upd 5 (.fn 29 []) (upd 6 (.v (.string t610)) (upd 7 (.v (.int .i64 t7)) (upd 8 (.v (.int .i64 t8)) noFr))))),upd 0 (some (.bx [.d (.sl (List.map eI t0)) true])) noHp,1⟩) ?_ ?_
      ·refine zbk ?_
       refine zlp (α:={ q:Nat × (ByteArray × Int) // q1_ n t0 t7 q.1 q.2=some e_5 }) (fun |⟨⟨c,⟨t68,t93⟩⟩,_⟩=>⟨upd 3 (.fn 27 [.pt 0 0]) (upd 4 (.fn 28 []) (upd 5 (.fn 29 []) (upd 6 (.v (.string t68)) (upd 7 (.v (.int .i64 t7)) (upd 8 (.v (.int .i64 t8)) (upd 9 (.v (.int .i64 t93)) noFr)))))),upd 0 (some (.bx [.d (.sl (List.map eI t0)) true])) noHp,1⟩) (fun q=>q.1.1) ⟨(n,(s47,0)),E337⟩ ?_ ?_
       ·exact ZR [(0,0)]
       ·rintro⟨⟨c,⟨t68,t93⟩⟩,L339⟩
        rcases c with _ |c
        ·exact Zx L339
        ·unfold q1_ at L339
         try dsimp only at L339
         refine ZT 1 ?_;refine Z0 ?_;rcases zit L339 with⟨c430,H431⟩ |⟨c430,H431⟩
         ·obtain⟨t674,b432,H433⟩:=zbi H431
          refine Z1 c430 ?_;refine ZA1 c430 (PureA.of_pure (jK_ b432)) ?_;obtain⟨s62,b434,H435⟩:=zbi H433;obtain⟨h436,h437⟩:=zct b434;have h438:t68.size+1<=maxLen:=h436;obtain⟨x11,b439,H440⟩:=zbi H435;obtain⟨h441,h442⟩:=zix b439;try simp only[Int.reduceToNat,Int.toNat_natCast] at h442
          have h443:=qm_ eS h442;simp only[List.map_cons,List.map_nil,eS] at h443;have h444:=vd_ h442;simp only[List.length_cons,List.length_nil,Nat.reduceAdd] at h444;obtain⟨s63,b445,H446⟩:=zbi H440;obtain⟨h447,h448⟩:=zct b445;obtain⟨s64,b449,H450⟩:=zbi H446;obtain⟨h451,h452⟩:=zct b449;have h453:s63.size+3<=maxLen:=h451
          obtain⟨t784,b454,H455⟩:=zbi H450;refine Z1 (Y2 (Y6 c430 h436 h437 h438 (zno .i64 h441) h443) (Y6 h444 h447 h448 h451 h452 h453)) ?_;refine ZD0 (xa_ b454) ?_;obtain⟨s65,b456,H457⟩:=zbi H455;obtain⟨h458,h459⟩:=zct b456;obtain⟨x12,b460,H461⟩:=zbi H457;obtain⟨h462,h463⟩:=zix b460;try simp only[Int.reduceToNat,Int.toNat_natCast] at h463
          have h464:=qm_ eS h463;simp only[List.map_cons,List.map_nil,eS] at h464;have h465:=vd_ h463;simp only[List.length_cons,List.length_nil,Nat.reduceAdd] at h465;obtain⟨s66,b466,H467⟩:=zbi H461;obtain⟨h468,h469⟩:=zct b466;obtain⟨t904,b470,H471⟩:=zbi H467
          refine Z1 (Y4 (Y6 c430 h436 h437 h438 (zno .i64 h441) h443) (Y6 h444 h447 h448 h451 h452 h453) (Y6 h458 h459 (zno .i64 h462) h464 h465 h468) h469) ?_;refine ZD0 (xa_ b470) ?_;obtain⟨s67,b472,H473⟩:=zbi H471;obtain⟨h474,h475⟩:=zct b472
          refine Z1 (Y4 (Y6 c430 h436 h437 h438 (zno .i64 h441) h443) (Y6 h444 h447 h448 h451 h452 h453) (Y6 h458 h459 (zno .i64 h462) h464 h465 h468) (Y3 h469 h474 h475)) ?_;refine qj_ (by rfl) ?_;refine Z1 (Y4 (Y6 c430 h436 h437 h438 (zno .i64 h441) h443) (Y6 h444 h447 h448 h451 h452 h453) (Y6 h458 h459 (zno .i64 h462) h464 h465 h468) (Y3 h469 h474 h475)) ?_
          rcases zit H473 with⟨c476,H477⟩ |⟨c476,H477⟩
          ·obtain⟨x13,b478,H479⟩:=zbi H477
           obtain⟨h480,h481⟩:=zix b478;try simp only[Int.reduceToNat,Int.toNat_natCast] at h481
           have h482:=qm_ eS h481;simp only[List.map_cons,List.map_nil,eS] at h482;have h483:=vd_ h481;simp only[List.length_cons,List.length_nil,Nat.reduceAdd] at h483;obtain⟨s68,b484,H485⟩:=zbi H479;obtain⟨h486,h487⟩:=zct b484;obtain⟨t1074,b488,H489⟩:=zbi H485
           refine Z1 (Y5 (Y6 c430 h436 h437 h438 (zno .i64 h441) h443) (Y6 h444 h447 h448 h451 h452 h453) (Y6 h458 h459 (zno .i64 h462) h464 h465 h468) (Y6 h469 h474 h475 c476 (zno .i64 h480) h482) (Y3 h483 h486 h487)) ?_;refine ZD0 (xa_ b488) ?_;obtain⟨s69,b490,H491⟩:=zbi H489;obtain⟨h492,h493⟩:=zct b490
           refine Z1 (Y5 (Y6 c430 h436 h437 h438 (zno .i64 h441) h443) (Y6 h444 h447 h448 h451 h452 h453) (Y6 h458 h459 (zno .i64 h462) h464 h465 h468) (Y6 h469 h474 h475 c476 (zno .i64 h480) h482) (Y5 h483 h486 h487 h492 h493)) ?_;refine qj_ (by rfl) ?_
           refine Z1 (Y5 (Y6 c430 h436 h437 h438 (zno .i64 h441) h443) (Y6 h444 h447 h448 h451 h452 h453) (Y6 h458 h459 (zno .i64 h462) h464 h465 h468) (Y6 h469 h474 h475 c476 (zno .i64 h480) h482) (Y5 h483 h486 h487 h492 h493)) ?_;rcases zit H491 with⟨c494,H495⟩ |⟨c494,H495⟩
           ·obtain⟨s70,b496,H497⟩:=zbi H495
            obtain⟨h498,h499⟩:=zct b496;have h500:s69.size+3<=maxLen:=h498;obtain⟨t1184,b501,H502⟩:=zbi H497;refine Z1 (Y6 (Y6 c430 h436 h437 h438 (zno .i64 h441) h443) (Y6 h444 h447 h448 h451 h452 h453) (Y6 h458 h459 (zno .i64 h462) h464 h465 h468) (Y6 h469 h474 h475 c476 (zno .i64 h480) h482) (Y6 h483 h486 h487 h492 h493 c494) (Y3 h498 h499 h500)) ?_
            refine ZC0 (xa_ b501) ?_;obtain⟨s71,b503,H504⟩:=zbi H502;obtain⟨h505,h506⟩:=zct b503;obtain⟨s72,b507,H508⟩:=zbi H504;obtain⟨h509,h510⟩:=zct b507;have h511:s71.size+1<=maxLen:=h509;obtain⟨s73,b512,H513⟩:=zbi H508;obtain⟨h514,h515⟩:=zct b512;have h516:s72.size+1<=maxLen:=h514
            refine Z1 (Y2 (Y6 (Y6 c430 h436 h437 h438 (zno .i64 h441) h443) (Y6 h444 h447 h448 h451 h452 h453) (Y6 h458 h459 (zno .i64 h462) h464 h465 h468) (Y6 h469 h474 h475 c476 (zno .i64 h480) h482) (Y6 h483 h486 h487 h492 h493 c494) (Y6 h498 h499 h500 h505 h506 h509)) (Y5 h510 h511 h514 h515 h516)) ?_
            exact⟨⟨(c,(s73,(IntKind.i64.wrap (t93+1)))),H513⟩,ZR [(0,0)],Nat.lt_succ_self _⟩
           ·obtain⟨s74,b517,H518⟩:=zbi H495
            obtain⟨h519,h520⟩:=zct b517;have h521:s69.size+1<=maxLen:=h519;refine Z1 (Y6 (Y6 c430 h436 h437 h438 (zno .i64 h441) h443) (Y6 h444 h447 h448 h451 h452 h453) (Y6 h458 h459 (zno .i64 h462) h464 h465 h468) (Y6 h469 h474 h475 c476 (zno .i64 h480) h482) (Y6 h483 h486 h487 h492 h493 c494) (Y3 h519 h520 h521)) ?_
            exact⟨⟨(c,(s74,(IntKind.i64.wrap (t93+1)))),H518⟩,ZR [(0,0)],Nat.lt_succ_self _⟩
          ·obtain⟨s75,b522,H523⟩:=zbi H477
           obtain⟨h524,h525⟩:=zct b522;have h526:s67.size+1<=maxLen:=h524;refine Z1 (Y5 (Y6 c430 h436 h437 h438 (zno .i64 h441) h443) (Y6 h444 h447 h448 h451 h452 h453) (Y6 h458 h459 (zno .i64 h462) h464 h465 h468) (Y6 h469 h474 h475 c476 h524 h525) h526) ?_;exact⟨⟨(c,(s75,(IntKind.i64.wrap (t93+1)))),H523⟩,ZR [(0,0)],Nat.lt_succ_self _⟩
         ·refine Z1 c430 ?_
          obtain rfl:=Zi H431;exact⟨⟨t68,rfl⟩,ZR [(0,0)]⟩
      ·rintro⟨t610,he532⟩
       obtain rfl:=he532.symm;try dsimp only at H338
       refine ZT 3 ?_;obtain⟨s76,b527,H528⟩:=zbi H338;obtain⟨h529,h530⟩:=zct b527;have h531:t610.size+3<=maxLen:=h529;refine Z1 (Y3 h529 h530 h531) ?_;exact⟨⟨(c,(s76,(IntKind.i64.wrap (t7+3)),(IntKind.i64.wrap (t8+1)))),H528⟩,ZR [(0,0)],Nat.lt_succ_self _⟩
    ·refine Z1 c265 ?_
     obtain rfl:=Zi H266;exact⟨⟨t65,rfl⟩,ZR []⟩
 ·rintro⟨t612,he534⟩
  obtain rfl:=he534.symm;try dsimp only at H2
  refine ZT 1 ?_;refine Z0 ?_;obtain rfl:=Zi H2;exact ZE0
def w0_ (_:Nat)(n_:Int):Option ByteArray:=
 (idx ([{ data:= #[97] },{ data:= #[98] },{ data:= #[99] },{ data:= #[100] },{ data:= #[97,98] },{ data:= #[98,45,49] },{ data:= #[120,46,121] },{ data:= #[48] }]:List ByteArray) (IntKind.i64.wrap (an n_ 7:Int))).bind fun x=>
 some x
theorem uF_ {n:Nat}{n_:Int}{r:ByteArray}(H:w0_ n n_=some r):PureOK Tryz.prog 59 [D.v (.int .i64 n_)] (D.v (.string r)) true:=by
 unfold w0_ at H;refine ZP qh_ fol (rs:= #[.tmp 2]) Tryz.func59 ?_;refine ZT 1 ?_;obtain⟨x,b1,H2⟩:=zbi H;obtain⟨h3,h4⟩:=zix b1;try simp only[Int.reduceToNat,Int.toNat_natCast] at h4
 have h5:=qm_ eS h4;simp only[List.map_cons,List.map_nil,eS] at h5;have h6:=vd_ h4;simp only[List.length_cons,List.length_nil,Nat.reduceAdd] at h6;refine Z1 (Y3 (zno .i64 h3) h5 h6) ?_;obtain rfl:=Zi H2;exact ZE0
def zw_ (n:Nat)(n_:Int):Option GTuple:=
 (idx ([{ data:= #[97] },{ data:= #[98] }]:List ByteArray) (IntKind.i64.wrap (an n_ 1:Int))).bind fun x=>
 (w0_ n (sh n_ 1)).bind fun t11=>
 (idx ([{ data:= #[114] },{ data:= #[115] }]:List ByteArray) (IntKind.i64.wrap (an (sh n_ 4) 1:Int))).bind fun x2=>
 (idx ([{ data:= #[117] },{ data:= #[97] },{ data:= #[98] }]:List ByteArray) (Int.tmod (IntKind.i64.wrap (an (sh n_ 5) 255:Int)) 3)).bind fun x3=>
 (w0_ n (sh n_ 13)).bind fun t28=>
 (if ((IntKind.i64.wrap (an (sh n_ 16) 3:Int))==0) then
  (idx ([{ data:= #[114] },{ data:= #[115] }]:List ByteArray) (IntKind.i64.wrap (an (sh n_ 18) 1:Int))).bind fun x4=>
  some (⟨(⟨x,t11⟩:GObj),x2,(⟨x3,t28,x4⟩:GSub)⟩:GTuple)
 else
  some (⟨(⟨x,t11⟩:GObj),x2,(⟨x3,t28,ByteArray.empty⟩:GSub)⟩:GTuple))
theorem kf_ {n:Nat}{n_:Int}{r:GTuple}(H:zw_ n n_=some r):PureOK Tryz.prog 30 [D.v (.int .i64 n_)] (D.ag (eGTuple r)) true:=by
 unfold zw_ at H;refine ZP qh_ fol (rs:= #[.cell 2 35]) Tryz.func30 ?_;refine ZT 1 ?_;obtain⟨x,b1,H2⟩:=zbi H;obtain⟨h3,h4⟩:=zix b1;try simp only[Int.reduceToNat,Int.toNat_natCast] at h4
 have h5:=qm_ eS h4;simp only[List.map_cons,List.map_nil,eS] at h5;have h6:=vd_ h4;simp only[List.length_cons,List.length_nil,Nat.reduceAdd] at h6;obtain⟨t11,b7,H8⟩:=zbi H2;refine Z1 (Y3 (zno .i64 h3) h5 h6) ?_;refine ZD0 (uF_ b7) ?_;obtain⟨x2,b9,H10⟩:=zbi H8;obtain⟨h11,h12⟩:=zix b9;try simp only[Int.reduceToNat,Int.toNat_natCast] at h12
 have h13:=qm_ eS h12;simp only[List.map_cons,List.map_nil,eS] at h13;have h14:=vd_ h12;simp only[List.length_cons,List.length_nil,Nat.reduceAdd] at h14;obtain⟨x3,b15,H16⟩:=zbi H10;obtain⟨h17,h18⟩:=zix b15;try simp only[Int.reduceToNat,Int.toNat_natCast] at h18
 have h19:=qm_ eS h18;simp only[List.map_cons,List.map_nil,eS] at h19;have h20:=vd_ h18;simp only[List.length_cons,List.length_nil,Nat.reduceAdd] at h20;obtain⟨t28,b21,H22⟩:=zbi H16;refine Z1 (Y2 (Y6 (zno .i64 h3) h5 h6 (zno .i64 h11) h13 h14) (Y3 (zno .i64 h17) h19 h20)) ?_;refine ZD0 (uF_ b21) ?_
 refine Z1 (Y2 (Y6 (zno .i64 h3) h5 h6 (zno .i64 h11) h13 h14) (Y3 (zno .i64 h17) h19 h20)) ?_;refine qj_ (by kernel_rfl) ?_;refine Z1 (Y2 (Y6 (zno .i64 h3) h5 h6 (zno .i64 h11) h13 h14) (Y3 (zno .i64 h17) h19 h20)) ?_;rcases zit H22 with⟨c23,H24⟩ |⟨c23,H24⟩
 ·obtain⟨x4,b25,H26⟩:=zbi H24
  obtain⟨h27,h28⟩:=zix b25;try simp only[Int.reduceToNat,Int.toNat_natCast] at h28
  have h29:=qm_ eS h28;simp only[List.map_cons,List.map_nil,eS] at h29;have h30:=vd_ h28;simp only[List.length_cons,List.length_nil,Nat.reduceAdd] at h30;refine Z1 (Y3 (Y6 (zno .i64 h3) h5 h6 (zno .i64 h11) h13 h14) (Y6 (zno .i64 h17) h19 h20 c23 (zno .i64 h27) h29) h30) ?_;obtain rfl:=Zi H26;exact ZE0
 ·refine Z1 (Y2 (Y6 (zno .i64 h3) h5 h6 (zno .i64 h11) h13 h14) (Y4 (zno .i64 h17) h19 h20 c23)) ?_
  obtain rfl:=Zi H24;exact ZE0
def ju_ (n:Nat)(l:List Int):Nat->(List GTuple × Int)->Option (List GTuple)
 |0,_=>none
 |c+1,(out,i)=>
  (
   (if (decide (i<(l.length:Int))) then
    some (decide (i<80))
   else
    some false):Option (Bool)).bind fun t122=>
  (if t122 then
   (idx l i).bind fun x2=>
   (zw_ n x2).bind fun t202=>
   (app out [t202]).bind fun l2=>
   ju_ n l c (l2,(IntKind.i64.wrap (i+1)))
  else
   some out)
def zx_ (n:Nat)(l:List Int):Option (List GTuple):=
 (
  ju_ n l n ([],0):Option (List GTuple)).bind fun out3=>
 some out3
theorem gB_ {n:Nat}{l:List Int}{r:List GTuple}(H:zx_ n l=some r):PureOK Tryz.prog 10 [D.sl (List.map eI l)] (D.sl (List.map eGTuple r)) true:=by
 unfold zx_ at H;refine ZP qh_ fol (rs:= #[.tmp 2]) Tryz.func10 ?_;refine zsq (ZT 1 ?_);refine Z0 ?_;refine zsq (ZT 1 ?_);refine Z0 ?_;refine zsq (zsq ?_);refine ZT 1 ?_;refine Z0 ?_;obtain⟨e_,E1,H2⟩:=zbi H
 refine zjn (α:={ y:List GTuple // e_=y } × Nat) (fun |⟨⟨out3,_⟩,g4⟩=>⟨upd 3 (accV 0 g4 (List.map eGTuple out3)) noFr,upd 0 (accO 6 g4 false (List.map eGTuple out3)) noHp,1⟩) ?_ ?_
 ·refine zbk ?_
  refine zlp (α:={ q:(Nat × (List GTuple × Int)) × Nat // ju_ n l q.1.1 q.1.2=some e_ }) (fun |⟨⟨⟨c,⟨out,i⟩⟩,g⟩,_⟩=>⟨upd 0 (.d (.sl (List.map eI l)) true) (upd 3 (accV 0 g (List.map eGTuple out)) (upd 4 (.v (.int .i64 i)) noFr)),upd 0 (accO 6 g false (List.map eGTuple out)) noHp,1⟩) (fun q=>q.1.1.1) ⟨((n,([],0)),0),E1⟩ ?_ ?_
  ·exact ZR []
  ·rintro⟨⟨⟨c,⟨out,i⟩⟩,g⟩,L3⟩
   rcases c with _ |c
   ·exact Zx L3
   ·unfold ju_ at L3
    try dsimp only at L3
    refine zsq (zsq ?_);obtain⟨e_3,E19,H20⟩:=zbi L3;refine zjn (α:={ y:Bool // e_3=y } × Nat) (fun |⟨⟨t122,_⟩,g2⟩=>⟨upd 0 (.d (.sl (List.map eI l)) true) (upd 3 (accV 0 g2 (List.map eGTuple out)) (upd 4 (.v (.int .i64 i)) (upd 12 (.v (.bool t122)) noFr))),upd 0 (accO 6 g2 false (List.map eGTuple out)) noHp,1⟩) ?_ ?_
    ·refine ZT 1 ?_
     refine Z0 ?_;rcases zit E19 with⟨c21,H22⟩ |⟨c21,H22⟩
     ·refine Z1 c21 ?_
      obtain rfl:=Zi H22;exact⟨⟨⟨(decide (i<80)),rfl⟩,g⟩,ZR [(0,0)]⟩
     ·refine Z1 c21 ?_
      obtain rfl:=Zi H22;exact⟨⟨⟨false,rfl⟩,g⟩,ZR [(0,0)]⟩
    ·rintro⟨⟨t122,he41⟩,g2⟩
     obtain rfl:=he41.symm;try dsimp only at H20
     refine ZT 2 ?_;refine Z0 ?_;rcases zit H20 with⟨c23,H24⟩ |⟨c23,H24⟩
     ·obtain⟨x2,b25,H26⟩:=zbi H24
      obtain⟨h27,h28⟩:=zix b25;try simp only[Int.reduceToNat,Int.toNat_natCast] at h28
      have h29:=qm_ eI h28;obtain⟨t202,b31,H32⟩:=zbi H26;refine Z1 (Y3 c23 (zno .i64 h27) h29) ?_;refine ZC0 (kf_ b31) ?_;obtain⟨l2,b33,H34⟩:=zbi H32;obtain⟨h35,h36⟩:=j1_ b33;have h35:out.length+1<=4294967296:=h35
      have h37:List.map eGTuple out++[[.v (.string t202.obj.type_),.v (.string t202.obj.id_),.v (.string t202.rel),.v (.string t202.sub_.type_),.v (.string t202.sub_.id_),.v (.string t202.sub_.rel)]]=List.map eGTuple l2:=jD_ eGTuple h36;have h38:out.length+1=l2.length:=jE_ h36;have h39:l2.length<=4294967296:=by omega
      have q40:0<l2.length:=by omega
      refine Z1 (Y2 (Y6 c23 (zno .i64 h27) h29 h35 h37 h38) h39) ?_;rcases out with _ |⟨q0,q1⟩
      ·try simp only[List.map_nil,accI,accN]
       exact⟨⟨((c,(l2,(IntKind.i64.wrap (i+1)))),0),H34⟩,ZR [(0,8)],Nat.lt_succ_self _⟩
      ·try simp only[List.map_cons,accI,accN]
       exact⟨⟨((c,(l2,(IntKind.i64.wrap (i+1)))),(g2+1)),H34⟩,ZR [(0,0)],Nat.lt_succ_self _⟩
     ·refine Z1 c23 ?_
      obtain rfl:=Zi H24;exact⟨⟨⟨out,rfl⟩,g2⟩,ZR [(0,0)]⟩
 ·rintro⟨⟨out3,he42⟩,g4⟩
  obtain rfl:=he42.symm;try dsimp only at H2
  refine ZT 1 ?_;refine Z0 ?_;obtain rfl:=Zi H2;exact ZE0
def zy_ (n:Nat)(n_:Int):Option (GObj × ByteArray × GSub):=
 (zw_ n n_).bind fun t7=>
 (idx ([{ data:= #[114] },{ data:= #[115] },{ data:= #[112] },{ data:= #[113] },{ data:= #[112] },{ data:= #[113] },{ data:= #[122] },{ data:= #[112] }]:List ByteArray) (IntKind.i64.wrap (an (sh n_ 24) 7:Int))).bind fun x=>
 some (t7.obj,x,(⟨t7.sub_.type_,t7.sub_.id_,{ data:= #[] }⟩:GSub))
theorem gC_ {n:Nat}{n_:Int}{r:GObj × ByteArray × GSub}(H:zy_ n n_=some r):PureOK Tryz.prog 11 [D.v (.int .i64 n_)] (D.tu [D.ag (eGObj r.1),D.v (.string r.2.1),D.ag (eGSub r.2.2)]) true:=by
 unfold zy_ at H;refine ZP qh_ fol (rs:= #[.cell 2 29,.tmp 3,.cell 4 31]) Tryz.func11 ?_;refine ZT 1 ?_;obtain⟨t7,b1,H2⟩:=zbi H;refine Z0 ?_;refine ZC0 (kf_ b1) ?_;obtain⟨x,b3,H4⟩:=zbi H2;obtain⟨h5,h6⟩:=zix b3;try simp only[Int.reduceToNat,Int.toNat_natCast] at h6
 have h7:=qm_ eS h6;simp only[List.map_cons,List.map_nil,eS] at h7;have h8:=vd_ h6;simp only[List.length_cons,List.length_nil,Nat.reduceAdd] at h8;refine Z1 (Y3 (zno .i64 h5) h7 h8) ?_;refine qj_ (by rfl) ?_;refine Z1 (Y3 (zno .i64 h5) h7 h8) ?_;obtain rfl:=Zi H4;exact ZE0
def q4_ (n:Nat)(l:List GType)(rel:ByteArray)(i:Int):Nat->Int->Option ((Unit) ⊕ (Int × Int))
 |0,_=>none
 |c+1,k4=>
  (idx l i).bind fun x9=>
  (if (decide (k4<(x9.rels.length:Int))) then
   (idx x9.rels k4).bind fun x10=>
   (if (x10.name.toList==rel.toList) then
    some (.inr (i,k4))
   else
    q4_ n l rel i c (IntKind.i64.wrap (k4+1)))
  else
   some (.inl ()))
def qU_ (n:Nat)(l:List GType)(t:ByteArray)(rel:ByteArray):Nat->Int->Option ((Unit) ⊕ (Int × Int))
 |0,_=>none
 |c+1,i=>
  (if (decide (i<(l.length:Int))) then
   (idx l i).bind fun x6=>
   (if (x6.name.toList==t.toList) then
    (
     q4_ n l rel i n 0:Option ((Unit) ⊕ (Int × Int))).bind fun
     | .inl _=>
      some (.inr (i,(-1)))
     | .inr r=>some (.inr r)
   else
    qU_ n l t rel c (IntKind.i64.wrap (i+1)))
  else
   some (.inl ()))
def gD_ (n:Nat)(l:List GType)(t:ByteArray)(rel:ByteArray):Option (Int × Int):=
 (
  qU_ n l t rel n 0:Option ((Unit) ⊕ (Int × Int))).bind fun
  | .inl _=>
   some ((-1),(-1))
  | .inr r=>some r
theorem hU_ {n:Nat}{l:List GType}{t:ByteArray}{rel:ByteArray}{r:Int × Int}(H:gD_ n l t rel=some r):PureOK Tryz.prog 41 [D.sl (List.map eGType l),D.v (.string t),D.v (.string rel)] (D.tu [D.v (.int .i64 r.1),D.v (.int .i64 r.2)]) true:=by
 unfold gD_ at H;refine ZP qh_ fol (rs:= #[.tmp 6,.tmp 7]) Tryz.func41 ?_;refine zsq (ZT 1 ?_);refine Z0 ?_;refine zsq (zsq ?_);refine ZT 1 ?_;refine Z0 ?_;obtain⟨e_,E1,H2⟩:=zbi H;refine zjn (α:={ y:Unit // e_= .inl y }) (fun |⟨_,_⟩=>⟨noFr,noHp,0⟩) ?_ ?_
 ·refine zbk ?_
  refine zlp (α:={ q:Nat × Int // qU_ n l t rel q.1 q.2=some e_ }) (fun |⟨⟨c,i⟩,_⟩=>⟨upd 0 (.d (.sl (List.map eGType l)) true) (upd 1 (.v (.string t)) (upd 2 (.v (.string rel)) (upd 8 (.v (.int .i64 i)) noFr))),noHp,0⟩) (fun q=>q.1.1) ⟨(n,0),E1⟩ ?_ ?_
  ·exact ZR []
  ·rintro⟨⟨c,i⟩,L3⟩
   rcases c with _ |c
   ·exact Zx L3
   ·unfold qU_ at L3
    try dsimp only at L3
    refine zsq (ZT 1 ?_);refine Z0 ?_;rcases zit L3 with⟨c50,H51⟩ |⟨c50,H51⟩
    ·refine Z1 c50 ?_
     refine zsq (zbk ?_);refine zsq (ZT 1 ?_);obtain⟨x6,b52,H53⟩:=zbi H51;obtain⟨h54,h55⟩:=zix b52;try simp only[Int.reduceToNat,Int.toNat_natCast] at h55
     have h56:=qm_ eGType h55;refine Z1 (Y3 c50 (zno .i64 h54) h56) ?_;rcases zit H53 with⟨c58,H59⟩ |⟨c58,H59⟩
     ·refine Z1 (Y4 c50 (zno .i64 h54) h56 c58) ?_
      refine zsq (zsq ?_);refine ZT 1 ?_;refine Z1 (Y4 c50 (zno .i64 h54) h56 c58) ?_;obtain⟨e_3,E60,H61⟩:=zbi H59;refine zjn (α:={ y:Unit // e_3= .inl y }) (fun |⟨_,_⟩=>⟨upd 8 (.v (.int .i64 i)) noFr,noHp,0⟩) ?_ ?_
      ·refine zbk ?_
       refine zlp (α:={ q:Nat × Int // q4_ n l rel i q.1 q.2=some e_3 }) (fun |⟨⟨c,k4⟩,_⟩=>⟨upd 0 (.d (.sl (List.map eGType l)) true) (upd 2 (.v (.string rel)) (upd 8 (.v (.int .i64 i)) (upd 9 (.v (.int .i64 k4)) noFr))),noHp,0⟩) (fun q=>q.1.1) ⟨(n,0),E60⟩ ?_ ?_
       ·exact ZR []
       ·rintro⟨⟨c,k4⟩,L62⟩
        rcases c with _ |c
        ·exact Zx L62
        ·unfold q4_ at L62
         try dsimp only at L62
         refine ZT 1 ?_;obtain⟨x9,b79,H80⟩:=zbi L62;obtain⟨h81,h82⟩:=zix b79;try simp only[Int.reduceToNat,Int.toNat_natCast] at h82
         have h83:=qm_ eGType h82;refine Z1 (Y2 (zno .i64 h81) h83) ?_;rcases zit H80 with⟨c85,H86⟩ |⟨c85,H86⟩
         ·obtain⟨x10,b87,H88⟩:=zbi H86
          obtain⟨h89,h90⟩:=zix b87;try simp only[Int.reduceToNat,Int.toNat_natCast] at h90
          have h91:=qm_ eGRel h90;refine Z1 (Y5 (zno .i64 h81) h83 c85 (zno .i64 h89) h91) ?_;rcases zit H88 with⟨c93,H94⟩ |⟨c93,H94⟩
          ·refine Z1 (Y6 (zno .i64 h81) h83 c85 (zno .i64 h89) h91 c93) ?_
           obtain rfl:=Zi H94;obtain rfl:=Zi H61;obtain rfl:=Zi H2;exact ZE0
          ·refine Z1 (Y6 (zno .i64 h81) h83 c85 (zno .i64 h89) h91 c93) ?_
           exact⟨⟨(c,(IntKind.i64.wrap (k4+1))),H94⟩,ZR [],Nat.lt_succ_self _⟩
         ·refine Z1 (Y3 (zno .i64 h81) h83 c85) ?_
          obtain rfl:=Zi H86;exact⟨⟨(),rfl⟩,ZR []⟩
      ·rintro⟨_,he95⟩
       obtain rfl:=he95.symm;try dsimp only at H61
       refine ZT 3 ?_;refine Z0 ?_;obtain rfl:=Zi H61;obtain rfl:=Zi H2;exact ZE0
     ·refine Z1 (Y4 c50 (zno .i64 h54) h56 c58) ?_
      refine ZT 1 ?_;refine Z1 (Y4 c50 (zno .i64 h54) h56 c58) ?_;exact⟨⟨(c,(IntKind.i64.wrap (i+1))),H59⟩,ZR [],Nat.lt_succ_self _⟩
    ·refine Z1 c50 ?_
     obtain rfl:=Zi H51;exact⟨⟨(),rfl⟩,ZR []⟩
 ·rintro⟨_,he96⟩
  obtain rfl:=he96.symm;try dsimp only at H2
  refine ZT 1 ?_;refine Z0 ?_;obtain rfl:=Zi H2;exact ZE0
def wB_ (n:Nat)(l:List GType)(t:ByteArray)(rel:ByteArray):Option (GRel × Bool):=
 (gD_ n l t rel).bind fun t14=>
 (if (decide (t14.1<0)) then
  some ((⟨ByteArray.empty,[],[]⟩:GRel),false)
 else
  (if (decide (t14.2<0)) then
   some ((⟨ByteArray.empty,[],[]⟩:GRel),false)
  else
   (idx l t14.1).bind fun x=>
   (idx x.rels t14.2).bind fun x2=>
   some (x2,true)))
theorem dZ_ {n:Nat}{l:List GType}{t:ByteArray}{rel:ByteArray}{r:GRel × Bool}(H:wB_ n l t rel=some r):PureOK Tryz.prog 18 [D.sl (List.map eGType l),D.v (.string t),D.v (.string rel)] (D.tu [D.ag (eGRel r.1),D.v (.bool r.2)]) false:=by
 unfold wB_ at H;refine ZP qh_ fol (rs:= #[.cell 6 52,.tmp 7]) Tryz.func18 ?_;refine ZT 1 ?_;obtain⟨t14,b1,H2⟩:=zbi H;refine Z0 ?_;refine ZC0 (hU_ b1) ?_;refine Z0 ?_;rcases zit H2 with⟨c3,H4⟩ |⟨c3,H4⟩
 ·refine Z1 c3 ?_
  obtain rfl:=Zi H4;exact ZE0
 ·refine Z1 c3 ?_
  rcases zit H4 with⟨c5,H6⟩ |⟨c5,H6⟩
  ·refine Z1 (Y2 c3 c5) ?_
   obtain rfl:=Zi H6;exact ZE0
  ·obtain⟨x,b7,H8⟩:=zbi H6
   obtain⟨h9,h10⟩:=zix b7;try simp only[Int.reduceToNat,Int.toNat_natCast] at h10
   have h11:=qm_ eGType h10;obtain⟨x2,b13,H14⟩:=zbi H8;obtain⟨h15,h16⟩:=zix b13;try simp only[Int.reduceToNat,Int.toNat_natCast] at h16
   have h17:=qm_ eGRel h16;refine Z1 (Y6 c3 c5 (zno .i64 h9) h11 (zno .i64 h15) h17) ?_;obtain rfl:=Zi H14;exact ZE0
def zz_ (_:Nat)(c2:Int):Option Bool:=
 (if (decide (97<=c2)) then
  (if (decide (c2<=122)) then
   some true
  else
   (if (decide (48<=c2)) then
    some (decide (c2<=57))
   else
    some false))
 else
  (if (decide (48<=c2)) then
   some (decide (c2<=57))
  else
   some false))
theorem zP_ {n:Nat}{c2:Int}{r:Bool}(H:zz_ n c2=some r):PureOK Tryz.prog 87 [D.v (.int .u8 c2)] (D.v (.bool r)) true:=by
 unfold zz_ at H;refine ZP qh_ fol (rs:= #[.tmp 2]) Tryz.func87 ?_;refine ZT 1 ?_;refine Z0 ?_;rcases zit H with⟨c1,H2⟩ |⟨c1,H2⟩
 ·refine Z1 c1 ?_
  rcases zit H2 with⟨c3,H4⟩ |⟨c3,H4⟩
  ·refine Z1 (Y2 c1 c3) ?_
   obtain rfl:=Zi H4;exact ZE0
  ·refine Z1 (Y2 c1 c3) ?_
   rcases zit H4 with⟨c5,H6⟩ |⟨c5,H6⟩
   ·refine Z1 (Y3 c1 c3 c5) ?_
    obtain rfl:=Zi H6;exact ZE0
   ·refine Z1 (Y3 c1 c3 c5) ?_
    obtain rfl:=Zi H6;exact ZE0
 ·refine Z1 c1 ?_
  rcases zit H2 with⟨c7,H8⟩ |⟨c7,H8⟩
  ·refine Z1 (Y2 c1 c7) ?_
   obtain rfl:=Zi H8;exact ZE0
  ·refine Z1 (Y2 c1 c7) ?_
   obtain rfl:=Zi H8;exact ZE0
def jM_ (n:Nat)(s:ByteArray):Nat->Int->Option ((Unit) ⊕ Bool)
 |0,_=>none
 |c+1,i=>
  (if (decide (i<(s.size:Int))) then
   (bidx s i).bind fun ch3=>
   (zz_ n ch3).bind fun t272=>
   (if t272 then
    jM_ n s c (IntKind.i64.wrap (i+1))
   else
    (if (ch3 != 95) then
     (if (ch3 != 45) then
      (if (ch3 != 46) then
       some (.inr false)
      else
       jM_ n s c (IntKind.i64.wrap (i+1)))
     else
      jM_ n s c (IntKind.i64.wrap (i+1)))
    else
     jM_ n s c (IntKind.i64.wrap (i+1))))
  else
   some (.inl ()))
def xP_ (n:Nat)(s:ByteArray):Option Bool:=
 (
  (if (decide ((s.size:Int)<1)) then
   some true
  else
   (if (decide (30<(s.size:Int))) then
    some true
   else
    (bidx s 0).bind fun ch=>
    (zz_ n ch).bind fun t15=>
    some (!t15))):Option (Bool)).bind fun t17=>
 (if t17 then
  some false
 else
  (
   jM_ n s n 0:Option ((Unit) ⊕ Bool)).bind fun
   | .inl _=>
    some true
   | .inr r=>some r)
theorem x7_ {n:Nat}{s:ByteArray}{r:Bool}(H:xP_ n s=some r):PureOK Tryz.prog 60 [D.v (.string s)] (D.v (.bool r)) true:=by
 unfold xP_ at H;refine ZP qh_ fol (rs:= #[.tmp 2]) Tryz.func60 ?_;refine zsq (ZT 1 ?_);refine Z0 ?_;refine zsq (zsq ?_);obtain⟨e_,E1,H2⟩:=zbi H;refine zjn (α:={ y:Bool // e_=y }) (fun |⟨t17,_⟩=>⟨upd 0 (.v (.string s)) (upd 17 (.v (.bool t17)) noFr),noHp,0⟩) ?_ ?_
 ·refine ZT 1 ?_
  refine Z0 ?_;rcases zit E1 with⟨c3,H4⟩ |⟨c3,H4⟩
  ·refine Z1 c3 ?_
   obtain rfl:=Zi H4;exact⟨⟨true,rfl⟩,ZR []⟩
  ·refine Z1 c3 ?_
   rcases zit H4 with⟨c5,H6⟩ |⟨c5,H6⟩
   ·refine Z1 (Y2 c3 c5) ?_
    obtain rfl:=Zi H6;exact⟨⟨true,rfl⟩,ZR []⟩
   ·obtain⟨ch,b7,H8⟩:=zbi H6
    obtain⟨h9,by_,h10,h11⟩:=zbx b7;try simp only[Int.reduceToNat] at h10
    obtain⟨t15,b12,H13⟩:=zbi H8;refine Z1 (Y5 c3 c5 (zno .i64 h9) h10 h11.symm) ?_;refine ZC0 (zP_ b12) ?_;refine Z1 (Y5 c3 c5 (zno .i64 h9) h10 h11.symm) ?_;obtain rfl:=Zi H13;exact⟨⟨(!t15),rfl⟩,ZR []⟩
 ·rintro⟨t17,he54⟩
  obtain rfl:=he54.symm;try dsimp only at H2
  refine ZT 1 ?_;refine Z0 ?_;rcases zit H2 with⟨c14,H15⟩ |⟨c14,H15⟩
  ·refine Z1 c14 ?_
   obtain rfl:=Zi H15;exact ZE0
  ·refine Z1 c14 ?_
   refine zsq (zsq ?_);refine ZT 1 ?_;refine Z1 c14 ?_;obtain⟨e_2,E16,H17⟩:=zbi H15;refine zjn (α:={ y:Unit // e_2= .inl y }) (fun |⟨_,_⟩=>⟨noFr,noHp,0⟩) ?_ ?_
   ·refine zbk ?_
    refine zlp (α:={ q:Nat × Int // jM_ n s q.1 q.2=some e_2 }) (fun |⟨⟨c,i⟩,_⟩=>⟨upd 0 (.v (.string s)) (upd 3 (.v (.int .i64 i)) noFr),noHp,0⟩) (fun q=>q.1.1) ⟨(n,0),E16⟩ ?_ ?_
    ·exact ZR []
    ·rintro⟨⟨c,i⟩,L18⟩
     rcases c with _ |c
     ·exact Zx L18
     ·unfold jM_ at L18
      try dsimp only at L18
      refine ZT 1 ?_;refine Z0 ?_;rcases zit L18 with⟨c36,H37⟩ |⟨c36,H37⟩
      ·obtain⟨ch3,b38,H39⟩:=zbi H37
       obtain⟨h40,by_3,h41,h42⟩:=zbx b38;try simp only[Int.reduceToNat,Int.toNat_natCast] at h41
       obtain⟨t272,b43,H44⟩:=zbi H39;refine Z1 (Y4 c36 (zno .i64 h40) h41 h42.symm) ?_;refine ZC0 (zP_ b43) ?_;refine Z1 (Y4 c36 (zno .i64 h40) h41 h42.symm) ?_;rcases zit H44 with⟨c45,H46⟩ |⟨c45,H46⟩
       ·refine Z1 (Y5 c36 (zno .i64 h40) h41 h42.symm c45) ?_
        exact⟨⟨(c,(IntKind.i64.wrap (i+1))),H46⟩,ZR [],Nat.lt_succ_self _⟩
       ·refine Z1 (Y5 c36 (zno .i64 h40) h41 h42.symm c45) ?_
        rcases zit H46 with⟨c47,H48⟩ |⟨c47,H48⟩
        ·refine Z1 (Y6 c36 (zno .i64 h40) h41 h42.symm c45 c47) ?_
         rcases zit H48 with⟨c49,H50⟩ |⟨c49,H50⟩
         ·refine Z1 (Y2 (Y6 c36 (zno .i64 h40) h41 h42.symm c45 c47) c49) ?_
          rcases zit H50 with⟨c51,H52⟩ |⟨c51,H52⟩
          ·refine Z1 (Y2 (Y6 c36 (zno .i64 h40) h41 h42.symm c45 c47) (Y2 c49 c51)) ?_
           obtain rfl:=Zi H52;obtain rfl:=Zi H17;exact ZE0
          ·refine Z1 (Y2 (Y6 c36 (zno .i64 h40) h41 h42.symm c45 c47) (Y2 c49 c51)) ?_
           exact⟨⟨(c,(IntKind.i64.wrap (i+1))),H52⟩,ZR [],Nat.lt_succ_self _⟩
         ·refine Z1 (Y2 (Y6 c36 (zno .i64 h40) h41 h42.symm c45 c47) c49) ?_
          exact⟨⟨(c,(IntKind.i64.wrap (i+1))),H50⟩,ZR [],Nat.lt_succ_self _⟩
        ·refine Z1 (Y6 c36 (zno .i64 h40) h41 h42.symm c45 c47) ?_
         exact⟨⟨(c,(IntKind.i64.wrap (i+1))),H48⟩,ZR [],Nat.lt_succ_self _⟩
      ·refine Z1 c36 ?_
       obtain rfl:=Zi H37;exact⟨⟨(),rfl⟩,ZR []⟩
   ·rintro⟨_,he53⟩
    obtain rfl:=he53.symm;try dsimp only at H17
    refine ZT 1 ?_;refine Z0 ?_;obtain rfl:=Zi H17;exact ZE0
def jy_ (n:Nat)(s:ByteArray):Nat->Int->Option ((Unit) ⊕ Bool)
 |0,_=>none
 |c+1,i=>
  (if (decide (i<(s.size:Int))) then
   (bidx s i).bind fun ch2=>
   (zz_ n ch2).bind fun t152=>
   (if t152 then
    jy_ n s c (IntKind.i64.wrap (i+1))
   else
    (if (ch2 != 95) then
     (if (ch2 != 45) then
      (if (ch2 != 46) then
       (if (ch2 != 47) then
        (if (ch2 != 124) then
         (if (ch2 != 42) then
          some (.inr false)
         else
          jy_ n s c (IntKind.i64.wrap (i+1)))
        else
         jy_ n s c (IntKind.i64.wrap (i+1)))
       else
        jy_ n s c (IntKind.i64.wrap (i+1)))
      else
       jy_ n s c (IntKind.i64.wrap (i+1)))
     else
      jy_ n s c (IntKind.i64.wrap (i+1)))
    else
     jy_ n s c (IntKind.i64.wrap (i+1))))
  else
   some (.inl ()))
def yE_ (n:Nat)(s:ByteArray):Option Bool:=
 (
  jy_ n s n 0:Option ((Unit) ⊕ Bool)).bind fun
  | .inl _=>
   (if (decide (1<=(s.size:Int))) then
    some (decide ((s.size:Int)<=250))
   else
    some false)
  | .inr r=>some r
theorem uG_ {n:Nat}{s:ByteArray}{r:Bool}(H:yE_ n s=some r):PureOK Tryz.prog 61 [D.v (.string s)] (D.v (.bool r)) true:=by
 unfold yE_ at H;refine ZP qh_ fol (rs:= #[.tmp 2]) Tryz.func61 ?_;refine zsq (ZT 1 ?_);refine Z0 ?_;refine zsq (zsq ?_);refine ZT 1 ?_;refine Z0 ?_;obtain⟨e_,E1,H2⟩:=zbi H;refine zjn (α:={ y:Unit // e_= .inl y }) (fun |⟨_,_⟩=>⟨upd 0 (.v (.string s)) noFr,noHp,0⟩) ?_ ?_
 ·refine zbk ?_
  refine zlp (α:={ q:Nat × Int // jy_ n s q.1 q.2=some e_ }) (fun |⟨⟨c,i⟩,_⟩=>⟨upd 0 (.v (.string s)) (upd 3 (.v (.int .i64 i)) noFr),noHp,0⟩) (fun q=>q.1.1) ⟨(n,0),E1⟩ ?_ ?_
  ·exact ZR []
  ·rintro⟨⟨c,i⟩,L3⟩
   rcases c with _ |c
   ·exact Zx L3
   ·unfold jy_ at L3
    try dsimp only at L3
    refine ZT 1 ?_;refine Z0 ?_;rcases zit L3 with⟨c27,H28⟩ |⟨c27,H28⟩
    ·obtain⟨ch2,b29,H30⟩:=zbi H28
     obtain⟨h31,by_2,h32,h33⟩:=zbx b29;try simp only[Int.reduceToNat,Int.toNat_natCast] at h32
     obtain⟨t152,b34,H35⟩:=zbi H30;refine Z1 (Y4 c27 (zno .i64 h31) h32 h33.symm) ?_;refine ZC0 (zP_ b34) ?_;refine Z1 (Y4 c27 (zno .i64 h31) h32 h33.symm) ?_;rcases zit H35 with⟨c36,H37⟩ |⟨c36,H37⟩
     ·refine Z1 (Y5 c27 (zno .i64 h31) h32 h33.symm c36) ?_
      exact⟨⟨(c,(IntKind.i64.wrap (i+1))),H37⟩,ZR [],Nat.lt_succ_self _⟩
     ·refine Z1 (Y5 c27 (zno .i64 h31) h32 h33.symm c36) ?_
      rcases zit H37 with⟨c38,H39⟩ |⟨c38,H39⟩
      ·refine Z1 (Y6 c27 (zno .i64 h31) h32 h33.symm c36 c38) ?_
       rcases zit H39 with⟨c40,H41⟩ |⟨c40,H41⟩
       ·refine Z1 (Y2 (Y6 c27 (zno .i64 h31) h32 h33.symm c36 c38) c40) ?_
        rcases zit H41 with⟨c42,H43⟩ |⟨c42,H43⟩
        ·refine Z1 (Y2 (Y6 c27 (zno .i64 h31) h32 h33.symm c36 c38) (Y2 c40 c42)) ?_
         rcases zit H43 with⟨c44,H45⟩ |⟨c44,H45⟩
         ·refine Z1 (Y2 (Y6 c27 (zno .i64 h31) h32 h33.symm c36 c38) (Y3 c40 c42 c44)) ?_
          rcases zit H45 with⟨c46,H47⟩ |⟨c46,H47⟩
          ·refine Z1 (Y2 (Y6 c27 (zno .i64 h31) h32 h33.symm c36 c38) (Y4 c40 c42 c44 c46)) ?_
           rcases zit H47 with⟨c48,H49⟩ |⟨c48,H49⟩
           ·refine Z1 (Y2 (Y6 c27 (zno .i64 h31) h32 h33.symm c36 c38) (Y5 c40 c42 c44 c46 c48)) ?_
            obtain rfl:=Zi H49;obtain rfl:=Zi H2;exact ZE0
           ·refine Z1 (Y2 (Y6 c27 (zno .i64 h31) h32 h33.symm c36 c38) (Y5 c40 c42 c44 c46 c48)) ?_
            exact⟨⟨(c,(IntKind.i64.wrap (i+1))),H49⟩,ZR [],Nat.lt_succ_self _⟩
          ·refine Z1 (Y2 (Y6 c27 (zno .i64 h31) h32 h33.symm c36 c38) (Y4 c40 c42 c44 c46)) ?_
           exact⟨⟨(c,(IntKind.i64.wrap (i+1))),H47⟩,ZR [],Nat.lt_succ_self _⟩
         ·refine Z1 (Y2 (Y6 c27 (zno .i64 h31) h32 h33.symm c36 c38) (Y3 c40 c42 c44)) ?_
          exact⟨⟨(c,(IntKind.i64.wrap (i+1))),H45⟩,ZR [],Nat.lt_succ_self _⟩
        ·refine Z1 (Y2 (Y6 c27 (zno .i64 h31) h32 h33.symm c36 c38) (Y2 c40 c42)) ?_
         exact⟨⟨(c,(IntKind.i64.wrap (i+1))),H43⟩,ZR [],Nat.lt_succ_self _⟩
       ·refine Z1 (Y2 (Y6 c27 (zno .i64 h31) h32 h33.symm c36 c38) c40) ?_
        exact⟨⟨(c,(IntKind.i64.wrap (i+1))),H41⟩,ZR [],Nat.lt_succ_self _⟩
      ·refine Z1 (Y6 c27 (zno .i64 h31) h32 h33.symm c36 c38) ?_
       exact⟨⟨(c,(IntKind.i64.wrap (i+1))),H39⟩,ZR [],Nat.lt_succ_self _⟩
    ·refine Z1 c27 ?_
     obtain rfl:=Zi H28;exact⟨⟨(),rfl⟩,ZR []⟩
 ·rintro⟨_,he52⟩
  obtain rfl:=he52.symm;try dsimp only at H2
  refine ZT 1 ?_;refine Z0 ?_;rcases zit H2 with⟨c50,H51⟩ |⟨c50,H51⟩
  ·refine Z1 c50 ?_
   obtain rfl:=Zi H51;exact ZE0
  ·refine Z1 c50 ?_
   obtain rfl:=Zi H51;exact ZE0
def v3_ (n:Nat)(t:GTuple):Option Bool:=
 (xP_ n t.obj.type_).bind fun t6=>
 (if t6 then
  (yE_ n t.obj.id_).bind fun t11=>
  (if t11 then
   (xP_ n t.rel).bind fun t16=>
   (if t16 then
    (xP_ n t.sub_.type_).bind fun t22=>
    (if t22 then
     (yE_ n t.sub_.id_).bind fun t28=>
     (if t28 then
      (if (t.sub_.rel.toList==({ data:= #[] }:ByteArray).toList) then
       some true
      else
       (xP_ n t.sub_.rel).bind fun t39=>
       some t39)
     else
      some false)
    else
     some false)
   else
    some false)
  else
   some false)
 else
  some false)
theorem hV_ {n:Nat}{t:GTuple}{r:Bool}(H:v3_ n t=some r):PureOK Tryz.prog 31 [D.ag (eGTuple t)] (D.v (.bool r)) true:=by
 unfold v3_ at H;refine ZP qh_ fol (rs:= #[.tmp 2]) Tryz.func31 ?_;refine ZT 1 ?_;obtain⟨t6,b1,H2⟩:=zbi H;refine Z0 ?_;refine ZC0 (x7_ b1) ?_;refine Z0 ?_;rcases zit H2 with⟨c3,H4⟩ |⟨c3,H4⟩
 ·obtain⟨t11,b5,H6⟩:=zbi H4
  refine Z1 c3 ?_;refine ZC0 (uG_ b5) ?_;refine Z1 c3 ?_;rcases zit H6 with⟨c7,H8⟩ |⟨c7,H8⟩
  ·obtain⟨t16,b9,H10⟩:=zbi H8
   refine Z1 (Y2 c3 c7) ?_;refine ZC0 (x7_ b9) ?_;refine Z1 (Y2 c3 c7) ?_;rcases zit H10 with⟨c11,H12⟩ |⟨c11,H12⟩
   ·obtain⟨t22,b13,H14⟩:=zbi H12
    refine Z1 (Y3 c3 c7 c11) ?_;refine ZC0 (x7_ b13) ?_;refine Z1 (Y3 c3 c7 c11) ?_;rcases zit H14 with⟨c15,H16⟩ |⟨c15,H16⟩
    ·obtain⟨t28,b17,H18⟩:=zbi H16
     refine Z1 (Y4 c3 c7 c11 c15) ?_;refine ZC0 (uG_ b17) ?_;refine Z1 (Y4 c3 c7 c11 c15) ?_;rcases zit H18 with⟨c19,H20⟩ |⟨c19,H20⟩
     ·refine Z1 (Y5 c3 c7 c11 c15 c19) ?_
      rcases zit H20 with⟨c21,H22⟩ |⟨c21,H22⟩
      ·refine Z1 (Y6 c3 c7 c11 c15 c19 c21) ?_
       obtain rfl:=Zi H22;exact ZE0
      ·obtain⟨t39,b23,H24⟩:=zbi H22
       refine Z1 (Y6 c3 c7 c11 c15 c19 c21) ?_;refine ZC0 (x7_ b23) ?_;refine Z1 (Y6 c3 c7 c11 c15 c19 c21) ?_;obtain rfl:=Zi H24;exact ZE0
     ·refine Z1 (Y5 c3 c7 c11 c15 c19) ?_
      obtain rfl:=Zi H20;exact ZE0
    ·refine Z1 (Y4 c3 c7 c11 c15) ?_
     obtain rfl:=Zi H16;exact ZE0
   ·refine Z1 (Y3 c3 c7 c11) ?_
    obtain rfl:=Zi H12;exact ZE0
  ·refine Z1 (Y2 c3 c7) ?_
   obtain rfl:=Zi H8;exact ZE0
 ·refine Z1 c3 ?_
  obtain rfl:=Zi H4;exact ZE0
def jh_ (n:Nat)(t:GTuple)(t15:GRel × Bool):Nat->Int->Option ((Unit) ⊕ Bool)
 |0,_=>none
 |c+1,i=>
  (if (decide (i<(t15.1.subs.length:Int))) then
   (idx t15.1.subs i).bind fun x2=>
   (if (x2.type_.toList==t.sub_.type_.toList) then
    (if (x2.rel.toList==t.sub_.rel.toList) then
     some (.inr true)
    else
     jh_ n t t15 c (IntKind.i64.wrap (i+1)))
   else
    jh_ n t t15 c (IntKind.i64.wrap (i+1)))
  else
   some (.inl ()))
def zA_ (n:Nat)(l:List GType)(t:GTuple):Option Bool:=
 (wB_ n l t.obj.type_ t.rel).bind fun t15=>
 (
  (if t15.2 then
   (v3_ n t).bind fun t22=>
   some (!t22)
  else
   some true):Option (Bool)).bind fun t24=>
 (if t24 then
  some false
 else
  (
   jh_ n t t15 n 0:Option ((Unit) ⊕ Bool)).bind fun
   | .inl _=>
    some false
   | .inr r=>some r)
theorem bN_ {n:Nat}{l:List GType}{t:GTuple}{r:Bool}(H:zA_ n l t=some r):PureOK Tryz.prog 12 [D.sl (List.map eGType l),D.ag (eGTuple t)] (D.v (.bool r)) true:=by
 unfold zA_ at H;refine ZP qh_ fol (rs:= #[.tmp 4]) Tryz.func12 ?_;refine zsq (ZT 1 ?_);refine Z0 ?_;refine zsq (ZT 1 ?_);obtain⟨t15,b1,H2⟩:=zbi H;refine Z0 ?_;refine ZC0 (dZ_ b1) ?_;refine Z0 ?_;refine zsq (zsq ?_);obtain⟨e_,E3,H4⟩:=zbi H2
 refine zjn (α:={ y:Bool // e_=y }) (fun |⟨t24,_⟩=>⟨upd 3 (.pt 0 0) (upd 5 (.pt 1 0) (upd 24 (.v (.bool t24)) noFr)),upd 0 (some (.bx [.v (.string t.obj.type_),.v (.string t.obj.id_),.v (.string t.rel),.v (.string t.sub_.type_),.v (.string t.sub_.id_),.v (.string t.sub_.rel)])) (upd 1 (some (.bx [.v (.string t15.1.name),.d (.sl (List.map eGSub t15.1.subs)) true,.d (.sl (List.map eGStep t15.1.expr)) true])) noHp),2⟩) ?_ ?_
 ·refine ZT 1 ?_
  refine Z0 ?_;rcases zit E3 with⟨c5,H6⟩ |⟨c5,H6⟩
  ·obtain⟨t22,b7,H8⟩:=zbi H6
   refine Z1 c5 ?_;refine ZC0 (hV_ b7) ?_;refine Z1 c5 ?_;obtain rfl:=Zi H8;exact⟨⟨(!t22),rfl⟩,ZR [(0,0),(1,12)]⟩
  ·refine Z1 c5 ?_
   obtain rfl:=Zi H6;exact⟨⟨true,rfl⟩,ZR [(0,0),(1,12)]⟩
 ·rintro⟨t24,he39⟩
  obtain rfl:=he39.symm;try dsimp only at H4
  refine ZT 1 ?_;refine Z0 ?_;rcases zit H4 with⟨c9,H10⟩ |⟨c9,H10⟩
  ·refine Z1 c9 ?_
   obtain rfl:=Zi H10;exact ZE0
  ·refine Z1 c9 ?_
   refine zsq (zsq ?_);refine ZT 1 ?_;refine Z1 c9 ?_;obtain⟨e_2,E11,H12⟩:=zbi H10;refine zjn (α:={ y:Unit // e_2= .inl y }) (fun |⟨_,_⟩=>⟨noFr,noHp,0⟩) ?_ ?_
   ·refine zbk ?_
    refine zlp (α:={ q:Nat × Int // jh_ n t t15 q.1 q.2=some e_2 }) (fun |⟨⟨c,i⟩,_⟩=>⟨upd 3 (.pt 0 0) (upd 5 (.pt 1 0) (upd 7 (.v (.int .i64 i)) noFr)),upd 0 (some (.bx [.v (.string t.obj.type_),.v (.string t.obj.id_),.v (.string t.rel),.v (.string t.sub_.type_),.v (.string t.sub_.id_),.v (.string t.sub_.rel)])) (upd 1 (some (.bx [.v (.string t15.1.name),.d (.sl (List.map eGSub t15.1.subs)) true,.d (.sl (List.map eGStep t15.1.expr)) true])) noHp),2⟩) (fun q=>q.1.1) ⟨(n,0),E11⟩ ?_ ?_
    ·exact ZR [(0,0),(1,1)]
    ·rintro⟨⟨c,i⟩,L13⟩
     rcases c with _ |c
     ·exact Zx L13
     ·unfold jh_ at L13
      try dsimp only at L13
      refine ZT 1 ?_;refine Z0 ?_;rcases zit L13 with⟨c26,H27⟩ |⟨c26,H27⟩
      ·obtain⟨x2,b28,H29⟩:=zbi H27
       obtain⟨h30,h31⟩:=zix b28;try simp only[Int.reduceToNat,Int.toNat_natCast] at h31
       have h32:=qm_ eGSub h31;refine Z1 (Y3 c26 (zno .i64 h30) h32) ?_;rcases zit H29 with⟨c34,H35⟩ |⟨c34,H35⟩
       ·refine Z1 (Y4 c26 (zno .i64 h30) h32 c34) ?_
        refine qj_ (by rfl) ?_;refine Z1 (Y4 c26 (zno .i64 h30) h32 c34) ?_;rcases zit H35 with⟨c36,H37⟩ |⟨c36,H37⟩
        ·refine Z1 (Y5 c26 (zno .i64 h30) h32 c34 c36) ?_
         obtain rfl:=Zi H37;obtain rfl:=Zi H12;exact ZE0
        ·refine Z1 (Y5 c26 (zno .i64 h30) h32 c34 c36) ?_
         exact⟨⟨(c,(IntKind.i64.wrap (i+1))),H37⟩,ZR [(0,0),(1,1)],Nat.lt_succ_self _⟩
       ·refine Z1 (Y4 c26 (zno .i64 h30) h32 c34) ?_
        refine qj_ (by rfl) ?_;refine Z1 (Y4 c26 (zno .i64 h30) h32 c34) ?_;exact⟨⟨(c,(IntKind.i64.wrap (i+1))),H35⟩,ZR [(0,0),(1,1)],Nat.lt_succ_self _⟩
      ·refine Z1 c26 ?_
       obtain rfl:=Zi H27;exact⟨⟨(),rfl⟩,ZR []⟩
   ·rintro⟨_,he38⟩
    obtain rfl:=he38.symm;try dsimp only at H12
    refine ZT 1 ?_;refine Z0 ?_;obtain rfl:=Zi H12;exact ZE0
end Go.Proofs.YtnmkbmefohakmaaGreat.Ab
