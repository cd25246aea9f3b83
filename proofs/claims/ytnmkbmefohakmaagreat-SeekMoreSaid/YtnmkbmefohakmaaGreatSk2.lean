/-
 Whether one of some relations is known to be so.
-/
import Derived.Test.YtnmkbmefohakmaaGreatSgs
set_option linter.all false
namespace Go.Proofs.YtnmkbmefohakmaaGreat.Ab
open Go.RowKit IntKind
def MG (_:Nat)(k2:Int)(c2:List Int):Option Int:=(if decide (k2<(c2.length:Int)) then (C4 c2 k2).bind fun x=>some x else some 0)
theorem Uv {n:Nat}{k2:Int}{c2:List Int}{r:Int}(H:MG n k2 c2=some r):AI Tryz.prog 27 [D.v (.int .i64 k2),D.pt [D.sl (List.map eI c2)] 0] (D.v (.int .i64 r)) true:=by
 unfold MG at H;refine zP #[.tmp 3] Tryz.func27 ?_;refine AN ?_;obtain⟨c1,H2⟩ |⟨c1,H2⟩:=CM H
 ·obtain⟨x,h5,h6,h7,H4⟩:=zI eI H2;refine Z1 (Y2 c1 h7) ?_;cases H4;exact CC
 refine Z1 c1 ?_;cases H2;exact CC
def MH (_:Nat)(n_:Int):Option ByteArray:=(C4 ([{ data:= #[117] },{ data:= #[117] },{ data:= #[97,35,114] },{ data:= #[98,35,114] },{ data:= #[97,35,115] },{ data:= #[98,35,112] },{ data:= #[97] },{ data:= #[98] },{ data:= #[117] },{ data:= #[97,35,113] }]:List ByteArray) (Int.tmod (i64.wrap (an n_ 255:Int)) 10)).bind fun x=>some x
theorem jC {n:Nat}{n_:Int}{r:ByteArray}(H:MH n n_=some r):AI Tryz.prog 28 [D.v (.int .i64 n_)] (D.v (.string r)) true:=by
 unfold MH at H;refine zP #[.tmp 2] Tryz.func28 ?_;refine ZT 1 ?_;obtain⟨x,h3,h4,H2⟩:=IY H;have h5:=Cs eS h4;simp only[Lk,LD,eS] at h5;have h6:=GW h4;simp only[Lg,LB,Nat.reduceAdd] at h6;refine Z1 (Y3 (Cx .i64 h3) h5 h6) ?_;cases H2;exact CC
def KS (_:Nat)(n_:Int):Option ByteArray:=(C4 ([{ data:= #[114] },{ data:= #[115] },{ data:= #[114] },{ data:= #[115] },{ data:= #[115,45,62,114] },{ data:= #[115,45,62,112] },{ data:= #[112] },{ data:= #[113] }]:List ByteArray) (i64.wrap (an n_ 7:Int))).bind fun x=>some x
theorem XY {n:Nat}{n_:Int}{r:ByteArray}(H:KS n n_=some r):AI Tryz.prog 29 [D.v (.int .i64 n_)] (D.v (.string r)) true:=by
 unfold KS at H;refine zP #[.tmp 2] Tryz.func29 ?_;refine ZT 1 ?_;obtain⟨x,h3,h4,H2⟩:=IY H;have h5:=Cs eS h4;simp only[Lk,LD,eS] at h5;have h6:=GW h4;simp only[Lg,LB,Nat.reduceAdd] at h6;refine Z1 (Y3 (Cx .i64 h3) h5 h6) ?_;cases H2;exact CC
def IL (n:Nat)(t0:List Int)(t7:Int):Nat->(ByteArray × Int)->Option (ByteArray)
 |0,_=>none
 |c+1,(t68,t93)=>(if decide (t93<2) then (MG n (i64.wrap ((i64.wrap (t7+1))+t93)) t0).bind fun t674=>(EH t68 ({ data:= #[32] })).bind fun s62=>(C4 ([{ data:= #[112] },{ data:= #[113] }]:List ByteArray) t93).bind fun x11=>(EH s62 x11).bind fun s63=>(EH s63 ({ data:= #[32,61,32] })).bind fun s64=>(KS n t674).bind fun t784=>(EH s64 t784).bind fun s65=>(C4 ([{ data:= #[32,43,32] },{ data:= #[32,38,32] },{ data:= #[32,45,32] },{ data:= #[32,43,32] }]:List ByteArray) (i64.wrap (an (sh t674 4) 3:Int))).bind fun x12=>(EH s65 x12).bind fun s66=>(KS n (sh t674 8)).bind fun t904=>(EH s66 t904).bind fun s67=>(if ((i64.wrap (an (sh t674 12) 1:Int))==1) then (C4 ([{ data:= #[32,43,32] },{ data:= #[32,38,32] },{ data:= #[32,45,32] },{ data:= #[32,45,32,40] }]:List ByteArray) (i64.wrap (an (sh t674 13) 3:Int))).bind fun x13=>(EH s67 x13).bind fun s68=>(KS n (sh t674 16)).bind fun t1074=>(EH s68 t1074).bind fun s69=>(if ((i64.wrap (an (sh t674 13) 3:Int))==3) then (EH s69 ({ data:= #[32,38,32] })).bind fun s70=>(KS n (sh t674 20)).bind fun t1184=>(EH s70 t1184).bind fun s71=>(EH s71 ({ data:= #[41] })).bind fun s72=>(EH s72 ({ data:= #[59] })).bind fun s73=>IL n t0 t7 c (s73,(i64.wrap (t93+1))) else (EH s69 ({ data:= #[59] })).bind fun s74=>IL n t0 t7 c (s74,(i64.wrap (t93+1)))) else (EH s67 ({ data:= #[59] })).bind fun s75=>IL n t0 t7 c (s75,(i64.wrap (t93+1)))) else some t68)
def KT (n:Nat)(t0:List Int):Nat->(ByteArray × Int × Int)->Option (ByteArray)
 |0,_=>none
 |c+1,(t65,t7,t8)=>(if decide (t8<2) then (EH t65 ({ data:= #[116,121,112,101,32] })).bind fun s39=>(C4 ([{ data:= #[97] },{ data:= #[98] }]:List ByteArray) t8).bind fun x7=>(EH s39 x7).bind fun s40=>(EH s40 ({ data:= #[32,123,32,114,58,32] })).bind fun s41=>(MG n t7 t0).bind fun t272=>(MH n t272).bind fun t282=>(EH s41 t282).bind fun s42=>(MG n t7 t0).bind fun t322=>((if ((i64.wrap (an (sh t322 8) 1:Int))==1) then (EH s42 ({ data:= #[32,124,32] })).bind fun s43=>(MG n t7 t0).bind fun t412=>(MH n (sh t412 9)).bind fun t432=>(EH s43 t432).bind fun s44=>some s44 else some s42):Option (ByteArray)).bind fun t66=>(EH t66 ({ data:= #[59,32,115,58,32] })).bind fun s45=>(MG n t7 t0).bind fun t502=>(C4 ([{ data:= #[97] },{ data:= #[98] },{ data:= #[97,32,124,32,98] },{ data:= #[117,32,124,32,97] }]:List ByteArray) (Int.tmod (i64.wrap (an (sh t502 20) 255:Int)) 4)).bind fun x8=>(EH s45 x8).bind fun s46=>(EH s46 ({ data:= #[59] })).bind fun s47=>(IL n t0 t7 n (s47,0):Option (ByteArray)).bind fun t610=>(EH t610 ({ data:= #[32,125,10] })).bind fun s76=>KT n t0 c (s76,(i64.wrap (t7+3)),(i64.wrap (t8+1))) else some t65)
def M6 (n:Nat)(t0:List Int):Option ByteArray:=(KT n t0 n ({ data:= #[116,121,112,101,32,117,10] },0,0):Option (ByteArray)).bind fun t612=>some t612
set_option maxHeartbeats 8000000 in
theorem tN {n:Nat}{t0:List Int}{r:ByteArray}(H:M6 n t0=some r):AI Tryz.prog 9 [D.sl (List.map eI t0)] (D.v (.string r)) true:=by
 unfold M6 at H;refine zP #[.tmp 2] Tryz.func9 ?_;refine D3 ?_;refine D3 ?_;refine D3 ?_;refine ET ?_;refine zj H (fun _ _ t612=>⟨upd 6 (.v (.string t612)) AQ,AS,0⟩) (fun e_ E1 H2=> ?_) fun t612 H2=> ?_;rotate_left
 ·refine AN ?_;cases H2;exact CC
 refine IX E1 (fun f h (t65,t7,t8)=>⟨kp [3,4,5] f (upd 6 (.v (.string t65)) (upd 7 (.v (.int .i64 t7)) (upd 8 (.v (.int .i64 t8)) AQ))),kh [0] h AS,1⟩) (ZR [(0,0)]) fun c ⟨t65,t7,t8⟩ L3=> ?_
 refine Az ?_;obtain⟨c265,H266⟩ |⟨c265,H266⟩:=CM L3;rotate_left
 ·refine Z1 c265 ?_;cases H266;exact ZR []
 refine KB c265 ?_;obtain⟨s39,b267,H268⟩:=AJ H266;obtain⟨h269,h270⟩:=Ew b267;have h271:t65.size+5<=maxLen:=h269;obtain⟨x7,h274,h275,H273⟩:=IY H268;have h276:=Cs eS h275;simp only[Lk,LD,eS] at h276;have h277:=GW h275;simp only[Lg,LB,Nat.reduceAdd] at h277;obtain⟨s40,b278,H279⟩:=AJ H273;obtain⟨h280,h281⟩:=Ew b278;obtain⟨s41,b282,H283⟩:=AJ H279;obtain⟨h284,h285⟩:=Ew b282;have h286:s40.size+6<=maxLen:=h284;obtain⟨t272,b287,H288⟩:=AJ H283;have w76_:=Y2 (Y6 c265 h269 h270 h271 (Cx .i64 h274) h276) (Y6 h277 h280 h281 h284 h285 h286);refine Z1 w76_ ?_;refine rQ [0] (by intro hp1 h1;have h289:=h1 0 (by simp);(try simp -implicitDefEqProofs only[go_sem,reduceCtorEq, ↓reduceIte] at h289);first |(simp -implicitDefEqProofs only[go_sem,h289];done) |(simp -implicitDefEqProofs only[go_sem,h289];rfl)) (CQ.of_pure (Uv b287)) (by first |exact .inr rfl |exact .inl rfl) ?_;obtain⟨t282,b290,H291⟩:=AJ H288;refine Z1 w76_ ?_;refine Ea (jC b290) ?_;obtain⟨s42,b292,H293⟩:=AJ H291;obtain⟨h294,h295⟩:=Ew b292;have w77_:=Y3 w76_ h294 h295;refine GU w77_ ?_;refine AW (AW ?_);refine ZT 1 ?_;obtain⟨t322,b296,H297⟩:=AJ H293;refine Z1 w77_ ?_;refine Xv w77_ (CQ.of_pure (Uv b296)) ?_;refine Z1 w77_ ?_;refine zj H297 (fun f h t66=>⟨kp [3,4,5,7,8] f (upd 6 (.v (.string t66)) AQ),kh [0] h AS,1⟩) (fun e_4 E298 H299=> ?_) fun t66 H299=> ?_
 ·refine AN ?_;obtain⟨c300,H301⟩ |⟨c300,H301⟩:=CM E298
  ·obtain⟨s43,b302,H303⟩:=AJ H301;obtain⟨h304,h305⟩:=Ew b302;have h306:s42.size+3<=maxLen:=h304;obtain⟨t412,b307,H308⟩:=AJ H303;have w78_:=Y4 c300 h304 h305 h306;refine Z1 w78_ ?_;refine Xv w78_ (CQ.of_pure (Uv b307)) ?_;obtain⟨t432,b309,H310⟩:=AJ H308;refine Z1 w78_ ?_;refine DB (jC b309) ?_;obtain⟨s44,b311,H312⟩:=AJ H310;obtain⟨h313,h314⟩:=Ew b311;refine Z1 (Y3 w78_ h313 h314) ?_;cases H312;exact ZR [(0,0)]
  refine Z1 c300 ?_;cases H301;exact ZR [(0,0)]
 refine AW (ZT 1 ?_);obtain⟨s45,b315,H316⟩:=AJ H299;obtain⟨h317,h318⟩:=Ew b315;have h319:t66.size+5<=maxLen:=h317;obtain⟨t502,b320,H321⟩:=AJ H316;have w79_:=Y3 h317 h318 h319;refine Z1 w79_ ?_;refine Xv w79_ (CQ.of_pure (Uv b320)) ?_;obtain⟨x8,h324,h325,H323⟩:=IY H321;have h326:=Cs eS h325;simp only[Lk,LD,eS] at h326;have h327:=GW h325;simp only[Lg,LB,Nat.reduceAdd] at h327;obtain⟨s46,b328,H329⟩:=AJ H323;obtain⟨h330,h331⟩:=Ew b328;obtain⟨s47,b332,H333⟩:=AJ H329;obtain⟨h334,h335⟩:=Ew b332;have h336:s46.size+1<=maxLen:=h334;have w80_:=Y2 (Y6 w79_ (Cx .i64 h324) h326 h327 h330 h331) (Y3 h334 h335 h336);refine Qy w80_ ?_;refine zj H333 (fun f h t610=>⟨kp [3,4,5,7,8] f (upd 6 (.v (.string t610)) AQ),kh [0] h AS,1⟩) (fun e_5 E337 H338=> ?_) fun t610 H338=> ?_;rotate_left
 ·refine ZT 3 ?_;obtain⟨s76,b527,H528⟩:=AJ H338;obtain⟨h529,h530⟩:=Ew b527;have h531:t610.size+3<=maxLen:=h529;refine Z1 (Y3 h529 h530 h531) ?_;exact⟨_,H528,ZR [(0,0)]⟩
 refine IX E337 (fun f h (t68,t93)=>⟨kp [3,4,5,7,8] f (upd 6 (.v (.string t68)) (upd 9 (.v (.int .i64 t93)) AQ)),kh [0] h AS,1⟩) (ZR [(0,0)]) fun c ⟨t68,t93⟩ L339=> ?_
 refine AN ?_;obtain⟨c430,H431⟩ |⟨c430,H431⟩:=CM L339;rotate_left
 ·refine Z1 c430 ?_;cases H431;exact ZR [(0,0)]
 obtain⟨t674,b432,H433⟩:=AJ H431;refine Z1 c430 ?_;refine Xv c430 (CQ.of_pure (Uv b432)) ?_;obtain⟨s62,b434,H435⟩:=AJ H433;obtain⟨h436,h437⟩:=Ew b434;have h438:t68.size+1<=maxLen:=h436;obtain⟨x11,h441,h442,H440⟩:=IY H435;have h443:=Cs eS h442;simp only[Lk,LD,eS] at h443;have h444:=GW h442;simp only[Lg,LB,Nat.reduceAdd] at h444;obtain⟨s63,b445,H446⟩:=AJ H440;obtain⟨h447,h448⟩:=Ew b445;obtain⟨s64,b449,H450⟩:=AJ H446;obtain⟨h451,h452⟩:=Ew b449;have h453:s63.size+3<=maxLen:=h451;obtain⟨t784,b454,H455⟩:=AJ H450;have w81_:=Y2 (Y6 c430 h436 h437 h438 (Cx .i64 h441) h443) (Y6 h444 h447 h448 h451 h452 h453);refine Z1 w81_ ?_;refine Ea (XY b454) ?_;obtain⟨s65,b456,H457⟩:=AJ H455;obtain⟨h458,h459⟩:=Ew b456;obtain⟨x12,h462,h463,H461⟩:=IY H457;have h464:=Cs eS h463;simp only[Lk,LD,eS] at h464;have h465:=GW h463;simp only[Lg,LB,Nat.reduceAdd] at h465;obtain⟨s66,b466,H467⟩:=AJ H461;obtain⟨h468,h469⟩:=Ew b466;obtain⟨t904,b470,H471⟩:=AJ H467;have w82_:=Y2 (Y6 w81_ h458 h459 (Cx .i64 h462) h464 h465) (Y2 h468 h469);refine Z1 w82_ ?_;refine Ea (XY b470) ?_;obtain⟨s67,b472,H473⟩:=AJ H471;obtain⟨h474,h475⟩:=Ew b472;have w83_:=Y3 w82_ h474 h475;refine GU w83_ ?_;obtain⟨c476,H477⟩ |⟨c476,H477⟩:=CM H473
 ·obtain⟨x13,h480,h481,H479⟩:=IY H477;have h482:=Cs eS h481;simp only[Lk,LD,eS] at h482;have h483:=GW h481;simp only[Lg,LB,Nat.reduceAdd] at h483;obtain⟨s68,b484,H485⟩:=AJ H479;obtain⟨h486,h487⟩:=Ew b484;obtain⟨t1074,b488,H489⟩:=AJ H485;have w84_:=Y2 (Y6 w83_ c476 (Cx .i64 h480) h482 h483 h486) h487;refine Z1 w84_ ?_;refine Ea (XY b488) ?_;obtain⟨s69,b490,H491⟩:=AJ H489;obtain⟨h492,h493⟩:=Ew b490;have w85_:=Y3 w84_ h492 h493;refine GU w85_ ?_;obtain⟨c494,H495⟩ |⟨c494,H495⟩:=CM H491
  ·obtain⟨s70,b496,H497⟩:=AJ H495;obtain⟨h498,h499⟩:=Ew b496;have h500:s69.size+3<=maxLen:=h498;obtain⟨t1184,b501,H502⟩:=AJ H497;have w86_:=Y5 w85_ c494 h498 h499 h500;refine Z1 w86_ ?_;refine DB (XY b501) ?_;obtain⟨s71,b503,H504⟩:=AJ H502;obtain⟨h505,h506⟩:=Ew b503;obtain⟨s72,b507,H508⟩:=AJ H504;obtain⟨h509,h510⟩:=Ew b507;have h511:s71.size+1<=maxLen:=h509;obtain⟨s73,b512,H513⟩:=AJ H508;obtain⟨h514,h515⟩:=Ew b512;have h516:s72.size+1<=maxLen:=h514;refine Z1 (Y2 (Y6 w86_ h505 h506 h509 h510 h511) (Y3 h514 h515 h516)) ?_;exact⟨_,H513,ZR [(0,0)]⟩
  obtain⟨s74,b517,H518⟩:=AJ H495;obtain⟨h519,h520⟩:=Ew b517;have h521:s69.size+1<=maxLen:=h519;refine Z1 (Y5 w85_ c494 h519 h520 h521) ?_;exact⟨_,H518,ZR [(0,0)]⟩
 obtain⟨s75,b522,H523⟩:=AJ H477;obtain⟨h524,h525⟩:=Ew b522;have h526:s67.size+1<=maxLen:=h524;refine Z1 (Y5 w83_ c476 h524 h525 h526) ?_;exact⟨_,H523,ZR [(0,0)]⟩
def Si (_:Nat)(n_:Int):Option ByteArray:=(C4 ([{ data:= #[97] },{ data:= #[98] },{ data:= #[99] },{ data:= #[100] },{ data:= #[97,98] },{ data:= #[98,45,49] },{ data:= #[120,46,121] },{ data:= #[48] }]:List ByteArray) (i64.wrap (an n_ 7:Int))).bind fun x=>some x
theorem jD {n:Nat}{n_:Int}{r:ByteArray}(H:Si n n_=some r):AI Tryz.prog 59 [D.v (.int .i64 n_)] (D.v (.string r)) true:=by
 unfold Si at H;refine zP #[.tmp 2] Tryz.func59 ?_;refine ZT 1 ?_;obtain⟨x,h3,h4,H2⟩:=IY H;have h5:=Cs eS h4;simp only[Lk,LD,eS] at h5;have h6:=GW h4;simp only[Lg,LB,Nat.reduceAdd] at h6;refine Z1 (Y3 (Cx .i64 h3) h5 h6) ?_;cases H2;exact CC
def Sj (n:Nat)(n_:Int):Option AE:=(C4 ([{ data:= #[97] },{ data:= #[98] }]:List ByteArray) (i64.wrap (an n_ 1:Int))).bind fun x=>(Si n (sh n_ 1)).bind fun t11=>(C4 ([{ data:= #[114] },{ data:= #[115] }]:List ByteArray) (i64.wrap (an (sh n_ 4) 1:Int))).bind fun x2=>(C4 ([{ data:= #[117] },{ data:= #[97] },{ data:= #[98] }]:List ByteArray) (Int.tmod (i64.wrap (an (sh n_ 5) 255:Int)) 3)).bind fun x3=>(Si n (sh n_ 13)).bind fun t28=>(if ((i64.wrap (an (sh n_ 16) 3:Int))==0) then (C4 ([{ data:= #[114] },{ data:= #[115] }]:List ByteArray) (i64.wrap (an (sh n_ 18) 1:Int))).bind fun x4=>some (⟨(⟨x,t11⟩:Ao),x2,(⟨x3,t28,x4⟩:AL)⟩:AE) else some (⟨(⟨x,t11⟩:Ao),x2,(⟨x3,t28,ByteArray.empty⟩:AL)⟩:AE))
theorem jE {n:Nat}{n_:Int}{r:AE}(H:Sj n n_=some r):AI Tryz.prog 30 [D.v (.int .i64 n_)] (D.ag (AH r)) true:=by
 unfold Sj at H;refine zP #[.cell 2 35] Tryz.func30 ?_;refine ZT 1 ?_;obtain⟨x,h3,h4,H2⟩:=IY H;have h5:=Cs eS h4;simp only[Lk,LD,eS] at h5;have h6:=GW h4;simp only[Lg,LB,Nat.reduceAdd] at h6;obtain⟨t11,b7,H8⟩:=AJ H2;have w87_:=Y3 (Cx .i64 h3) h5 h6;refine Z1 w87_ ?_;refine Ea (jD b7) ?_;obtain⟨x2,h11,h12,H10⟩:=IY H8;have h13:=Cs eS h12;simp only[Lk,LD,eS] at h13;have h14:=GW h12;simp only[Lg,LB,Nat.reduceAdd] at h14;obtain⟨x3,h17,h18,H16⟩:=IY H10;have h19:=Cs eS h18;simp only[Lk,LD,eS] at h19;have h20:=GW h18;simp only[Lg,LB,Nat.reduceAdd] at h20;obtain⟨t28,b21,H22⟩:=AJ H16;have w88_:=Y2 (Y6 w87_ (Cx .i64 h11) h13 h14 (Cx .i64 h17) h19) h20;refine Z1 w88_ ?_;refine Ea (jD b21) ?_;refine Z1 w88_ ?_;refine DR (by kernel_rfl) ?_;refine Z1 w88_ ?_;obtain⟨c23,H24⟩ |⟨c23,H24⟩:=CM H22
 ·obtain⟨x4,h27,h28,H26⟩:=IY H24;have h29:=Cs eS h28;simp only[Lk,LD,eS] at h29;have h30:=GW h28;simp only[Lg,LB,Nat.reduceAdd] at h30;refine Z1 (Y5 w88_ c23 (Cx .i64 h27) h29 h30) ?_;cases H26;exact CC
 refine Z1 (Y2 w88_ c23) ?_;cases H24;exact CC
def Uw (n:Nat)(l:List Int):Nat->(List AE × Int)->Option (List AE)
 |0,_=>none
 |c+1,(out,i)=>((if decide (i<(l.length:Int)) then some (decide (i<80)) else some false):Option (Bool)).bind fun t122=>(if t122 then (C4 l i).bind fun x2=>(Sj n x2).bind fun t202=>(EA out [t202]).bind fun l2=>Uw n l c (l2,(i64.wrap (i+1))) else some out)
def Sk (n:Nat)(l:List Int):Option (List AE):=(Uw n l n ([],0):Option (List AE)).bind fun out3=>some out3
theorem jF {n:Nat}{l:List Int}{r:List AE}(H:Sk n l=some r):AI Tryz.prog 10 [D.sl (List.map eI l)] (D.sl (List.map AH r)) true:=by
 unfold Sk at H;refine zP #[.tmp 2] Tryz.func10 ?_;refine D3 ?_;refine ET ?_;refine GT H (fun _ _ out3 g4=>⟨upd 3 (Aa 0 g4 (List.map AH out3)) AQ,upd 0 (CD 6 g4 false (List.map AH out3)) AS,1⟩) (fun e_ E1 H2=> ?_) fun out3 g4 H2=> ?_;rotate_left
 ·refine AN ?_;cases H2;exact CC
 refine Ft E1 (fun f _ (out,i) g=>⟨kp [0] f (upd 3 (Aa 0 g (List.map AH out)) (upd 4 (.v (.int .i64 i)) AQ)),upd 0 (CD 6 g false (List.map AH out)) AS,1⟩) 0 (ZR []) fun c ⟨out,i⟩ g L3=> ?_
 refine AW (AW ?_);refine GT L3 (fun f _ t122 g2=>⟨kp [0,4] f (upd 3 (Aa 0 g2 (List.map AH out)) (upd 12 (.v (.bool t122)) AQ)),upd 0 (CD 6 g2 false (List.map AH out)) AS,1⟩) (fun e_3 E19 H20=> ?_) fun t122 g2 H20=> ?_
 ·refine AN ?_;obtain⟨c21,H22⟩ |⟨c21,H22⟩:=CM E19
  ·refine Z1 c21 ?_;cases H22;exact⟨g,ZR [(0,0)]⟩
  refine Z1 c21 ?_;cases H22;exact⟨g,ZR [(0,0)]⟩
 refine ZT 2 ?_;refine Z0 ?_;obtain⟨c23,H24⟩ |⟨c23,H24⟩:=CM H20
 ·obtain⟨x2,h27,h28,h29,H26⟩:=zI eI H24;obtain⟨t202,b31,H32⟩:=AJ H26;have w89_:=Y2 c23 h29;refine Z1 w89_ ?_;refine DB (jE b31) ?_;obtain⟨l2,b33,H34⟩:=AJ H32;obtain⟨h35,h36⟩:=G7 b33;have h35:out.length+1<=4294967296:=h35;have h37:List.map AH out++[[.v (.string t202.obj.type_),.v (.string t202.obj.id_),.v (.string t202.rel),.v (.string t202.sub_.type_),.v (.string t202.sub_.id_),.v (.string t202.sub_.rel)]]=List.map AH l2:=GX AH h36;have h38:out.length+1=l2.length:=GY h36;have h39:l2.length<=4294967296:=by omega
  have q40:0<l2.length:=by omega
  refine Z1 (Y5 w89_ h35 h37 h38 h39) ?_;rcases out with _ |⟨q0,q1⟩
  ·try simp only[LD,Cw,C8]
   exact⟨_,0,H34,ZR [(0,8)]⟩
  try simp only[Lk,Cw,C8]
  exact⟨_,(g2+1),H34,ZR [(0,0)]⟩
 refine Z1 c23 ?_;cases H24;exact⟨g2,ZR [(0,0)]⟩
def Ux (n:Nat)(n_:Int):Option (Ao × ByteArray × AL):=(Sj n n_).bind fun t7=>(C4 ([{ data:= #[114] },{ data:= #[115] },{ data:= #[112] },{ data:= #[113] },{ data:= #[112] },{ data:= #[113] },{ data:= #[122] },{ data:= #[112] }]:List ByteArray) (i64.wrap (an (sh n_ 24) 7:Int))).bind fun x=>some (t7.obj,x,(⟨t7.sub_.type_,t7.sub_.id_,{ data:= #[] }⟩:AL))
theorem tP {n:Nat}{n_:Int}{r:Ao × ByteArray × AL}(H:Ux n n_=some r):AI Tryz.prog 11 [D.v (.int .i64 n_)] (D.tu [D.ag (Du r.1),D.v (.string r.2.1),D.ag (AZ r.2.2)]) true:=by
 unfold Ux at H;refine zP #[.cell 2 29,.tmp 3,.cell 4 31] Tryz.func11 ?_;refine ZT 1 ?_;obtain⟨t7,b1,H2⟩:=AJ H;refine Z0 ?_;refine DB (jE b1) ?_;obtain⟨x,h5,h6,H4⟩:=IY H2;have h7:=Cs eS h6;simp only[Lk,LD,eS] at h7;have h8:=GW h6;simp only[Lg,LB,Nat.reduceAdd] at h8;have w90_:=Y3 (Cx .i64 h5) h7 h8;refine GU w90_ ?_;cases H4;exact CC
def ax (_:Nat)(c2:Int):Option Bool:=(if decide (97<=c2) then (if decide (c2<=122) then some true else (if decide (48<=c2) then some (decide (c2<=57)) else some false)) else (if decide (48<=c2) then some (decide (c2<=57)) else some false))
def Uy (n:Nat)(s:ByteArray):Nat->Int->Option ((Unit) ⊕ Bool)
 |0,_=>none
 |c+1,i=>(if decide (i<(s.size:Int)) then (Do s i).bind fun ch3=>(ax n ch3).bind fun t272=>(if t272 then Uy n s c (i64.wrap (i+1)) else (if (ch3 != 95) then (if (ch3 != 45) then (if (ch3 != 46) then some (.inr false) else Uy n s c (i64.wrap (i+1))) else Uy n s c (i64.wrap (i+1))) else Uy n s c (i64.wrap (i+1)))) else some (.inl ()))
def Uz (n:Nat)(s:ByteArray):Option Bool:=((if decide ((s.size:Int)<1) then some true else (if decide (30<(s.size:Int)) then some true else (Do s 0).bind fun ch=>(ax n ch).bind fun t15=>some (!t15))):Option (Bool)).bind fun t17=>(if t17 then some false else (Uy n s n 0:Option ((Unit) ⊕ Bool)).bind fun
   | .inl _=>some true
   | .inr r=>some r)
def M7 (n:Nat)(s:ByteArray):Nat->Int->Option ((Unit) ⊕ Bool)
 |0,_=>none
 |c+1,i=>(if decide (i<(s.size:Int)) then (Do s i).bind fun ch2=>(ax n ch2).bind fun t152=>(if t152 then M7 n s c (i64.wrap (i+1)) else (if (ch2 != 95) then (if (ch2 != 45) then (if (ch2 != 46) then (if (ch2 != 47) then (if (ch2 != 124) then (if (ch2 != 42) then some (.inr false) else M7 n s c (i64.wrap (i+1))) else M7 n s c (i64.wrap (i+1))) else M7 n s c (i64.wrap (i+1))) else M7 n s c (i64.wrap (i+1))) else M7 n s c (i64.wrap (i+1))) else M7 n s c (i64.wrap (i+1)))) else some (.inl ()))
def ay (n:Nat)(s:ByteArray):Option Bool:=(M7 n s n 0:Option ((Unit) ⊕ Bool)).bind fun
  | .inl _=>(if decide (1<=(s.size:Int)) then some (decide ((s.size:Int)<=250)) else some false)
  | .inr r=>some r
def jG (n:Nat)(t:AE):Option Bool:=(Uz n t.obj.type_).bind fun t6=>(if t6 then (ay n t.obj.id_).bind fun t11=>(if t11 then (Uz n t.rel).bind fun t16=>(if t16 then (Uz n t.sub_.type_).bind fun t22=>(if t22 then (ay n t.sub_.id_).bind fun t28=>(if t28 then (if (t.sub_.rel.toList==({ data:= #[] }:ByteArray).toList) then some true else (Uz n t.sub_.rel).bind fun t39=>some t39) else some false) else some false) else some false) else some false) else some false)
def Zy (T E I B F V:TypeId):Code:=
  (Go.Code.seq (Go.Code.region 0 #[{ dst:=(some 4),op:=(Go.Op.assign (Go.Operand.const (Go.Value.int Go.IntKind.i64 0))),type:=I,pos:= "slices.go:107",after:= #[],guard:=none }] false) (Go.Code.seq (Go.Code.seq (Go.Code.region 1 #[{ dst:=(some 6),op:=(Go.Op.move (Go.Operand.tmp 0)),type:=T,pos:= "slices.go:108",after:= #[],guard:=none },{ dst:=(some 7),op:=(Go.Op.call { callee:=(Go.Callee.builtin Go.Builtin.len),args:= #[(Go.Operand.tmp 6)],argTypes:= #[T] }),type:=I,pos:= "slices.go:108",after:= #[{ on:=0,ground:=Go.Ground.data }],guard:=none },{ dst:=(some 8),op:=(Go.Op.move (Go.Operand.const (Go.Value.int Go.IntKind.i64 0))),type:=I,pos:= "slices.go:108",after:= #[],guard:=none }] false) (Go.Code.block 0 (Go.Code.loop (Go.Code.seq (Go.Code.region 2 #[{ dst:=(some 9),op:=(Go.Op.binOp Go.BinOp.lss I (Go.Operand.tmp 8) (Go.Operand.tmp 7) I),type:=B,pos:= "slices.go:108",after:= #[],guard:=none }] false) (Go.Code.seq (Go.Code.cond (Go.Operand.tmp 9) Go.Code.skip (Go.Code.exit 0)) (Go.Code.seq (Go.Code.block 1 (Go.Code.seq (Go.Code.region 3 #[{ dst:=(some 10),op:=(Go.Op.move (Go.Operand.tmp 8)),type:=I,pos:= "slices.go:108",after:= #[],guard:=none },{ dst:=(some 5),op:=(Go.Op.assign (Go.Operand.tmp 10)),type:=I,pos:= "slices.go:108",after:= #[{ on:=0,ground:=Go.Ground.data },{ on:=0,ground:=Go.Ground.phase }],guard:=none }] false) (Go.Code.seq (Go.Code.region 4 #[{ dst:=(some 11),op:=(Go.Op.move (Go.Operand.tmp 1)),type:=F,pos:= "slices.go:109",after:= #[],guard:=none },{ dst:=(some 12),op:=(Go.Op.move (Go.Operand.tmp 0)),type:=T,pos:= "slices.go:109",after:= #[],guard:=none },{ dst:=(some 13),op:=(Go.Op.move (Go.Operand.tmp 5)),type:=I,pos:= "slices.go:109",after:= #[],guard:=none },{ dst:=(some 14),op:=(Go.Op.indexAddr T (Go.Operand.tmp 12) (Go.Operand.tmp 13)),type:=B,pos:= "slices.go:109",after:= #[{ on:=1,ground:=Go.Ground.data },{ on:=2,ground:=Go.Ground.data }],guard:=none },{ dst:=(some 15),op:=(Go.Op.load E (Go.Operand.tmp 14)),type:=E,pos:= "slices.go:109",after:= #[{ on:=3,ground:=Go.Ground.data }],guard:=none },{ dst:=(some 16),op:=(Go.Op.call { callee:=(Go.Callee.value (Go.Operand.tmp 11)),args:= #[(Go.Operand.tmp 15)],argTypes:= #[E] }),type:=V,pos:= "slices.go:109",after:= #[{ on:=0,ground:=Go.Ground.data },{ on:=4,ground:=Go.Ground.data }],guard:=none }] false) (Go.Code.cond (Go.Operand.tmp 16) (Go.Code.seq (Go.Code.region 5 #[{ dst:=(some 17),op:=(Go.Op.move (Go.Operand.tmp 5)),type:=I,pos:= "slices.go:110",after:= #[],guard:=none },{ dst:=(some 4),op:=(Go.Op.assign (Go.Operand.tmp 17)),type:=I,pos:= "slices.go:110",after:= #[{ on:=0,ground:=Go.Ground.data },{ on:=0,ground:=Go.Ground.phase }],guard:=none }] false) Go.Code.ret) Go.Code.skip)))) (Go.Code.region 6 #[{ dst:=(some 18),op:=(Go.Op.binOp Go.BinOp.add I (Go.Operand.tmp 8) (Go.Operand.const (Go.Value.int Go.IntKind.i64 1)) I),type:=I,pos:= "slices.go:108",after:= #[],guard:=none },{ dst:=(some 8),op:=(Go.Op.move (Go.Operand.tmp 18)),type:=I,pos:= "slices.go:108",after:= #[{ on:=0,ground:=Go.Ground.data }],guard:=none }] false))))))) (Go.Code.seq (Go.Code.region 7 #[{ dst:=(some 4),op:=(Go.Op.assign (Go.Operand.const (Go.Value.int Go.IntKind.i64 (-1)))),type:=I,pos:= "slices.go:113",after:= #[],guard:=none }] false) Go.Code.ret)))
def Zz (T _ I _ F V:TypeId)(g:FuncId):Code:=
  (Go.Code.seq (Go.Code.region 0 #[{ dst:=(some 4),op:=(Go.Op.assign (Go.Operand.const (Go.Value.bool false))),type:=V,pos:= "slices.go:124",after:= #[],guard:=none }] false) (Go.Code.seq (Go.Code.region 1 #[{ dst:=(some 5),op:=(Go.Op.move (Go.Operand.tmp 0)),type:=T,pos:= "slices.go:125",after:= #[],guard:=none },{ dst:=(some 6),op:=(Go.Op.move (Go.Operand.tmp 1)),type:=F,pos:= "slices.go:125",after:= #[],guard:=none },{ dst:=(some 7),op:=(Go.Op.call { callee:=(Go.Callee.value (Go.Operand.func g)),args:= #[(Go.Operand.tmp 5),(Go.Operand.tmp 6)],argTypes:= #[T,F] }),type:=I,pos:= "slices.go:125",after:= #[{ on:=0,ground:=Go.Ground.data },{ on:=1,ground:=Go.Ground.data }],guard:=none },{ dst:=(some 8),op:=(Go.Op.binOp Go.BinOp.geq I (Go.Operand.tmp 7) (Go.Operand.const (Go.Value.int Go.IntKind.i64 0)) I),type:=V,pos:= "slices.go:125",after:= #[{ on:=2,ground:=Go.Ground.data }],guard:=none },{ dst:=(some 4),op:=(Go.Op.assign (Go.Operand.tmp 8)),type:=V,pos:= "slices.go:125",after:= #[{ on:=3,ground:=Go.Ground.data },{ on:=2,ground:=Go.Ground.chain },{ on:=0,ground:=Go.Ground.phase },{ on:=1,ground:=Go.Ground.phase },{ on:=2,ground:=Go.Ground.phase },{ on:=3,ground:=Go.Ground.phase }],guard:=none }] false) Go.Code.ret))
structure UV (tab:Nat->TI) (T E:Nat) (n:Nat):Prop where
 sl:(tab T).kind= .slice
 el:(tab T).elem=E
 ok:(tab E).ok=true
 size:(tab E).size=n
 agg:(tab E).agg=true\/((tab E).agg=false/\n=1)
def D0 {α:Type}(P:Program)(f:FuncId)(caps:List AV)(ld:α->AV)(S:α->Prop)(pr:α->Bool)(ids:List Nat)(hp0:Hp):Prop:=∀(x:α),S x->∀(nx:Nat),∃nx',nx<=nx'/\∀hp:Hp,(∀i∈ids,hp i=hp0 i)->AK P f ([ld x]++caps) hp nx fun v2 hp2 nx2=>v2= .v (.bool (pr x))/\hp2=hp/\nx2=nx'
open Classical in
noncomputable def D0.nx {α:Type} {P:Program} {f:FuncId} {caps:List AV} {ld:α->AV} {S:α->Prop} {pr:α->Bool} {ids:List Nat} {hp0:Hp} (h:D0 P f caps ld S pr ids hp0) (x:α) (n:Nat):Nat:=if hx:S x then(h x hx n).choose else n
theorem D0.le {α:Type}{P:Program}{f:FuncId}{caps:List AV}{ld:α->AV}{S:α->Prop}{pr:α->Bool}{ids:List Nat}{hp0:Hp}(h:D0 P f caps ld S pr ids hp0)(x:α)(n:Nat):n<=h.nx x n:=by
 unfold D0.nx;split
 ·rename_i hx;exact(h x hx n).choose_spec.1
 exact Lc _
theorem D0.inl {α:Type}{P:Program}{f:FuncId}{caps:List AV}{ld:α->AV}{S:α->Prop}{pr:α->Bool}{ids:List Nat}{hp0:Hp}(h:D0 P f caps ld S pr ids hp0)(x:α)(hx:S x)(n:Nat){hp:Hp}(hh:∀i∈ids,hp i=hp0 i):AK P f ([ld x]++caps) hp n fun v2 hp2 nx2=>v2= .v (.bool (pr x))/\hp2=hp/\nx2=h.nx x n:=by
 have:=(h x hx n).choose_spec.2 hp hh;unfold D0.nx;rw[dif_pos hx];exact this
def F9 {α:Type}(pr:α->Bool):List α->Nat->Int
 |[],_=> -1
 |x::r,k=>if pr x then k else F9 pr r (k+1)
theorem gq {α:Type}(pr:α->Bool):∀(l:List α) (k:Nat),decide (F9 pr l k>=0)=l.any pr
 |[],_=>rfl
 |x::r,k=>by
  have ih:=gq pr r (k+1);by_cases e:pr x=true
  ·simp[F9,e]
  simpa [F9,e] using ih
noncomputable def GA {α:Type} (pr:α->Bool) (nxf:α->Nat->Nat):List α->Nat->Nat
 |[],n=>n+2
 |x::r,n=>if pr x then nxf x (n+9)+2 else GA pr nxf r (nxf x (n+9)+2)
section
variable {P:Program}{tab:Nat->TI}
theorem gr {α:Type}{pr:α->Bool}{nxf:α->Nat->Nat}(h:∀x n,n<=nxf x n):∀(l:List α) (n:Nat),n<=GA pr nxf l n
 |[],n=>by simp[GA]
 |x::r,n=>by
  unfold GA;have h1:=h x (n+9);split
  ·omega
  have:=gr (pr:=pr) h r (nxf x (n+9)+2);omega
theorem rS (ht:AU P tab)(hm:P.follows .mixedOrders=true){f:FuncId}{fn:Func}{T E I B F V n:Nat}(hf:P.funcs[f]? =some fn)(hb:fn.body=some (Zy T E I B F V))(hname:(fn.name== "runtime.NumGoroutine")=false)(hd:DY fn.ntmps (Zy T E I B F V)=true)(hl:2<=fn.ntmps)(hr:fn.results= #[.tmp 4])
  (hE:UV tab T E n) (hkE:(tab E).kind= .struct) {α:Type} (enc:α->List D) (hn:∀x,(enc x).length=n) (pr:α->Bool) {g:FuncId} {caps:List AV} {ids:List Nat} {hp0:Hp} {b:Bool} (S:α->Prop) (hP:D0 P g caps (fun x=>.d (.ag (enc x)) b) S pr ids hp0) (xs:List α) (hS:∀x∈xs,S x) (hx:xs.length<4611686018427387904) (nx:Nat):
  ∃nx',nx<=nx'/\∀hp:Hp,(∀i∈ids,hp i=hp0 i)->AK P f [.d (.sl (xs.map enc)) b,.fn g caps] hp nx fun v hp2 nx2=>v= .v (.int .i64 (F9 pr xs 0))/\hp2=hp/\nx2=nx':=by
 refine⟨GA pr hP.nx xs (nx+4),Lp (by omega) (gr hP.le xs (nx+4)),fun hp hh=> ?_⟩;refine AK.up (Ky ht hm hf hb hname hd (by simpa using hl) ?_);rw[hr];unfold Zy;have e1:=hE.sl;have e2:=hE.el;have e3:=hE.ok;have e4:=hE.size;simp -implicitDefEqProofs only[go_sem,Nat.reduceAdd,reduceCtorEq, ↓reduceIte,e1];refine qi (α:={ p:Nat × Nat // p.1<=xs.length/\F9 pr (xs.drop p.1) p.1=F9 pr xs 0/\GA pr hP.nx (xs.drop p.1) (nx+4+p.2)=GA pr hP.nx xs (nx+4) }) [(4,5),(8,18)] (fun p fr=>upd 8 (.v (.int .i64 (p.1.1:Int))) fr) (fun p=>p.1.2) (fun p=>xs.length-p.1.1) ⟨(0,0),by simp⟩ ⟨Cv (by first |rfl |simp[HS,Zm]) (qe _ _),gD _,by simp⟩ ?_;rintro⟨⟨k,m⟩,hI⟩;simp only at hI;obtain⟨hk1,hk2,hk3⟩:=hI;by_cases hk:k<xs.length
 ·have c1:=Wr hk;rw[Ly hk] at hk2 hk3;simp only[F9,GA] at hk2 hk3;have tk:(enc xs[k]).take n=enc xs[k]:=Ny (by rw[hn];exact Lc _);simp -implicitDefEqProofs only[go_sem,Nat.reduceEqDiff,Nat.reduceAdd,Nat.reduceLeDiff,reduceCtorEq, ↓reduceIte,c1,e1,e2,e3,e4,hkE,QA hk,hn,tk,Lc];refine CG ?_;refine(hP.inl xs[k] (hS _ (NV _)) _ hh).mono fun v2 hp2 nx2 hq=> ?_;obtain⟨rfl,rfl,rfl⟩:=hq;simp -implicitDefEqProofs only[go_sem, ↓reduceIte];refine WQ (fun h=> ?_) (fun h=> ?_)
  ·rw[if_pos h] at hk2 hk3;simp -implicitDefEqProofs only[go_sem,Nat.reduceEqDiff,Nat.reduceAdd, ↓reduceIte];exact Jc (by simp -implicitDefEqProofs only[go_sem, ↓reduceIte]<;>rfl) ⟨_,by rw[<-hk3,show nx+1+3+m+1+2+6=nx+4+m+9 by omega];exact Lc _,by rw[hk2],rfl,rfl⟩
  rw[if_neg (by simp[h])] at hk2 hk3;have hle:=hP.le xs[k] (nx+4+m+9);have w1:i64.wrap ((k:Int)+1)=((k+1:Nat):Int):=SO (by omega);have e6:nx+1+3+m+1+2+6=nx+4+m+9:=by omega
  simp -implicitDefEqProofs only[go_sem,Nat.reduceEqDiff,Nat.reduceAdd, ↓reduceIte,h,w1,e6];exact⟨⟨(k+1,hP.nx xs[k] (nx+4+m+9)+2-(nx+4)),⟨by omega,hk2,by simp only;rw[show nx+4+(hP.nx xs[k] (nx+4+m+9)+2-(nx+4))=hP.nx xs[k] (nx+4+m+9)+2 by omega];exact hk3⟩⟩,⟨Cv (by first |rfl |simp[HS,Zm]) ((by repeat first |exact qg _ _ |refine qh rfl ?_)),gD _,by simp only;omega⟩,by simp only;omega⟩
 have c1:=Zn (Oy hk);rw[Nz (by omega)] at hk2 hk3;simp only[F9,GA] at hk2 hk3;simp -implicitDefEqProofs only[go_sem,Nat.reduceEqDiff,Nat.reduceLeDiff, ↓reduceIte,c1];exact Jc (by simp -implicitDefEqProofs only[go_sem, ↓reduceIte]<;>rfl) ⟨_,Nat.le_of_eq hk3,by rw[hk2],rfl,rfl⟩
theorem QE (ht:AU P tab)(hm:P.follows .mixedOrders=true){f gi:FuncId}{fn:Func}{T E I B F V:Nat}(hf:P.funcs[f]? =some fn)(hb:fn.body=some (Zz T E I B F V gi))(hname:(fn.name== "runtime.NumGoroutine")=false)(hd:DY fn.ntmps (Zz T E I B F V gi)=true)(hl:2<=fn.ntmps)(hr:fn.results= #[.tmp 4])
  {L:List (List D)} {b:Bool} {g:FuncId} {caps:List AV} {ids:List Nat} {hp0:Hp} {z:Int} (hix:∀nx,∃nx',nx<=nx'/\∀hp:Hp,(∀i∈ids,hp i=hp0 i)->AK P gi [.d (.sl L) b,.fn g caps] hp nx fun v hp2 nx2=>v= .v (.int .i64 z)/\hp2=hp/\nx2=nx') (nx:Nat):
  ∃nx',nx<=nx'/\∀hp:Hp,(∀i∈ids,hp i=hp0 i)->AK P f [.d (.sl L) b,.fn g caps] hp nx fun v hp2 nx2=>v= .v (.bool (decide (z>=0)))/\hp2=hp/\nx2=nx':=by
 obtain⟨n2,h1,h2⟩:=hix (nx+1+5);refine⟨n2,by omega,fun hp hh=>Ky ht hm hf hb hname hd (by simpa using hl) ?_⟩;rw[hr];unfold Zz;simp -implicitDefEqProofs only[go_sem,Nat.reduceEqDiff,Nat.reduceAdd,reduceCtorEq, ↓reduceIte];refine CG ?_;refine(h2 _ hh).mono fun v2 hp2 nx2 hq=> ?_;obtain⟨rfl,rfl,rfl⟩:=hq;simp -implicitDefEqProofs only[go_sem,Nat.reduceAdd, ↓reduceIte]
 exact Jc (by simp -implicitDefEqProofs only[go_sem, ↓reduceIte]<;>rfl) ⟨rfl,rfl,rfl⟩
end
end Go.Proofs.YtnmkbmefohakmaaGreat.Ab
namespace Go.Proofs.YtnmkbmefohakmaaGreat.Ab
open Go.RowKit
def HH (f:Nat->Nat)(a:Cd):Cd:=⟨a.ids.map f,a.ks.map f,a.g⟩
theorem Xx {f:Nat->Nat}{xs ys:List Nat}(h:DM xs ys=true):DM (xs.map f) (ys.map f)=true:=by
 unfold DM at h⊢;simp only[Nm,LQ,Bm] at h⊢;obtain⟨i,hi,hk⟩:=h;exact⟨_,⟨i,hi,rfl⟩,⟨i,hk,rfl⟩⟩
theorem uf {f:Nat->Nat}{a b:Cd}(ha:a.g=false)(hb:b.g=false)(h:FL a b=true):FL (HH f a) (HH f b)=true:=by
 simp only[FL,IF,Eu,ha,hb,LP,Nj,Nl,or_false] at h;apply Pt;simp only[IF,LP];rcases h with h |h
 ·have:=Xx (f:=f) h;rw[Na] at this;exact .inl (.inl this)
 exact .inl (.inr (Xx h))
theorem ug {f:Nat->Nat}{ops:Array Oper}{rs:List Cd}(hg:rs.all (fun a=> !a.g)=true)(h:Gv ops (rs.map (HH f))=true):Gv ops rs=true:=by
 have hg:∀a∈rs,a.g=false:=by simpa using hg
 simp only[Gv,Rh,Li,LL] at h⊢;refine⟨h.1,fun j hj i hi=> ?_⟩;have h1:=h.2 j hj i hi;rw[Lj,Lj] at h1;cases hx:rs[i]? with
 |none=>
  rw[hx] at h1;exact h1
 |some a=>
  cases hy:rs[j]? with
  |none=>
   rw[hx,hy] at h1;exact h1
  |some b=>
   rw[hx,hy] at h1;simp only[LO] at h1⊢;cases hc:FL a b with
   |false=>
    rw[LP] at h1⊢;rcases h1 with h1 |h1
    ·exact .inl h1
    ·refine .inr ?_;rw[Li] at h1⊢;exact⟨h1.1,rfl⟩
   |true=>
    rw[uf (hg a (Lt hx)) (hg b (Lt hy)) hc] at h1;simpa using h1
def nw (nx i:Nat):Nat:=i+1-nx
theorem kl {nx i:Nat}(h:i<nx):nw nx i=0:=by
 unfold nw;omega
theorem km {nx:Nat}:nw nx nx=1:=by
 unfold nw;omega
theorem JH {P:Program}{tab:Nat->TI}{ops:Array Oper}{nx0 nx i:Nat}{k:List It}{Q:Ex->St->Prop}{acc:List Cd}{fr:Fr}{hp:Hp}(f:Nat->Nat)(rs:List Cd)(hr:acc.reverse.map (HH f)=rs)(h1:Px ops rs=true)(hg:acc.reverse.all (fun a=> !a.g)=true)(h2:run P tab k Q ⟨fr,hp,nx⟩):Rd P tab ops nx0 nx k Q i [] acc fr hp:=
 ⟨ug hg (TZ (hr▸h1)),h2⟩
abbrev Db (es:List (Value × AV))(r:AB)(id:Nat):Prop:=EM (true,[.string,.string,.string]) (.agg #[.string r.obj.type_,.string r.obj.id_,.string r.rel]) (.v (.pointer none)) false es=some (.pt id 0,[])
theorem E8 {hp:Hp}{nx i:Nat}{o:AO}(hf:∀j,nx<=j->hp j=none)(h:hp i=some o):(i=nx)=False:=eq_false fun e=>by
 have:=hf i (by omega);rw[h] at this;cases this
theorem bk {hp:Hp}{nx:Nat}{x:Option AO}(hf:∀j,nx<=j->hp j=none):Fj hp (upd nx x hp):=⟨fun i=>by
 by_cases h:i=nx
 ·subst h;exact .inl (hf i (Lc _))
 exact .inr (by simp[upd,h])⟩
theorem bm {hp:Hp}{nx q c m id:Nat}{r:AB}{b:Bool}{g o rk dp ab:AV}{s1 s2 s3:AV}{es:List (Value × AV)}{dl is:Bool}
  (hc:hp c=some (.bx [.pt q 0])) (hq:hp q=some (.bx [g,s1,s2,s3,.mo m,o])) (hm:hp m=some (.mo es dl)) (hl:Db es r id)
  (hn:hp id=some (.bx [rk,dp,ab,.v (.bool is)])):
  AK Tryz.prog 149 [.d (.ag (AF r)) b,.pt c 0] hp nx fun v hp2 nx2=>v= .v (.bool is)/\hp2=hp/\nx2=nx+12:=by
 refine AK.fresh (fun hf=> ?_) ⟨Tryz.f149,Tryz.func149,by kernel_rfl,by kernel_rfl⟩;refine AK.up (Ky EO D7 Tryz.func149 (by rfl) (by kernel_rfl) (by kernel_rfl) (by exact NI rfl) ?_);have w:=Y2 (E8 hf hc) (Y2 (Y6 (E8 hf hq) (E8 hf hm) (E8 hf hn) hc hq hm) (Y2 hl hn));refine GU w ?_;exact⟨_,hp,rfl,bk hf,nx+12,Lc _,rfl,rfl,rfl⟩
theorem uh {hp:Hp}{q c m:Nat}{g o:AV}{s1 s2 s3:AV}{es:List (Value × AV)}{dl b:Bool}{is:AB->Bool}{ids:List Nat}
  (hc:hp c=some (.bx [.pt q 0])) (hq:hp q=some (.bx [g,s1,s2,s3,.mo m,o])) (hm:hp m=some (.mo es dl)):
  D0 Tryz.prog 149 [.pt c 0] (fun r:AB=>.d (.ag (AF r)) b) (fun r=>∃id rk dp ab,Db es r id/\hp id=some (.bx [rk,dp,ab,.v (.bool (is r))])/\id∈ids) is (c::q::m::ids) hp:=by
 rintro r ⟨id,rk,dp,ab,hl,hn,hi⟩ nx;refine⟨nx+12,by omega,fun hp1 h1=> ?_⟩;exact bm (by rw[h1 c (by simp)];exact hc) (by rw[h1 q (by simp)];exact hq) (by rw[h1 m (by simp)];exact hm) hl (by rw[h1 id (by simp[hi])];exact hn)
theorem Qz:UV tab 81 120 3:=⟨by simp only[go_sem],by simp only[go_sem],by simp only[go_sem],by simp only[go_sem],.inl (by simp only[go_sem])⟩
theorem ui {S:AB->Prop}{pr:AB->Bool}{g:FuncId}{caps:List AV}{ids:List Nat}{hp0:Hp}(b:Bool)(hP:D0 Tryz.prog g caps (fun x=>.d (.ag (AF x)) b) S pr ids hp0)(xs:List AB)(hS:∀x∈xs,S x)(hx:xs.length<4611686018427387904)(nx:Nat):
  ∃nx',nx<=nx'/\∀hp:Hp,(∀i∈ids,hp i=hp0 i)->AK Tryz.prog 148 [.d (.sl (xs.map AF)) b,.fn g caps] hp nx fun v hp2 nx2=>v= .v (.bool (xs.any pr))/\hp2=hp/\nx2=nx':=by
 rw[<-gq pr xs 0];exact QE EO D7 (T:=81) (E:=120) (I:=3) (B:=0) (F:=150) (V:=4) Tryz.func148 rfl (by kernel_rfl) (by kernel_rfl) (by decide) rfl
  (fun nx=>rS EO D7 (T:=81) (E:=120) (I:=3) (B:=0) (F:=150) (V:=4) (n:=3) Tryz.func102 rfl (by kernel_rfl) (by kernel_rfl) (by decide) rfl Qz (by simp only[go_sem]) AF (fun _=>rfl) pr S hP xs hS hx nx) nx
theorem CR {hp:Hp}{nx i:Nat}{o:AO}(hf:∀j,nx<=j->hp j=none)(h:hp i=some o):i<nx:=by
 rcases Nf i nx with h1 |h1
 ·exact h1
 have:=hf i h1;rw[h] at this;cases this
theorem kq {hp:Hp}{nx q m:Nat}{l:List AB}{b:Bool}{g o:AV}{s1 s2 s3:AV}{es:List (Value × AV)}{dl:Bool}{is:AB->Bool}(hf:∀j,nx<=j->hp j=none)
  (hq:hp q=some (.bx [g,s1,s2,s3,.mo m,o])) (hm:hp m=some (.mo es dl)) (hN:∀r∈l,∃id rk dp ab,Db es r id/\hp id=some (.bx [rk,dp,ab,.v (.bool (is r))])) (hx:l.length<4611686018427387904):
  ∃nx',nx<=nx'/\AK Tryz.prog 127 [.pt q 0,.d (.sl (l.map AF)) b] hp nx fun v hp2 nx2=>v= .v (.bool (l.any is))/\hp2=hp/\nx2=nx':=by
 have old:∀ {i:Nat} {o:AO} (x:Option AO),hp i=some o->upd nx x hp i=some o:=fun{i o} x h=>by
  rw[Ad _ _ (by have:=CR hf h;omega)];exact h
 obtain⟨nx',h1,h2⟩:=ui b (uh (hp:=upd nx (some (.bx [.pt q 0])) hp) (is:=is) (b:=b) (ids:=List.range nx) (Ah ..) (old _ hq) (old _ hm)) l (fun r hr=>by
  obtain⟨id,rk,dp,ab,e1,e2⟩:=hN r hr;exact⟨id,rk,dp,ab,e1,old _ e2,NY.2 (CR hf e2)⟩) hx (nx+2+4)
 refine⟨nx',by omega,?_⟩;refine zr Tryz.func127 ?_;refine Z0 ?_;refine CG (AK.mono (h2 _ fun _ _=>rfl) fun v hp2 nx2 h=> ?_);obtain⟨rfl,rfl,rfl⟩:=h;refine Z0 ?_;exact⟨_,hp,rfl,bk hf,rfl,rfl,rfl⟩
end Go.Proofs.YtnmkbmefohakmaaGreat.Ab
