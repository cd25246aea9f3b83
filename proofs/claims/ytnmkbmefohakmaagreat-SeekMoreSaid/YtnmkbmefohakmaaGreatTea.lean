/-
 Functions, read off the code.
-/
import Derived.Test.YtnmkbmefohakmaaGreatRo
set_option linter.all false
namespace Go.Proofs.YtnmkbmefohakmaaGreat.Ab
open Go.RowKit IntKind
def YK (_:Nat)(c2:Int):Option Bool:=(if decide (97<=c2) then (if decide (c2<=122) then some true else (if decide (48<=c2) then some (decide (c2<=57)) else some false)) else (if decide (48<=c2) then some (decide (c2<=57)) else some false))
theorem mj {n:Nat}{c2:Int}{r:Bool}(H:YK n c2=some r):AI Tryz.prog 142 [D.v (.int .u8 c2)] (D.v (.bool r)) true:=by
 unfold YK at H;refine zP #[.tmp 2] Tryz.func142 ?_;refine AN ?_;obtain⟨c1,H2⟩ |⟨c1,H2⟩:=CM H
 ·refine Z1 c1 ?_;obtain⟨c3,H4⟩ |⟨c3,H4⟩:=CM H2
  ·refine Z1 (Y2 c1 c3) ?_;cases H4;exact CC
  have w1_:=Y2 c1 c3;refine Z1 w1_ ?_;obtain⟨w2_,H6⟩ |⟨w2_,H6⟩:=DU w1_ H4
  ·refine Z1 w2_ ?_;cases H6;exact CC
  refine Z1 w2_ ?_;cases H6;exact CC
 refine Z1 c1 ?_;obtain⟨c7,H8⟩ |⟨c7,H8⟩:=CM H2
 ·refine Z1 (Y2 c1 c7) ?_;cases H8;exact CC
 refine Z1 (Y2 c1 c7) ?_;cases H8;exact CC
def YL (n:Nat)(c2:Int):Option Bool:=(YK n c2).bind fun t4=>(if t4 then some true else (if (c2==95) then some true else (if (c2==45) then some true else some (c2==46))))
theorem ml {n:Nat}{c2:Int}{r:Bool}(H:YL n c2=some r):AI Tryz.prog 143 [D.v (.int .u8 c2)] (D.v (.bool r)) true:=by
 unfold YL at H;refine zP #[.tmp 2] Tryz.func143 ?_;refine ZT 1 ?_;obtain⟨t4,b1,H2⟩:=AJ H;refine Z0 ?_;refine DB (mj b1) ?_;refine Z0 ?_;obtain⟨c3,H4⟩ |⟨c3,H4⟩:=CM H2
 ·refine Z1 c3 ?_;cases H4;exact CC
 refine Z1 c3 ?_;obtain⟨c5,H6⟩ |⟨c5,H6⟩:=CM H4
 ·refine Z1 (Y2 c3 c5) ?_;cases H6;exact CC
 have w3_:=Y2 c3 c5;refine Z1 w3_ ?_;obtain⟨w4_,H8⟩ |⟨w4_,H8⟩:=DU w3_ H6
 ·refine Z1 w4_ ?_;cases H8;exact CC
 refine Z1 w4_ ?_;cases H8;exact CC
def mm (n:Nat)(s:ByteArray):Nat->Int->Option ((Unit) ⊕ Bool)
 |0,_=>none
 |c+1,t19=>(if decide (t19<(s.size:Int)) then (Do s t19).bind fun ch3=>(YL n ch3).bind fun t252=>(if t252 then mm n s c (i64.wrap (t19+1)) else some (.inr false)) else some (.inl ()))
def RN (n:Nat)(s:ByteArray):Option Bool:=((if (s.toList==({ data:= #[] }:ByteArray).toList) then some true else (if decide (30<(s.size:Int)) then some true else (Do s 0).bind fun ch=>(YK n ch).bind fun t14=>some (!t14))):Option (Bool)).bind fun t16=>(if t16 then some false else (mm n s n 0:Option ((Unit) ⊕ Bool)).bind fun
   | .inl _=>some true
   | .inr r=>some r)
theorem YM {n:Nat}{s:ByteArray}{r:Bool}(H:RN n s=some r):AI Tryz.prog 115 [D.v (.string s)] (D.v (.bool r)) true:=by
 unfold RN at H;refine zP #[.tmp 2] Tryz.func115 ?_;refine Az ?_;refine AW (AW ?_);refine zj H (fun f _ t16=>⟨kp [0] f (upd 16 (.v (.bool t16)) AQ),AS,0⟩) (fun e_ E1 H2=> ?_) fun t16 H2=> ?_
 ·refine AN ?_;obtain⟨c3,H4⟩ |⟨c3,H4⟩:=CM E1
  ·refine Z1 c3 ?_;cases H4;exact ZR []
  refine Z1 c3 ?_;obtain⟨c5,H6⟩ |⟨c5,H6⟩:=CM H4
  ·refine Z1 (Y2 c3 c5) ?_;cases H6;exact ZR []
  obtain⟨ch,b7,H8⟩:=AJ H6;obtain⟨h9,by_,h10,h11⟩:=Jf b7;try simp only[Int.reduceToNat] at h10
  obtain⟨t14,b12,H13⟩:=AJ H8;have w5_:=Y5 c3 c5 (Cx .i64 h9) h10 h11.symm;refine Z1 w5_ ?_;refine DB (mj b12) ?_;refine Z1 w5_ ?_;cases H13;exact ZR []
 refine AN ?_;obtain⟨c14,H15⟩ |⟨c14,H15⟩:=CM H2
 ·refine Z1 c14 ?_;cases H15;exact CC
 refine Qy c14 ?_;refine zi H15 (fun _ _ _=>⟨AQ,AS,0⟩) (fun e_2 E16 H17=> ?_) fun _ H17=> ?_
 ·refine IX E16 (fun f _ t19=>⟨kp [0,18] f (upd 19 (.v (.int .i64 t19)) AQ),AS,0⟩) (ZR []) fun c t19 L18=> ?_
  refine AN ?_;obtain⟨c30,H31⟩ |⟨c30,H31⟩:=CM L18
  ·obtain⟨ch3,b32,H33⟩:=AJ H31;obtain⟨h34,by_3,h35,h36⟩:=Jf b32;try simp only[Int.reduceToNat,Lv] at h35
   obtain⟨t252,b37,H38⟩:=AJ H33;have w6_:=Y4 c30 (Cx .i64 h34) h35 h36.symm;refine Z1 w6_ ?_;refine DB (ml b37) ?_;refine Z1 w6_ ?_;obtain⟨w7_,H40⟩ |⟨w7_,H40⟩:=DU w6_ H38
   ·refine Z1 w7_ ?_;exact⟨_,H40,ZR []⟩
   refine Z1 w7_ ?_;cases H40;cases H17;exact CC
  refine Z1 c30 ?_;cases H31;exact⟨_,rfl,ZR []⟩
 refine AN ?_;cases H17;exact CC
def Vj (n:Nat)(s:ByteArray):Nat->Int->Option ((Unit) ⊕ Bool)
 |0,_=>none
 |c+1,t7=>(if decide (t7<(s.size:Int)) then (Do s t7).bind fun ch2=>(YL n ch2).bind fun t142=>(if t142 then Vj n s c (i64.wrap (t7+1)) else (if (ch2 != 47) then (if (ch2 != 124) then (if (ch2 != 42) then some (.inr false) else Vj n s c (i64.wrap (t7+1))) else Vj n s c (i64.wrap (t7+1))) else Vj n s c (i64.wrap (t7+1)))) else some (.inl ()))
def Vk (n:Nat)(s:ByteArray):Option Bool:=(Vj n s n 0:Option ((Unit) ⊕ Bool)).bind fun
  | .inl _=>(if (s.toList==({ data:= #[] }:ByteArray).toList) then some false else some (decide ((s.size:Int)<=250)))
  | .inr r=>some r
theorem mq {n:Nat}{s:ByteArray}{r:Bool}(H:Vk n s=some r):AI Tryz.prog 116 [D.v (.string s)] (D.v (.bool r)) true:=by
 unfold Vk at H;refine zP #[.tmp 2] Tryz.func116 ?_;refine Qx ?_;refine zi H (fun f _ _=>⟨kp [0] f AQ,AS,0⟩) (fun e_ E1 H2=> ?_) fun _ H2=> ?_;rotate_left
 ·refine AN ?_;obtain⟨c38,H39⟩ |⟨c38,H39⟩:=CM H2
  ·refine Z1 c38 ?_;cases H39;exact CC
  refine Z1 c38 ?_;cases H39;exact CC
 refine IX E1 (fun f _ t7=>⟨kp [0,6] f (upd 7 (.v (.int .i64 t7)) AQ),AS,0⟩) (ZR []) fun c t7 L3=> ?_
 refine AN ?_;obtain⟨c21,H22⟩ |⟨c21,H22⟩:=CM L3;rotate_left
 ·refine Z1 c21 ?_;cases H22;exact⟨_,rfl,ZR []⟩
 obtain⟨ch2,b23,H24⟩:=AJ H22;obtain⟨h25,by_2,h26,h27⟩:=Jf b23;try simp only[Int.reduceToNat,Lv] at h26
 obtain⟨t142,b28,H29⟩:=AJ H24;have w8_:=Y4 c21 (Cx .i64 h25) h26 h27.symm;refine Z1 w8_ ?_;refine DB (ml b28) ?_;refine Z1 w8_ ?_;obtain⟨w9_,H31⟩ |⟨w9_,H31⟩:=DU w8_ H29
 ·refine Z1 w9_ ?_;exact⟨_,H31,ZR []⟩
 refine Z1 w9_ ?_;obtain⟨w10_,H33⟩ |⟨w10_,H33⟩:=DU w9_ H31
 ·refine Z1 w10_ ?_;obtain⟨w11_,H35⟩ |⟨w11_,H35⟩:=DU w10_ H33
  ·refine Z1 w11_ ?_;obtain⟨w12_,H37⟩ |⟨w12_,H37⟩:=DU w11_ H35
   ·refine Z1 w12_ ?_;cases H37;cases H2;exact CC
   refine Z1 w12_ ?_;exact⟨_,H37,ZR []⟩
  refine Z1 w11_ ?_;exact⟨_,H35,ZR []⟩
 refine Z1 w10_ ?_;exact⟨_,H33,ZR []⟩
def I4 (n:Nat)(t:AE):Option Bool:=(RN n t.obj.type_).bind fun t6=>(if t6 then (Vk n t.obj.id_).bind fun t11=>(if t11 then (RN n t.rel).bind fun t16=>(if t16 then (RN n t.sub_.type_).bind fun t22=>(if t22 then (Vk n t.sub_.id_).bind fun t28=>(if t28 then (if (t.sub_.rel.toList==({ data:= #[] }:ByteArray).toList) then some true else (RN n t.sub_.rel).bind fun t39=>some t39) else some false) else some false) else some false) else some false) else some false)
theorem vv {n:Nat}{t:AE}{r:Bool}(H:I4 n t=some r):AI Tryz.prog 92 [D.ag (AH t)] (D.v (.bool r)) true:=by
 unfold I4 at H;refine zP #[.tmp 2] Tryz.func92 ?_;refine ZT 1 ?_;obtain⟨t6,b1,H2⟩:=AJ H;refine Z0 ?_;refine DB (YM b1) ?_;refine Z0 ?_;obtain⟨c3,H4⟩ |⟨c3,H4⟩:=CM H2;rotate_left
 ·refine Z1 c3 ?_;cases H4;exact CC
 obtain⟨t11,b5,H6⟩:=AJ H4;refine Z1 c3 ?_;refine DB (mq b5) ?_;refine Z1 c3 ?_;obtain⟨c7,H8⟩ |⟨c7,H8⟩:=CM H6;rotate_left
 ·refine Z1 (Y2 c3 c7) ?_;cases H8;exact CC
 obtain⟨t16,b9,H10⟩:=AJ H8;have w13_:=Y2 c3 c7;refine Z1 w13_ ?_;refine DB (YM b9) ?_;refine Z1 w13_ ?_;obtain⟨w14_,H12⟩ |⟨w14_,H12⟩:=DU w13_ H10
 ·obtain⟨t22,b13,H14⟩:=AJ H12;refine Z1 w14_ ?_;refine DB (YM b13) ?_;refine Z1 w14_ ?_;obtain⟨w15_,H16⟩ |⟨w15_,H16⟩:=DU w14_ H14
  ·obtain⟨t28,b17,H18⟩:=AJ H16;refine Z1 w15_ ?_;refine DB (mq b17) ?_;refine Z1 w15_ ?_;obtain⟨w16_,H20⟩ |⟨w16_,H20⟩:=DU w15_ H18
   ·refine Z1 w16_ ?_;obtain⟨w17_,H22⟩ |⟨w17_,H22⟩:=DU w16_ H20
    ·refine Z1 w17_ ?_;cases H22;exact CC
    obtain⟨t39,b23,H24⟩:=AJ H22;refine Z1 w17_ ?_;refine DB (YM b23) ?_;refine Z1 w17_ ?_;cases H24;exact CC
   refine Z1 w16_ ?_;cases H20;exact CC
  refine Z1 w15_ ?_;cases H16;exact CC
 refine Z1 w14_ ?_;cases H12;exact CC
def RO (n:Nat)(s:AC)(t:AE):Option Bool:=(Gm n s t.obj.type_ t.rel).bind fun t14=>(I4 n t).bind fun t18=>(if t18 then (Qv n t14.1.subs (⟨t.sub_.type_,ByteArray.empty,t.sub_.rel⟩:AL)).bind fun t29=>some t29 else some false)
theorem vw {n:Nat}{s:AC}{t:AE}{r:Bool}(H:RO n s t=some r):AI Tryz.prog 63 [D.pt (Ap s) 0,D.ag (AH t)] (D.v (.bool r)) true:=by
 unfold RO at H;refine zP #[.tmp 4] Tryz.func63 ?_;refine ZT 1 ?_;obtain⟨t14,b1,H2⟩:=AJ H;refine Z0 ?_;refine DB (Ka b1) ?_;obtain⟨t18,b3,H4⟩:=AJ H2;refine Z0 ?_;refine DB (vv b3) ?_;refine Z0 ?_;obtain⟨c5,H6⟩ |⟨c5,H6⟩:=CM H4
 ·obtain⟨t29,b7,H8⟩:=AJ H6;refine Z1 c5 ?_;refine DB (ka b7) ?_;refine Z1 c5 ?_;cases H8;exact CC
 refine Z1 c5 ?_;cases H6;exact CC
def S7 (n:Nat)(t16:List AE):Nat->(List (AB × (List AL)) × List (ByteArray × (List ByteArray)) × List (AL × (List AB)) × List (ByteArray × (List ByteArray)) × Int)->Option (List (AB × (List AL)) × List (ByteArray × (List ByteArray)) × List (AL × (List AB)) × List (ByteArray × (List ByteArray)))
 |0,_=>none
 |c+1,(t302,t312,t322,t332,t18)=>(if decide (t18<(t16.length:Int)) then (C4 t16 t18).bind fun x2=>DD (decide (t302.length<=4294967296))<| DD (decide (t312.length<=4294967296))<| DD (decide (t322.length<=4294967296))<| DD (decide (t332.length<=4294967296))<| (DD (Ey (⟨x2.obj,x2.rel⟩:AB) t302)<| some ():Option (Unit)).bind fun _=>DD (decide ((An (⟨x2.obj,x2.rel⟩:AB) [x2.sub_] t302).length<=4294967296))<| (DD (Ey x2.sub_ t322)<| some ():Option (Unit)).bind fun _=>DD (decide ((An x2.sub_ [(⟨x2.obj,x2.rel⟩:AB)] t322).length<=4294967296))<| (DD (Ey x2.obj.type_ t312)<| some ():Option (Unit)).bind fun _=>(if (x2.sub_.rel.toList==({ data:= #[] }:ByteArray).toList) then DD (decide ((An x2.obj.type_ [x2.obj.id_] t312).length<=4294967296))<| (DD (Ey x2.sub_.type_ t332)<| some ():Option (Unit)).bind fun _=>DD (decide ((An x2.sub_.type_ [x2.sub_.id_] t332).length<=4294967296))<| S7 n t16 c ((An (⟨x2.obj,x2.rel⟩:AB) [x2.sub_] t302),(An x2.obj.type_ [x2.obj.id_] t312),(An x2.sub_ [(⟨x2.obj,x2.rel⟩:AB)] t322),(An x2.sub_.type_ [x2.sub_.id_] t332),(i64.wrap (t18+1))) else DD (decide ((An x2.obj.type_ [x2.obj.id_] t312).length<=4294967296))<| S7 n t16 c ((An (⟨x2.obj,x2.rel⟩:AB) [x2.sub_] t302),(An x2.obj.type_ [x2.obj.id_] t312),(An x2.sub_ [(⟨x2.obj,x2.rel⟩:AB)] t322),t332,(i64.wrap (t18+1)))) else DD (decide (t302.length<=4294967296))<| DD (decide (t312.length<=4294967296))<| DD (decide (t322.length<=4294967296))<| DD (decide (t332.length<=4294967296))<| some (t302,t312,t322,t332))
def Vl (_:Nat)(_:List AE)(st:List (AB × (List AL)) × List (ByteArray × (List ByteArray)) × List (AL × (List AB)) × List (ByteArray × (List ByteArray)))(x2:AE)(k:(List (AB × (List AL)) × List (ByteArray × (List ByteArray)) × List (AL × (List AB)) × List (ByteArray × (List ByteArray)))->Option (List (AB × (List AL)) × List (ByteArray × (List ByteArray)) × List (AL × (List AB)) × List (ByteArray × (List ByteArray)))):Option (List (AB × (List AL)) × List (ByteArray × (List ByteArray)) × List (AL × (List AB)) × List (ByteArray × (List ByteArray))):=
 match st with
 |(t302,t312,t322,t332)=>
  DD (decide (t302.length<=4294967296))<|
  DD (decide (t312.length<=4294967296))<|
  DD (decide (t322.length<=4294967296))<|
  DD (decide (t332.length<=4294967296))<|
  (
   DD (Ey (⟨x2.obj,x2.rel⟩:AB) t302)<|
   some ():Option (Unit)).bind fun _=>
  DD (decide ((An (⟨x2.obj,x2.rel⟩:AB) [x2.sub_] t302).length<=4294967296))<|
  (
   DD (Ey x2.sub_ t322)<|
   some ():Option (Unit)).bind fun _=>
  DD (decide ((An x2.sub_ [(⟨x2.obj,x2.rel⟩:AB)] t322).length<=4294967296))<|
  (
   DD (Ey x2.obj.type_ t312)<|
   some ():Option (Unit)).bind fun _=>
  (if (x2.sub_.rel.toList==({ data:= #[] }:ByteArray).toList) then
   DD (decide ((An x2.obj.type_ [x2.obj.id_] t312).length<=4294967296))<|
   (
    DD (Ey x2.sub_.type_ t332)<|
    some ():Option (Unit)).bind fun _=>
   DD (decide ((An x2.sub_.type_ [x2.sub_.id_] t332).length<=4294967296))<|
   k ((An (⟨x2.obj,x2.rel⟩:AB) [x2.sub_] t302),(An x2.obj.type_ [x2.obj.id_] t312),(An x2.sub_ [(⟨x2.obj,x2.rel⟩:AB)] t322),(An x2.sub_.type_ [x2.sub_.id_] t332))
  else
   DD (decide ((An x2.obj.type_ [x2.obj.id_] t312).length<=4294967296))<|
   k ((An (⟨x2.obj,x2.rel⟩:AB) [x2.sub_] t302),(An x2.obj.type_ [x2.obj.id_] t312),(An x2.sub_ [(⟨x2.obj,x2.rel⟩:AB)] t322),t332))
def Vm (_:Nat)(_:List AE)(st:List (AB × (List AL)) × List (ByteArray × (List ByteArray)) × List (AL × (List AB)) × List (ByteArray × (List ByteArray))):Option (List (AB × (List AL)) × List (ByteArray × (List ByteArray)) × List (AL × (List AB)) × List (ByteArray × (List ByteArray))):=
 match st with
 |(t302,t312,t322,t332)=>DD (decide (t302.length<=4294967296))<|
 DD (decide (t312.length<=4294967296))<|
 DD (decide (t322.length<=4294967296))<|
 DD (decide (t332.length<=4294967296))<|
 some (t302,t312,t322,t332)
theorem vz (n:Nat)(t16:List AE)(hx:t16.length<4611686018427387904)(c:Nat)(st:List (AB × (List AL)) × List (ByteArray × (List ByteArray)) × List (AL × (List AB)) × List (ByteArray × (List ByteArray)))(ix:Nat)(hi:ix<=t16.length)(hc:t16.length-ix<c):S7 n t16 c (match st,(ix:Int) with |(t302,t312,t322,t332),ix=>(t302,t312,t322,t332,ix))=Eb (Vl n t16) (Vm n t16) (t16.drop ix) st:=
 Mq (fun c st ix=>S7 n t16 c (match st,ix with |(t302,t312,t322,t332),ix=>(t302,t312,t322,t332,ix))) t16 (Vl n t16) (Vm n t16) (fun _ _ _=>rfl) hx c st ix hi hc
def Vn (n:Nat)(t0:List AE):Option Cn:=(Xs n t0).bind fun t16=>(S7 n t16 n (([]:List (AB × (List AL))),([]:List (ByteArray × (List ByteArray))),([]:List (AL × (List AB))),([]:List (ByteArray × (List ByteArray))),0):Option (List (AB × (List AL)) × List (ByteArray × (List ByteArray)) × List (AL × (List AB)) × List (ByteArray × (List ByteArray)))).bind fun(t304,t314,t324,t334)=>DD (decide (t304.length<=4294967296))<| DD (decide (t314.length<=4294967296))<| DD (decide (t324.length<=4294967296))<| DD (decide (t334.length<=4294967296))<| some (⟨(⟨t304,t314⟩:DO),(⟨t324,t334⟩:Di)⟩:Cn)
set_option maxHeartbeats 8000000 in
theorem FO {B j:Nat}(hj:j<4294967296):(∀ {K α:Type} (f:α->List D) (sz B':Nat) (vs:Nat->Nat) (es:List (K × List α)) (hp:Hp),(B'+4294967296<=B\/B+4294967296<=B')->A8 f sz B' vs es hp (CZ B j)=hp (CZ B j))/\
  (∀ {K α:Type} (f:α->List D) (sz B':Nat) (vs:Nat->Nat) (es:List (K × List α)) (x:Option AO) (hp:Hp),(B'+4294967296<=B\/B+4294967296<=B')->upd (CZ B j) x (A8 f sz B' vs es hp)=A8 f sz B' vs es (upd (CZ B j) x hp))/\
  (∀(c:Nat) (x y:Option AO) (g:Hp),(c<B\/B+4294967296<=c)->upd (CZ B j) x (upd c y g)=upd c y (upd (CZ B j) x g))/\(∀c:Nat,B+4294967296<=c->(CZ B j=c)=False)/\∀c:Nat,B+4294967296<=c->(c=CZ B j)=False:=
 ⟨fun _ _ _ _ _ _ h=>Z3 (by rw[Dl];omega),fun _ _ _ _ _ _ _ h=>rv (by rw[Dl];omega),fun _ _ _ _ h=>rz (by rw[Dl];omega),fun _ h=>QG hj h,fun _ h=>rt hj h⟩
theorem Zf {p q:Prop}{F:Prop}(w:F)(k:q)(e:F->p=q:=by intro w;conv=>lhs;try simp -implicitDefEqProofs only[go_sem,Nj,Int.reduceToNat,Int.reduceLT,Int.reduceLE,Int.reduceBEq,Int.reduceBNe,Nat.reduceLT,Nat.reduceBEq,Int.reduceEq,Nat.reduceEqDiff,Nat.reduceAdd,Nat.reduceSub,Nat.reduceMul,Nat.reduceLeDiff,reduceCtorEq, ↓reduceIte,Al,Du,AZ,Aj,AF,AH,Ak,Ap,AX,Cz,or_true,true_or,gy,gz,List.set_set,QF,UW,w]):p:=(e w).mpr k
theorem ZF {n N nx:Nat}{fr' fr:Fr}{hp' hp:Hp}{F:Prop}(w:F)(R:Nat)(JR:Option (Nat × Nat))(rs:List Nat)(L:List (Nat × Nat))(hJ:∀J R',JR=some (J,R')->R'=R:=by first |(intro _ _ h;cases h;done) |(intro _ _ h;cases h;rfl))(h1:Z4 n N R rs L=true:=by rfl)(h2:∀t,fr' t= .un\/CK (EW n JR rs L) (fr' t)=some (fr t):=by repeat' (first |exact Ml _ |refine Wu (by rfl) ?_))(h3:F->∀i o,hp' i=some o->∃j o',EW n JR rs L i=some j/\CP (EW n JR rs L) o=some o'/\hp j=some o':=by intro w;repeat' (first |exact Mm _ |refine K5 (SR (by rfl) (by rfl) (by rfl)) ?_ |refine K5 (SR (by rfl) (iA (by rfl) (by simp) (by first |(intro _ _ h;cases h;done) |(intro J R h;cases h;rw[Dl];omega)) ?_ rfl) (by rfl)) ?_ |refine K5 (SR (by rfl) (iA (by rfl) (by simp) (by first |(intro _ _ h;cases h;done) |(intro J R h;cases h;rw[Dl];omega)) ?_ (by assumption)) (by rfl)) ?_ |refine K5 (SR (by rfl) (sA (by rfl) (by simp) ?_ (w _)) (by rfl)) ?_ |refine hY (by rfl) (by simp) (by first |(intro _ _ h;cases h;done) |(intro J R h;cases h;rw[Dl];omega)) (by assumption) (fun j p h hj=>by first |(cases h;done) |(simp at h;done) |((try dsimp only);repeat (first |with_reducible exact JD h hj |(with_reducible refine QH ?_ ?_;rw[Dl];omega) |(with_reducible refine QI ?_ ?_;rw[Dl];omega)))) ?_ |refine hY (by rfl) (by simp) (by first |(intro _ _ h;cases h;done) |(intro J R h;cases h;rw[Dl];omega)) rfl (fun j p h hj=>by first |(cases h;done) |(simp at h;done) |((try dsimp only);repeat (first |with_reducible exact JD h hj |(with_reducible refine QH ?_ ?_;rw[Dl];omega) |(with_reducible refine QI ?_ ?_;rw[Dl];omega)))) ?_ |refine r9 (by rfl) (by simp) ?_ (w _) (fun j p h hj=>by first |(cases h;done) |(simp at h;done) |((try dsimp only);repeat (first |with_reducible exact JD h hj |(with_reducible refine QH ?_ ?_;rw[Dl];omega) |(with_reducible refine QI ?_ ?_;rw[Dl];omega)))) (by rfl) ?_ |assumption |decide)):A6 n ⟨fr',hp',N⟩ ⟨fr,hp,nx⟩:=r8 JR hJ rs L h1 h2 (h3 w)
theorem wA {n:Nat}{t0:List AE}{r:Cn}(H:Vn n t0=some r):CQ Tryz.prog 64 [.d (D.sl (List.map AH t0))] (D.pt (Cz r) 0) true:=by
 unfold Vn at H;refine bj EO D7 (rs:= #[.tmp 2]) Tryz.func64 ?_;refine D3 ?_;refine AW (AW ?_);refine ZT 1 ?_;obtain⟨t16,b1,H2⟩:=AJ H;refine Z0 ?_;refine DB (uT b1) ?_;refine Z0 ?_;refine GT H2 (fun _ _ (t304,t314,t324,t334) ((g21,g22,g23,g24):(Nat->Nat) × (Nat->Nat) × (Nat->Nat) × (Nat->Nat))=>⟨upd 3 (.pt 0 0) AQ,upd 0 (some (.bx [.mo 1,.mo 2,.mo 3,.mo 4])) (upd 1 (some (.mo (Ay Fs 4294967296 g21 t304) false)) (upd 2 (some (.mo (Ay Value.string 8589934592 g22 t314) false)) (upd 3 (some (.mo (Ay GS 12884901888 g23 t324) false)) (upd 4 (some (.mo (Ay Value.string 17179869184 g24 t334) false)) (A8 AZ 3 4294967296 g21 t304 (A8 eS 1 8589934592 g22 t314 (A8 AF 3 12884901888 g23 t324 (A8 eS 1 17179869184 g24 t334 (AS))))))))),21474836480⟩) (fun e_ E3 H4=> ?_) fun⟨t304,t314,t324,t334⟩ ⟨g21,g22,g23,g24⟩ H4=> ?_;rotate_left
 ·refine AN ?_;obtain⟨g456,H457⟩:=Ev H4;have h458:t304.length<=4294967296:=of_decide_eq_true g456;obtain⟨g459,H460⟩:=Ev H457;have h461:t314.length<=4294967296:=of_decide_eq_true g459;obtain⟨g462,H463⟩:=Ev H460;have h464:t324.length<=4294967296:=of_decide_eq_true g462;obtain⟨g465,H466⟩:=Ev H463;have h467:t334.length<=4294967296:=of_decide_eq_true g465;cases H466;exact Mt (b:=false) (v:=.pt 0 0) (by first |(simp -implicitDefEqProofs only[go_sem, ↓reduceIte]<;>rfl) |rfl) (GB.val (CW.one (Ce.place (by rfl) (PW.cons (Ce.fam (by rfl) h458 (fun j p h hj=>by repeat (first |with_reducible exact JD h hj |(with_reducible refine QH ?_ ?_;rw[Dl];omega) |(with_reducible refine QI ?_ ?_;rw[Dl];omega)))) (PW.cons (Ce.fam (by rfl) h461 (fun j p h hj=>by repeat (first |with_reducible exact JD h hj |(with_reducible refine QH ?_ ?_;rw[Dl];omega) |(with_reducible refine QI ?_ ?_;rw[Dl];omega)))) (PW.cons (Ce.fam (by rfl) h464 (fun j p h hj=>by repeat (first |with_reducible exact JD h hj |(with_reducible refine QH ?_ ?_;rw[Dl];omega) |(with_reducible refine QI ?_ ?_;rw[Dl];omega)))) (PW.cons (Ce.fam (by rfl) h467 (fun j p h hj=>by repeat (first |with_reducible exact JD h hj |(with_reducible refine QH ?_ ?_;rw[Dl];omega) |(with_reducible refine QI ?_ ?_;rw[Dl];omega)))) PW.nil))))) rfl)) (by intro h;first |rfl |cases h)
 refine Ft E3 (fun f _ (t302,t312,t322,t332,t18) ((g9,g10,g11,g12):(Nat->Nat) × (Nat->Nat) × (Nat->Nat) × (Nat->Nat))=>⟨kp [16,17] f (upd 3 (.pt 0 0) (upd 18 (.v (.int .i64 t18)) AQ)),upd 0 (some (.bx [.mo 1,.mo 2,.mo 3,.mo 4])) (upd 1 (some (.mo (Ay Fs 4294967296 g9 t302) false)) (upd 2 (some (.mo (Ay Value.string 8589934592 g10 t312) false)) (upd 3 (some (.mo (Ay GS 12884901888 g11 t322) false)) (upd 4 (some (.mo (Ay Value.string 17179869184 g12 t332) false)) (A8 AZ 3 4294967296 g9 t302 (A8 eS 1 8589934592 g10 t312 (A8 AF 3 12884901888 g11 t322 (A8 eS 1 17179869184 g12 t332 (AS))))))))),21474836480⟩) (((fun _=>0),(fun _=>0),(fun _=>0),(fun _=>0)):(Nat->Nat) × (Nat->Nat) × (Nat->Nat) × (Nat->Nat)) (ZF trivial 340282366920938463463374607431768211457 none [4294967296,8589934592,12884901888,17179869184] [(0,8),(1,1),(2,2),(3,4),(4,5)]) fun c ⟨t302,t312,t322,t332,t18⟩ ⟨g9,g10,g11,g12⟩ L5=> ?_
 refine D3 ?_;obtain⟨c231,H232⟩ |⟨c231,H232⟩:=CM L5;rotate_left
 ·refine Z1 c231 ?_;obtain⟨g444,H445⟩:=Ev H232;have h446:t302.length<=4294967296:=of_decide_eq_true g444;obtain⟨g447,H448⟩:=Ev H445;have h449:t312.length<=4294967296:=of_decide_eq_true g447;obtain⟨g450,H451⟩:=Ev H448;have h452:t322.length<=4294967296:=of_decide_eq_true g450;obtain⟨g453,H454⟩:=Ev H451;have h455:t332.length<=4294967296:=of_decide_eq_true g453;cases H454;exact⟨(g9,g10,g11,g12),ZF trivial 340282366920938463463374607431768211457 none [4294967296,8589934592,12884901888,17179869184] [(0,0),(1,1),(2,2),(3,3),(4,4)]⟩
 refine KB c231 ?_;obtain⟨x2,h235,h236,h237,H234⟩:=zI AH H232;have w18_:=Y2 c231 h237;refine MP w18_ ?_;refine AW ?_;obtain⟨g239,H240⟩:=Ev H234;have h241:t302.length<=4294967296:=of_decide_eq_true g239;obtain⟨g242,H243⟩:=Ev H240;have h244:t312.length<=4294967296:=of_decide_eq_true g242;obtain⟨g245,H246⟩:=Ev H243;have h247:t322.length<=4294967296:=of_decide_eq_true g245;obtain⟨g248,H249⟩:=Ev H246;have h250:t332.length<=4294967296:=of_decide_eq_true g248;refine GT H249 (fun f _ _ (g13:(Nat->Nat))=>⟨kp [16,17,18] f (upd 3 (.pt 0 0) (upd 5 (.pt 5 0) (upd 6 (.pt 6 0) AQ))),upd 0 (some (.bx [.mo 1,.mo 2,.mo 3,.mo 4])) (upd 1 (some (.mo (Ay Fs 4294967296 g13 (An (⟨x2.obj,x2.rel⟩:AB) [x2.sub_] t302)) false)) (upd 2 (some (.mo (Ay Value.string 8589934592 g10 t312) false)) (upd 3 (some (.mo (Ay GS 12884901888 g11 t322) false)) (upd 4 (some (.mo (Ay Value.string 17179869184 g12 t332) false)) (upd 5 (some (.bx [.v (.string x2.obj.type_),.v (.string x2.obj.id_),.v (.string x2.rel),.v (.string x2.sub_.type_),.v (.string x2.sub_.id_),.v (.string x2.sub_.rel)])) (upd 6 (some (.bx [.v (.string x2.obj.type_),.v (.string x2.obj.id_),.v (.string x2.rel)])) (A8 AZ 3 4294967296 g13 (An (⟨x2.obj,x2.rel⟩:AB) [x2.sub_] t302) (A8 eS 1 8589934592 g10 t312 (A8 AF 3 12884901888 g11 t322 (A8 eS 1 17179869184 g12 t332 (AS))))))))))),21474836480⟩) (fun e_6 E251 H252=> ?_) fun _ g13 H252=> ?_
 ·refine ZT 1 ?_;obtain⟨g253,H254⟩:=Ev E251;obtain⟨g255,g256⟩:=W8 g253;refine Z0 ?_;rcases XB (kv:=Fs) (B:=4294967296) (vs:=g9) Qw (⟨x2.obj,x2.rel⟩:AB) t302 with⟨n257,n258,n259⟩ |⟨j5,xs5,o260,o261,o262,o263⟩
  ·have n264:Dm (true,[.string,.string,.string]) (.agg #[.string x2.obj.type_,.string x2.obj.id_,.string x2.rel]) (Ay Fs 4294967296 g9 t302)=some none:=n258;refine Zf (Y4 n264 (Mu n264) (Mw n264) (K9 n264)) ?_;refine DR (by kernel_rfl) ?_;refine Zf (Y4 n264 (Mu n264) (Mw n264) (K9 n264)) ?_;cases H254;exact⟨(Ch (List.length t302) 0 g9),ZF n259 21474836503 (some (CZ 4294967296 (List.length t302),21474836503)) [4294967296,8589934592,12884901888,17179869184] [(0,0),(1,1),(2,2),(3,3),(4,4),(5,21474836483),(6,21474836490)]⟩
  have o269:Dm (true,[.string,.string,.string]) (.agg #[.string x2.obj.type_,.string x2.obj.id_,.string x2.rel]) (Ay Fs 4294967296 g9 t302)=some (some (j5,.so (CZ 4294967296 j5) (g9 j5) 0 xs5.length)):=o262;have h265:j5<4294967296:=OC (Lb.1 o260).1 g255;have h266:∀hp:Hp,A8 AZ 3 4294967296 g9 t302 hp (CZ 4294967296 j5)=some (.rw (List.map AZ xs5) 3 (g9 j5) false false):=fun _=>JD o260 h265
  have h267:(Ay Fs 4294967296 g9 t302)[j5]? =some ((.agg #[.string x2.obj.type_,.string x2.obj.id_,.string x2.rel]),.so (CZ 4294967296 j5) (g9 j5) 0 xs5.length):=(UX _ _).trans (by rw[o260];rfl);have h268:xs5.length+1<=4294967296:=by have:=g256;simp only[qg_,o261,Nw] at this;omega
  have h270:=FO (B:=4294967296) h265;obtain⟨zs5,h287⟩:∃zs,xs5++[x2.sub_]=zs:=⟨_,rfl⟩;have h288:List.map AZ xs5++[[.v (.string x2.sub_.type_),.v (.string x2.sub_.id_),.v (.string x2.sub_.rel)]]=List.map AZ zs5:=GX AZ h287;have h289:xs5.length+1=zs5.length:=GY h287;have h290:zs5.length<=4294967296:=by omega
  have h291:An (⟨x2.obj,x2.rel⟩:AB) [x2.sub_] t302=List.set t302 j5 ((⟨x2.obj,x2.rel⟩:AB),zs5):=by rw[<-h287];exact o263 _
  have h292:∀hp:Hp,upd (CZ 4294967296 j5) (some (.rw (List.map AZ zs5) 3 (g9 j5+1) false false)) (A8 AZ 3 4294967296 g9 t302 hp)=A8 AZ 3 4294967296 (Ch j5 (g9 j5+1) g9) (List.set t302 j5 ((⟨x2.obj,x2.rel⟩:AB),zs5)) hp:=fun _=>W9 (q:=((⟨x2.obj,x2.rel⟩:AB),zs5)) o260 h265;have h293:List.set (Ay Fs 4294967296 g9 t302) j5 ((.agg #[.string x2.obj.type_,.string x2.obj.id_,.string x2.rel]),.so (CZ 4294967296 j5) (g9 j5+1) 0 zs5.length)=Ay Fs 4294967296 (Ch j5 (g9 j5+1) g9) (List.set t302 j5 ((⟨x2.obj,x2.rel⟩:AB),zs5)):=XA (q:=((⟨x2.obj,x2.rel⟩:AB),zs5)) (Lb.1 o260).1;have h294:(List.set t302 j5 ((⟨x2.obj,x2.rel⟩:AB),zs5)).length<=4294967296:=by rw[Bb];exact BK g255
  refine Zf (Y3 (Y6 o269 (Mv o269) (Mx o269) (MA o269) h266 h267) (Y6 (K8 h267) h268 h270 h288 h289 h290) (Y2 h292 h293)) ?_;refine XF (CZ 4294967296 j5) 340282366920938463463374607431768211458 (by have:=h265;rw[Dl];unfold DN;omega) (by decide) (by simp[h270]) (by simp only[Nc,Nk,LE,LJ,Lk,LD,MB,sw,Nat.reduceLeDiff,Nat.reduceLT,Nat.reduceAdd, ↓reduceIte,UW,h270];kernel_rfl) ?_;refine Zf (Y3 (Y6 o269 (Mv o269) (Mx o269) (MA o269) h266 h267) (Y6 (K8 h267) h268 h270 h288 h289 h290) (Y2 h292 h293)) ?_;cases H254;exact⟨(Ch j5 (g9 j5+1) g9),ZF trivial 340282366920938463463374607431768211457 none [4294967296,8589934592,12884901888,17179869184] [(0,0),(1,1),(2,2),(3,3),(4,4),(5,21474836483),(6,21474836490)]⟩
 refine AW ?_;obtain⟨g295,H296⟩:=Ev H252;have h297:(An (⟨x2.obj,x2.rel⟩:AB) [x2.sub_] t302).length<=4294967296:=of_decide_eq_true g295;refine GT H296 (fun f _ _ (g14:(Nat->Nat))=>⟨kp [16,17,18] f (upd 3 (.pt 0 0) (upd 5 (.pt 5 0) AQ)),upd 0 (some (.bx [.mo 1,.mo 2,.mo 3,.mo 4])) (upd 1 (some (.mo (Ay Fs 4294967296 g13 (An (⟨x2.obj,x2.rel⟩:AB) [x2.sub_] t302)) false)) (upd 2 (some (.mo (Ay Value.string 8589934592 g10 t312) false)) (upd 3 (some (.mo (Ay GS 12884901888 g14 (An x2.sub_ [(⟨x2.obj,x2.rel⟩:AB)] t322)) false)) (upd 4 (some (.mo (Ay Value.string 17179869184 g12 t332) false)) (upd 5 (some (.bx [.v (.string x2.obj.type_),.v (.string x2.obj.id_),.v (.string x2.rel),.v (.string x2.sub_.type_),.v (.string x2.sub_.id_),.v (.string x2.sub_.rel)])) (A8 AZ 3 4294967296 g13 (An (⟨x2.obj,x2.rel⟩:AB) [x2.sub_] t302) (A8 eS 1 8589934592 g10 t312 (A8 AF 3 12884901888 g14 (An x2.sub_ [(⟨x2.obj,x2.rel⟩:AB)] t322) (A8 eS 1 17179869184 g12 t332 (AS)))))))))),21474836480⟩) (fun e_7 E298 H299=> ?_) fun _ g14 H299=> ?_
 ·refine ZT 1 ?_;obtain⟨g300,H301⟩:=Ev E298;obtain⟨g302,g303⟩:=W8 g300;refine Z0 ?_;rcases XB (kv:=GS) (B:=12884901888) (vs:=g11) uc x2.sub_ t322 with⟨n304,n305,n306⟩ |⟨j6,xs6,o307,o308,o309,o310⟩
  ·have n311:Dm (true,[.string,.string,.string]) (.agg #[.string x2.sub_.type_,.string x2.sub_.id_,.string x2.sub_.rel]) (Ay GS 12884901888 g11 t322)=some none:=n305;refine Zf (Y4 n311 (Mu n311) (Mw n311) (K9 n311)) ?_;refine DR (by kernel_rfl) ?_;refine Zf (Y4 n311 (Mu n311) (Mw n311) (K9 n311)) ?_;cases H301;exact⟨(Ch (List.length t322) 0 g11),ZF n306 21474836491 (some (CZ 12884901888 (List.length t322),21474836491)) [4294967296,8589934592,12884901888,17179869184] [(0,0),(1,1),(2,2),(3,3),(4,4),(5,5)]⟩
  have o316:Dm (true,[.string,.string,.string]) (.agg #[.string x2.sub_.type_,.string x2.sub_.id_,.string x2.sub_.rel]) (Ay GS 12884901888 g11 t322)=some (some (j6,.so (CZ 12884901888 j6) (g11 j6) 0 xs6.length)):=o309;have h312:j6<4294967296:=OC (Lb.1 o307).1 g302;have h313:∀hp:Hp,A8 AF 3 12884901888 g11 t322 hp (CZ 12884901888 j6)=some (.rw (List.map AF xs6) 3 (g11 j6) false false):=fun _=>JD o307 h312
  have h314:(Ay GS 12884901888 g11 t322)[j6]? =some ((.agg #[.string x2.sub_.type_,.string x2.sub_.id_,.string x2.sub_.rel]),.so (CZ 12884901888 j6) (g11 j6) 0 xs6.length):=(UX _ _).trans (by rw[o307];rfl);have h315:xs6.length+1<=4294967296:=by have:=g303;simp only[qg_,o308,Nw] at this;omega
  have h317:=FO (B:=12884901888) h312;obtain⟨zs6,h334⟩:∃zs,xs6++[(⟨x2.obj,x2.rel⟩:AB)]=zs:=⟨_,rfl⟩;have h335:List.map AF xs6++[[.v (.string x2.obj.type_),.v (.string x2.obj.id_),.v (.string x2.rel)]]=List.map AF zs6:=GX AF h334;have h336:xs6.length+1=zs6.length:=GY h334;have h337:zs6.length<=4294967296:=by omega
  have h338:An x2.sub_ [(⟨x2.obj,x2.rel⟩:AB)] t322=List.set t322 j6 (x2.sub_,zs6):=by rw[<-h334];exact o310 _
  have h339:∀hp:Hp,upd (CZ 12884901888 j6) (some (.rw (List.map AF zs6) 3 (g11 j6+1) false false)) (A8 AF 3 12884901888 g11 t322 hp)=A8 AF 3 12884901888 (Ch j6 (g11 j6+1) g11) (List.set t322 j6 (x2.sub_,zs6)) hp:=fun _=>W9 (q:=(x2.sub_,zs6)) o307 h312;have h340:List.set (Ay GS 12884901888 g11 t322) j6 ((.agg #[.string x2.sub_.type_,.string x2.sub_.id_,.string x2.sub_.rel]),.so (CZ 12884901888 j6) (g11 j6+1) 0 zs6.length)=Ay GS 12884901888 (Ch j6 (g11 j6+1) g11) (List.set t322 j6 (x2.sub_,zs6)):=XA (q:=(x2.sub_,zs6)) (Lb.1 o307).1;have h341:(List.set t322 j6 (x2.sub_,zs6)).length<=4294967296:=by rw[Bb];exact BK g302
  refine Zf (Y3 (Y6 o316 (Mv o316) (Mx o316) (MA o316) h313 h314) (Y6 (K8 h314) h315 h317 h335 h336 h337) (Y2 h339 h340)) ?_;refine XF (CZ 12884901888 j6) 340282366920938463463374607431768211458 (by have:=h312;rw[Dl];unfold DN;omega) (by decide) (by simp[h317]) (by simp only[Nc,Nk,LE,LJ,Lk,LD,MB,sw,Nat.reduceLeDiff,Nat.reduceLT,Nat.reduceAdd, ↓reduceIte,UW,h317];kernel_rfl) ?_;refine Zf (Y3 (Y6 o316 (Mv o316) (Mx o316) (MA o316) h313 h314) (Y6 (K8 h314) h315 h317 h335 h336 h337) (Y2 h339 h340)) ?_;cases H301;exact⟨(Ch j6 (g11 j6+1) g11),ZF trivial 340282366920938463463374607431768211457 none [4294967296,8589934592,12884901888,17179869184] [(0,0),(1,1),(2,2),(3,3),(4,4),(5,5)]⟩
 refine AW ?_;obtain⟨g342,H343⟩:=Ev H299;have h344:(An x2.sub_ [(⟨x2.obj,x2.rel⟩:AB)] t322).length<=4294967296:=of_decide_eq_true g342;refine GT H343 (fun f _ _ (g15:(Nat->Nat))=>⟨kp [16,17,18] f (upd 3 (.pt 0 0) (upd 5 (.pt 5 0) AQ)),upd 0 (some (.bx [.mo 1,.mo 2,.mo 3,.mo 4])) (upd 1 (some (.mo (Ay Fs 4294967296 g13 (An (⟨x2.obj,x2.rel⟩:AB) [x2.sub_] t302)) false)) (upd 2 (some (.mo (Ay Value.string 8589934592 g15 (An x2.obj.type_ [x2.obj.id_] t312)) false)) (upd 3 (some (.mo (Ay GS 12884901888 g14 (An x2.sub_ [(⟨x2.obj,x2.rel⟩:AB)] t322)) false)) (upd 4 (some (.mo (Ay Value.string 17179869184 g12 t332) false)) (upd 5 (some (.bx [.v (.string x2.obj.type_),.v (.string x2.obj.id_),.v (.string x2.rel),.v (.string x2.sub_.type_),.v (.string x2.sub_.id_),.v (.string x2.sub_.rel)])) (A8 AZ 3 4294967296 g13 (An (⟨x2.obj,x2.rel⟩:AB) [x2.sub_] t302) (A8 eS 1 8589934592 g15 (An x2.obj.type_ [x2.obj.id_] t312) (A8 AF 3 12884901888 g14 (An x2.sub_ [(⟨x2.obj,x2.rel⟩:AB)] t322) (A8 eS 1 17179869184 g12 t332 (AS)))))))))),21474836480⟩) (fun e_8 E345 H346=> ?_) fun _ g15 H346=> ?_
 ·refine ZT 1 ?_;obtain⟨g347,H348⟩:=Ev E345;obtain⟨g349,g350⟩:=W8 g347;refine Z0 ?_;rcases XB (kv:=Value.string) (B:=8589934592) (vs:=g10) UR x2.obj.type_ t312 with⟨n351,n352,n353⟩ |⟨j7,xs7,o354,o355,o356,o357⟩
  ·have n358:Dm (false,[.string]) (.string x2.obj.type_) (Ay Value.string 8589934592 g10 t312)=some none:=n352;refine Zf (Y4 n358 (Mu n358) (Mw n358) (K9 n358)) ?_;refine DR (by kernel_rfl) ?_;refine Zf (Y4 n358 (Mu n358) (Mw n358) (K9 n358)) ?_;cases H348;exact⟨(Ch (List.length t312) 0 g10),ZF n353 21474836501 (some (CZ 8589934592 (List.length t312),21474836501)) [4294967296,8589934592,12884901888,17179869184] [(0,0),(1,1),(2,2),(3,3),(4,4),(5,5)]⟩
  have o363:Dm (false,[.string]) (.string x2.obj.type_) (Ay Value.string 8589934592 g10 t312)=some (some (j7,.so (CZ 8589934592 j7) (g10 j7) 0 xs7.length)):=o356;have h359:j7<4294967296:=OC (Lb.1 o354).1 g349;have h360:∀hp:Hp,A8 eS 1 8589934592 g10 t312 hp (CZ 8589934592 j7)=some (.rw (List.map eS xs7) 1 (g10 j7) false false):=fun _=>JD o354 h359
  have h361:(Ay Value.string 8589934592 g10 t312)[j7]? =some ((.string x2.obj.type_),.so (CZ 8589934592 j7) (g10 j7) 0 xs7.length):=(UX _ _).trans (by rw[o354];rfl);have h362:xs7.length+1<=4294967296:=by have:=g350;simp only[qg_,o355,Nw] at this;omega
  have h364:=FO (B:=8589934592) h359;obtain⟨zs7,h379⟩:∃zs,xs7++[x2.obj.id_]=zs:=⟨_,rfl⟩;have h380:List.map eS xs7++[[.v (.string x2.obj.id_)]]=List.map eS zs7:=GX eS h379;have h381:xs7.length+1=zs7.length:=GY h379;have h382:zs7.length<=4294967296:=by omega
  have h383:An x2.obj.type_ [x2.obj.id_] t312=List.set t312 j7 (x2.obj.type_,zs7):=by rw[<-h379];exact o357 _
  have h384:∀hp:Hp,upd (CZ 8589934592 j7) (some (.rw (List.map eS zs7) 1 (g10 j7+1) false false)) (A8 eS 1 8589934592 g10 t312 hp)=A8 eS 1 8589934592 (Ch j7 (g10 j7+1) g10) (List.set t312 j7 (x2.obj.type_,zs7)) hp:=fun _=>W9 (q:=(x2.obj.type_,zs7)) o354 h359;have h385:List.set (Ay Value.string 8589934592 g10 t312) j7 ((.string x2.obj.type_),.so (CZ 8589934592 j7) (g10 j7+1) 0 zs7.length)=Ay Value.string 8589934592 (Ch j7 (g10 j7+1) g10) (List.set t312 j7 (x2.obj.type_,zs7)):=XA (q:=(x2.obj.type_,zs7)) (Lb.1 o354).1;have h386:(List.set t312 j7 (x2.obj.type_,zs7)).length<=4294967296:=by rw[Bb];exact BK g349
  refine Zf (Y3 (Y6 o363 (Mv o363) (Mx o363) (MA o363) h360 h361) (Y6 (K8 h361) h362 h364 h380 h381 h382) (Y2 h384 h385)) ?_;refine XF (CZ 8589934592 j7) 340282366920938463463374607431768211458 (by have:=h359;rw[Dl];unfold DN;omega) (by decide) (by simp[h364]) (by simp only[Nc,Nk,LE,LJ,Lk,LD,MB,sw,Nat.reduceLeDiff,Nat.reduceLT,Nat.reduceAdd, ↓reduceIte,UW,h364];kernel_rfl) ?_;refine Zf (Y3 (Y6 o363 (Mv o363) (Mx o363) (MA o363) h360 h361) (Y6 (K8 h361) h362 h364 h380 h381 h382) (Y2 h384 h385)) ?_;cases H348;exact⟨(Ch j7 (g10 j7+1) g10),ZF trivial 340282366920938463463374607431768211457 none [4294967296,8589934592,12884901888,17179869184] [(0,0),(1,1),(2,2),(3,3),(4,4),(5,5)]⟩
 refine Az ?_;obtain⟨c387,H388⟩ |⟨c387,H388⟩:=CM H346;rotate_left
 ·refine DF (by rfl) c387 ?_;refine Z1 c387 ?_;refine ZT 3 ?_;refine Z1 c387 ?_;obtain⟨g438,H439⟩:=Ev H388;have h440:(An x2.obj.type_ [x2.obj.id_] t312).length<=4294967296:=of_decide_eq_true g438;exact⟨_,(g13,g15,g14,g12),H439,ZF trivial 340282366920938463463374607431768211457 none [4294967296,8589934592,12884901888,17179869184] [(0,0),(1,1),(2,2),(3,3),(4,4)]⟩
 refine EV (by rfl) c387 ?_;refine Z1 c387 ?_;obtain⟨g389,H390⟩:=Ev H388;have h391:(An x2.obj.type_ [x2.obj.id_] t312).length<=4294967296:=of_decide_eq_true g389;refine GT H390 (fun f _ _ (g16:(Nat->Nat))=>⟨kp [16,17,18] f (upd 3 (.pt 0 0) AQ),upd 0 (some (.bx [.mo 1,.mo 2,.mo 3,.mo 4])) (upd 1 (some (.mo (Ay Fs 4294967296 g13 (An (⟨x2.obj,x2.rel⟩:AB) [x2.sub_] t302)) false)) (upd 2 (some (.mo (Ay Value.string 8589934592 g15 (An x2.obj.type_ [x2.obj.id_] t312)) false)) (upd 3 (some (.mo (Ay GS 12884901888 g14 (An x2.sub_ [(⟨x2.obj,x2.rel⟩:AB)] t322)) false)) (upd 4 (some (.mo (Ay Value.string 17179869184 g16 (An x2.sub_.type_ [x2.sub_.id_] t332)) false)) (A8 AZ 3 4294967296 g13 (An (⟨x2.obj,x2.rel⟩:AB) [x2.sub_] t302) (A8 eS 1 8589934592 g15 (An x2.obj.type_ [x2.obj.id_] t312) (A8 AF 3 12884901888 g14 (An x2.sub_ [(⟨x2.obj,x2.rel⟩:AB)] t322) (A8 eS 1 17179869184 g16 (An x2.sub_.type_ [x2.sub_.id_] t332) (AS))))))))),21474836480⟩) (fun e_9 E392 H393=> ?_) fun _ g16 H393=> ?_;rotate_left
 ·refine GI ?_;obtain⟨g434,H435⟩:=Ev H393;have h436:(An x2.sub_.type_ [x2.sub_.id_] t332).length<=4294967296:=of_decide_eq_true g434;exact⟨_,(g13,g15,g14,g16),H435,ZF trivial 340282366920938463463374607431768211457 none [4294967296,8589934592,12884901888,17179869184] [(0,0),(1,1),(2,2),(3,3),(4,4)]⟩
 refine ZT 1 ?_;obtain⟨g394,H395⟩:=Ev E392;obtain⟨g396,g397⟩:=W8 g394;refine Z0 ?_;rcases XB (kv:=Value.string) (B:=17179869184) (vs:=g12) UR x2.sub_.type_ t332 with⟨n398,n399,n400⟩ |⟨j8,xs8,o401,o402,o403,o404⟩
 ·have n405:Dm (false,[.string]) (.string x2.sub_.type_) (Ay Value.string 17179869184 g12 t332)=some none:=n399;refine Zf (Y4 n405 (Mu n405) (Mw n405) (K9 n405)) ?_;refine DR (by kernel_rfl) ?_;refine Zf (Y4 n405 (Mu n405) (Mw n405) (K9 n405)) ?_;cases H395;exact⟨(Ch (List.length t332) 0 g12),ZF n400 21474836505 (some (CZ 17179869184 (List.length t332),21474836505)) [4294967296,8589934592,12884901888,17179869184] [(0,0),(1,1),(2,2),(3,3),(4,4)]⟩
 have o410:Dm (false,[.string]) (.string x2.sub_.type_) (Ay Value.string 17179869184 g12 t332)=some (some (j8,.so (CZ 17179869184 j8) (g12 j8) 0 xs8.length)):=o403;have h406:j8<4294967296:=OC (Lb.1 o401).1 g396;have h407:∀hp:Hp,A8 eS 1 17179869184 g12 t332 hp (CZ 17179869184 j8)=some (.rw (List.map eS xs8) 1 (g12 j8) false false):=fun _=>JD o401 h406
 have h408:(Ay Value.string 17179869184 g12 t332)[j8]? =some ((.string x2.sub_.type_),.so (CZ 17179869184 j8) (g12 j8) 0 xs8.length):=(UX _ _).trans (by rw[o401];rfl);have h409:xs8.length+1<=4294967296:=by have:=g397;simp only[qg_,o402,Nw] at this;omega
 have h411:=FO (B:=17179869184) h406;obtain⟨zs8,h426⟩:∃zs,xs8++[x2.sub_.id_]=zs:=⟨_,rfl⟩;have h427:List.map eS xs8++[[.v (.string x2.sub_.id_)]]=List.map eS zs8:=GX eS h426;have h428:xs8.length+1=zs8.length:=GY h426;have h429:zs8.length<=4294967296:=by omega
 have h430:An x2.sub_.type_ [x2.sub_.id_] t332=List.set t332 j8 (x2.sub_.type_,zs8):=by rw[<-h426];exact o404 _
 have h431:∀hp:Hp,upd (CZ 17179869184 j8) (some (.rw (List.map eS zs8) 1 (g12 j8+1) false false)) (A8 eS 1 17179869184 g12 t332 hp)=A8 eS 1 17179869184 (Ch j8 (g12 j8+1) g12) (List.set t332 j8 (x2.sub_.type_,zs8)) hp:=fun _=>W9 (q:=(x2.sub_.type_,zs8)) o401 h406;have h432:List.set (Ay Value.string 17179869184 g12 t332) j8 ((.string x2.sub_.type_),.so (CZ 17179869184 j8) (g12 j8+1) 0 zs8.length)=Ay Value.string 17179869184 (Ch j8 (g12 j8+1) g12) (List.set t332 j8 (x2.sub_.type_,zs8)):=XA (q:=(x2.sub_.type_,zs8)) (Lb.1 o401).1;have h433:(List.set t332 j8 (x2.sub_.type_,zs8)).length<=4294967296:=by rw[Bb];exact BK g396
 refine Zf (Y3 (Y6 o410 (Mv o410) (Mx o410) (MA o410) h407 h408) (Y6 (K8 h408) h409 h411 h427 h428 h429) (Y2 h431 h432)) ?_;refine XF (CZ 17179869184 j8) 340282366920938463463374607431768211458 (by have:=h406;rw[Dl];unfold DN;omega) (by decide) (by simp[h411]) (by simp only[Nc,Nk,LE,LJ,Lk,LD,MB,sw,Nat.reduceLeDiff,Nat.reduceLT,Nat.reduceAdd, ↓reduceIte,UW,h411];kernel_rfl) ?_;refine Zf (Y3 (Y6 o410 (Mv o410) (Mx o410) (MA o410) h407 h408) (Y6 (K8 h408) h409 h411 h427 h428 h429) (Y2 h431 h432)) ?_;cases H395;exact⟨(Ch j8 (g12 j8+1) g12),ZF trivial 340282366920938463463374607431768211457 none [4294967296,8589934592,12884901888,17179869184] [(0,0),(1,1),(2,2),(3,3),(4,4)]⟩
end Go.Proofs.YtnmkbmefohakmaaGreat.Ab
