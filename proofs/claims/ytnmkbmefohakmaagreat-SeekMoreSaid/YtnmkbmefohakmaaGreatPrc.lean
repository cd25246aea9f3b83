/-
 The document's reader of schemas: one of an expression.
-/
import Derived.Test.YtnmkbmefohakmaaGreatPra
set_option linter.all false
namespace Go.Proofs.YtnmkbmefohakmaaGreat.Ab
open Go.RowKit IntKind
def JF (_:Nat)(c2:Int):Option Bool:=(if decide (97<=c2) then (if decide (c2<=122) then some true else (if decide (48<=c2) then (if decide (c2<=57) then some true else some (c2==95)) else some (c2==95))) else (if decide (48<=c2) then (if decide (c2<=57) then some true else some (c2==95)) else some (c2==95)))
theorem bG {n:Nat}{c2:Int}{r:Bool}(H:JF n c2=some r):AI Tryz.prog 82 [D.v (.int .u8 c2)] (D.v (.bool r)) true:=by
 unfold JF at H;refine zP #[.tmp 2] Tryz.func82 ?_;refine AN ?_;obtain⟨c1,H2⟩ |⟨c1,H2⟩:=CM H
 ·refine Z1 c1 ?_;obtain⟨c3,H4⟩ |⟨c3,H4⟩:=CM H2
  ·refine Z1 (Y2 c1 c3) ?_;cases H4;exact CC
  have w195_:=Y2 c1 c3;refine Z1 w195_ ?_;obtain⟨w196_,H6⟩ |⟨w196_,H6⟩:=DU w195_ H4
  ·refine Z1 w196_ ?_;obtain⟨w197_,H8⟩ |⟨w197_,H8⟩:=DU w196_ H6
   ·refine Z1 w197_ ?_;cases H8;exact CC
   refine Z1 w197_ ?_;cases H8;exact CC
  refine Z1 w196_ ?_;cases H6;exact CC
 refine Z1 c1 ?_;obtain⟨c9,H10⟩ |⟨c9,H10⟩:=CM H2
 ·have w198_:=Y2 c1 c9;refine Z1 w198_ ?_;obtain⟨w199_,H12⟩ |⟨w199_,H12⟩:=DU w198_ H10
  ·refine Z1 w199_ ?_;cases H12;exact CC
  refine Z1 w199_ ?_;cases H12;exact CC
 refine Z1 (Y2 c1 c9) ?_;cases H10;exact CC
def j1_ (n:Nat)(s:ByteArray)(c2:Int):Nat->Int->Option ((Unit) ⊕ Int)
 |0,_=>none
 |c+1,i=>(if decide (i<(s.size:Int)) then (Do s i).bind fun ch2=>(if (ch2==c2) then some (.inr i) else j1_ n s c2 c (i64.wrap (i+1))) else some (.inl ()))
def VC (n:Nat)(s:ByteArray)(c2:Int)(from_:Int):Option Int:=(j1_ n s c2 n from_:Option ((Unit) ⊕ Int)).bind fun
  | .inl _=>some (-1)
  | .inr r=>some r
theorem tc {n:Nat}{s:ByteArray}{c2:Int}{from_:Int}{r:Int}(H:VC n s c2 from_=some r):AI Tryz.prog 83 [D.v (.string s),D.v (.int .u8 c2),D.v (.int .i64 from_)] (D.v (.int .i64 r)) true:=by
 unfold VC at H;refine zP #[.tmp 6] Tryz.func83 ?_;refine Qx ?_;refine zi H (fun _ _ _=>⟨AQ,AS,0⟩) (fun e_ E1 H2=> ?_) fun _ H2=> ?_
 ·refine IX E1 (fun f _ i=>⟨kp [0,1] f (upd 7 (.v (.int .i64 i)) AQ),AS,0⟩) (ZR []) fun c i L3=> ?_
  refine AN ?_;obtain⟨c13,H14⟩ |⟨c13,H14⟩:=CM L3
  ·obtain⟨ch2,b15,H16⟩:=AJ H14;obtain⟨h17,by_2,h18,h19⟩:=Jf b15;try simp only[Int.reduceToNat,Lv] at h18
   have w200_:=Y4 c13 (Cx .i64 h17) h18 h19.symm;refine Z1 w200_ ?_;obtain⟨w201_,H21⟩ |⟨w201_,H21⟩:=DU w200_ H16
   ·refine Z1 w201_ ?_;cases H21;cases H2;exact CC
   refine Z1 w201_ ?_;exact⟨_,H21,ZR []⟩
  refine Z1 c13 ?_;cases H14;exact⟨_,rfl,ZR []⟩
 refine AN ?_;cases H2;exact CC
def Xh (n:Nat)(t0:ByteArray):Nat->Int->Option (Int)
 |0,_=>none
 |c+1,t88=>(if decide (t88<(t0.size:Int)) then (Do t0 t88).bind fun ch11=>(if (ch11 != 10) then Xh n t0 c (i64.wrap (t88+1)) else some t88) else some t88)
def Qj (n:Nat)(t0:ByteArray):Nat->Int->Option (Int)
 |0,_=>none
 |c+1,t811=>(if decide (t811<(t0.size:Int)) then (Do t0 t811).bind fun ch13=>(JF n ch13).bind fun t754=>(if t754 then Qj n t0 c (i64.wrap (t811+1)) else some t811) else some t811)
def Jy (n:Nat)(t0:ByteArray):Nat->(List CE × Int)->Option ((List CE) ⊕ (List CE × Int × Int))
 |0,_=>none
 |c+1,(t5,t6)=>(if decide (t6<(t0.size:Int)) then (Do t0 t6).bind fun ch8=>(((if (ch8==32) then some true else (if (ch8==9) then some true else (if (ch8==10) then some true else some (ch8==13)))):Option (Bool)).bind fun t222=>(if t222 then some (.inl ((i64.wrap (t6+1)),0)) else ((if (ch8==47) then (if (decide ((i64.wrap (t6+1))<(t0.size:Int))) then (Do t0 (i64.wrap (t6+1))).bind fun ch9=>some (ch9==47) else some false) else some false):Option (Bool)).bind fun t372=>(if t372 then (Xh n t0 n (i64.wrap (t6+1)):Option (Int)).bind fun t810=>some (.inl (t810,0)) else (JF n ch8).bind fun t662=>(if t662 then (Qj n t0 n (i64.wrap (t6+1)):Option (Int)).bind fun t813=>some (.inl (t813,1)) else ((if (ch8==45) then (if (decide ((i64.wrap (t6+1))<(t0.size:Int))) then (Do t0 (i64.wrap (t6+1))).bind fun ch14=>some (ch14==62) else some false) else some false):Option (Bool)).bind fun t792=>(if t792 then some (.inl ((i64.wrap ((i64.wrap (t6+1))+1)),2)) else (VC n ({ data:= #[123,125,58,59,124,35,61,43,45,38,40,41] }) ch8 0).bind fun t982=>(if decide (t982<0) then some (.inr ([],t6,7)) else some (.inl ((i64.wrap (t6+1)),2))))))):Option ((Int × Int) ⊕ (List CE × Int × Int))).bind fun | .inl (t814,t92)=>(if decide (0<t92) then (Jd t0 t6 t814).bind fun s2=>(EA t5 [(⟨t92,t6,s2⟩:CE)]).bind fun l=>Jy n t0 c (l,t814) else Jy n t0 c (t5,t814)) | .inr r=>some (.inr r) else some (.inl t5))
def Qk (n:Nat)(t0:ByteArray):Option (List CE × Int × Int):=(if decide (100000<(t0.size:Int)) then some ([],0,8) else (Jy n t0 n ([],0):Option ((List CE) ⊕ (List CE × Int × Int))).bind fun
   | .inl t53=>some (t53,0,0)
   | .inr r=>some r)
set_option maxHeartbeats 8000000 in
theorem td {n:Nat}{t0:ByteArray}{r:List CE × Int × Int}(H:Qk n t0=some r):AI Tryz.prog 53 [D.v (.string t0)] (D.tu [D.sl (List.map Ag r.1),D.v (.int .i64 r.2.1),D.v (.int .i64 r.2.2)]) true:=by
 unfold Qk at H;refine zP #[.tmp 2,.tmp 3,.tmp 4] Tryz.func53 ?_;refine D3 ?_;obtain⟨c1,H2⟩ |⟨c1,H2⟩:=CM H
 ·refine Z1 c1 ?_;cases H2;exact CC
 refine MP c1 ?_;refine AW (AW ?_);refine HG c1 ?_;refine kd H2 (fun _ _ t53 g15=>⟨upd 5 (Aa 0 g15 (List.map Ag t53)) AQ,upd 0 (CD 3 g15 false (List.map Ag t53)) AS,1⟩) (fun e_ E3 H4=> ?_) fun t53 g15 H4=> ?_;rotate_left
 ·refine AN ?_;cases H4;exact CC
 refine Ft E3 (fun f _ (t5,t6) g=>⟨kp [0] f (upd 5 (Aa 0 g (List.map Ag t5)) (upd 6 (.v (.int .i64 t6)) AQ)),upd 0 (CD 3 g false (List.map Ag t5)) AS,1⟩) 0 (ZR []) fun c ⟨t5,t6⟩ g L5=> ?_
 refine Az ?_;obtain⟨c122,H123⟩ |⟨c122,H123⟩:=CM L5;rotate_left
 ·refine Z1 c122 ?_;cases H123;exact⟨_,g,rfl,ZR [(0,0)]⟩
 refine Z1 c122 ?_;refine CN ?_;refine AW (ZT 1 ?_);obtain⟨ch8,b124,H125⟩:=AJ H123;obtain⟨h126,by_8,h127,h128⟩:=Jf b124;try simp only[Int.reduceToNat,Lv] at h127
 have w202_:=Y4 c122 (Cx .i64 h126) h127 h128.symm;refine MP w202_ ?_;refine AW (ZT 1 ?_);refine Z1 w202_ ?_;refine AW ?_;refine kd H125 (fun f _ (t814,t92) g13=>⟨kp [0,6] f (upd 5 (Aa 0 g13 (List.map Ag t5)) (upd 8 (.v (.int .i64 t814)) (upd 9 (.v (.int .i64 t92)) AQ))),upd 0 (CD 3 g13 false (List.map Ag t5)) AS,1⟩) (fun e_8 E129 H130=> ?_) fun⟨t814,t92⟩ g13 H130=> ?_;rotate_left
 ·refine ZT 2 ?_;refine Z0 ?_;obtain⟨c226,H227⟩ |⟨c226,H227⟩:=CM H130
  ·obtain⟨s2,b228,H229⟩:=AJ H227;obtain⟨h230,h231,h232,h233⟩:=qo b228;have h234:Int.toNat t6<=Int.toNat t814:=(by omega);have h235:Int.toNat t814<=t0.size:=(by omega);have h236:ByteArray.extract t0 (Int.toNat t6) (Int.toNat t814)=s2:=h233.symm;try simp only[Lv] at h234 h235 h236
   obtain⟨l,b237,H238⟩:=AJ H229;obtain⟨h239,h240⟩:=G7 b237;have h239:t5.length+1<=4294967296:=h239;have h241:List.map Ag t5++[[.v (.int .i64 t92),.v (.int .i64 t6),.v (.string s2)]]=List.map Ag l:=GX Ag h240;have h242:t5.length+1=l.length:=GY h240;have h243:l.length<=4294967296:=(by omega);have q244:0<l.length:=(by omega);refine Z1 (Y2 (Y6 c226 (Cx .i64 h230) (Cx .i64 (Bw h230 h231)) h234 h235 h236) (Y4 h239 h241 h242 h243)) ?_;rcases t5 with _ |⟨q0,q1⟩
   ·try simp only[LD,Cw,C8]
    exact⟨_,0,H238,ZR [(0,12)]⟩
   try simp only[Lk,Cw,C8]
   exact⟨_,(g13+1),H238,ZR [(0,0)]⟩
  refine Z1 c226 ?_;exact⟨_,g13,H227,ZR [(0,0)]⟩
 refine CN ?_;refine AW ?_;refine GT E129 (fun f _ t222 g2=>⟨kp [0,6,7,8,9] f (upd 5 (Aa 0 g2 (List.map Ag t5)) (upd 22 (.v (.bool t222)) AQ)),upd 0 (CD 3 g2 false (List.map Ag t5)) AS,1⟩) (fun e_9 E131 H132=> ?_) fun t222 g2 H132=> ?_
 ·refine AN ?_;obtain⟨c133,H134⟩ |⟨c133,H134⟩:=CM E131
  ·refine Z1 c133 ?_;cases H134;exact⟨g,ZR [(0,0)]⟩
  refine Z1 c133 ?_;obtain⟨c135,H136⟩ |⟨c135,H136⟩:=CM H134
  ·refine Z1 (Y2 c133 c135) ?_;cases H136;exact⟨g,ZR [(0,0)]⟩
  have w203_:=Y2 c133 c135;refine Z1 w203_ ?_;obtain⟨w204_,H138⟩ |⟨w204_,H138⟩:=DU w203_ H136
  ·refine Z1 w204_ ?_;cases H138;exact⟨g,ZR [(0,0)]⟩
  refine Z1 w204_ ?_;cases H138;exact⟨g,ZR [(0,0)]⟩
 obtain⟨c139,H140⟩ |⟨c139,H140⟩:=CM H132
 ·refine EV (by rfl) c139 ?_;refine Z1 c139 ?_;refine ZT 2 ?_;refine Z1 c139 ?_;cases H140;exact⟨_,g2,rfl,ZR [(0,0)]⟩
 refine DF (by rfl) c139 ?_;refine Z1 c139 ?_;refine AW ?_;refine GT H140 (fun f _ t372 g3=>⟨kp [0,6,7,8,9] f (upd 5 (Aa 0 g3 (List.map Ag t5)) (upd 37 (.v (.bool t372)) AQ)),upd 0 (CD 3 g3 false (List.map Ag t5)) AS,1⟩) (fun e_10 E141 H142=> ?_) fun t372 g3 H142=> ?_
 ·refine AN ?_;obtain⟨c143,H144⟩ |⟨c143,H144⟩:=CM E141
  ·refine Z1 c143 ?_;obtain⟨c145,H146⟩ |⟨c145,H146⟩:=CM H144
   ·obtain⟨ch9,b147,H148⟩:=AJ H146;obtain⟨h149,by_9,h150,h151⟩:=Jf b147;try simp only[Int.reduceToNat,Lv] at h150
    refine Z1 (Y5 c143 c145 (Cx .i64 h149) h150 h151.symm) ?_;cases H148;exact⟨g2,ZR [(0,0)]⟩
   refine Z1 (Y2 c143 c145) ?_;cases H146;exact⟨g2,ZR [(0,0)]⟩
  refine Z1 c143 ?_;cases H144;exact⟨g2,ZR [(0,0)]⟩
 obtain⟨c152,H153⟩ |⟨c152,H153⟩:=CM H142
 ·refine EV (by rfl) c152 ?_;refine Z1 c152 ?_;refine AW ?_;refine GT H153 (fun f _ t810 g7=>⟨kp [0,6] f (upd 5 (Aa 0 g7 (List.map Ag t5)) (upd 8 (.v (.int .i64 t810)) AQ)),upd 0 (CD 3 g7 false (List.map Ag t5)) AS,1⟩) (fun e_11 E154 H155=> ?_) fun t810 g7 H155=> ?_
  ·refine Ft E154 (fun f _ t88 g5=>⟨kp [0,6] f (upd 5 (Aa 0 g5 (List.map Ag t5)) (upd 8 (.v (.int .i64 t88)) AQ)),upd 0 (CD 3 g5 false (List.map Ag t5)) AS,1⟩) g3 (ZR [(0,0)]) fun c t88 g5 L156=> ?_
   refine AN ?_;obtain⟨c166,H167⟩ |⟨c166,H167⟩:=CM L156
   ·obtain⟨ch11,b168,H169⟩:=AJ H167;obtain⟨h170,by_11,h171,h172⟩:=Jf b168;try simp only[Int.reduceToNat,Lv] at h171
    have w205_:=Y4 c166 (Cx .i64 h170) h171 h172.symm;refine Z1 w205_ ?_;obtain⟨w206_,H174⟩ |⟨w206_,H174⟩:=DU w205_ H169
    ·refine Z1 w206_ ?_;exact⟨_,g5,H174,ZR [(0,0)]⟩
    refine Z1 w206_ ?_;cases H174;exact⟨g5,ZR [(0,0)]⟩
   refine Z1 c166 ?_;cases H167;exact⟨g5,ZR [(0,0)]⟩
  refine ZT 2 ?_;refine Z0 ?_;cases H155;exact⟨_,g7,rfl,ZR [(0,0)]⟩
 refine DF (by rfl) c152 ?_;refine Ck c152 ?_;obtain⟨t662,b176,H177⟩:=AJ H153;refine Z1 c152 ?_;refine DB (bG b176) ?_;refine Z1 c152 ?_;obtain⟨c178,H179⟩ |⟨c178,H179⟩:=CM H177
 ·refine EV (by rfl) c178 ?_;refine Z1 (Y2 c152 c178) ?_;refine AW ?_;refine GT H179 (fun f _ t813 g11=>⟨kp [0,6] f (upd 5 (Aa 0 g11 (List.map Ag t5)) (upd 8 (.v (.int .i64 t813)) AQ)),upd 0 (CD 3 g11 false (List.map Ag t5)) AS,1⟩) (fun e_12 E180 H181=> ?_) fun t813 g11 H181=> ?_
  ·refine Ft E180 (fun f _ t811 g9=>⟨kp [0,6] f (upd 5 (Aa 0 g9 (List.map Ag t5)) (upd 8 (.v (.int .i64 t811)) AQ)),upd 0 (CD 3 g9 false (List.map Ag t5)) AS,1⟩) g3 (ZR [(0,0)]) fun c t811 g9 L182=> ?_
   refine AN ?_;obtain⟨c194,H195⟩ |⟨c194,H195⟩:=CM L182
   ·obtain⟨ch13,b196,H197⟩:=AJ H195;obtain⟨h198,by_13,h199,h200⟩:=Jf b196;try simp only[Int.reduceToNat,Lv] at h199
    obtain⟨t754,b201,H202⟩:=AJ H197;have w207_:=Y4 c194 (Cx .i64 h198) h199 h200.symm;refine Z1 w207_ ?_;refine DB (bG b201) ?_;refine Z1 w207_ ?_;obtain⟨w208_,H204⟩ |⟨w208_,H204⟩:=DU w207_ H202
    ·refine Z1 w208_ ?_;exact⟨_,g9,H204,ZR [(0,0)]⟩
    refine Z1 w208_ ?_;cases H204;exact⟨g9,ZR [(0,0)]⟩
   refine Z1 c194 ?_;cases H195;exact⟨g9,ZR [(0,0)]⟩
  refine ZT 2 ?_;refine Z0 ?_;cases H181;exact⟨_,g11,rfl,ZR [(0,0)]⟩
 refine DF (by rfl) c178 ?_;refine Z1 (Y2 c152 c178) ?_;refine AW ?_;refine GT H179 (fun f _ t792 g12=>⟨kp [0,6,7,8,9] f (upd 5 (Aa 0 g12 (List.map Ag t5)) (upd 79 (.v (.bool t792)) AQ)),upd 0 (CD 3 g12 false (List.map Ag t5)) AS,1⟩) (fun e_13 E206 H207=> ?_) fun t792 g12 H207=> ?_
 ·refine AN ?_;obtain⟨c208,H209⟩ |⟨c208,H209⟩:=CM E206
  ·refine Z1 c208 ?_;obtain⟨c210,H211⟩ |⟨c210,H211⟩:=CM H209
   ·obtain⟨ch14,b212,H213⟩:=AJ H211;obtain⟨h214,by_14,h215,h216⟩:=Jf b212;try simp only[Int.reduceToNat,Lv] at h215
    refine Z1 (Y5 c208 c210 (Cx .i64 h214) h215 h216.symm) ?_;cases H213;exact⟨g3,ZR [(0,0)]⟩
   refine Z1 (Y2 c208 c210) ?_;cases H211;exact⟨g3,ZR [(0,0)]⟩
  refine Z1 c208 ?_;cases H209;exact⟨g3,ZR [(0,0)]⟩
 refine ZT 2 ?_;refine Z0 ?_;obtain⟨c217,H218⟩ |⟨c217,H218⟩:=CM H207
 ·refine Z1 c217 ?_;cases H218;exact⟨_,g12,rfl,ZR [(0,0)]⟩
 obtain⟨t982,b219,H220⟩:=AJ H218;refine Z1 c217 ?_;refine DB (tc b219) ?_;refine Z1 c217 ?_;obtain⟨c221,H222⟩ |⟨c221,H222⟩:=CM H220
 ·refine Z1 (Y2 c217 c221) ?_;cases H222;cases H130;cases H4;exact CC
 refine Z1 (Y2 c217 c221) ?_;cases H222;exact⟨_,g12,rfl,ZR [(0,0)]⟩
def Xi (n:Nat)(s:ByteArray):Nat->Int->Option ((Unit) ⊕ Bool)
 |0,_=>none
 |c+1,i=>(if decide (i<(s.size:Int)) then (Do s i).bind fun ch2=>(JF n ch2).bind fun t132=>(if t132 then Xi n s c (i64.wrap (i+1)) else some (.inr false)) else some (.inl ()))
def Fy (n:Nat)(s:ByteArray):Option Bool:=(Xi n s n 0:Option ((Unit) ⊕ Bool)).bind fun
  | .inl _=>(if decide (1<=(s.size:Int)) then (if decide ((s.size:Int)<=30) then (Do s 0).bind fun ch3=>(if (ch3 != 95) then some (!(s.toList==({ data:= #[116,121,112,101] }:ByteArray).toList)) else some false) else some false) else some false)
  | .inr r=>some r
theorem tf {n:Nat}{s:ByteArray}{r:Bool}(H:Fy n s=some r):AI Tryz.prog 85 [D.v (.string s)] (D.v (.bool r)) true:=by
 unfold Fy at H;refine zP #[.tmp 2] Tryz.func85 ?_;refine Qx ?_;refine zi H (fun f _ _=>⟨kp [0] f AQ,AS,0⟩) (fun e_ E1 H2=> ?_) fun _ H2=> ?_
 ·refine IX E1 (fun f _ i=>⟨kp [0] f (upd 3 (.v (.int .i64 i)) AQ),AS,0⟩) (ZR []) fun c i L3=> ?_
  refine AN ?_;obtain⟨c15,H16⟩ |⟨c15,H16⟩:=CM L3
  ·obtain⟨ch2,b17,H18⟩:=AJ H16;obtain⟨h19,by_2,h20,h21⟩:=Jf b17;try simp only[Int.reduceToNat,Lv] at h20
   obtain⟨t132,b22,H23⟩:=AJ H18;have w209_:=Y4 c15 (Cx .i64 h19) h20 h21.symm;refine Z1 w209_ ?_;refine DB (bG b22) ?_;refine Z1 w209_ ?_;obtain⟨w210_,H25⟩ |⟨w210_,H25⟩:=DU w209_ H23
   ·refine Z1 w210_ ?_;exact⟨_,H25,ZR []⟩
   refine Z1 w210_ ?_;cases H25;cases H2;exact CC
  refine Z1 c15 ?_;cases H16;exact⟨_,rfl,ZR []⟩
 refine AN ?_;obtain⟨c26,H27⟩ |⟨c26,H27⟩:=CM H2
 ·refine Z1 c26 ?_;obtain⟨c28,H29⟩ |⟨c28,H29⟩:=CM H27
  ·obtain⟨ch3,b30,H31⟩:=AJ H29;obtain⟨h32,by_3,h33,h34⟩:=Jf b30;try simp only[Int.reduceToNat] at h33
   have w211_:=Y5 c26 c28 (Cx .i64 h32) h33 h34.symm;refine Z1 w211_ ?_;obtain⟨w212_,H36⟩ |⟨w212_,H36⟩:=DU w211_ H31
   ·refine Z1 w212_ ?_;cases H36;exact CC
   refine Z1 w212_ ?_;cases H36;exact CC
  refine Z1 (Y2 c26 c28) ?_;cases H29;exact CC
 refine Z1 c26 ?_;cases H27;exact CC
def xL_ (n:Nat)(x:Ae):Option (Ae × ByteArray):=
 if x.e==0 then(match x.l[x.p]? with
  |some t=>if t.kind==1 then(Fy n t.text).bind fun b=>if b then some ({ x with p:=x.p+1 },t.text) else some (jw_ x 9,{ data:= #[] }) else some (jw_ x 9,{ data:= #[] })
  |none=>some (jw_ x 9,{ data:= #[] })) else some (x,{ data:= #[] })
section
variable {x:Ae}{bl:Bool}{ov:AV}{q nx:Nat}{hp:Hp}
set_option maxRecDepth 8000 in
theorem PF {n:Nat}{r:Ae × ByteArray}(hq:hp q=some (Ai x bl ov))(hl:x.l.length<4611686018427387903)(h:xL_ n x=some r):AK Tryz.prog 55 [.pt q 0] hp nx fun v hp2 nx2=>v= .v (.string r.2)/\hp2=upd q (some (Ai r.1 bl ov)) hp/\nx<=nx2:=by
 refine zr Tryz.func55 ?_;unfold xL_ at h;cases he:(x.e==0) with
 |false=>
  have he2:(x.e != 0)=true:=by rw[bne,he];rfl
  rw[he,if_neg (by decide)] at h;cases h;refine Z1 (Y2 hq he2) ?_;exact⟨_,_,rfl,⟨fun _=>.inr rfl⟩,rfl,(FE hq).symm,by dsimp only;omega⟩
 |true=>
  have he2:(x.e != 0)=false:=by rw[bne,he];rfl
  rw[he,if_pos rfl] at h;by_cases hp1:x.p<x.l.length
  ·have c1:(decide ((x.p:Int)>=(x.l.length:Int)))=false:=Cr;have c2:(decide ((x.l.length:Int)<=(x.p:Int)))=false:=Cr;have e1:x.l[x.p]? =some x.l[x.p]:=Ld hp1;have e2:(x.l.map Ag)[x.p]? =some [D.v (.int .i64 x.l[x.p].kind),D.v (.int .i64 x.l[x.p].at_),D.v (.string x.l[x.p].text)]:=Cs Ag e1;have w:=Y2 hq (Y6 he2 c1 c2 e2 (Cx .i64 (show(0:Int)<=(x.p:Int) by omega)) (show((x.p:Int)).toNat=x.p from Lv _));rw[e1] at h;dsimp only at h;cases hk:(x.l[x.p].kind==1) with
   |true=>
    have hk2:(x.l[x.p].kind != 1)=false:=(by rw[bne,hk];rfl);rw[hk,if_pos rfl] at h;obtain⟨b,hb,h⟩:=AJ h;refine Z1 (Y2 hk2 w) ?_;refine Ea (tf hb) ?_;cases b with
    |true=>
     rw[if_pos rfl] at h;cases h;refine Z0 ?_;refine DR (by rfl) ?_;refine Z1 (Y3 (As (n:=x.p)) (HJ (n:=x.p) (by omega)) w) ?_;refine DR (by rfl) ?_;refine Z0 ?_;exact⟨_,_,rfl,⟨fun _=>.inr rfl⟩,rfl,rfl,by dsimp only;omega⟩
    |false=>
     rw[if_neg (by decide)] at h;cases h;refine Z0 ?_;refine DR (by rfl) ?_;refine Z1 w ?_;refine CG ((KU hq (by omega)).mono ?_);rintro v hp3 nx3 ⟨rfl,rfl,hle3⟩;dsimp only at hle3;refine Z0 ?_;exact⟨_,_,rfl,⟨fun _=>.inr rfl⟩,rfl,rfl,by dsimp only;omega⟩
   |false=>
    have hk2:(x.l[x.p].kind != 1)=true:=(by rw[bne,hk];rfl);rw[hk,if_neg (by decide)] at h;cases h;refine Z1 (Y2 hk2 w) ?_;refine DR (by rfl) ?_;refine Z1 w ?_;refine CG ((KU hq (by omega)).mono ?_);rintro v hp3 nx3 ⟨rfl,rfl,hle3⟩;dsimp only at hle3;refine Z0 ?_;exact⟨_,_,rfl,⟨fun _=>.inr rfl⟩,rfl,rfl,by dsimp only;omega⟩
  have c1:(decide ((x.p:Int)>=(x.l.length:Int)))=true:=Cb;have c2:(decide ((x.l.length:Int)<=(x.p:Int)))=true:=Cb;rw[LX (by omega)] at h;cases h;have w:=Y2 hq (Y3 he2 c1 c2);refine GU w ?_;refine CG ((KU hq (by omega)).mono ?_);rintro v hp3 nx3 ⟨rfl,rfl,hle3⟩;dsimp only at hle3;refine Z0 ?_;exact⟨_,_,rfl,⟨fun _=>.inr rfl⟩,rfl,rfl,by dsimp only;omega⟩
end
structure Qn (hp:Hp) (q:Nat) (x:Ae) (bl:Bool) (oid ver:Nat):Prop where
 box:hp q=some (Ai x bl (Aa oid ver (x.out.map Aj)))
 row:x.out≠[]->hp oid=some (.rw (x.out.map Aj) 3 ver false false)/\oid≠q
def C5 (x:Ae)(s:AY)(at_:Int):Ae:=if x.e==0 then(if x.out.length=200 then{ x with e:=8,bad:=at_ } else{ x with out:=x.out++[s] }) else x
def KV (hp:Hp)(nx q oid:Nat)(x0 x:Ae)(bl:Bool)(hp2:Hp)(nx2:Nat):Prop:=∃oid2 ver2,Qn hp2 q x bl oid2 ver2/\(∀j,j<nx->j≠q->(x0.out≠[]->j≠oid)->hp2 j=hp j)/\(∀j,nx2<=j->hp2 j=none)/\nx<=nx2/\oid2<nx2/\(x.out≠[]->(x0.out≠[]/\oid2=oid)\/nx<=oid2)
set_option maxRecDepth 8000 in
theorem KW {x:Ae}{bl:Bool}{q nx oid ver:Nat}{hp:Hp}{s:AY}{a:Int}{vs:AV}(hf:∀j,nx<=j->hp j=none)(hI:Qn hp q x bl oid ver)(ho:oid<nx)(hvs:De vs=some [.v (.int .i64 s.kind),.v (.string s.a),.v (.string s.b)])(hol:x.out.length<=200):
  AK Tryz.prog 112 [.pt q 0,vs,.v (.int .i64 a)] hp nx fun v hp2 nx2=>v= .tu []/\KV hp nx q oid x (C5 x s a) bl hp2 nx2:=by
 refine zr Tryz.func112 ?_;have hq:=hI.box;have hqn:q<nx:=CR hf hq;unfold C5;cases he:(x.e==0) with
 |false=>
  rw[if_neg (by decide)];refine Z1 (Y4 hvs (E8 hf hq) hq he) ?_;refine⟨_,hp,rfl,bk hf,rfl,oid,ver,hI,fun _ _ _ _=>rfl,fun j hj=>hf j (by dsimp only at hj;omega),by dsimp only;omega,by dsimp only;omega,fun h=>.inl ⟨h,rfl⟩⟩
 |true=>
  rw[if_pos rfl];cases ho2:x.out with
  |nil=>
   rw[if_neg (by decide)];rw[ho2] at hq;have hrow:hp oid=hp oid:=rfl;have hqA:q≠nx+1+13+5+7:=(by omega);have hnA:nx≠nx+1+13+5+7:=(by omega);have hBA:nx+1+13+5+6≠nx+1+13+5+7:=(by omega);refine Z1 (Y2 (Y6 hvs (E8 hf hq) hq he (show(q=nx+1+13+5+7)=False from eq_false hqA) (show(q=nx+1+13+5+6)=False from EU)) (Y5 (show(nx=nx+1+13+5+6)=False from EU) (show(nx=nx+1+13+5+7)=False from eq_false hnA) (show(nx+1+13+5+7=nx+1+13+5+6)=False from eq_false (Ne.symm hBA)) (show(nx+1+13+5+7=q)=False from eq_false (Ne.symm hqA)) trivial)) ?_;have g1:CV q (nx+1+13+5+7) nx (nx+1+13+5+6) q=1:=(by simp[CV]);have g2:CV q (nx+1+13+5+7) nx (nx+1+13+5+6) (nx+1+13+5+7)=2:=(by simp[CV,Ne.symm hqA]);have g3:CV q (nx+1+13+5+7) nx (nx+1+13+5+6) nx=3:=(by unfold CV;rw[ifn,if_neg hnA,if_pos rfl]);have g4:CV q (nx+1+13+5+7) nx (nx+1+13+5+6) (nx+1+13+5+6)=4:=(by unfold CV;rw[ifn,if_neg hBA,ifn,if_pos rfl]);refine JH (CV q (nx+1+13+5+7) nx (nx+1+13+5+6)) _ rfl (by simp only[Nc,Nk,LE,LJ,Lk,LD,HH,g1,g2,g3,g4];rfl) (by rfl) ?_;refine Z0 ?_;refine⟨_,_,rfl,⟨fun _=>.inr rfl⟩,rfl,nx+1+13+5+7,0,⟨Ah _ _ _,fun _=>⟨by dsimp only;rw[AR,Ah];rfl,by omega⟩⟩,fun j h1 h2 _=>by dsimp only;rw[Ad _ _ h2,AR,AR,AR],fun j hj=>by dsimp only at hj⊢;rw[AR,AR,AR,AR];exact hf j (by omega),by dsimp only;omega,by dsimp only;omega,fun _=>.inr (by omega)⟩
  |cons y r=>
   rw[ho2] at hq;have hrw:=(hI.row (by rw[ho2];simp)).1;rw[ho2] at hrw;have hol2:r.length+1<=200:=(by rw[ho2] at hol;exact hol);by_cases h200:(y::r).length=200
   ·rw[if_pos h200];have c200:(((r.length+1:Nat):Int)==200)=true:=(by simp at h200⊢;omega);refine Z1 (Y5 hvs (E8 hf hq) hq he c200) ?_;have hrw2:=hI.row (by rw[ho2];simp);rw[ho2] at hrw2;refine⟨_,_,rfl,⟨fun _=>.inr rfl⟩,rfl,oid,ver,⟨by dsimp only;rw[Ah];simp[Aa],fun _=>⟨by dsimp only;rw[Ad _ _ hrw2.2,Ad _ _ hrw2.2,AR];exact hrw2.1,hrw2.2⟩⟩,fun j h1 h2 _=>by dsimp only;rw[Ad _ _ h2,Ad _ _ h2,AR],fun j hj=>by dsimp only at hj⊢;rw[AR,AR,AR];exact hf j (by omega),by dsimp only;omega,by dsimp only;omega,fun _=>.inl ⟨by rw[ho2];simp,rfl⟩⟩
   rw[if_neg h200];have c200:(((r.length+1:Nat):Int)==200)=false:=(by simp at h200⊢;omega);have hqA:q≠oid:=fun e=>hI.row (by rw[ho2];simp)|>.2 e.symm;have hnA:nx≠oid:=(by omega);have hBA:nx+1+13+5+6≠oid:=(by omega);refine Z1 (Y3 (Y6 hvs (E8 hf hq) hq he (show(q=oid)=False from eq_false hqA) (show(q=nx+1+13+5+6)=False from EU)) (Y6 (show(nx=nx+1+13+5+6)=False from EU) (show(nx=oid)=False from eq_false hnA) (show(oid=nx+1+13+5+6)=False from eq_false (Ne.symm hBA)) (show(oid=q)=False from eq_false (Ne.symm hqA)) (E8 hf hrw) hrw) (Y3 c200 (show(r.length+1+1<=4294967296)=True from FB) (show(oid=nx)=False from eq_false (Ne.symm hnA)))) ?_
   have g1:CV q (oid) nx (nx+1+13+5+6) q=1:=(by simp[CV]);have g2:CV q (oid) nx (nx+1+13+5+6) (oid)=2:=(by simp[CV,Ne.symm hqA]);have g3:CV q (oid) nx (nx+1+13+5+6) nx=3:=(by unfold CV;rw[ifn,if_neg hnA,if_pos rfl]);have g4:CV q (oid) nx (nx+1+13+5+6) (nx+1+13+5+6)=4:=(by unfold CV;rw[ifn,if_neg hBA,ifn,if_pos rfl]);refine JH (CV q (oid) nx (nx+1+13+5+6)) _ rfl (by simp only[Nc,Nk,LE,LJ,Lk,LD,HH,g1,g2,g3,g4];rfl) (by rfl) ?_;refine Z0 ?_;refine⟨_,_,rfl,⟨fun _=>.inr rfl⟩,rfl,oid,ver+1,⟨by dsimp only;rw[Ah];simp[Aa],fun _=>⟨by dsimp only;rw[Ad _ _ (Ne.symm hqA),Ah];simp,Ne.symm hqA⟩⟩,fun j h1 h2 h3=>by dsimp only;rw[Ad _ _ h2,Ad _ _ (h3 (by rw[ho2];simp)),AR,AR],fun j hj=>by dsimp only at hj⊢;rw[AR,AR,AR,AR];exact hf j (by omega),by dsimp only;omega,by dsimp only;omega,fun _=>.inl ⟨by rw[ho2];simp,rfl⟩⟩
def Eh {α:Type}(a b:Nat):Nat->List α->Nat->Option (List α)
 |0,xs,_=>some xs
 |k+1,xs,i=>(xs[b+i]?).bind fun x=>(xs[a+i]?).bind fun y=>Eh a b k ((xs.set (a+i) x).set (b+i) y) (i+1)
def Ei {α:Type}(m:Nat):Nat->List α->Nat->Nat->Option (List α)
 |0,_,_,_=>none
 |f+1,xs,i,j=>if i<=m then(if i=j then Eh (m-i) m i xs 0 else if j<i then(Eh (m-i) m j xs 0).bind fun ys=>Ei m f ys (i-j) j else(Eh (m-i) (m+j-i) i xs 0).bind fun ys=>Ei m f ys i (j-i)) else none
theorem Sy {α:Type}{a b:Nat}:∀ {k i:Nat} {xs ys:List α},Eh a b k xs i=some ys->ys.length=xs.length
 |0,_,_,_,h=>by cases h;rfl
 |k+1,i,xs,ys,h=>by
  unfold Eh at h;obtain⟨x,_,h⟩:=AJ h;obtain⟨y,_,h⟩:=AJ h;rw[Sy h];simp
theorem vE {α:Type}{xs:List α}{i j:Nat}{x y z:α}(h1:xs[j]? =some x)(h2:xs[i]? =some y)(h:z∈(xs.set i x).set j y):z∈xs:=by
 rcases Bs h with h |h
 ·rcases Bs h with h |h
  ·exact h
  rw[h];exact Lt h1
 rw[h];exact Lt h2
theorem X8 {α:Type}{a b:Nat}{z:α}:∀ {k i:Nat} {xs ys:List α},Eh a b k xs i=some ys->z∈ys->z∈xs
 |0,_,_,_,h=>by cases h;exact id
 |k+1,i,xs,ys,h=>by
  unfold Eh at h;obtain⟨x,h1,h⟩:=AJ h;obtain⟨y,h2,h⟩:=AJ h;exact fun hz=>vE h1 h2 (X8 h hz)
theorem X9 {α:Type}{m:Nat}:∀ {f i j:Nat} {xs ys:List α},Ei m f xs i j=some ys->ys.length=xs.length
 |0,_,_,_,_,h=>by cases h
 |f+1,i,j,xs,ys,h=>by
  unfold Ei at h;split at h
  ·split at h
   ·exact Sy h
   split at h
   ·obtain⟨zs,h1,h⟩:=AJ h;rw[X9 h,Sy h1]
   obtain⟨zs,h1,h⟩:=AJ h;rw[X9 h,Sy h1]
  cases h
theorem YA {α:Type}{m:Nat}{z:α}:∀ {f i j:Nat} {xs ys:List α},Ei m f xs i j=some ys->z∈ys->z∈xs
 |0,_,_,_,_,h=>by cases h
 |f+1,i,j,xs,ys,h=>by
  unfold Ei at h;split at h
  ·split at h
   ·exact X8 h
   split at h
   ·obtain⟨zs,h1,h⟩:=AJ h;exact fun hz=>X8 h1 (YA h hz)
   obtain⟨zs,h1,h⟩:=AJ h;exact fun hz=>X8 h1 (YA h hz)
  cases h
theorem Ej {a b:Nat}(h:a+b<4611686018427387904):i64.wrap ((a:Int)+(b:Int))=((a+b:Nat):Int):=by
 rw[show(a:Int)+(b:Int)=((a+b:Nat):Int) by omega];exact Iv h
theorem Dt {a b:Nat}(hb:b<=a)(h:a<4611686018427387904):i64.wrap ((a:Int)-(b:Int))=((a-b:Nat):Int):=by
 rw[show(a:Int)-(b:Int)=((a-b:Nat):Int) by omega];exact Iv
section
variable {i ver L:Nat}{br:Bool}
set_option maxRecDepth 4000 in
theorem cH {xs R:List AB}{a b n nx:Nat}{cmp:AV}{hp:Hp}(hx:hp i=CL xs ver br)(hL:xs.length=L)(hL2:L<4294967296)(hR:Eh a b n xs 0=some R):
  AK Tryz.prog 186 [.so i ver 0 L,.v (.int .i64 (a:Int)),.v (.int .i64 (b:Int)),.v (.int .i64 (n:Int)),cmp] hp nx fun v hp2 nx2=>v= .tu []/\hp2=upd i (CL R ver br) hp/\nx<=nx2:=by
 refine zq Tryz.func186 ?_;refine Az ?_;refine CN ?_;refine DS (α:={ x:Nat × List AB × Nat // x.1<=n/\x.1<=L/\nx<=x.2.2/\x.2.1.length=L/\Eh a b (n-x.1) x.2.1 x.1=some R })
  (fun x=>⟨upd 0 (.so i ver 0 L) (upd 1 (.v (.int .i64 (a:Int))) (upd 2 (.v (.int .i64 (b:Int))) (upd 3 (.v (.int .i64 (n:Int))) (upd 10 (.v (.int .i64 (x.1.1:Int))) AQ)))),upd i (CL x.1.2.1 ver br) hp,x.1.2.2⟩) (fun x=>n-x.1.1) ⟨(0,xs,nx+1),Ll _,Ll _,by show nx<=nx+1;omega,hL,hR⟩ ?_ ?_
 ·rw[FE hx];exact CH
 rintro⟨⟨k,ys,nx1⟩,h1,h0,h2,h3,h4⟩;dsimp only at h0 h1 h2 h3 h4;refine AW (AW ?_);refine ZT 1 ?_;by_cases hk:k<n
 ·obtain⟨q,hq⟩:∃q,n-k=q+1:=⟨n-k-1,by omega⟩;rw[hq] at h4;unfold Eh at h4;obtain⟨x,e1,h4⟩:=AJ h4;obtain⟨y,e2,h4⟩:=AJ h4;have l1:=(Lb.1 e1).1;have l2:=(Lb.1 e2).1;have c1:(decide ((k:Int)<(n:Int)))=true:=Cb;refine Ep c1 ?_;refine AW (CN ?_);refine ZT 1 ?_;obtain⟨z,ez⟩:∃z:AB,((ys.map AF).set (a+k) (AF x))[b+k]? =some (AF z):=by
   rw[<-NO,Lj];cases h:(ys.set (a+k) x)[b+k]? with
   |none=>
    rw[Ow,Bb] at h;omega
   |some z=>exact⟨z,rfl⟩
  refine Z1 (Y2 (Y6 (Ej (a:=a) (b:=k) (by omega)) (Ej (a:=b) (b:=k) (by omega)) (Cs AF e1) (Cs AF e2) ez (show(a+k<L)=True from FB)) (show(b+k<L)=True from FB)) ?_;refine DR (by rfl) ?_;refine Z0 ?_;refine ZT 1 ?_;refine Z1 (As (show k+1<_ by omega)) ?_;refine⟨⟨(k+1,(ys.set (a+k) x).set (b+k) y,_),by show k+1<=n;omega,by show k+1<=L;omega,?_,by simpa using h3,by rw[show n-(k+1)=q by omega];exact h4⟩,Fz ?_ C7,by show n-(k+1)<n-k;omega⟩
  ·show nx<=nx1+3+24+3;omega
  rw[EL,EL];show upd i (some (.rw (((ys.set (a+k) x).set (b+k) y).map AF) 3 ver br false)) hp=_;rw[NO,NO]
 have c1:(decide ((k:Int)<(n:Int)))=false:=Cr;rw[show n-k=0 by omega] at h4;cases h4;refine Ep c1 ?_;exact⟨_,_,rfl,⟨fun _=>.inr rfl⟩,rfl,rfl,by show nx<=nx1+3;omega⟩
set_option maxRecDepth 4000 in
theorem RE {xs R:List AB}{a m b f nx:Nat}{cmp:AV}{hp:Hp}(hx:hp i=CL xs ver br)(hL:xs.length=L)(hL2:L<4294967296)(ham:a<=m)(hmb:m<=b)(hb:b<=L)(hR:Ei m f xs (m-a) (b-m)=some R):
  AK Tryz.prog 176 [.so i ver 0 L,.v (.int .i64 (a:Int)),.v (.int .i64 (m:Int)),.v (.int .i64 (b:Int)),cmp] hp nx fun v hp2 nx2=>v= .tu []/\hp2=upd i (CL R ver br) hp/\nx<=nx2:=by
 refine zq Tryz.func176 ?_;refine AW (ZT 1 ?_);refine Z1 (Dt ham (by omega)) ?_;refine AW (ZT 1 ?_);refine Z1 (Dt hmb (by omega)) ?_;refine AW (CN ?_);refine DS (α:={ x:Nat × Nat × List AB × Nat × Nat // nx<=x.2.2.2.1/\x.2.2.1.length=L/\x.1<=L/\x.2.1<=L/\Ei m x.2.2.2.2 x.2.2.1 x.1 x.2.1=some R })
  (fun x=>⟨upd 0 (.so i ver 0 L) (upd 2 (.v (.int .i64 (m:Int))) (upd 4 cmp (upd 10 (.v (.int .i64 (x.1.1:Int))) (upd 11 (.v (.int .i64 (x.1.2.1:Int))) AQ)))),upd i (CL x.1.2.2.1 ver br) hp,x.1.2.2.2.1⟩) (fun x=>x.1.2.2.2.2) ⟨(m-a,b-m,xs,nx+4+4,f),by show nx<=nx+4+4;omega,hL,by show m-a<=L;omega,by show b-m<=L;omega,hR⟩ ?_ ?_
 ·rw[FE hx];exact CH
 rintro⟨⟨u,v,ys,nx1,f⟩,h1,h2,h3,h4,h5⟩;dsimp only at h1 h2 h3 h4 h5;obtain⟨f,rfl⟩:∃f',f=f'+1:=by
  cases f with |zero=>cases h5 |succ f=>exact⟨f,rfl⟩
 unfold Ei at h5;split at h5;rotate_left
 ·cases h5
 rename_i hum;refine AW (AW ?_);refine ZT 1 ?_;by_cases huv:u=v
 ·rw[if_pos huv] at h5;have h6:=h5;subst huv;have c1:((u:Int) != (u:Int))=false:=by simp
  refine Ep c1 ?_;refine ZT 1 ?_;refine Z1 (Dt hum (by omega)) ?_;refine CG (AK.mono (cH (Ah ..) h2 hL2 h6) fun v hp2 nx2 h=> ?_);obtain⟨rfl,rfl,h⟩:=h;have h:nx1+3+8<=nx2:=h;refine Z0 ?_;exact⟨_,_,rfl,⟨fun _=>.inr rfl⟩,rfl,EL _ _ _ _,by show nx<=nx2;omega⟩
 rw[if_neg huv] at h5;have c1:((u:Int) != (v:Int))=true:=by simp;omega
 refine Ep c1 ?_;refine CN ?_;refine AW (ZT 1 ?_);by_cases hvu:v<u
 ·rw[if_pos hvu] at h5;obtain⟨zs,h5,h6⟩:=AJ h5;have c2:(decide ((u:Int) > (v:Int)))=true:=Cb;have c3:(decide ((v:Int)<(u:Int)))=true:=Cb;refine Z1 (Y2 c2 c3) ?_;refine ZT 1 ?_;refine Z1 (Dt hum (by omega)) ?_;refine CG (AK.mono (cH (Ah ..) h2 hL2 h5) fun v' hp2 nx2 h=> ?_);obtain⟨rfl,rfl,h⟩:=h;have h:nx1+3+3+8<=nx2:=h;refine Z1 (Dt (a:=u) (b:=v) (by omega) (by omega)) ?_;refine⟨⟨(u-v,v,zs,_,f),?_,(Sy h5).trans h2,by show u-v<=L;omega,h4,h6⟩,Fz ?_ C7,LF f⟩
  ·show nx<=nx2+4;omega
  exact(EL _ _ _ _).symm
 rw[if_neg hvu] at h5;obtain⟨zs,h5,h6⟩:=AJ h5;have c2:(decide ((u:Int) > (v:Int)))=false:=Cr;have c3:(decide ((v:Int)<(u:Int)))=false:=Cr;refine Z1 (Y2 c2 c3) ?_;refine ZT 1 ?_;refine Z1 (Y3 (Dt hum (by omega)) (Ej (a:=m) (b:=v) (by omega)) (Dt (a:=m+v) (b:=u) (by omega) (by omega))) ?_;refine CG (AK.mono (cH (Ah ..) h2 hL2 h5) fun v' hp2 nx2 h=> ?_);obtain⟨rfl,rfl,h⟩:=h;have h:nx1+3+3+12<=nx2:=h;refine Z1 (Dt (a:=v) (b:=u) (by omega) (by omega)) ?_;refine⟨⟨(u,v-u,zs,_,f),?_,(Sy h5).trans h2,h3,by show v-u<=L;omega,h6⟩,Fz ?_ C7,LF f⟩
 ·show nx<=nx2+4;omega
 exact(EL _ _ _ _).symm
end
def Dr (x:Ae):Prop:=x.l.length<1152921504606846976/\x.p<=x.l.length/\x.out.length<=200/\x.deep<=20
instance (x:Ae):Decidable (Dr x):=inferInstanceAs (Decidable (_/\_/\_/\_))
theorem Fp {x:Ae}{t:ByteArray}(h:isM x t=true):x.p<x.l.length:=by
 unfold isM at h;split at h
 ·rename_i e;exact(Lb.1 e).1
 cases h
theorem He (x:Ae)(c:Int):(jw_ x c).l=x.l/\(jw_ x c).out=x.out/\(jw_ x c).deep=x.deep/\(jw_ x c).p=x.p:=by
 unfold jw_;split<;>exact⟨rfl,rfl,rfl,rfl⟩
theorem VF (x:Ae)(t:ByteArray):(DV x t).l=x.l/\(DV x t).out=x.out/\(DV x t).deep=x.deep/\(x.p<=x.l.length->(DV x t).p<=x.l.length):=by
 unfold DV;split
 ·split
  ·rename_i h;exact⟨rfl,rfl,rfl,fun _=>Fp h⟩
  have:=He x 9;exact⟨this.1,this.2.1,this.2.2.1,fun h=>by rw[this.2.2.2];exact h⟩
 exact⟨rfl,rfl,rfl,id⟩
theorem Hg {n:Nat}{x:Ae}{r:Ae × ByteArray}(h:xL_ n x=some r):r.1.l=x.l/\r.1.out=x.out/\r.1.deep=x.deep/\(x.p<=x.l.length->r.1.p<=x.l.length):=by
 have hk:=He x 9;have hk2:(jw_ x 9).l=x.l/\(jw_ x 9).out=x.out/\(jw_ x 9).deep=x.deep/\(x.p<=x.l.length->(jw_ x 9).p<=x.l.length):=⟨hk.1,hk.2.1,hk.2.2.1,fun h=>by rw[hk.2.2.2];exact h⟩;unfold xL_ at h;split at h
 ·split at h
  ·rename_i e;split at h
   ·obtain⟨b,_,h⟩:=AJ h;split at h
    ·cases h;exact⟨rfl,rfl,rfl,fun _=>(Lb.1 e).1⟩
    cases h;exact hk2
   cases h;exact hk2
  cases h;exact hk2
 cases h;exact⟨rfl,rfl,rfl,id⟩
theorem Qn.upd {hp:Hp}{q oid ver:Nat}{x y:Ae}{bl:Bool}{ov:AV}(h:Qn hp q x bl oid ver)(e:y.out=x.out)(hov:ov=Aa oid ver (x.out.map Aj)):Qn (upd q (some (Ai y bl ov)) hp) q y bl oid ver:=
 ⟨by rw[Ah,e,hov],fun h1=>by
  rw[e] at h1;have h2:=h.row h1;exact⟨by rw[Ad _ _ h2.2,h2.1,e],h2.2⟩⟩
def VG (F:FuncId)(M:Ae->Option Ae):Prop:=∀(hp:Hp) (nx q oid ver:Nat) (x y:Ae) (bl:Bool),(∀j,nx<=j->hp j=none)->Qn hp q x bl oid ver->oid<nx->M x=some y->AK Tryz.prog F [.pt q 0] hp nx fun v hp2 nx2=>v= .tu []/\KV hp nx q oid x y bl hp2 nx2
theorem KV.trans {hp hp1 hp2:Hp}{nx nx1 nx2 q oid oid1:Nat}{x0 x1 x2:Ae}{bl:Bool}(hn:nx<=nx1)(ho1:oid1<nx1)(h1:x1.out≠[]->(x0.out≠[]/\oid1=oid)\/nx<=oid1)(hfr:∀j,j<nx->j≠q->(x0.out≠[]->j≠oid)->hp1 j=hp j)(h2:KV hp1 nx1 q oid1 x1 x2 bl hp2 nx2):KV hp nx q oid x0 x2 bl hp2 nx2:=by
 obtain⟨oid2,ver2,a1,a2,a3,a4,a5,a6⟩:=h2;refine⟨oid2,ver2,a1,fun j b1 b2 b3=> ?_,a3,by omega,a5,fun b=> ?_⟩
 ·rw[a2 j (by omega) b2 fun b4=> ?_,hfr j b1 b2 b3];rcases h1 b4 with⟨b5,rfl⟩ |b5
  ·exact b3 b5
  omega
 rcases a6 b with⟨b1,rfl⟩ |b1
 ·rcases h1 b1 with b2 |b2
  ·exact .inl b2
  exact .inr b2
 exact .inr (by omega)
def KX:ByteArray:={ data:= #[40] }
def Gz:ByteArray:={ data:= #[41] }
def IR:ByteArray:={ data:= #[45,62] }
def EB (n:Nat)(ex:Ae->Option Ae)(x:Ae):Option Ae:=if Dr x then (if x.e==0&&isM x KX then (if x.deep=20 then some (jw_ x 10) else(ex { x with deep:=x.deep+1,p:=x.p+1 }).bind fun y=>if Dr y/\0<y.deep then some { DV y Gz with deep:=y.deep-1 } else none) else(xL_ n x).bind fun r=>if r.1.e==0&&isM r.1 IR then(xL_ n { r.1 with p:=r.1.p+1 }).bind fun s=>some (C5 s.1 ⟨2,r.2,s.2⟩ (HD x)) else some (C5 r.1 ⟨1,r.2,{ data:= #[] }⟩ (HD x))) else none
set_option maxRecDepth 8000 in
theorem Qo {n:Nat}{ex:Ae->Option Ae}(hex:VG 86 ex):VG 140 (EB n ex):=by
 intro hp nx q oid ver x y bl hf hI ho h;unfold EB at h;split at h;rotate_left
 ·cases h
 rename_i hw;obtain⟨w1,w2,w3,w4⟩:=hw;have hq:=hI.box;obtain⟨ov,hov⟩:∃ov,ov=Aa oid ver (x.out.map Aj):=⟨_,rfl⟩;rw[<-hov] at hq;have hqn:q<nx:=CR hf hq;refine zr Tryz.func140 ?_;refine Z0 ?_;refine CG ((VE hq (by omega)).mono ?_);rintro v hp2 nx2 ⟨rfl,rfl,hle⟩;dsimp only at hle;cases he:(x.e==0) with
 |false=>
  rw[he,Nj,if_neg (by decide)] at h;refine Z1 (Y2 hq he) ?_;obtain⟨r,hr,h⟩:=AJ h;refine CG ((PF hq (by omega) hr).mono ?_);rintro v hp4 nx4 ⟨rfl,rfl,hle4⟩;dsimp only at hle4;have k1:=Hg hr;have I1:=hI.upd (y:=r.1) k1.2.1 hov;have q1:∀hh:Hp,upd q (some (Ai r.1 bl ov)) hh q=some (Ai r.1 bl ov):=fun _=>Ah _ _ _;cases he1:(r.1.e==0) with
  |false=>
   rw[he1,Nj,if_neg (by decide)] at h;cases h;refine Z1 (Y2 q1 he1) ?_;refine CG ((KW (s:=⟨1,r.2,{ data:= #[] }⟩) (fun j hj=> ?_) I1 (by dsimp only;omega) rfl (by rw[k1.2.1];exact w3)).mono ?_)
   ·dsimp only at hj
    repeat rw[AR]
    exact hf j (by omega)
   rintro v hp9 nx9 ⟨rfl,hP⟩;refine Z0 ?_;exact⟨_,_,rfl,⟨fun _=>.inr rfl⟩,rfl,hP.trans (by dsimp only;omega) (by dsimp only;omega) (fun b=>.inl ⟨by rw[<-k1.2.1];exact b,rfl⟩) fun j _ b2 _=>by repeat rw[Ad _ _ b2]⟩
  |true=>
   refine Z1 (Y2 q1 he1) ?_;refine CG ((Hd (q1 _) (by rw[k1.1];omega)).mono ?_);rintro v hp5 nx5 ⟨rfl,rfl,hle5⟩;dsimp only at hle5;rw[he1,NG] at h;cases hi1:isM r.1 IR with
   |false=>
    have hi1':isM r.1 { data:= #[45,62] }=false:=hi1;rw[hi1,if_neg (by decide)] at h;cases h;refine Z1 (Y2 q1 hi1') ?_;refine CG ((KW (s:=⟨1,r.2,{ data:= #[] }⟩) (fun j hj=> ?_) I1 (by dsimp only;omega) rfl (by rw[k1.2.1];exact w3)).mono ?_)
    ·dsimp only at hj
     repeat rw[AR]
     exact hf j (by omega)
    rintro v hp9 nx9 ⟨rfl,hP⟩;refine Z0 ?_;exact⟨_,_,rfl,⟨fun _=>.inr rfl⟩,rfl,hP.trans (by dsimp only;omega) (by dsimp only;omega) (fun b=>.inl ⟨by rw[<-k1.2.1];exact b,rfl⟩) fun j _ b2 _=>by repeat rw[Ad _ _ b2]⟩
   |true=>
    have hi1':isM r.1 { data:= #[45,62] }=true:=hi1;rw[hi1,if_pos rfl] at h;obtain⟨s,hs,h⟩:=AJ h;cases h;have lt1:=Fp hi1;rw[k1.1] at lt1;have I2:=I1.upd (y:={ r.1 with p:=r.1.p+1 }) rfl (hov.trans (by rw[k1.2.1]));refine Z1 (Y3 q1 hi1' (As (n:=r.1.p))) ?_;refine CG ((PF (x:={ r.1 with p:=r.1.p+1 }) (ov:=ov) (Ah _ _ _) (by show r.1.l.length<_;rw[k1.1];omega) hs).mono ?_);rintro v hp6 nx6 ⟨rfl,rfl,hle6⟩;dsimp only at hle6;have k2:=Hg hs;have I3:=I2.upd (y:=s.1) k2.2.1 (hov.trans (by rw[<-k1.2.1]));refine Z0 ?_;refine CG ((KW (s:=⟨2,r.2,s.2⟩) (fun j hj=> ?_) I3 (by dsimp only;omega) rfl (by rw[k2.2.1];show r.1.out.length<=200;rw[k1.2.1];exact w3)).mono ?_)
    ·dsimp only at hj
     repeat rw[AR]
     exact hf j (by omega)
    rintro v hp9 nx9 ⟨rfl,hP⟩;refine Z0 ?_;exact⟨_,_,rfl,⟨fun _=>.inr rfl⟩,rfl,hP.trans (by dsimp only;omega) (by dsimp only;omega) (fun b=>.inl ⟨by rw[<-k1.2.1];rw[k2.2.1] at b;exact b,rfl⟩) fun j _ b2 _=>by repeat rw[Ad _ _ b2]⟩
 |true=>
  rw[he,NG] at h;refine Z1 (Y2 hq he) ?_;refine CG ((Hd hq (by omega)).mono ?_);rintro v hp3 nx3 ⟨rfl,rfl,hle3⟩;dsimp only at hle3;cases hi:isM x KX with
  |false=>
   have hi':isM x { data:= #[40] }=false:=hi;rw[hi,if_neg (by decide)] at h;refine Z1 (Y2 hq hi') ?_;obtain⟨r,hr,h⟩:=AJ h;refine CG ((PF hq (by omega) hr).mono ?_);rintro v hp4 nx4 ⟨rfl,rfl,hle4⟩;dsimp only at hle4;have k1:=Hg hr;have I1:=hI.upd (y:=r.1) k1.2.1 hov;have q1:∀hh:Hp,upd q (some (Ai r.1 bl ov)) hh q=some (Ai r.1 bl ov):=fun _=>Ah _ _ _
   cases he1:(r.1.e==0) with
   |false=>
    rw[he1,Nj,if_neg (by decide)] at h;cases h;refine Z1 (Y2 q1 he1) ?_;refine CG ((KW (s:=⟨1,r.2,{ data:= #[] }⟩) (fun j hj=> ?_) I1 (by dsimp only;omega) rfl (by rw[k1.2.1];exact w3)).mono ?_)
    ·dsimp only at hj
     repeat rw[AR]
     exact hf j (by omega)
    rintro v hp9 nx9 ⟨rfl,hP⟩;refine Z0 ?_;exact⟨_,_,rfl,⟨fun _=>.inr rfl⟩,rfl,hP.trans (by dsimp only;omega) (by dsimp only;omega) (fun b=>.inl ⟨by rw[<-k1.2.1];exact b,rfl⟩) fun j _ b2 _=>by repeat rw[Ad _ _ b2]⟩
   |true=>
    refine Z1 (Y2 q1 he1) ?_;refine CG ((Hd (q1 _) (by rw[k1.1];omega)).mono ?_);rintro v hp5 nx5 ⟨rfl,rfl,hle5⟩;dsimp only at hle5;rw[he1,NG] at h;cases hi1:isM r.1 IR with
    |false=>
     have hi1':isM r.1 { data:= #[45,62] }=false:=hi1;rw[hi1,if_neg (by decide)] at h;cases h;refine Z1 (Y2 q1 hi1') ?_;refine CG ((KW (s:=⟨1,r.2,{ data:= #[] }⟩) (fun j hj=> ?_) I1 (by dsimp only;omega) rfl (by rw[k1.2.1];exact w3)).mono ?_)
     ·dsimp only at hj
      repeat rw[AR]
      exact hf j (by omega)
     rintro v hp9 nx9 ⟨rfl,hP⟩;refine Z0 ?_;exact⟨_,_,rfl,⟨fun _=>.inr rfl⟩,rfl,hP.trans (by dsimp only;omega) (by dsimp only;omega) (fun b=>.inl ⟨by rw[<-k1.2.1];exact b,rfl⟩) fun j _ b2 _=>by repeat rw[Ad _ _ b2]⟩
    |true=>
     have hi1':isM r.1 { data:= #[45,62] }=true:=hi1;rw[hi1,if_pos rfl] at h;obtain⟨s,hs,h⟩:=AJ h;cases h;have lt1:=Fp hi1;rw[k1.1] at lt1;have I2:=I1.upd (y:={ r.1 with p:=r.1.p+1 }) rfl (hov.trans (by rw[k1.2.1]));refine Z1 (Y3 q1 hi1' (As (n:=r.1.p))) ?_;refine CG ((PF (x:={ r.1 with p:=r.1.p+1 }) (ov:=ov) (Ah _ _ _) (by show r.1.l.length<_;rw[k1.1];omega) hs).mono ?_);rintro v hp6 nx6 ⟨rfl,rfl,hle6⟩;dsimp only at hle6;have k2:=Hg hs;have I3:=I2.upd (y:=s.1) k2.2.1 (hov.trans (by rw[<-k1.2.1]));refine Z0 ?_;refine CG ((KW (s:=⟨2,r.2,s.2⟩) (fun j hj=> ?_) I3 (by dsimp only;omega) rfl (by rw[k2.2.1];show r.1.out.length<=200;rw[k1.2.1];exact w3)).mono ?_)
     ·dsimp only at hj
      repeat rw[AR]
      exact hf j (by omega)
     rintro v hp9 nx9 ⟨rfl,hP⟩;refine Z0 ?_;exact⟨_,_,rfl,⟨fun _=>.inr rfl⟩,rfl,hP.trans (by dsimp only;omega) (by dsimp only;omega) (fun b=>.inl ⟨by rw[<-k1.2.1];rw[k2.2.1] at b;exact b,rfl⟩) fun j _ b2 _=>by repeat rw[Ad _ _ b2]⟩
  |true=>
   have hi':isM x { data:= #[40] }=true:=hi;have lt0:=Fp hi;rw[hi,if_pos rfl] at h;by_cases hd:x.deep=20
   ·rw[if_pos hd] at h;cases h;have c1:((x.deep:Int)==20)=true:=(by rw[hd];rfl);refine Z1 (Y3 hq hi' c1) ?_;refine CG ((KU hq (by omega)).mono ?_);rintro v hp4 nx4 ⟨rfl,rfl,hle4⟩;dsimp only at hle4;refine Z0 ?_;have k1:=He x 10;exact⟨_,_,rfl,⟨fun _=>.inr rfl⟩,rfl,oid,ver,hI.upd k1.2.1 hov,fun j _ b2 _=>Ad _ _ b2,fun j hj=>by dsimp only at hj⊢;rw[AR];exact hf j (by omega),by dsimp only;omega,by dsimp only;omega,fun b=>.inl ⟨by rw[<-k1.2.1];exact b,rfl⟩⟩
   rw[if_neg hd] at h;obtain⟨y,hy,h⟩:=AJ h;split at h;rotate_left
   ·cases h
   rename_i hwy;obtain⟨⟨wy1,wy2,wy3,wy4⟩,wy5⟩:=hwy;cases h;have c1:((x.deep:Int)==20)=false:=(by simp;omega);have I1:=hI.upd (y:={ x with deep:=x.deep+1 }) rfl hov;have I2:=I1.upd (y:={ x with deep:=x.deep+1,p:=x.p+1 }) rfl hov;refine Z1 (Y5 hq hi' c1 (As (n:=x.p)) (As (n:=x.deep))) ?_;refine CG ((hex _ _ q oid ver _ y bl (fun j hj=> ?_) I2 (by dsimp only;omega) hy).mono ?_)
   ·dsimp only at hj⊢
    repeat rw[AR]
    exact hf j (by omega)
   rintro v hp4 nx4 ⟨rfl,oid2,ver2,J1,J2,J3,J4,J5,J6⟩;dsimp only at J2 J4;refine Z0 ?_;refine CG ((Qm (t:={ data:= #[41] }) J1.box (by omega) (by omega)).mono ?_);rintro v hp5 nx5 ⟨rfl,rfl,hle5⟩;dsimp only at hle5;have k1:=VF y Gz;have K1:=J1.upd (y:=DV y Gz) k1.2.1 rfl;have K2:=K1.upd (y:={ DV y Gz with deep:=y.deep-1 }) rfl (ov:=Aa oid2 ver2 (y.out.map Aj)) (by rw[k1.2.1]);have c2:i64.wrap (((DV y { data:= #[41] }).deep:Int)-1)=((y.deep-1:Nat):Int):=by
    rw[show(DV y { data:= #[41] }).deep=y.deep from k1.2.2.1];exact Dt (a:=y.deep) (b:=1) (by omega) (by omega)
   refine Z1 c2 ?_;refine⟨_,_,rfl,⟨fun _=>.inr rfl⟩,rfl,oid2,ver2,K2,fun j b1 b2 b3=> ?_,fun j hj=> ?_,by dsimp only;omega,by dsimp only;omega,fun b=> ?_⟩
   ·dsimp only
    repeat rw[Ad _ _ b2]
    rw[J2 j (by omega) b2 b3];repeat rw[Ad _ _ b2]
   ·dsimp only at hj⊢
    have:q<nx4:=by omega
    repeat rw[AR]
    exact J3 j (by omega)
   rcases J6 (by rw[<-k1.2.1];exact b) with b1 |b1
   ·exact .inl b1
   dsimp only at b1;exact .inr (by omega)
end Go.Proofs.YtnmkbmefohakmaaGreat.Ab
