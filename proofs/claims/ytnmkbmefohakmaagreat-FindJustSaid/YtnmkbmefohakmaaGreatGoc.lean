/-
 The graph of any tuples over any schema; what is asked of it; relations of a schema, as the document finds them. No program in sight.
-/
import Derived.Test.YtnmkbmefohakmaaGreatRkc
set_option linter.all false
namespace Go.Proofs.YtnmkbmefohakmaaGreat.Ab
open Go.RowKit IntKind
def Qp (n:Nat)(a:List ByteArray × Bool × Int)(d:ByteArray):Nat->(Bool × Int)->Option (Bool)
 |0,_=>none
 |c+1,(e,b)=>(if decide (b<(a.1.length:Int)) then (if e then Qp n a d c (true,(i64.wrap (b+1))) else (idx a.1 b).bind fun f=>Qp n a d c ((f.toList==d.toList),(i64.wrap (b+1)))) else some e)
def Qq (n:Nat)(a:List ByteArray × Bool × Int)(d:ByteArray):Nat->(Bool × Int)->Option (Bool)
 |0,_=>none
 |c+1,(e,b)=>(if decide (b<(a.1.length:Int)) then (if e then Qq n a d c (true,(i64.wrap (b+1))) else (idx a.1 b).bind fun f=>Qq n a d c ((f.toList==d.toList),(i64.wrap (b+1)))) else some e)
def MG (n:Nat)(e:List AG)(a:List AC)(f:Ae × ByteArray × AL)(d:ByteArray):Nat->(Bool × Bool × Int)->Option (Bool × Bool)
 |0,_=>none
 |c+1,(g,h,b)=>(if decide (b<(a.length:Int)) then (idx a b).bind fun l=>(KX n e l).bind fun m=>(if m then ((if g then some true else (idx a b).bind fun j=>some ((j.obj.type_==f.1.type_)&&(j.obj.id_==d))):Option (Bool)).bind fun k=>(if h then MG n e a f d c (k,true,(i64.wrap (b+1))) else (idx a b).bind fun i=>MG n e a f d c (k,((i.sub_.type_=={ data:= #[117] })&&((i.sub_.id_==d)&&(i.sub_.rel==ByteArray.empty))),(i64.wrap (b+1)))) else MG n e a f d c (g,h,(i64.wrap (b+1)))) else some (g,h))
def MH (n:Nat)(b:List AG)(d:List AC)(a:Ae × ByteArray × AL)(f:List ByteArray × Bool × Int)(g:List ByteArray × Bool × Int):Nat->Int->Option ((Unit) ⊕ Bool)
 |0,_=>none
 |c+1,e=>(if decide (e<8) then (idx ([{ data:= #[97] },{ data:= #[98] },{ data:= #[99] },{ data:= #[100] },{ data:= #[97,98] },{ data:= #[98,45,49] },{ data:= #[120,46,121] },{ data:= #[48] }]:List ByteArray) e).bind fun h=>(Qp n f h n (false,0):Option (Bool)).bind fun j=>(Qq n g h n (false,0):Option (Bool)).bind fun i=>(MG n b d a h n (false,false,0):Option (Bool × Bool)).bind fun(m,k)=>(MW n b d (⟨a.1.type_,h⟩:Ae) a.2.1 (⟨a.2.2.type_,a.2.2.id_,a.2.2.rel⟩:AL)).bind fun o=>(MW n b d (⟨a.1.type_,a.1.id_⟩:Ae) a.2.1 (⟨{ data:= #[117] },h,ByteArray.empty⟩:AL)).bind fun l=>(if m then (if (j==o.1) then (if k then (if (i==l.1) then MH n b d a f g c (i64.wrap (e+1)) else some (.inr false)) else (if (i==false) then MH n b d a f g c (i64.wrap (e+1)) else some (.inr false))) else some (.inr false)) else (if (j==false) then (if k then (if (i==l.1) then MH n b d a f g c (i64.wrap (e+1)) else some (.inr false)) else (if (i==false) then MH n b d a f g c (i64.wrap (e+1)) else some (.inr false))) else some (.inr false))) else some (.inl ()))
def YR (n:Nat)(t0:List Int)(d:List Int)(g:Int):Option Bool:=(Vh n t0).bind fun h=>(MS n h).bind fun e=>(Fd d 0 (if 25<(d.length:Int) then 25 else(d.length:Int))).bind fun l=>(Vj n l).bind fun f=>(Vk n g).bind fun a=>(IW n e f a.1.type_ a.2.1 (⟨a.2.2.type_,a.2.2.id_,a.2.2.rel⟩:AL) (⟨ByteArray.empty,1000⟩:CA)).bind fun b=>(Jx n e f (⟨a.1.type_,a.1.id_⟩:Ae) a.2.1 ({ data:= #[117] }) (⟨ByteArray.empty,1000⟩:CA)).bind fun c=>((if (b.2.2 != 0) then some true else some (c.2.2 != 0)):Option (Bool)).bind fun i=>(if i then ((if (b.2.2==c.2.2) then (if ((i64.wrap ((b.1.length:Int)+(c.1.length:Int)))==0) then (TD n).bind fun j=>some j else some false) else some false):Option (Bool)).bind fun k=>some k else (MH n e f a b c n 0:Option ((Unit) ⊕ Bool)).bind fun
   | .inl _=>(TD n).bind fun m=>some m
   | .inr r=>some r)
variable {S:AD}{n:Nat}{ts:List AG}
set_option maxHeartbeats 8000000 in
theorem law11_FindJust_ok {t0:List Int}{a:List Int}{I:Int}{r:Bool}(H:YR n t0 a I=some r):AM Tryz.prog 7 [D.sl (List.map eI t0),D.sl (List.map eI a),D.v (.int .i64 I)] (D.v (.bool r)) true:=by
 unfold YR at H;refine zP #[.tmp 6] Tryz.func7 ?_;refine Ax ?_;refine AU (ZT 1 ?_);obtain⟨b2,b1,H2⟩:=AP H;refine Z0 ?_;refine Ds (wo b1) ?_;obtain⟨b4,b3,H4⟩:=AP H2;refine Z0 ?_;refine Ds (o9 b3) ?_;obtain⟨l,b5,H6⟩:=AP H4;obtain⟨h7,h8,h9,a2⟩:=KO b5;have J:0<=Int.toNat (if 25<(a.length:Int) then 25 else(a.length:Int)):=by omega
 have K:Int.toNat (if 25<(a.length:Int) then 25 else(a.length:Int))<=(List.length a):=by omega
 have L:List.take (Int.toNat (if 25<(a.length:Int) then 25 else(a.length:Int))) (List.map eI a)=List.map eI l:=by rw[a2];simp[NZ]
 try simp only[Li] at J K L
 obtain⟨b6,a3,H15⟩:=AP H6;have b:=Y5 (CC .i64 (NC h7 h8)) J K L (Fm (n:=1) (f:=eI) (fun _=>rfl) a);refine Z1 b ?_;refine Ds (wq a3) ?_;refine Dj b ?_;refine AU (ZT 1 ?_);obtain⟨g,a4,H17⟩:=AP H15;refine Z1 b ?_;refine CT (wt a4) ?_;refine Ct b ?_;obtain⟨b7,a5,H19⟩:=AP H17;refine Z1 b ?_;refine CT (cE a5) ?_;refine Ct b ?_;obtain⟨b8,a6,H21⟩:=AP H19;refine Z1 b ?_;refine CT (lQ a6) ?_;refine Z1 b ?_;refine AU (AU ?_);refine zj H21 (fun f _ M=>⟨kp [7,8,10,12,14,15,17] f (upd 9 (.pt 0 0) (upd 11 (.pt 1 0) (upd 73 (.v (.bool M)) AJ))),upd 0 (some (.bx [.v (.string g.1.type_),.v (.string g.1.id_)])) (upd 1 (some (.bx [.v (.string g.2.2.type_),.v (.string g.2.2.id_),.v (.string g.2.2.rel)])) AK),2⟩) (fun e_ E22 H23=> ?_) fun M H23=> ?_
 ·refine AQ ?_;obtain⟨u,H25⟩ |⟨u,H25⟩:=Ah E22
  ·refine Z1 u ?_;cases H25;exact ZR [(0,18),(1,19)]
  refine Z1 u ?_;cases H25;exact ZR [(0,18),(1,19)]
 obtain⟨e,H27⟩ |⟨e,H27⟩:=Ah H23
 ·refine ED (by rfl) e ?_;refine Z1 e ?_;refine AU ?_;refine zj H27 (fun _ _ N=>⟨upd 6 (.v (.bool N)) AJ,AK,0⟩) (fun b9 E28 H29=> ?_) fun N H29=> ?_
  ·refine AQ ?_;obtain⟨i,H31⟩ |⟨i,H31⟩:=Ah E28
   ·refine Z1 i ?_;obtain⟨v,H33⟩ |⟨v,H33⟩:=Ah H31
    ·obtain⟨cb,a9,H35⟩:=AP H33;have O:=Y2 i v;refine Z1 O ?_;refine CT (lS a9) ?_;refine Z1 O ?_;cases H35;exact ZR []
    refine Z1 (Y2 i v) ?_;cases H33;exact ZR []
   refine Z1 i ?_;cases H31;exact ZR []
  refine AQ ?_;cases H29;exact As
 refine DI (by rfl) e ?_;refine WV e ?_;refine AU (AU ?_);refine ES e ?_;refine zi H27 (fun _ _ _=>⟨AJ,AK,0⟩) (fun cf E37 H38=> ?_) fun _ H38=> ?_;rotate_left
 ·refine ZT 1 ?_;obtain⟨ch,ba,H305⟩:=AP H38;refine Z0 ?_;refine CT (lS ba) ?_;refine Z0 ?_;cases H305;exact As
 refine D9 E37 (fun f h P=>⟨kp [7,8,9,10,11,12,15,88,89] f (upd 90 (.v (.int .i64 P)) AJ),kh [0,1,2] h AK,3⟩) (ZR [(0,0),(1,1),(2,2)]) fun c P L39=> ?_
 refine Dg ?_;obtain⟨q,H169⟩ |⟨q,H169⟩:=Ah L39;rotate_left
 ·refine Z1 q ?_;cases H169;exact⟨_,rfl,ZR []⟩
 refine J8 q ?_;obtain⟨cp,bb,Q,H171⟩:=HJ H169;have R:=Cz eS Q;simp only[Lh,Lu,eS] at R;have T:=EN Q;simp only[Ll,LB,Nat.reduceAdd] at T;have U:=Y4 q (CC .i64 bb) R T;refine Gt U ?_;refine AU (AU ?_);refine ES U ?_;refine zj H171 (fun f h V=>⟨kp [7,8,9,10,11,12,15,19,21,22,23,88,89,90] f (upd 20 (.v (.bool V)) AJ),kh [0,1,2] h AK,3⟩) (fun cs E176 H177=> ?_) fun V H177=> ?_
 ·refine D9 E176 (fun f h (X,Y)=>⟨kp [7,8,9,10,11,12,15,19,21,22,23,88,89,90] f (upd 20 (.v (.bool X)) (upd 24 (.v (.int .i64 Y)) AJ)),kh [0,1,2] h AK,3⟩) (ZR [(0,0),(1,1),(2,2)]) fun c ⟨X,Y⟩ L178=> ?_
  refine AQ ?_;obtain⟨j,H188⟩ |⟨j,H188⟩:=Ah L178
  ·refine Z1 j ?_;obtain⟨w,H190⟩ |⟨w,H190⟩:=Ah H188
   ·refine Z1 (Y2 j w) ?_;exact⟨_,H190,ZR [(0,0),(1,1),(2,2)]⟩
   obtain⟨cx,cN,c0,bd,H192⟩:=zI eS H190;refine Z1 (Y3 j w bd) ?_;exact⟨_,H192,ZR [(0,0),(1,1),(2,2)]⟩
  refine Z1 j ?_;cases H188;exact ZR [(0,0),(1,1),(2,2)]
 refine Dy ?_;refine zj H177 (fun f h Z=>⟨kp [7,8,9,10,11,12,15,19,20,22,23,88,89,90] f (upd 21 (.v (.bool Z)) AJ),kh [0,1,2] h AK,3⟩) (fun c1 E197 H198=> ?_) fun Z H198=> ?_
 ·refine D9 E197 (fun f h (aa,ab)=>⟨kp [7,8,9,10,11,12,15,19,20,22,23,88,89,90] f (upd 21 (.v (.bool aa)) (upd 25 (.v (.int .i64 ab)) AJ)),kh [0,1,2] h AK,3⟩) (ZR [(0,0),(1,1),(2,2)]) fun c ⟨aa,ab⟩ L199=> ?_
  refine AQ ?_;obtain⟨k,H209⟩ |⟨k,H209⟩:=Ah L199
  ·refine Z1 k ?_;obtain⟨x,H211⟩ |⟨x,H211⟩:=Ah H209
   ·refine Z1 (Y2 k x) ?_;exact⟨_,H211,ZR [(0,0),(1,1),(2,2)]⟩
   obtain⟨c2,c3,c4,be,H213⟩:=zI eS H211;refine Z1 (Y3 k x be) ?_;exact⟨_,H213,ZR [(0,0),(1,1),(2,2)]⟩
  refine Z1 k ?_;cases H209;exact ZR [(0,0),(1,1),(2,2)]
 refine Dy ?_;refine zj H198 (fun f h (ad,ag)=>⟨kp [7,8,9,10,11,12,15,19,20,21,88,89,90] f (upd 22 (.v (.bool ad)) (upd 23 (.v (.bool ag)) AJ)),kh [0,1,2] h AK,3⟩) (fun c5 E218 H219=> ?_) fun⟨ad,ag⟩ H219=> ?_
 ·refine D9 E218 (fun f h (ak,ao,aq)=>⟨kp [7,8,9,10,11,12,15,19,20,21,88,89,90] f (upd 22 (.v (.bool ak)) (upd 23 (.v (.bool ao)) (upd 26 (.v (.int .i64 aq)) AJ))),kh [0,1,2] h AK,3⟩) (ZR [(0,0),(1,1),(2,2)]) fun c ⟨ak,ao,aq⟩ L220=> ?_
  refine Ax ?_;obtain⟨s,H249⟩ |⟨s,H249⟩:=Ah L220;rotate_left
  ·refine Z1 s ?_;cases H249;exact ZR [(0,0),(1,1),(2,2)]
  refine J8 s ?_;obtain⟨c6,c7,c9,bg,H251⟩:=zI AE H249;obtain⟨da,bl,H257⟩:=AP H251;have t:=Y2 s bg;refine Z1 t ?_;refine CT (mM bl) ?_;refine Z1 t ?_;obtain⟨m,H259⟩ |⟨m,H259⟩:=Ah H257
  ·refine ED (by rfl) m ?_;refine Z1 (Y2 t m) ?_;refine AU ?_;refine zj H259 (fun f h av=>⟨kp [7,8,9,10,11,12,15,19,20,21,23,26,88,89,90] f (upd 22 (.v (.bool av)) AJ),kh [0,1,2] h AK,3⟩) (fun dd E260 H261=> ?_) fun av H261=> ?_
   ·refine AQ ?_;obtain⟨y,H263⟩ |⟨y,H263⟩:=Ah E260
    ·refine Dj y ?_;cases H263;exact ZR [(0,0),(1,1),(2,2)]
    obtain⟨df,dk,dl,bo,H265⟩:=zI AE H263;have br:=Y2 y bo;refine Dj br ?_;cases H265;exact ZR [(0,0),(1,1),(2,2)]
   refine ZT 3 ?_;refine Z0 ?_;obtain⟨z,H271⟩ |⟨z,H271⟩:=Ah H261
   ·refine Z1 z ?_;exact⟨_,H271,ZR [(0,0),(1,1),(2,2)]⟩
   obtain⟨dm,dn,dp,bs,H273⟩:=zI AE H271;refine Z1 (Y2 z bs) ?_;exact⟨_,H273,ZR [(0,0),(1,1),(2,2)]⟩
  refine DI (by rfl) m ?_;have aE:=Y2 t m;refine Z1 aE ?_;refine ZT 3 ?_;refine Z1 aE ?_;exact⟨_,H259,ZR [(0,0),(1,1),(2,2)]⟩
 refine ZT 3 ?_;obtain⟨dq,bx,H280⟩:=AP H219;refine Z0 ?_;refine CT (nb bx) ?_;obtain⟨dr,b0,H282⟩:=AP H280;refine Z0 ?_;refine CT (nb b0) ?_;refine Z0 ?_;obtain⟨d,H284⟩ |⟨d,H284⟩:=Ah H282
 ·refine Z1 d ?_;obtain⟨A,H286⟩ |⟨A,H286⟩:=Ah H284
  ·have a0:=Y2 d A;refine Z1 a0 ?_;obtain⟨o,H288⟩ |⟨o,H288⟩:=Cb a0 H286
   ·refine Z1 o ?_;obtain⟨B,H290⟩ |⟨B,H290⟩:=Cb o H288
    ·refine Z1 B ?_;exact⟨_,H290,ZR [(0,0),(1,1),(2,2)]⟩
    refine Z1 B ?_;cases H290;cases H38;exact As
   refine Z1 o ?_;obtain⟨C,H292⟩ |⟨C,H292⟩:=Cb o H288
   ·refine Z1 C ?_;exact⟨_,H292,ZR [(0,0),(1,1),(2,2)]⟩
   refine Z1 C ?_;cases H292;cases H38;exact As
  refine Z1 (Y2 d A) ?_;cases H286;cases H38;exact As
 refine Z1 d ?_;obtain⟨E,H294⟩ |⟨E,H294⟩:=Ah H284
 ·have a1:=Y2 d E;refine Z1 a1 ?_;obtain⟨p,H296⟩ |⟨p,H296⟩:=Cb a1 H294
  ·refine Z1 p ?_;obtain⟨F,H298⟩ |⟨F,H298⟩:=Cb p H296
   ·refine Z1 F ?_;exact⟨_,H298,ZR [(0,0),(1,1),(2,2)]⟩
   refine Z1 F ?_;cases H298;cases H38;exact As
  refine Z1 p ?_;obtain⟨G,H300⟩ |⟨G,H300⟩:=Cb p H296
  ·refine Z1 G ?_;exact⟨_,H300,ZR [(0,0),(1,1),(2,2)]⟩
  refine Z1 G ?_;cases H300;cases H38;exact As
 refine Z1 (Y2 d E) ?_;cases H294;cases H38;exact As
theorem TM {α:Type}{xs:List α}{v:Int}(k:Nat)(a:v=(k:Int))(h:k<xs.length):∃x,idx xs v=some x/\x∈xs:=⟨_,a▸CB h,LN h⟩
theorem DZ {x y:ByteArray}{k:Nat}(a:x.size<=k)(b:y.size<=8)(c:k<=1000000):∃s,Ek x y=some s/\s.size<=k+8:=by
 grind [maxLen,cl,ByteArray.size_append]
theorem Q8 {xs:List ByteArray}{x:ByteArray}(h:x∈xs)(a:(xs.all fun y=>decide (y.size<=8))=true):x.size<=8:=of_decide_eq_true (LP.1 a x h)
theorem Q9 (xs:List ByteArray)(v:Int)(h:xs.length=8):∃x,idx xs (i64.wrap (an v 7:Int))=some x/\x∈xs:=TM (an v 7) (Xp v 7 (by decide)) (by rw[h];exact BH (HX v 7) (by decide))
theorem RB (a b:ByteArray)(v:Int):∃x,idx [a,b] (i64.wrap (an v 1:Int))=some x/\x∈[a,b]:=TM (an v 1) (Xp v 1 (by decide)) (BH (HX v 1) (show 1<2 by decide))
theorem Vo (xs:List ByteArray)(v:Int)(h:xs.length=4):∃x,idx xs (i64.wrap (an v 3:Int))=some x/\x∈xs:=TM (an v 3) (Xp v 3 (by decide)) (by rw[h];exact BH (HX v 3) (by decide))
theorem RD (xs:List ByteArray)(v:Int)(m:Nat)(h:xs.length=m)(a:0<m):∃x,idx xs (Int.tmod (i64.wrap (an v 255:Int)) (m:Int))=some x/\x∈xs:=TM (an v 255%m) (by rw[xO];exact tg _ _) (by rw[h];exact Om _ a)
section
variable {n:Nat}{t0:List Int}
theorem mO (k:Nat):∃v,ML n (k:Int) t0=some v:=by
 unfold ML;by_cases h:k<t0.length
 ·rw[Dx h,if_pos rfl,CB h];exact⟨_,rfl⟩
 rw[Cw,if_neg (by decide)];exact⟨_,rfl⟩
theorem mP (v:Int):∃s,Q5 n v=some s/\s.size<=8:=by
 unfold Q5;have⟨x,b,a⟩:=RD [({ data:= #[117] }:ByteArray),{ data:= #[117] },{ data:= #[97,35,114] },{ data:= #[98,35,114] },{ data:= #[97,35,115] },{ data:= #[98,35,112] },{ data:= #[97] },{ data:= #[98] },{ data:= #[117] },{ data:= #[97,35,113] }] v 10 rfl (by decide);refine⟨x,by grind,Q8 a (by decide)⟩
theorem Yd (v:Int):∃s,PM n v=some s/\s.size<=8:=by
 unfold PM;have⟨x,a,b⟩:=Q9 [({ data:= #[114] }:ByteArray),{ data:= #[115] },{ data:= #[114] },{ data:= #[115] },{ data:= #[115,45,62,114] },{ data:= #[115,45,62,112] },{ data:= #[112] },{ data:= #[113] }] v rfl;refine⟨x,by rw[a];rfl,Q8 b (by decide)⟩
theorem mQ {k3:Nat}(p:k3<=100):∀(d j c:Nat) (s:ByteArray) (k:Nat),d=2-j->j<=2->d<c->s.size<=k->k+112*d<=100000->∃r,PO n t0 (k3:Int) c (s,(j:Int))=some r/\r.size<=k+112*d
 |0,j,c,s,k,q,t,u,h,w=>by
  obtain⟨c,rfl⟩:=sx c;unfold PO;grind
 |d+1,j,c,s,k,q,t,u,h,w=>by
  obtain⟨c,rfl⟩:=sx c;have i:=fun l z=>mQ p d (j+1) c l z (by omega) (by omega) (by omega);have⟨v,A⟩:=mO (n:=n) (t0:=t0) (k3+1+j);have e:i64.wrap (i64.wrap ((k3:Int)+1)+(j:Int))=((k3+1+j:Nat):Int):=by rw[Ar,show((k3+1:Nat):Int)+(j:Int)=((k3+1+j:Nat):Int) by omega,Hl]
  unfold PO;rw[show decide ((j:Int)<2)=true by simp;omega,if_pos rfl,e,A,Zo,Ar];have⟨s1,B,C⟩:=DZ (y:={ data:= #[32] }) h (by decide) (by omega);have⟨x,E,F⟩:=TM (xs:=[({ data:= #[112] }:ByteArray),{ data:= #[113] }]) (v:=(j:Int)) j rfl (by simp;omega);have⟨l,G,H⟩:=DZ (y:=x) C (Q8 F (by decide)) (by omega);have⟨s3,I,J⟩:=DZ (y:={ data:= #[32,61,32] }) H (by decide) (by omega);have⟨a1,K,L⟩:=Yd (n:=n) v;have⟨s4,M,N⟩:=DZ J L (by omega);have⟨O,P,Q⟩:=Vo [({ data:= #[32,43,32] }:ByteArray),{ data:= #[32,38,32] },{ data:= #[32,45,32] },{ data:= #[32,43,32] }] (sh v 4) rfl;have⟨s5,R,z5⟩:=DZ (y:=O) N (Q8 Q (by decide)) (by omega);have⟨a2,g2,y2⟩:=Yd (n:=n) (sh v 8);have⟨s6,h8,m⟩:=DZ z5 y2 (by omega);rw[B,Zo,E,Zo,G,Zo,I,Zo,K,Zo,M,Zo,P,Zo,R,Zo,g2,Zo,h8,Zo];split
  ·have⟨x3,h9,T⟩:=Vo [({ data:= #[32,43,32] }:ByteArray),{ data:= #[32,38,32] },{ data:= #[32,45,32] },{ data:= #[32,45,32,40] }] (sh v 13) rfl;have⟨s7,U,z7⟩:=DZ (y:=x3) m (Q8 T (by decide)) (by omega);have⟨a3,g3,y3⟩:=Yd (n:=n) (sh v 16);have⟨s8,V,o⟩:=DZ z7 y3 (by omega);rw[h9,Zo,U,Zo,g3,Zo,V,Zo];split
   ·have⟨f,a,b⟩:=DZ (y:={ data:= #[32,38,32] }) o (by decide) (by omega);have⟨a4,g4,y4⟩:=Yd (n:=n) (sh v 20);have⟨ak,X,Y⟩:=DZ b y4 (by omega);have⟨ao,Z,aa⟩:=DZ (y:={ data:= #[41] }) Y (by decide) (by omega);have⟨ab,ad,ag⟩:=DZ (y:={ data:= #[59] }) aa (by decide) (by omega);rw[a,Zo,g4,Zo,X,Zo,Z,Zo,ad,Zo];have⟨r,g,q2⟩:=i ab _ ag (by omega);exact⟨r,g,by omega⟩
   have⟨f,a,b⟩:=DZ (y:={ data:= #[59] }) o (by decide) (by omega);rw[a,Zo];have⟨r,g,q2⟩:=i f _ b (by omega);exact⟨r,g,by omega⟩
  have⟨f,a,b⟩:=DZ (y:={ data:= #[59] }) m (by decide) (by omega);grind
set_option maxRecDepth 4000 in
theorem mR (t:10<n):∀(d j c:Nat) (s:ByteArray) (k:Nat),d=2-j->j<=2->d<c->s.size<=k->k+400*d<=10000->∃r,TH n t0 c (s,((3*j:Nat):Int),(j:Int))=some r/\r.size<=k+400*d
 |0,j,c,s,k,u,w,z,h,A=>by
  obtain⟨c,rfl⟩:=sx c;unfold TH;grind
 |d+1,j,c,s,k,u,w,z,h,A=>by
  obtain⟨c,rfl⟩:=sx c;have ih:=fun i B=>mR t d (j+1) c i B (by omega) (by omega) (by omega);have⟨v,C⟩:=mO (n:=n) (t0:=t0) (3*j);have E:i64.wrap (((3*j:Nat):Int)+3)=((3*(j+1):Nat):Int):=by rw[show((3*j:Nat):Int)+3=((3*(j+1):Nat):Int) by omega,Hl]
  unfold TH;rw[show decide ((j:Int)<2)=true by simp;omega,if_pos rfl,C,Ar,E];have⟨s1,F,G⟩:=DZ (y:={ data:= #[116,121,112,101,32] }) h (by decide) (by omega);have⟨x,H,I⟩:=TM (xs:=[({ data:= #[97] }:ByteArray),{ data:= #[98] }]) (v:=(j:Int)) j rfl (by simp;omega);have⟨i,J,K⟩:=DZ (y:=x) G (Q8 I (by decide)) (by omega);have⟨s3,L,M⟩:=DZ (y:={ data:= #[32,123,32,114,58,32] }) K (by decide) (by omega);have⟨a1,N,O⟩:=mP (n:=n) v;have⟨b,P,Q⟩:=DZ M O (by omega);rw[F,Zo,H,Zo,J,Zo,L,Zo,Zo,N,Zo,P,Zo,Zo];have R:∃a,(if (i64.wrap (an (sh v 8) 1:Int))==1 then(Ek b ({ data:= #[32,124,32] })).bind fun T=>(some v).bind fun U=>(Q5 n (sh U 9)).bind fun V=>(Ek T V).bind fun X=>some X else some b)=some a/\a.size<=k+48:=by
   split
   ·have⟨a,l,e⟩:=DZ (y:={ data:= #[32,124,32] }) Q (by decide) (by omega);have⟨a2,g2,y2⟩:=mP (n:=n) (sh v 9);have⟨s6,m,o⟩:=DZ e y2 (by omega);grind
   exact⟨b,rfl,by omega⟩
  have⟨a,l,e⟩:=R;have⟨s6,m,o⟩:=DZ (y:={ data:= #[59,32,115,58,32] }) e (by decide) (by omega);have⟨p,f,Y⟩:=RD [({ data:= #[97] }:ByteArray),{ data:= #[98] },{ data:= #[97,32,124,32,98] },{ data:= #[117,32,124,32,97] }] (sh v 20) 4 rfl (by decide);have f:idx [({ data:= #[97] }:ByteArray),{ data:= #[98] },{ data:= #[97,32,124,32,98] },{ data:= #[117,32,124,32,97] }] (Int.tmod (i64.wrap (an (sh v 20) 255:Int)) 4)=some p:=f;have⟨s7,h9,z7⟩:=DZ (y:=p) o (Q8 Y (by decide)) (by omega);have⟨q,Z,z8⟩:=DZ (y:={ data:= #[59] }) z7 (by decide) (by omega);have⟨s9,g,z9⟩:=mQ (n:=n) (t0:=t0) (k3:=3*j) (by omega) 2 0 n q _ rfl (by omega) (by omega) z8 (by omega);have g:PO n t0 ((3*j:Nat):Int) n (q,0)=some s9:=g;have⟨ab,aa,ad⟩:=DZ (y:={ data:= #[32,125,10] }) z9 (by decide) (by omega);rw[l,Zo,m,Zo,Zo,f,Zo,h9,Zo,Z,Zo,g,Zo,aa,Zo];grind
theorem wv (a:10<n)(t0:List Int):∃s,Vh n t0=some s/\s.size<=1000:=by
 have⟨r,b,c⟩:=mR (t0:=t0) a 2 0 n { data:= #[116,121,112,101,32,117,10] } 7 rfl (by omega) (by omega) (by decide) (by omega);grind [TH,Vh]
end
def MN:List ByteArray:=[{ data:= #[97] },{ data:= #[98] },{ data:= #[99] },{ data:= #[100] },{ data:= #[97,98] },{ data:= #[98,45,49] },{ data:= #[120,46,121] },{ data:= #[48] }]
def Ye:List ByteArray:=[{ data:= #[97] },{ data:= #[98] }]
def Yf:List ByteArray:=[{ data:= #[114] },{ data:= #[115] }]
def Vp:List ByteArray:=[{ data:= #[117] },{ data:= #[97] },{ data:= #[98] }]
structure Gq (t:AC):Prop where
 ty:t.obj.type_∈Ye
 id:t.obj.id_∈MN
 rl:t.rel∈Yf
 st:t.sub_.type_∈Vp
 si:t.sub_.id_∈MN
 sr:t.sub_.rel=ByteArray.empty\/t.sub_.rel∈Yf
theorem PR (n:Nat)(z:Int):∃s,TJ n z=some s/\s∈MN:=by
 unfold TJ;have⟨x,a,b⟩:=Q9 MN z rfl;unfold MN at a;exact⟨x,by rw[a];rfl,b⟩
theorem mS (n:Nat)(z:Int):∃t,TL n z=some t/\Gq t:=by
 unfold TL;have⟨o,g,b⟩:=PR n (sh z 1);have⟨p,h,c⟩:=PR n (sh z 13);have⟨q,i,d⟩:=RB { data:= #[97] } { data:= #[98] } z;have⟨r,j,e⟩:=RB { data:= #[114] } { data:= #[115] } (sh z 4);have⟨k,a,f⟩:=RD Vp (sh z 5) 3 rfl (by decide);have a:idx [({ data:= #[117] }:ByteArray),{ data:= #[97] },{ data:= #[98] }] (Int.tmod (i64.wrap (an (sh z 5) 255:Int)) 3)=some k:=a;have⟨s,l,m⟩:=RB { data:= #[114] } { data:= #[115] } (sh z 18);rw[i,Zo,g,Zo,j,Zo,a,Zo,h,Zo];split
 ·rw[l];exact⟨_,rfl,d,b,e,f,c,.inr m⟩
 exact⟨_,rfl,d,b,e,f,c,.inl rfl⟩
theorem mT {n:Nat}(l:List Int):∀(c:Nat) (a:List AC),a.length<=80->a.length<=l.length->80-a.length<c->(∀t∈a,Gq t)->∃b,Vi n l c (a,(a.length:Int))=some b/\b.length<=80/\b.length<=l.length/\∀t∈b,Gq t
 |0,_,_,_,h,_=>by omega
 |c+1,a,e,f,g,i=>by
  unfold Vi;by_cases h:a.length<l.length
  ·rw[Dx h,if_pos rfl,Zo];by_cases j:a.length<80
   ·have⟨t,d,k⟩:=mS n l[a.length];rw[show decide ((a.length:Int)<80)=true by simp;omega,if_pos rfl,CB h,Zo,d,Zo,C6 (by simp;omega),Zo,Jz];have⟨b,m,o⟩:=mT (n:=n) l c (a++[t]) (by simp;omega) (by simp;omega) (by simp;omega) fun x p=>by
     grind
    grind
   grind
  grind
theorem ww (l:List Int)(b:80<n):∃a,Vj n l=some a/\a.length<=80/\a.length<=l.length/\∀t∈a,Gq t:=by
 have⟨a,c,d⟩:=mT (n:=n) l n [] (by simp) (by simp) (by simpa using b) (by simp);grind [Vj,Vi]
theorem wx (n:Nat)(z:Int):∃a:Ae × ByteArray × AL,Vk n z=some a/\a.1.type_∈Ye/\a.1.id_∈MN/\a.2.2.type_∈Vp/\a.2.2.id_∈MN/\a.2.2.rel={ data:= #[] }:=by
 unfold Vk;have⟨t,c,b⟩:=mS n z;have⟨x,d,_⟩:=Q9 [({ data:= #[114] }:ByteArray),{ data:= #[115] },{ data:= #[112] },{ data:= #[113] },{ data:= #[112] },{ data:= #[113] },{ data:= #[122] },{ data:= #[112] }] (sh z 24) rfl;rw[c,Zo,d];exact⟨_,rfl,b.ty,b.id,b.st,b.si,rfl⟩
theorem Yg (m:Nat):∀x∈Ye++Yf++Vp,Q6 (m+10) x=some true/\Rw (m+10) x=some true:=by
 intro x a;simp only[Ye,Yf,Vp,LU,LA,Lv,Bh,or_false] at a;rcases a with rfl |rfl |rfl |rfl |rfl |rfl |rfl<;>exact⟨by kernel_rfl,by kernel_rfl⟩
theorem mV (m:Nat):∀x∈MN,Vn (m+10) x=some true/\Wj (m+10) x=some true:=by
 intro x a;simp only[MN,Lv,Bh,or_false] at a;rcases a with rfl |rfl |rfl |rfl |rfl |rfl |rfl |rfl<;>exact⟨by kernel_rfl,by kernel_rfl⟩
theorem mW {t:AC}(i:10<=n)(h:Gq t):JS n t=some true/\JZ n t=some true:=by
 obtain⟨m,rfl⟩:∃m,n=m+10:=⟨n-10,by omega⟩;have a:=Yg m t.obj.type_ (by simp[h.ty]);have b:=mV m t.obj.id_ h.id;have c:=Yg m t.rel (by simp[h.rl]);have d:=Yg m t.sub_.type_ (by simp[h.st]);have f:=mV m t.sub_.id_ h.si;unfold JS JZ;rw[a.1,a.2,b.1,b.2,c.1,c.2,d.1,d.2,f.1,f.2];simp only[Zo,if_true,DH];rcases h.sr with e |e
 ·rw[e,decide_eq_true (show ByteArray.empty={ data:= #[] } from rfl)];exact⟨rfl,rfl⟩
 have g:=Yg m t.sub_.rel (by simp[e]);rw[g.1,g.2];constructor<;>split<;>rfl
theorem lg {n:Nat}{S:AD}{a:ByteArray}:∀ {l:List AZ} {b:List AA} {e:Int},Pt n S a l b=some (.inr e)->(e != 0)=true
 |[],_,_,h=>by cases h
 |g::r,b,e,h=>by
  unfold Pt at h;split at h
  ·have⟨x,_,h⟩:=AP h;split at h
   ·exact lg h
   grind
  cases h
theorem lh {n:Nat}{S:AD}:∀ {l:List AG} {a:List AA} {e:Int},Pu n S l a=some (.inr e)->(e != 0)=true
 |[],_,_,h=>by cases h
 |t::r,a,e,h=>by
  unfold Pu at h;have⟨x,b,h⟩:=AP h;split at h
  ·exact lh h
  cases h;exact lg b
theorem li {l:List AG}{e:Int}(h:HO n l=some (.inr e)):(e != 0)=true:=by
 unfold HO at h;split at h
 ·split at h
  ·have⟨x,a,h⟩:=AP h;rcases x with(_ |⟨m,r⟩) |b
   ·cases h
   ·unfold Hx at h;have⟨_,_,h⟩:=AP h;have⟨_,_,h⟩:=AP h;split at h
    ·have⟨y,_,h⟩:=AP h;grind
    cases h
   cases h;exact lh a
  grind
 cases h
instance (S:AD) (t:AC):Decidable (Et S t):=by unfold Et;infer_instance
def Aq (S:AD)(t:AC):Bool:=decide (Et S t)
theorem wa {t:AC}(a:GY S)(b:1000<n)(h:JZ n t=some true):Rx n S t=some (Aq S t):=by
 have c:=(G6 a ⟨t.obj.type_,t.rel⟩).1;unfold Rx;rw[Hy,Zo,h,Zo,if_pos rfl,cH (by dsimp only;omega) (by dsimp only;omega)];rfl
theorem cP {n:Nat}{rows:List AC}{S:AD}(b:GY S)(c:1000<n):∀(l a:List AC),(∀t∈l,JZ n t=some true)->a.length+l.length<=4294967296->DP (fQ n rows (S,0)) (fR n rows (S,0)) l a=some (a++l.filter (Aq S))
 |[],a,_,_=>by
  show some a=_;simp
 |t::l,a,d,g=>by
  simp only[Ll] at g;have e:∀x∈l,JZ n x=some true:=fun x h=>d x (Lk _ h);rw[DP];show(Rx n S t).bind _=_;rw[wa b c (d t (Lp ..)),Zo];cases f:Aq S t with
  |true=>
   rw[if_pos rfl,C6 (by simp only[Lo];omega),Zo,cP b c l _ e (by rw[Ld,Lo];omega)];simp[f]
  |false=>
   rw[if_neg (by decide),cP b c l _ e (by omega)];simp[f]
theorem cQ {rows:List AC}(h:HO n ts=some (.inl S))(b:GY S)(c:1000000<n)(f:rows.length<=1000000)(d:∀t∈rows,JZ n t=some true):Ry n ts rows=some (⟨S,EA (rows.filter (Aq S)),rows.filter (Aq S)⟩,0):=by
 have g:(rows.filter (Aq S)).length<=rows.length:=LM _ _;have a:Ps n rows (S,0) n (([]:List AC),0)=_:=zN n rows (S,0) (by omega) n [] 0 (by omega) (by omega);rw[LD,cP b (by omega) _ _ d (by simp only[LB];omega),LA] at a;unfold Ry ZV;rw[h];dsimp only;rw[Zo,if_neg (by simp),a,Zo,yt (by omega) c,Zo];split
 ·rename_i e;rw[LV (of_decide_eq_true e)]
 rfl
def cS (n:Nat)(S:AD)(rows:List AC)(o:Ae)(rel:ByteArray)(s:AL):Option (Bool × Int):=if s.rel={ data:= #[] } then(if Ay (⟨o.type_,rel⟩:AA) S.rels then(Gj n ⟨S,EA (rows.filter (Aq S)),[]⟩ o rel s).map fun b=>(b,0) else some (false,12)) else some (false,13)
def GS (rel:ByteArray)(l:List AZ):Option AZ:=l.find? fun g=>decide (g.name=rel)
def CH (ts:List AG)(a rel:ByteArray):Option AZ:=(ts.find? fun t=>decide (t.name=a)).bind fun t=>GS rel t.rels
theorem lj {n:Nat}{ts:List AG}{rel:ByteArray}{i:Nat}(a:i<ts.length)(e:ts[i].rels.length<=200):∀(d k c:Nat),d=ts[i].rels.length-k->k<=ts[i].rels.length->d<c->
  (MM n ts rel (i:Int) c (k:Int)=some (.inl ())/\GS rel (ts[i].rels.drop k)=none)\/∃j:Nat,∃l:j<ts[i].rels.length,MM n ts rel (i:Int) c (k:Int)=some (.inr ((i:Int),(j:Int)))/\GS rel (ts[i].rels.drop k)=some ts[i].rels[j]
 |0,k,c,f,g,h=>by
  obtain⟨c,rfl⟩:=sx c;refine .inl ⟨?_,by rw[LH (by omega)];rfl⟩;unfold MM;rw[CB a,Zo,Cw,if_neg (by decide)]
 |d+1,k,c,f,g,h=>by
  obtain⟨c,rfl⟩:=sx c;have b:k<ts[i].rels.length:=by omega
  have m:=lj (n:=n) (rel:=rel) a e d (k+1) c (by omega) (by omega) (by omega);have o:MM n ts rel (i:Int) (c+1) (k:Int)=if decide (ts[i].rels[k].name=rel) then some (.inr ((i:Int),(k:Int))) else MM n ts rel (i:Int) c ((k+1:Nat):Int):=by
   conv=>lhs;unfold MM
   rw[CB a,Zo,Dx b,if_pos rfl,CB b,Zo,DH,Ar]
  have p:GS rel (ts[i].rels.drop k)=if decide (ts[i].rels[k].name=rel) then some ts[i].rels[k] else GS rel (ts[i].rels.drop (k+1)):=by
   unfold GS;rw[Lj b,List.find?_cons];cases decide (ts[i].rels[k].name=rel)<;>rfl
  grind
theorem cT {n:Nat}{ts:List AG}{a rel:ByteArray}(e:Ed ts)(f:1000<n):∀(d i c:Nat),d=ts.length-i->i<=ts.length->d<c->
  (KV n ts a rel c (i:Int)=some (.inl ())/\(ts.drop i).find? (fun t=>decide (t.name=a))=none)\/∃k:Nat,∃w:k<ts.length,(ts.drop i).find? (fun t=>decide (t.name=a))=some ts[k]/\
   ((KV n ts a rel c (i:Int)=some (.inr ((k:Int), -1))/\GS rel ts[k].rels=none)\/∃j:Nat,∃g:j<ts[k].rels.length,KV n ts a rel c (i:Int)=some (.inr ((k:Int),(j:Int)))/\GS rel ts[k].rels=some ts[k].rels[j])
 |0,i,c,h,l,m=>by
  obtain⟨c,rfl⟩:=sx c;refine .inl ⟨?_,by rw[LH (by omega)];rfl⟩;unfold KV;rw[Cw,if_neg (by decide)]
 |d+1,i,c,h,l,m=>by
  obtain⟨c,rfl⟩:=sx c;have b:i<ts.length:=by omega
  have x:=e.1;have o:=(e.2 ts[i] (LN b)).1;have p:=cT (a:=a) (rel:=rel) e f d (i+1) c (by omega) (by omega) (by omega);have q:KV n ts a rel (c+1) (i:Int)=if decide (ts[i].name=a) then(MM n ts rel (i:Int) n 0).bind (fun | .inl _=>some (.inr ((i:Int),(-1))) | .inr r=>some (.inr r)) else KV n ts a rel c ((i+1:Nat):Int):=by
   conv=>lhs;unfold KV
   rw[Dx b,if_pos rfl,CB b,Zo,DH,Ar];rfl
  have s:(ts.drop i).find? (fun t=>decide (t.name=a))=if decide (ts[i].name=a) then some ts[i] else(ts.drop (i+1)).find? (fun t=>decide (t.name=a)):=by
   rw[Lj b,List.find?_cons];cases decide (ts[i].name=a)<;>rfl
  rw[q,s];cases y:decide (ts[i].name=a) with
  |true=>
   refine .inr ⟨i,b,rfl,?_⟩;rw[if_pos rfl];rcases lj (n:=n) (rel:=rel) b o _ 0 n rfl (Lf _) (by omega) with⟨u,v⟩ |⟨j,g,u,v⟩
   ·grind
   grind
  |false=>exact p
theorem KU (c:Ed ts)(e:1000<n)(a rel:ByteArray):G4 n ts a rel=some ((CH ts a rel).getD Ca,(CH ts a rel).isSome):=by
 unfold G4 PP CH;rcases cT (n:=n) (a:=a) (rel:=rel) c e _ 0 n rfl (Lf _) (by have:=c.1;omega) with⟨d,q2⟩ |⟨k,hk,q2,b⟩
 ·grind
 rw[LD] at q2;rw[q2];rcases b with⟨d,b⟩ |⟨j,f,d,b⟩
 ·grind
 simp_all [KV,Zo,DE,if_neg,CB]
theorem ll {α c:Type}{f:α->c}:∀ {l:List α},(l.map f).Nodup->∀ {x y:α},x∈l->y∈l->f x=f y->x=y
 |[],_,_,_,h,_,_=>nomatch h
 |a::l,b,x,y,d,g,e=>by
  rw[Lh,Nj] at b;rcases Lv.1 d with rfl |i
  ·grind
  rcases Lv.1 g with rfl |j
  ·grind
  exact ll b.2 i j e
theorem cU (b:Dh ts S)(a rel:ByteArray):CH ts a rel=mget (⟨a,rel⟩:AA) S.rels:=by
 unfold CH;cases c:ts.find? fun t=>decide (t.name=a) with
 |none=>
  rw[Ir] at c;cases d:mget (⟨a,rel⟩:AA) S.rels with
  |none=>rfl
  |some g=>
   have⟨t,f,k,_,e,_⟩:=cK b (m:=⟨a,rel⟩) (by unfold Ay;rw[d];rfl);grind
 |some t=>
  have f:=NL c;have i:t.name=a:=of_decide_eq_true (p:=t.name=a) (ON (p:=fun(t:AG)=>decide (t.name=a)) c);rw[Zo];unfold GS;cases h:t.rels.find? fun g=>decide (g.name=rel) with
  |some g=>
   have l:=NL h;have o:g.name=rel:=of_decide_eq_true (p:=g.name=rel) (ON (p:=fun(g:AZ)=>decide (g.name=rel)) h);rw[<-i,<-o,Zb b.rels b.keys f l]
  |none=>
   rw[Ir] at h;cases d:mget (⟨a,rel⟩:AA) S.rels with
   |none=>rfl
   |some g=>
    have⟨j,q,k,s,e,_⟩:=cK b (m:=⟨a,rel⟩) (by unfold Ay;rw[d];rfl);have r:j.name=t.name:=(congrArg AA.typ e).symm.trans i.symm
    have:j=t:=ll b.tys q f r;grind
theorem wc {α:Type}(l:List α)(k:Nat):∃m,Fd l 0 (if (k:Int)<(l.length:Int) then(k:Int) else(l.length:Int))=some m/\m.length<=k:=by
 split
 ·rename_i h;exact⟨_,IZ (a:=0) (b:=k) (Lf _) (by omega),by grind⟩
 rename_i h;exact⟨_,IZ (a:=0) (b:=l.length) (Lf _) (Lc _),by grind⟩
end Go.Proofs.YtnmkbmefohakmaaGreat.Ab
