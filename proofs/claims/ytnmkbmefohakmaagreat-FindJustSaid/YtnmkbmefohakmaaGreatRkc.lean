/-
 Functions, read off the code.
-/
import Derived.Test.YtnmkbmefohakmaaGreatRkb
set_option linter.all false
namespace Go.Proofs.YtnmkbmefohakmaaGreat.Ab
open Go.RowKit IntKind
def Td (n:Nat)(a:List AL):Nat->(List AB × Int)->Option (List AB)
 |0,_=>none
 |c+1,(e,b)=>(if decide (b<(a.length:Int)) then (idx a b).bind fun d=>(if (d.rel.toList==({ data:= #[] }:ByteArray).toList) then Td n a c (e,(i64.wrap (b+1))) else (Cu e [(⟨(⟨d.type_,d.id_⟩:Ae),d.rel⟩:AB)]).bind fun l=>Td n a c (l,(i64.wrap (b+1)))) else some e)
def dF (_:Nat)(_:List AL)(a:List AB)(x2:AL)(k:List AB->Option (List AB)):Option (List AB):=
 match a with
 |t9=>
  (if (x2.rel.toList==({ data:= #[] }:ByteArray).toList) then
   k t9
  else
   (Cu t9 [(⟨(⟨x2.type_,x2.id_⟩:Ae),x2.rel⟩:AB)]).bind fun l=>
   k l)
def dG (_:Nat)(_:List AL)(a:List AB):Option (List AB):=
 match a with
 |t9=>some t9
theorem xy (n:Nat)(a:List AL)(e:a.length<4611686018427387904)(c:Nat)(d:List AB)(b:Nat)(f:b<=a.length)(g:a.length-b<c):Td n a c (match d,(b:Int) with |t9,b=>(t9,b))=DP (dF n a) (dG n a) (a.drop b) d:=
 Gl (fun c d b=>Td n a c (match d,b with |t9,b=>(t9,b))) a (dF n a) (dG n a) (fun _ _ _=>rfl) e c d b f g
def WK (n:Nat)(d:AX)(a:List AL):Nat->(List AB × Int)->Option (List AB)
 |0,_=>none
 |c+1,(e,b)=>(if decide (b<(a.length:Int)) then (idx a b).bind fun f=>(Cu e [(⟨(⟨f.type_,f.id_⟩:Ae),d.b⟩:AB)]).bind fun g=>WK n d a c (g,(i64.wrap (b+1))) else some e)
def dH (_:Nat)(b:AX)(_:List AL)(c:List AB)(a:AL)(k:List AB->Option (List AB)):Option (List AB):=
 match c with
 |t98=>
  (Cu t98 [(⟨(⟨a.type_,a.id_⟩:Ae),b.b⟩:AB)]).bind fun d=>
  k d
def dI (_:Nat)(_:AX)(_:List AL)(a:List AB):Option (List AB):=
 match a with
 |t98=>some t98
theorem xz (n:Nat)(d:AX)(a:List AL)(f:a.length<4611686018427387904)(c:Nat)(e:List AB)(b:Nat)(g:b<=a.length)(h:a.length-b<c):WK n d a c (match e,(b:Int) with |t98,b=>(t98,b))=DP (dH n d a) (dI n d a) (a.drop b) e:=
 Gl (fun c e b=>WK n d a c (match e,b with |t98,b=>(t98,b))) a (dH n d a) (dI n d a) (fun _ _ _=>rfl) f c e b g h
def RU (n:Nat)(t0:List AG)(f:List AC)(a:AB)(b:AZ × Bool):Nat->(List AB × Int)->Option (List AB)
 |0,_=>none
 |c+1,(g,d)=>(if decide (d<(b.1.expr.length:Int)) then (idx b.1.expr d).bind fun e=>(if (e.kind==1) then (Cu g [(⟨a.obj,e.a⟩:AB)]).bind fun h=>RU n t0 f a b c (h,(i64.wrap (d+1))) else (if (e.kind==2) then (Pj n t0 f a.obj e.a).bind fun i=>(WK n e i n (g,0):Option (List AB)).bind fun j=>RU n t0 f a b c (j,(i64.wrap (d+1))) else RU n t0 f a b c (g,(i64.wrap (d+1))))) else some g)
def WM (n:Nat)(t0:List AG)(b:List AC)(a:AB):Option (List AB):=(G4 n t0 a.obj.type_ a.rel).bind fun c=>(if ((c.1.expr.length:Int)==0) then (Pj n t0 b a.obj a.rel).bind fun d=>(Td n d n ([],0):Option (List AB)).bind fun e=>some e else (RU n t0 b a c n ([],0):Option (List AB)).bind fun f=>some f)
variable {n:Nat}
set_option maxHeartbeats 8000000 in
theorem yA {t0:List AG}{P:List AC}{p:AB}{r:List AB}(H:WM n t0 P p=some r):AM Tryz.prog 81 [D.sl (List.map AS t0),D.sl (List.map AE P),D.ag (AF p)] (D.sl (List.map AF r)) true:=by
 unfold WM at H;refine zP #[.tmp 6] Tryz.func81 ?_;refine Ax ?_;refine AU (ZT 1 ?_);obtain⟨w,b1,H2⟩:=AP H;refine Z0 ?_;refine CT (KW b1) ?_;refine DQ ?_;refine Z0 ?_;refine Dy ?_;obtain⟨a,x⟩ |⟨a,x⟩:=Ah H2
 ·refine ED (by rfl) a ?_;refine Ct a ?_;obtain⟨be,b5,H6⟩:=AP x;refine Z1 a ?_;refine CT (Yy b5) ?_;refine HK a ?_;refine EJ H6 (fun _ _ y z=>⟨upd 9 (AW 0 z (List.map AF y)) AJ,upd 0 (Am 3 z false (List.map AF y)) AK,1⟩) (fun e_ E7 Q=> ?_) fun y z Q=> ?_;rotate_left
  ·refine AQ ?_;cases Q;exact As
  refine DL E7 (fun f _ (b,R) g=>⟨kp [10] f (upd 9 (AW 0 g (List.map AF b)) (upd 11 (.v (.int .i64 R)) AJ)),upd 0 (Am 3 g false (List.map AF b)) AK,1⟩) 0 (ZR []) fun c ⟨b,R⟩ g L9=> ?_
  refine AQ ?_;obtain⟨A,H21⟩ |⟨A,H21⟩:=Ah L9
  ·obtain⟨B,bg,bl,ak,H23⟩:=zI AR H21;have C:=Y2 A ak;refine Z1 C ?_;obtain⟨E,H29⟩ |⟨E,H29⟩:=Ah H23
   ·refine Z1 (Y2 C E) ?_;exact⟨_,g,H29,ZR [(0,0)]⟩
   obtain⟨l,ao,H31⟩:=AP H29;obtain⟨F,S⟩:=Dp ao;have F:b.length+1<=4294967296:=F;have aq:List.map AF b++[[.v (.string B.type_),.v (.string B.id_),.v (.string B.rel)]]=List.map AF l:=D6 AF S;have av:b.length+1=l.length:=D7 S;have aE:l.length<=4294967296:=(by omega);have bo:0<l.length:=(by omega);have T:=Y6 C E F aq av aE;refine Z1 T ?_;refine DD (by (cases b<;>rfl)) ?_;refine Z1 T ?_;rcases b with _ |⟨U,V⟩
   ·try simp only[Lu,CF,CG]
    exact⟨_,0,H31,ZR [(0,30)]⟩
   try simp only[Lh,CF,CG]
   exact⟨_,(g+1),H31,ZR [(0,0)]⟩
  refine Z1 A ?_;cases H21;exact⟨g,ZR [(0,0)]⟩
 refine DI (by rfl) a ?_;refine WV a ?_;refine AU (AU ?_);refine ES a ?_;refine EJ x (fun _ _ G I=>⟨upd 9 (AW 0 I (List.map AF G)) AJ,upd 0 (Am 3 I false (List.map AF G)) AK,1⟩) (fun br E39 H40=> ?_) fun G I H40=> ?_;rotate_left
 ·refine AQ ?_;cases H40;exact As
 refine DL E39 (fun f h (e,X) i=>⟨kp [0,1,5] f (upd 7 (.pt 1 0) (upd 9 (AW 2 i (List.map AF e)) (upd 12 (.v (.int .i64 X)) AJ))),kh [0] h (upd 1 (some (.bx [.v (.string w.1.name),.d (.sl (List.map AR w.1.subs)) true,.d (.sl (List.map AY w.1.expr)) true])) (upd 2 (Am 3 i false (List.map AF e)) AK)),3⟩) 0 (ZR [(0,0),(1,12)]) fun c ⟨e,X⟩ i L41=> ?_
 refine Ax ?_;obtain⟨q,H85⟩ |⟨q,H85⟩:=Ah L41;rotate_left
 ·refine Z1 q ?_;cases H85;exact⟨i,ZR [(0,2)]⟩
 refine J8 q ?_;obtain⟨j,bs,bx,a0,H87⟩:=zI AY H85;have s:=Y2 q a0;refine Gt s ?_;refine CV ?_;refine AU (ZT 1 ?_);refine Z1 s ?_;obtain⟨k,H93⟩ |⟨k,H93⟩:=Ah H87
 ·refine ED (by rfl) k ?_;have Y:=Y2 s k;refine Z1 Y ?_;refine ZT 4 ?_;obtain⟨t,a1,H95⟩:=AP H93;obtain⟨J,Z⟩:=Dp a1;have J:e.length+1<=4294967296:=J;have a2:List.map AF e++[[.v (.string p.obj.type_),.v (.string p.obj.id_),.v (.string j.a)]]=List.map AF t:=D6 AF Z;have a3:e.length+1=t.length:=D7 Z;have a4:t.length<=4294967296:=by omega
  have b0:0<t.length:=by omega
  refine Z1 (Y5 Y J a2 a3 a4) ?_;rcases e with _ |⟨U,V⟩
  ·try simp only[Lu,CF,CG]
   exact⟨_,0,H95,ZR [(0,0),(1,1),(2,26)]⟩
  try simp only[Lh,CF,CG]
  exact⟨_,(i+1),H95,ZR [(0,0),(1,1),(2,2)]⟩
 refine DI (by rfl) k ?_;have K:=Y2 s k;refine Gt K ?_;obtain⟨m,H103⟩ |⟨m,H103⟩:=Ah H93;rotate_left
 ·refine DI (by rfl) m ?_;have aa:=Y2 K m;refine Z1 aa ?_;refine ZT 4 ?_;refine Z1 aa ?_;exact⟨_,i,H103,ZR [(0,0),(1,1),(2,2)]⟩
 refine ED (by rfl) m ?_;have L:=Y2 K m;refine Ct L ?_;obtain⟨b2,a5,H105⟩:=AP H103;refine Z1 L ?_;refine CT (Yy a5) ?_;refine Gt L ?_;refine EJ H105 (fun f h M u=>⟨kp [0,1,5,7,12] f (upd 9 (AW 2 u (List.map AF M)) AJ),kh [0,1] h (upd 2 (Am 3 u false (List.map AF M)) AK),3⟩) (fun b3 E106 H107=> ?_) fun M u H107=> ?_
 ·refine DL E106 (fun f h (d,ab) o=>⟨kp [0,1,5,7,12,14] f (upd 9 (AW 2 o (List.map AF d)) (upd 13 (.pt 3 0) (upd 15 (.v (.int .i64 ab)) AJ))),kh [0,1] h (upd 2 (Am 3 o false (List.map AF d)) (upd 3 (some (.bx [.v (.int .i64 j.kind),.v (.string j.a),.v (.string j.b)])) AK)),4⟩) i (ZR [(0,0),(1,1),(2,2),(3,13)]) fun c ⟨d,ab⟩ o L108=> ?_
  refine AQ ?_;obtain⟨N,H126⟩ |⟨N,H126⟩:=Ah L108
  ·obtain⟨x8,b4,b6,a6,H128⟩:=zI AR H126;obtain⟨v,a9,H134⟩:=AP H128;obtain⟨O,ad⟩:=Dp a9;have O:d.length+1<=4294967296:=O;have ba:List.map AF d++[[.v (.string x8.type_),.v (.string x8.id_),.v (.string j.b)]]=List.map AF v:=D6 AF ad;have bb:d.length+1=v.length:=D7 ad;have bd:v.length<=4294967296:=(by omega);have b7:0<v.length:=(by omega);have ag:=Y6 N a6 O ba bb bd;refine Z1 ag ?_;refine DD (by (cases d<;>rfl)) ?_;refine Z1 ag ?_;rcases d with _ |⟨U,V⟩
   ·try simp only[Lu,CF,CG]
    exact⟨_,0,H134,ZR [(0,0),(1,1),(2,24),(3,3)]⟩
   try simp only[Lh,CF,CG]
   exact⟨_,(o+1),H134,ZR [(0,0),(1,1),(2,2),(3,3)]⟩
  refine Z1 N ?_;cases H126;exact⟨o,ZR [(0,0),(1,1),(2,2)]⟩
 refine FN ?_;exact⟨_,u,H107,ZR [(0,0),(1,1),(2,2)]⟩
def RW (n:Nat)(out:List AB)(a:List AB)(i:Int):Nat->(Bool × Int)->Option (Bool)
 |0,_=>none
 |c+1,(is,b)=>(if decide (b<(out.length:Int)) then (if is then Cy (decide (0<a.length))<| RW n out a i c (true,(i64.wrap (b+1))) else (idx out b).bind fun d=>(idx a i).bind fun e=>Cy (decide (0<a.length))<| RW n out a i c (((d.obj.type_==e.obj.type_)&&((d.obj.id_==e.obj.id_)&&(d.rel==e.rel))),(i64.wrap (b+1)))) else Cy (decide (0<a.length))<| some is)
def Tf (n:Nat)(l:List AG)(d:List AC):Nat->(List AB × List AB × Int)->Option (List AB)
 |0,_=>none
 |c+1,(b,a,i)=>(if decide (i<(a.length:Int)) then (RW n b a i n (false,0):Option (Bool)).bind fun f=>(if f then Tf n l d c (b,a,(i64.wrap (i+1))) else (idx a i).bind fun e=>(Cu b [e]).bind fun g=>(WM n l d e).bind fun h=>(Cu a h).bind fun j=>Tf n l d c (g,j,(i64.wrap (i+1)))) else Cy (decide (0<a.length))<| some b)
def WN (n:Nat)(l:List AG)(b:List AC)(a:List AB):Option (List AB):=(Cu [] a).bind fun _=>(Tf n l b n ([],a,0):Option (List AB)).bind fun c=>some c
theorem yB {l:List AG}{C:List AC}{d:List AB}{r:List AB}(H:WN n l C d=some r):AM Tryz.prog 51 [D.sl (List.map AS l),D.sl (List.map AE C),D.sl (List.map AF d)] (D.sl (List.map AF r)) true:=by
 unfold WN at H;refine zP #[.tmp 6] Tryz.func51 ?_;refine Dg ?_;refine AU (ZT 1 ?_);obtain⟨O,P,Q⟩:=AP H;obtain⟨t,u⟩:=Dp P;have u:d=O:=u;subst u;have t:d.length<=4294967296:=by have:=t;simpa using this
 have R:=Y3 (QR (f:=AF) (fun _=>rfl) d) (Fm (n:=3) (f:=AF) (fun _=>rfl) d) t;refine HK R ?_;refine EJ Q (fun _ _ v w=>⟨upd 7 (AW 0 w (List.map AF v)) AJ,upd 0 (Am 3 w false (List.map AF v)) AK,1⟩) (fun e_ S E=> ?_) fun v w E=> ?_;rotate_left
 ·refine AQ ?_;cases E;exact As
 refine DL S (fun f _ (a,b,i) (g,e)=>⟨kp [0,1] f (upd 7 (AW 0 g (List.map AF a)) (upd 8 (.so 1 e 0 (b.length)) (upd 9 (.v (.int .i64 i)) AJ))),upd 0 (Am 3 g false (List.map AF a)) (upd 1 (some (.rw (List.map AF b) 3 e false false)) AK),2⟩) (0,1) (ZR [(1,2)]) fun c ⟨a,b,i⟩ ⟨g,e⟩ T=> ?_
 refine Ax ?_;obtain⟨o,H39⟩ |⟨o,H39⟩:=Ah T;rotate_left
 ·obtain⟨U,H118⟩:=Dv H39;have ba:0<b.length:=of_decide_eq_true U;refine Z1 o ?_;cases H118;exact⟨g,ZR [(0,0)]⟩
 refine MX o ?_;refine AU (AU ?_);refine ES o ?_;refine EJ H39 (fun f h F k=>⟨kp [0,1,8,9] f (upd 7 (AW 0 k (List.map AF a)) (upd 10 (.v (.bool F)) AJ)),kh [1] h (upd 0 (Am 3 k false (List.map AF a)) AK),2⟩) (fun bb E40 H41=> ?_) fun F k H41=> ?_
 ·refine DL E40 (fun f h (is,G) j=>⟨kp [0,1,8,9] f (upd 7 (AW 0 j (List.map AF a)) (upd 10 (.v (.bool is)) (upd 11 (.v (.int .i64 G)) AJ))),kh [1] h (upd 0 (Am 3 j false (List.map AF a)) AK),2⟩) g (ZR [(0,0),(1,1)]) fun c ⟨is,G⟩ j L42=> ?_
  refine AQ ?_;obtain⟨m,H65⟩ |⟨m,H65⟩:=Ah L42
  ·refine Z1 m ?_;obtain⟨x,H67⟩ |⟨x,H67⟩:=Ah H65
   ·have I:=Y2 m x;refine Z1 I ?_;refine DD (by rfl) ?_;obtain⟨V,H69⟩:=Dv H67;have bd:0<b.length:=of_decide_eq_true V;refine Z1 I ?_;exact⟨_,j,H69,ZR [(0,0),(1,1)]⟩
   obtain⟨x4,be,X,Y,H72⟩:=zI AF H67;have Z:=EN X;have J:0<a.length:=(by omega);obtain⟨x5,bg,aa,ab,H79⟩:=zI AF H72;have ad:=EN aa;have K:=Y2 (Y6 m x Y Z (YV (f:=AF) J) (YO (f:=AF) J)) (Y2 ab ad);refine Z1 K ?_;refine DD (by rfl) ?_;obtain⟨ag,H85⟩:=Dv H79;have bl:0<b.length:=of_decide_eq_true ag;refine Z1 K ?_;exact⟨_,j,H85,ZR [(0,0),(1,1)]⟩
  obtain⟨ak,H88⟩:=Dv H65;have bo:0<b.length:=of_decide_eq_true ak;refine Z1 m ?_;cases H88;exact⟨j,ZR [(0,0),(1,1)]⟩
 refine ZT 3 ?_;refine Z0 ?_;obtain⟨y,H91⟩ |⟨y,H91⟩:=Ah H41
 ·refine Z1 y ?_;exact⟨_,(k,e),H91,ZR [(0,0),(1,1)]⟩
 obtain⟨z,br,ao,aq,H93⟩:=zI AF H91;have av:=EN ao;obtain⟨p,aE,H99⟩:=AP H93;obtain⟨A,L⟩:=Dp aE;have A:a.length+1<=4294967296:=A;have a0:List.map AF a++[[.v (.string z.obj.type_),.v (.string z.obj.id_),.v (.string z.rel)]]=List.map AF p:=D6 AF L;have a1:a.length+1=p.length:=D7 L;have a2:p.length<=4294967296:=by omega
 have bs:0<p.length:=by omega
 obtain⟨q,a3,H107⟩:=AP H99;have M:=Y2 (Y6 y aq av A a0 a1) a2;refine Z1 M ?_;refine CT (yA a3) ?_;obtain⟨s,a4,H109⟩:=AP H107;obtain⟨B,N⟩:=Dp a4;have B:b.length+q.length<=4294967296:=B;have a5:List.map AF b++List.map AF q=List.map AF s:=D6 AF N;have a6:b.length+q.length=s.length:=D7 N;have a9:s.length<=4294967296:=by omega
 have bx:0<s.length:=by omega
 refine Z1 (Y6 M (Fm (n:=3) (f:=AF) (fun _=>rfl) q) B a5 a6 a9) ?_;rcases a with _ |⟨q0,q1⟩
 ·try simp only[Lu,CF,CG]
  exact⟨_,(0,(e+1)),H109,ZR [(0,10),(1,1)]⟩
 try simp only[Lh,CF,CG]
 exact⟨_,((k+1),(e+1)),H109,ZR [(0,0),(1,1)]⟩
def MV (n:Nat)(d:List AB)(a:List Ai × List Int × Bool)(e:Int):Nat->(Int × Int)->Option (Int)
 |0,_=>none
 |c+1,(f,b)=>(if decide (b<(a.1.length:Int)) then (idx a.1 b).bind fun g=>(idx d e).bind fun h=>(if (g.t.toList==h.obj.type_.toList) then (if (g.rel.toList==h.rel.toList) then (idx a.2.1 b).bind fun i=>MV n d a e c (i,(i64.wrap (b+1))) else MV n d a e c (f,(i64.wrap (b+1)))) else MV n d a e c (f,(i64.wrap (b+1)))) else some f)
def Tg (n:Nat)(a:List AB)(d:List Ai × List Int × Bool):Nat->(List Int × Int)->Option (List Int)
 |0,_=>none
 |c+1,(e,b)=>(if decide (b<(a.length:Int)) then (MV n a d b n (0,0):Option (Int)).bind fun f=>(Cu e [f]).bind fun g=>Tg n a d c (g,(i64.wrap (b+1))) else some e)
def Ke (n:Nat)(l:List AG)(s:AL)(e:List AC)(d:List AB)(f:List Int)(g:Int):Nat->(List Bool × Bool × Int)->Option (List Bool × Bool)
 |0,_=>none
 |c+1,(a,h,b)=>(if decide (b<(d.length:Int)) then (idx f b).bind fun j=>(if (j==g) then (idx a b).bind fun k=>(if k then Cy (decide (0<a.length))<| Ke n l s e d f g c (a,h,(i64.wrap (b+1))) else (idx d b).bind fun m=>(WJ n (⟨l,e,d,a,s⟩:CU) m).bind fun o=>(if o then (some (List.set a (Int.toNat b) true)).bind fun i=>Cy (decide (0<i.length))<| Ke n l s e d f g c (i,false,(i64.wrap (b+1))) else Cy (decide (0<a.length))<| Ke n l s e d f g c (a,h,(i64.wrap (b+1))))) else Cy (decide (0<a.length))<| Ke n l s e d f g c (a,h,(i64.wrap (b+1)))) else Cy (decide (0<a.length))<| some (a,h))
def WO (n:Nat)(l:List AG)(s:AL)(e:List AC)(b:List AB)(f:List Int)(g:Int):Nat->(List Bool × Int)->Option (List Bool)
 |0,_=>none
 |c+1,(d,h)=>(if decide (h<=(b.length:Int)) then (Ke n l s e b f g n (d,true,0):Option (List Bool × Bool)).bind fun(a,i)=>(if i then Cy (decide (0<a.length))<| some a else Cy (decide (0<a.length))<| WO n l s e b f g c (a,(i64.wrap (h+1)))) else Cy (decide (0<d.length))<| some d)
def Th (n:Nat)(l:List AG)(s:AL)(d:List AC)(e:List AB)(f:List Ai × List Int × Bool)(g:List Int):Nat->(List Bool × Int)->Option (List Bool)
 |0,_=>none
 |c+1,(a,b)=>(if decide (b<=(f.1.length:Int)) then (WO n l s d e g b n (a,0):Option (List Bool)).bind fun h=>Cy (decide (0<h.length))<| Th n l s d e f g c (h,(i64.wrap (b+1))) else Cy (decide (0<a.length))<| some a)
def ref6_Seek_C1_ref6_know (n:Nat)(l:List AG)(s:AL)(c:List AC)(a:List AB):Option (List Bool):=(RP n l).bind fun b=>(Tg n a b n ([],0):Option (List Int)).bind fun d=>(PS (a.length:Int)).bind fun e=>(Th n l s c a b d n (e,0):Option (List Bool)).bind fun f=>some f
def MW (n:Nat)(l:List AG)(d:List AC)(o:Ae)(rel:ByteArray)(s:AL):Option (Bool × Int):=(WC n l).bind fun b=>(if (b != 0) then some (false,b) else (if (s.rel.toList==({ data:= #[] }:ByteArray).toList) then (G4 n l o.type_ rel).bind fun e=>(if e.2 then (RN n d).bind fun a=>(WN n l a [(⟨o,rel⟩:AB)]).bind fun c=>(ref6_Seek_C1_ref6_know n l s a c:Option (List Bool)).bind fun f=>(MU n (⟨l,a,c,f,s⟩:CU) o rel).bind fun g=>some (g,0) else some (false,12)) else some (false,13)))
set_option maxHeartbeats 8000000 in
theorem nb {l:List AG}{a1:List AC}{o:Ae}{rel:ByteArray}{s:AL}{r:Bool × Int}(H:MW n l a1 o rel s=some r):AM Tryz.prog 25 [D.sl (List.map AS l),D.sl (List.map AE a1),D.ag (DF o),D.v (.string rel),D.ag (AR s)] (D.tu [D.v (.bool r.1),D.v (.int .i64 r.2)]) true:=by
 unfold MW at H;refine zP #[.tmp 10,.tmp 11] Tryz.func25 ?_;refine ZT 1 ?_;obtain⟨dS,b1,H2⟩:=AP H;refine Z0 ?_;refine CT (xq b1) ?_;refine Z0 ?_;obtain⟨u,R⟩ |⟨u,R⟩:=Ah H2
 ·refine Z1 u ?_;cases R;exact As
 refine Z1 u ?_;obtain⟨S,T⟩ |⟨S,T⟩:=Ah R;rotate_left
 ·refine Z1 (Y2 u S) ?_;cases T;exact As
 obtain⟨a,b7,H8⟩:=AP T;have U:=Y2 u S;refine Z1 U ?_;refine CT (KW b7) ?_;refine Z1 U ?_;obtain⟨q,H10⟩ |⟨q,H10⟩:=Cb U H8;rotate_left
 ·refine Z1 q ?_;cases H10;exact As
 obtain⟨d,b0,H12⟩:=AP H10;refine Z1 q ?_;refine CT (xh b0) ?_;obtain⟨e,b2,H14⟩:=AP H12;refine Z1 q ?_;refine yX q (yB b2) ?_;refine Z1 q ?_;obtain⟨k,E15,H16⟩:=AP H14;refine K7 (v:=.pt 44 0) (δ:=[(44,(.bx [.d (.sl (List.map AS l)) true,.d (.sl (List.map AE d)) false,.d (.sl (List.map AF e)) false,.so 45 0 0 (k.length),.v (.string s.type_),.v (.string s.id_),.v (.string s.rel)])),(45,(.rw (List.map eB k) 1 0 false false))]) (nx':=46) (AT.mono (ue (α:={ y:List Bool // k=y }) Ev Tryz.func50 rfl (by kernel_rfl) (by kernel_rfl) (by simp[Tryz.f50]) (fun |⟨k,_⟩=>⟨upd 8 (.pt 44 0) AJ,upd 0 (some (.bx [.v (.string o.type_),.v (.string o.id_)])) (upd 1 (some (.bx [.v (.string s.type_),.v (.string s.id_),.v (.string s.rel)])) (upd 20 (some (.bx [.v (.string a.1.name),.d (.sl (List.map AR a.1.subs)) true,.d (.sl (List.map AY a.1.expr)) true])) (upd 36 (some (.rw [[.v (.string o.type_),.v (.string o.id_),.v (.string rel)]] 3 0 false false)) (upd 44 (some (.bx [.d (.sl (List.map AS l)) true,.d (.sl (List.map AE d)) false,.d (.sl (List.map AF e)) false,.so 45 0 0 (k.length),.v (.string s.type_),.v (.string s.id_),.v (.string s.rel)])) (upd 45 (some (.rw (List.map eB k) 1 0 false false)) AK))))),46⟩) (fun |⟨k,_⟩=>.pt 44 0) (by rintro⟨k,d0⟩;first |((simp -implicitDefEqProofs only[go_sem, ↓reduceIte,Tryz.f50])<;>rfl) |rfl) ?_) ?_) ?_
 ·unfold ref6_Seek_C1_ref6_know at E15
  try dsimp only at E15
  refine Dg ?_;refine AU (ZT 1 ?_);obtain⟨d1,b3,H18⟩:=AP E15;refine Z0 ?_;refine CT (na b3) ?_;refine DQ ?_;refine Z0 ?_;refine Dy ?_;refine EJ H18 (fun f _ b F=>⟨kp [10] f (upd 9 (.pt 44 0) (upd 13 (AW 45 F (List.map eI b)) AJ)),upd 0 (some (.bx [.v (.string o.type_),.v (.string o.id_)])) (upd 1 (some (.bx [.v (.string s.type_),.v (.string s.id_),.v (.string s.rel)])) (upd 20 (some (.bx [.v (.string a.1.name),.d (.sl (List.map AR a.1.subs)) true,.d (.sl (List.map AY a.1.expr)) true])) (upd 36 (some (.rw [[.v (.string o.type_),.v (.string o.id_),.v (.string rel)]] 3 0 false false)) (upd 44 (some (.bx [.d (.sl (List.map AS l)) true,.d (.sl (List.map AE d)) false,.d (.sl (List.map AF e)) false,.v (.slice none 0 0),.v (.string s.type_),.v (.string s.id_),.v (.string s.rel)])) (upd 45 (Am 1 F false (List.map eI b)) AK))))),46⟩) (fun d2 E19 H20=> ?_) fun b F H20=> ?_
  ·refine DL E19 (fun f _ (h,a2) g=>⟨kp [3,10,11] f (upd 9 (.pt 44 0) (upd 13 (AW 45 g (List.map eI h)) (upd 14 (.v (.int .i64 a2)) AJ))),upd 0 (some (.bx [.v (.string o.type_),.v (.string o.id_)])) (upd 1 (some (.bx [.v (.string s.type_),.v (.string s.id_),.v (.string s.rel)])) (upd 20 (some (.bx [.v (.string a.1.name),.d (.sl (List.map AR a.1.subs)) true,.d (.sl (List.map AY a.1.expr)) true])) (upd 36 (some (.rw [[.v (.string o.type_),.v (.string o.id_),.v (.string rel)]] 3 0 false false)) (upd 44 (some (.bx [.d (.sl (List.map AS l)) true,.d (.sl (List.map AE d)) false,.d (.sl (List.map AF e)) false,.v (.slice none 0 0),.v (.string s.type_),.v (.string s.id_),.v (.string s.rel)])) (upd 45 (Am 1 g false (List.map eI h)) AK))))),46⟩) 0 (ZR [(44,51)]) fun c ⟨h,a2⟩ g L21=> ?_
   refine Ax ?_;obtain⟨G,H77⟩ |⟨G,H77⟩:=Ah L21;rotate_left
   ·refine Z1 G ?_;cases H77;exact⟨g,ZR [(44,44),(45,45)]⟩
   refine MX G ?_;refine AU (AU ?_);refine ES G ?_;refine EJ H77 (fun f _ V I=>⟨kp [3,10,11,14] f (upd 9 (.pt 44 0) (upd 13 (AW 45 I (List.map eI h)) (upd 15 (.v (.int .i64 V)) AJ))),upd 0 (some (.bx [.v (.string o.type_),.v (.string o.id_)])) (upd 1 (some (.bx [.v (.string s.type_),.v (.string s.id_),.v (.string s.rel)])) (upd 20 (some (.bx [.v (.string a.1.name),.d (.sl (List.map AR a.1.subs)) true,.d (.sl (List.map AY a.1.expr)) true])) (upd 36 (some (.rw [[.v (.string o.type_),.v (.string o.id_),.v (.string rel)]] 3 0 false false)) (upd 44 (some (.bx [.d (.sl (List.map AS l)) true,.d (.sl (List.map AE d)) false,.d (.sl (List.map AF e)) false,.v (.slice none 0 0),.v (.string s.type_),.v (.string s.id_),.v (.string s.rel)])) (upd 45 (Am 1 I false (List.map eI h)) AK))))),46⟩) (fun d3 E78 H79=> ?_) fun V I H79=> ?_
   ·refine DL E78 (fun f _ (a3,a4) p=>⟨kp [3,10,11,14] f (upd 9 (.pt 44 0) (upd 13 (AW 45 p (List.map eI h)) (upd 15 (.v (.int .i64 a3)) (upd 16 (.v (.int .i64 a4)) AJ)))),upd 0 (some (.bx [.v (.string o.type_),.v (.string o.id_)])) (upd 1 (some (.bx [.v (.string s.type_),.v (.string s.id_),.v (.string s.rel)])) (upd 20 (some (.bx [.v (.string a.1.name),.d (.sl (List.map AR a.1.subs)) true,.d (.sl (List.map AY a.1.expr)) true])) (upd 36 (some (.rw [[.v (.string o.type_),.v (.string o.id_),.v (.string rel)]] 3 0 false false)) (upd 44 (some (.bx [.d (.sl (List.map AS l)) true,.d (.sl (List.map AE d)) false,.d (.sl (List.map AF e)) false,.v (.slice none 0 0),.v (.string s.type_),.v (.string s.id_),.v (.string s.rel)])) (upd 45 (Am 1 p false (List.map eI h)) AK))))),46⟩) g (ZR [(44,44),(45,45)]) fun c ⟨a3,a4⟩ p L80=> ?_
    refine AQ ?_;obtain⟨X,H106⟩ |⟨X,H106⟩:=Ah L80
    ·obtain⟨d4,ea,eb,b4,H108⟩:=zI CK H106;obtain⟨ed,ee,ef,b5,H114⟩:=zI AF H108;have a5:=Y3 X b4 b5;refine Z1 a5 ?_;obtain⟨x,H120⟩ |⟨x,H120⟩:=Cb a5 H114
     ·refine Dj x ?_;obtain⟨Y,H122⟩ |⟨Y,H122⟩:=Ah H120
      ·obtain⟨eg,eh,ek,b6,H124⟩:=zI eI H122;refine Z1 (Y3 x Y b6) ?_;exact⟨_,p,H124,ZR [(44,44),(45,45)]⟩
      refine Z1 (Y2 x Y) ?_;exact⟨_,p,H122,ZR [(44,44),(45,45)]⟩
     refine Dj x ?_;exact⟨_,p,H120,ZR [(44,44),(45,45)]⟩
    refine Z1 X ?_;cases H106;exact⟨p,ZR [(44,44),(45,45)]⟩
   refine ZT 3 ?_;obtain⟨J,b8,H130⟩:=AP H79;obtain⟨Z,a6⟩:=Dp b8;have Z:h.length+1<=4294967296:=Z;have b9:List.map eI h++[[.v (.int .i64 V)]]=List.map eI J:=D6 eI a6;have cb:h.length+1=J.length:=D7 a6;have cf:J.length<=4294967296:=(by omega);have el:0<J.length:=(by omega);refine Z1 (Y4 Z b9 cb cf) ?_;rcases h with _ |⟨q0,q1⟩
   ·try simp only[Lu,CF,CG]
    exact⟨_,0,H130,ZR [(44,44),(45,49)]⟩
   try simp only[Lh,CF,CG]
   exact⟨_,(I+1),H130,ZR [(44,44),(45,45)]⟩
  refine AU (ZT 1 ?_);obtain⟨l3,ch,H139⟩:=AP H20;obtain⟨cp,cs,cx⟩:=mX ch;try simp -implicitDefEqProofs only[go_sem,Nat.reduceLT,Nat.reduceEqDiff,Nat.reduceAdd,Nat.reduceLeDiff,reduceCtorEq, ↓reduceIte,(cp .i64),cs,cx,Lc]
  refine AU (AU ?_);refine ZT 1 ?_;try simp -implicitDefEqProofs only[go_sem,Nat.reduceAdd]
  refine zj H139 (fun _ _ K=>⟨upd 9 (.pt 44 0) AJ,upd 0 (some (.bx [.v (.string o.type_),.v (.string o.id_)])) (upd 1 (some (.bx [.v (.string s.type_),.v (.string s.id_),.v (.string s.rel)])) (upd 20 (some (.bx [.v (.string a.1.name),.d (.sl (List.map AR a.1.subs)) true,.d (.sl (List.map AY a.1.expr)) true])) (upd 36 (some (.rw [[.v (.string o.type_),.v (.string o.id_),.v (.string rel)]] 3 0 false false)) (upd 44 (some (.bx [.d (.sl (List.map AS l)) true,.d (.sl (List.map AE d)) false,.d (.sl (List.map AF e)) false,.so 45 0 0 (K.length),.v (.string s.type_),.v (.string s.id_),.v (.string s.rel)])) (upd 45 (some (.rw (List.map eB K) 1 0 false false)) AK))))),46⟩) (fun em E143 H144=> ?_) fun K H144=> ?_;rotate_left
  ·refine AQ ?_;obtain rfl:=LI H144;exact ud ⟨K,rfl⟩ (ZR [(44,44),(45,45)])
  refine DL E143 (fun f _ (L,a9) M=>⟨kp [10] f (upd 9 (.pt 44 0) (upd 13 (AW 46 M (List.map eI b)) (upd 17 (.v (.int .i64 a9)) AJ))),upd 0 (some (.bx [.v (.string o.type_),.v (.string o.id_)])) (upd 1 (some (.bx [.v (.string s.type_),.v (.string s.id_),.v (.string s.rel)])) (upd 20 (some (.bx [.v (.string a.1.name),.d (.sl (List.map AR a.1.subs)) true,.d (.sl (List.map AY a.1.expr)) true])) (upd 36 (some (.rw [[.v (.string o.type_),.v (.string o.id_),.v (.string rel)]] 3 0 false false)) (upd 44 (some (.bx [.d (.sl (List.map AS l)) true,.d (.sl (List.map AE d)) false,.d (.sl (List.map AF e)) false,.so 45 0 0 (L.length),.v (.string s.type_),.v (.string s.id_),.v (.string s.rel)])) (upd 45 (some (.rw (List.map eB L) 1 0 false false)) (upd 46 (Am 1 M false (List.map eI b)) AK)))))),47⟩) F (ZR [(44,44),(45,52),(46,45)]) fun c ⟨L,a9⟩ M L145=> ?_
  refine Ax ?_;obtain⟨aa,H397⟩ |⟨aa,H397⟩:=Ah L145;rotate_left
  ·obtain⟨cN,H644⟩:=Dv H397;have en:0<L.length:=of_decide_eq_true cN;refine Z1 aa ?_;cases H644;exact ZR [(44,44),(45,45)]
  refine MX aa ?_;refine EJ H397 (fun f _ N O=>⟨kp [10,17] f (upd 9 (.pt 44 0) (upd 13 (AW 46 O (List.map eI b)) AJ)),upd 0 (some (.bx [.v (.string o.type_),.v (.string o.id_)])) (upd 1 (some (.bx [.v (.string s.type_),.v (.string s.id_),.v (.string s.rel)])) (upd 20 (some (.bx [.v (.string a.1.name),.d (.sl (List.map AR a.1.subs)) true,.d (.sl (List.map AY a.1.expr)) true])) (upd 36 (some (.rw [[.v (.string o.type_),.v (.string o.id_),.v (.string rel)]] 3 0 false false)) (upd 44 (some (.bx [.d (.sl (List.map AS l)) true,.d (.sl (List.map AE d)) false,.d (.sl (List.map AF e)) false,.so 45 0 0 (N.length),.v (.string s.type_),.v (.string s.id_),.v (.string s.rel)])) (upd 45 (some (.rw (List.map eB N) 1 0 false false)) (upd 46 (Am 1 O false (List.map eI b)) AK)))))),47⟩) (fun eo E398 H399=> ?_) fun N O H399=> ?_;rotate_left
  ·refine Z0 ?_;refine ZT 1 ?_;obtain⟨c0,H640⟩:=Dv H399;have eq:0<N.length:=of_decide_eq_true c0;refine Z0 ?_;exact⟨_,O,H640,ZR [(44,44),(45,45),(46,46)]⟩
  refine DL E398 (fun f _ (P,ba) z=>⟨kp [10,17] f (upd 9 (.pt 44 0) (upd 13 (AW 46 z (List.map eI b)) (upd 18 (.v (.int .i64 ba)) AJ))),upd 0 (some (.bx [.v (.string o.type_),.v (.string o.id_)])) (upd 1 (some (.bx [.v (.string s.type_),.v (.string s.id_),.v (.string s.rel)])) (upd 20 (some (.bx [.v (.string a.1.name),.d (.sl (List.map AR a.1.subs)) true,.d (.sl (List.map AY a.1.expr)) true])) (upd 36 (some (.rw [[.v (.string o.type_),.v (.string o.id_),.v (.string rel)]] 3 0 false false)) (upd 44 (some (.bx [.d (.sl (List.map AS l)) true,.d (.sl (List.map AE d)) false,.d (.sl (List.map AF e)) false,.so 45 0 0 (P.length),.v (.string s.type_),.v (.string s.id_),.v (.string s.rel)])) (upd 45 (some (.rw (List.map eB P) 1 0 false false)) (upd 46 (Am 1 z false (List.map eI b)) AK)))))),47⟩) M (ZR [(44,44),(45,45),(46,46)]) fun c ⟨P,ba⟩ z L400=> ?_
  refine Ax ?_;obtain⟨Q,H521⟩ |⟨Q,H521⟩:=Ah L400;rotate_left
  ·obtain⟨c1,H637⟩:=Dv H521;have er:0<P.length:=of_decide_eq_true c1;refine Z1 Q ?_;cases H637;exact⟨z,ZR [(44,44),(45,45),(46,46)]⟩
  refine MX Q ?_;refine AU (AU ?_);refine ES Q ?_;refine EJ H521 (fun f _ (A,bb) B=>⟨kp [10,17,18] f (upd 9 (.pt 44 0) (upd 13 (AW 46 B (List.map eI b)) (upd 19 (.v (.bool bb)) AJ))),upd 0 (some (.bx [.v (.string o.type_),.v (.string o.id_)])) (upd 1 (some (.bx [.v (.string s.type_),.v (.string s.id_),.v (.string s.rel)])) (upd 20 (some (.bx [.v (.string a.1.name),.d (.sl (List.map AR a.1.subs)) true,.d (.sl (List.map AY a.1.expr)) true])) (upd 36 (some (.rw [[.v (.string o.type_),.v (.string o.id_),.v (.string rel)]] 3 0 false false)) (upd 44 (some (.bx [.d (.sl (List.map AS l)) true,.d (.sl (List.map AE d)) false,.d (.sl (List.map AF e)) false,.so 45 0 0 (A.length),.v (.string s.type_),.v (.string s.id_),.v (.string s.rel)])) (upd 45 (some (.rw (List.map eB A) 1 0 false false)) (upd 46 (Am 1 B false (List.map eI b)) AK)))))),47⟩) (fun es E522 H523=> ?_) fun⟨A,bb⟩ B H523=> ?_;rotate_left
  ·refine ZT 3 ?_;refine Z0 ?_;obtain⟨ab,H628⟩ |⟨ab,H628⟩:=Ah H523
   ·obtain⟨c2,H630⟩:=Dv H628;have et:0<A.length:=of_decide_eq_true c2;refine Z1 ab ?_;cases H630;exact⟨B,ZR [(44,44),(45,45),(46,46)]⟩
   obtain⟨c3,H633⟩:=Dv H628;have ew:0<A.length:=of_decide_eq_true c3;refine Z1 ab ?_;exact⟨_,B,H633,ZR [(44,44),(45,45),(46,46)]⟩
  refine DL E522 (fun f _ (i,bd,C) m=>⟨kp [10,17,18] f (upd 9 (.pt 44 0) (upd 13 (AW 46 m (List.map eI b)) (upd 19 (.v (.bool bd)) (upd 20 (.v (.int .i64 C)) AJ)))),upd 0 (some (.bx [.v (.string o.type_),.v (.string o.id_)])) (upd 1 (some (.bx [.v (.string s.type_),.v (.string s.id_),.v (.string s.rel)])) (upd 20 (some (.bx [.v (.string a.1.name),.d (.sl (List.map AR a.1.subs)) true,.d (.sl (List.map AY a.1.expr)) true])) (upd 36 (some (.rw [[.v (.string o.type_),.v (.string o.id_),.v (.string rel)]] 3 0 false false)) (upd 44 (some (.bx [.d (.sl (List.map AS l)) true,.d (.sl (List.map AE d)) false,.d (.sl (List.map AF e)) false,.so 45 0 0 (i.length),.v (.string s.type_),.v (.string s.id_),.v (.string s.rel)])) (upd 45 (some (.rw (List.map eB i) 1 0 false false)) (upd 46 (Am 1 m false (List.map eI b)) AK)))))),47⟩) z (ZR [(44,44),(45,45),(46,46)]) fun c ⟨i,bd,C⟩ m L524=> ?_
  refine AQ ?_;obtain⟨ad,H577⟩ |⟨ad,H577⟩:=Ah L524;rotate_left
  ·obtain⟨c4,H625⟩:=Dv H577;have ex:0<i.length:=of_decide_eq_true c4;refine Z1 ad ?_;cases H625;exact⟨m,ZR [(44,44),(45,45),(46,46)]⟩
  obtain⟨ey,ez,c5,c6,H579⟩:=zI eI H577;have c7:=EN c5;have be:0<b.length:=by omega
  have ag:=Y5 ad c6 c7 (YV (f:=eI) be) (YO (f:=eI) be);refine Z1 ag ?_;obtain⟨ak,H586⟩ |⟨ak,H586⟩:=Ah H579;rotate_left
  ·obtain⟨c9,H622⟩:=Dv H586;have eA:0<i.length:=of_decide_eq_true c9;refine Z1 (Y2 ag ak) ?_;exact⟨_,m,H622,ZR [(44,44),(45,45),(46,46)]⟩
  obtain⟨eD,eF,da,dd,H588⟩:=zI eB H586;have df:=EN da;have ao:=Y4 ag ak dd df;refine Z1 ao ?_;obtain⟨aq,H594⟩ |⟨aq,H594⟩:=Ah H588
  ·obtain⟨dk,H596⟩:=Dv H594;have eH:0<i.length:=of_decide_eq_true dk;refine Z1 (Y2 ao aq) ?_;exact⟨_,m,H596,ZR [(44,44),(45,45),(46,46)]⟩
  obtain⟨eK,eN,eP,dl,H599⟩:=zI AF H594;obtain⟨eR,dm,H605⟩:=AP H599;have E:=Y3 ao aq dl;refine Z1 E ?_;refine WS E (CP.of_pure (xx dm)) ?_;refine Z1 E ?_;obtain⟨av,H607⟩ |⟨av,H607⟩:=Ah H605
  ·obtain⟨t,dn,H609⟩:=AP H607;have bg:List.set i (Int.toNat C) true=t:=LI dn;have bl:List.set (List.map eB i) (Int.toNat C) [.v (.bool true)]=List.map eB t:=by rw[<-bg,NF]
   try simp only[Lh,Lu] at bl
   have dp:i.length=t.length:=(by rw[<-bg,NS]);have dq:∀w,AV.so 45 w 0 i.length=AV.so 45 w 0 t.length:=fun w=>(by rw[dp]);have dr:(Int.toNat C)<t.length:=(by omega);obtain⟨ds,H616⟩:=Dv H609;have eU:0<t.length:=of_decide_eq_true ds;refine Z1 (Y5 E av bl dq dr) ?_;exact⟨_,m,H616,ZR [(44,44),(45,45),(46,46)]⟩
  obtain⟨dt,H619⟩:=Dv H607;have eV:0<i.length:=of_decide_eq_true dt;refine Z1 (Y2 E av) ?_;exact⟨_,m,H619,ZR [(44,44),(45,45),(46,46)]⟩
 ·rintro e0 e1 e2 ⟨⟨e3,dw⟩,rfl,rfl,rfl⟩;subst dw;refine⟨rfl,?_,rfl⟩;funext j;by_cases j0:j=0
  ·subst j0;rfl
  by_cases j1:j=1
  ·subst j1;rfl
  by_cases bo:j=20
  ·subst bo;rfl
  by_cases br:j=36
  ·subst br;rfl
  by_cases bs:j=44
  ·subst bs;rfl
  by_cases bx:j=45
  ·subst bx;rfl
  first |rfl |simp only[CL,Aj _ _ j0,Aj _ _ j1,Aj _ _ bo,Aj _ _ br,Aj _ _ bs,Aj _ _ bx]
 try dsimp only at H16
 obtain⟨e4,dy,H655⟩:=AP H16;refine Z0 ?_;refine Xw [44,45] (by intro e5 h1;have aE:=h1 44 (by simp);have a0:=h1 45 (by simp);(try simp -implicitDefEqProofs only[go_sem,Nat.reduceEqDiff, ↓reduceIte] at aE);(try simp -implicitDefEqProofs only[go_sem, ↓reduceIte] at a0);first |(simp -implicitDefEqProofs only[go_sem, ↓reduceIte,DF,EG,aE,a0];done) |(simp -implicitDefEqProofs only[go_sem, ↓reduceIte,DF,EG,aE,a0];rfl)) (CP.of_pure (Yv dy)) (by first |exact .inr rfl |exact .inl rfl) ?_;refine Ki ?_;cases H655;exact As
end Go.Proofs.YtnmkbmefohakmaaGreat.Ab
