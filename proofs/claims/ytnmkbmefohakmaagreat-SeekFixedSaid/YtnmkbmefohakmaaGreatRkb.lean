/-
 Functions, read off the code.
-/
import Derived.Test.YtnmkbmefohakmaaGreatRka
set_option linter.all false
namespace Go.Proofs.YtnmkbmefohakmaaGreat.Ab
open Go.RowKit IntKind
def K4 (n:Nat)(a:List An)(e:Int)(f:List Ao)(g:Int):Nat->(List Int × Bool × Int)->Option ((List Int × Bool) ⊕ (List An × List Int × Bool))
 |0,_=>none
 |c+1,(b,i,d)=>(if decide (d<(a.length:Int)) then ((CD a d).bind fun j=>(CD f g).bind fun k=>(if (j.t.toList==k.type_.toList) then some (!(j.rel.toList==k.rel.toList)) else some true):Option (Bool)).bind fun m=>(if m then K4 n a e f g c (b,i,(i64.wrap (d+1))) else (CD b d).bind fun l=>(CD f g).bind fun o=>((if o.less then some (i64.wrap (l+1)) else some l):Option (Int)).bind fun h=>(CD b e).bind fun p=>(if decide (p<h) then (some (List.set b (Int.toNat e) h)).bind fun q=>(if decide ((a.length:Int)<h) then some (.inr ([],[],false)) else K4 n a e f g c (q,false,(i64.wrap (d+1)))) else (if decide ((a.length:Int)<h) then some (.inr ([],[],false)) else K4 n a e f g c (b,i,(i64.wrap (d+1)))))) else some (.inl (b,i)))
def Sc (n:Nat)(d:List An)(e:Int)(a:List Ao):Nat->(List Int × Bool × Int)->Option ((List Int × Bool) ⊕ (List An × List Int × Bool))
 |0,_=>none
 |c+1,(f,g,b)=>(if decide (b<(a.length:Int)) then (K4 n d e a b n (f,g,0):Option ((List Int × Bool) ⊕ (List An × List Int × Bool))).bind fun | .inl (h,i)=>Sc n d e a c (h,i,(i64.wrap (b+1))) | .inr r=>some (.inr r) else some (.inl (f,g)))
def Sd (n:Nat)(t0:List AG)(a:List An):Nat->(List Int × Bool × Int)->Option ((List Int × Bool) ⊕ (List An × List Int × Bool))
 |0,_=>none
 |c+1,(d,e,b)=>(if decide (b<(a.length:Int)) then (CD a b).bind fun f=>(Hz n t0 f.t f.rel).bind fun g=>(Sc n a b g n (d,e,0):Option ((List Int × Bool) ⊕ (List An × List Int × Bool))).bind fun | .inl (h,i)=>Sd n t0 a c (h,i,(i64.wrap (b+1))) | .inr r=>some (.inr r) else some (.inl (d,e)))
def XN (n:Nat)(t0:List AG)(a:List An):Nat->(List Int × Int)->Option ((Unit) ⊕ (List An × List Int × Bool))
 |0,_=>none
 |c+1,(e,b)=>(if (decide (b<=(i64.wrap ((i64.wrap ((a.length:Int)*(a.length:Int)))+1)))) then (Sd n t0 a n (e,true,0):Option ((List Int × Bool) ⊕ (List An × List Int × Bool))).bind fun | .inl (d,f)=>(if f then some (.inr (a,d,true)) else XN n t0 a c (d,(i64.wrap (b+1)))) | .inr r=>some (.inr r) else some (.inl ()))
def Ui (n:Nat)(t0:List AG):Option (List An × List Int × Bool):=(Uh n t0).bind fun a=>(Wt (a.length:Int)).bind fun l=>(XN n t0 a n (l,0):Option ((Unit) ⊕ (List An × List Int × Bool))).bind fun
  | .inl _=>some ([],[],false)
  | .inr r=>some r
variable {n:Nat}
set_option maxHeartbeats 8000000 in
theorem yZ {t0:List AG}{r:List An × List Int × Bool}(H:Ui n t0=some r):AI Tryz.prog 40 [D.sl (List.map AQ t0)] (D.tu [D.sl (List.map Ar r.1),D.sl (List.map eI r.2.1),D.v (.bool r.2.2)]) true:=by
 unfold Ui at H;refine zP #[.tmp 2,.tmp 3,.tmp 4] Tryz.func40 ?_;refine Ay ?_;refine AT (ZT 1 ?_);obtain⟨a2,X,H2⟩:=AL H;refine Z0 ?_;refine Cn (yW X) ?_;refine Dt ?_;obtain⟨l,b3,H4⟩:=AL H2;obtain⟨h5,h6,h7⟩:=xl b3;have h8:List.replicate l.length [D.v (.int .i64 0)]=List.map eI l:=h7 .i64
 try simp -implicitDefEqProofs only[go_sem,Nat.reduceLT,Nat.reduceAdd,Nat.reduceLeDiff, ↓reduceIte,(h5 .i64),h6,h8,Lc]
 refine AT (AT ?_);refine ZT 1 ?_;try simp -implicitDefEqProofs only[go_sem,Nat.reduceAdd]
 refine zi H4 (fun _ _ _=>⟨AK,AM,0⟩) (fun e_ E9 H10=> ?_) fun _ H10=> ?_;rotate_left
 ·refine AP ?_;cases H10;exact Ax
 refine EG E9 (fun f _ (m,E)=>⟨kp [0,5] f (upd 6 (.so 0 0 0 (m.length)) (upd 7 (.v (.int .i64 E)) AK)),upd 0 (some (.rw (List.map eI m) 1 0 false false)) AM,1⟩) (ZR [(0,8)]) fun c ⟨m,E⟩ L11=> ?_
 refine Ay ?_;obtain⟨e,H529⟩ |⟨e,H529⟩:=As L11;rotate_left
 ·refine Z1 e ?_;cases H529;exact⟨_,rfl,ZR []⟩
 refine XX e ?_;refine AT (AT ?_);refine Fo e ?_;refine zi H529 (fun f _ (o,F)=>⟨kp [0,5,7] f (upd 6 (.so 0 0 0 (o.length)) (upd 8 (.v (.bool F)) AK)),upd 0 (some (.rw (List.map eI o) 1 0 false false)) AM,1⟩) (fun a3 E530 H531=> ?_) fun⟨o,F⟩ H531=> ?_;rotate_left
 ·refine ZT 3 ?_;refine Z0 ?_;obtain⟨g,H1042⟩ |⟨g,H1042⟩:=As H531
  ·refine Z1 g ?_;cases H1042;cases H10;exact XW g
  refine Z1 g ?_;exact⟨_,H1042,ZR [(0,0)]⟩
 refine EG E530 (fun f _ (p,G,b)=>⟨kp [0,5,7] f (upd 6 (.so 0 0 0 (p.length)) (upd 8 (.v (.bool G)) (upd 9 (.v (.int .i64 b)) AK))),upd 0 (some (.rw (List.map eI p) 1 0 false false)) AM,1⟩) (ZR [(0,0)]) fun c ⟨p,G,b⟩ L532=> ?_
 refine Ay ?_;obtain⟨i,H788⟩ |⟨i,H788⟩:=As L532;rotate_left
 ·refine Z1 i ?_;cases H788;exact⟨_,rfl,ZR [(0,0)]⟩
 refine PM i ?_;obtain⟨a4,a5,a6,Y,H790⟩:=zI Ar H788;obtain⟨a7,Z,H796⟩:=AL H790;have I:=Y2 i Y;refine Z1 I ?_;refine EB (yY Z) ?_;refine pH I ?_;refine zi H796 (fun f _ (q,J)=>⟨kp [0,5,7,9] f (upd 6 (.so 0 0 0 (q.length)) (upd 8 (.v (.bool J)) AK)),upd 0 (some (.rw (List.map eI q) 1 0 false false)) AM,1⟩) (fun a8 E797 H798=> ?_) fun⟨q,J⟩ H798=> ?_;rotate_left
 ·refine Fc ?_;exact⟨_,H798,ZR [(0,0)]⟩
 refine EG E797 (fun f _ (s,K,L)=>⟨kp [0,5,7,9,10] f (upd 6 (.so 0 0 0 (s.length)) (upd 8 (.v (.bool K)) (upd 11 (.v (.int .i64 L)) AK))),upd 0 (some (.rw (List.map eI s) 1 0 false false)) AM,1⟩) (ZR [(0,0)]) fun c ⟨s,K,L⟩ L799=> ?_
 refine Ay ?_;obtain⟨t,H921⟩ |⟨t,H921⟩:=As L799;rotate_left
 ·refine Z1 t ?_;cases H921;exact⟨_,rfl,ZR [(0,0)]⟩
 refine XX t ?_;refine zi H921 (fun f _ (u,M)=>⟨kp [0,5,7,9,10,11] f (upd 6 (.so 0 0 0 (u.length)) (upd 8 (.v (.bool M)) AK)),upd 0 (some (.rw (List.map eI u) 1 0 false false)) AM,1⟩) (fun a9 E922 H923=> ?_) fun⟨u,M⟩ H923=> ?_;rotate_left
 ·refine Fc ?_;exact⟨_,H923,ZR [(0,0)]⟩
 refine EG E922 (fun f _ (a,N,O)=>⟨kp [0,5,7,9,10,11] f (upd 6 (.so 0 0 0 (a.length)) (upd 8 (.v (.bool N)) (upd 12 (.v (.int .i64 O)) AK))),upd 0 (some (.rw (List.map eI a) 1 0 false false)) AM,1⟩) (ZR [(0,0)]) fun c ⟨a,N,O⟩ L924=> ?_
 refine Ay ?_;obtain⟨v,H983⟩ |⟨v,H983⟩:=As L924;rotate_left
 ·refine Z1 v ?_;cases H983;exact⟨_,rfl,ZR [(0,0)]⟩
 refine Z1 v ?_;refine AT (CS ?_);refine AT (AT ?_);refine zj H983 (fun f h P=>⟨kp [0,5,6,7,8,9,10,11,12] f (upd 82 (.v (.bool P)) AK),kh [0] h AM,1⟩) (fun ba E984 H985=> ?_) fun P H985=> ?_
 ·refine ZT 1 ?_;obtain⟨bb,bd,be,aa,H987⟩:=zI Ar E984;obtain⟨bg,bl,bo,ab,H993⟩:=zI Ae H987;have Q:=Y2 aa ab;refine Z1 Q ?_;obtain⟨x,H999⟩ |⟨x,H999⟩:=Cg Q H993
  ·refine Ds x ?_;cases H999;exact ZR [(0,0)]
  refine Ds x ?_;cases H999;exact ZR [(0,0)]
 refine AP ?_;obtain⟨j,H1001⟩ |⟨j,H1001⟩:=As H985
 ·refine K5 j ?_;exact⟨_,H1001,ZR [(0,0)]⟩
 refine Cw j ?_;obtain⟨br,bs,ad,ag,H1003⟩:=zI eI H1001;have ak:=EQ ad;have R:=Y3 j ag ak;refine Z1 R ?_;refine AT (AT ?_);refine ZT 1 ?_;obtain⟨bx,b0,b1,ao,H1009⟩:=zI Ae H1003;refine Z1 (Y2 R ao) ?_;refine zj H1009 (fun f h k=>⟨kp [0,5,6,7,8,9,10,11,12] f (upd 13 (.v (.int .i64 k)) AK),kh [0] h AM,1⟩) (fun b2 E1014 H1015=> ?_) fun k H1015=> ?_
 ·refine AP ?_;obtain⟨y,H1017⟩ |⟨y,H1017⟩:=As E1014
  ·refine Z1 y ?_;cases H1017;exact ZR [(0,0)]
  refine Z1 y ?_;cases H1017;exact ZR [(0,0)]
 refine ZT 3 ?_;obtain⟨b4,b5,ap,aq,H1019⟩:=zI eI H1015;have ar:=EQ ap;have z:=Y2 aq ar;refine Z1 z ?_;obtain⟨A,H1025⟩ |⟨A,H1025⟩:=As H1019
 ·obtain⟨d,av,H1027⟩:=AL H1025;have S:List.set a (Int.toNat b) k=d:=LM av;have T:List.set (List.map eI a) (Int.toNat b) [.v (.int .i64 k)]=List.map eI d:=by rw[<-S,NK]
  try simp only[Li,Lw] at T
  have aE:a.length=d.length:=by rw[<-S,NZ]
  have a0:∀w,AV.so 0 w 0 a.length=AV.so 0 w 0 d.length:=fun w=>by rw[aE]
  have a1:(Int.toNat b)<d.length:=by omega
  have U:=Y5 z A T a0 a1;refine Z1 U ?_;obtain⟨B,H1034⟩ |⟨B,H1034⟩:=Cg U H1027
  ·refine Z1 B ?_;cases H1034;cases H923;cases H798;cases H531;cases H10;exact Ax
  refine Z1 B ?_;exact⟨_,H1034,ZR [(0,0)]⟩
 have V:=Y2 z A;refine Z1 V ?_;obtain⟨C,H1036⟩ |⟨C,H1036⟩:=Cg V H1025
 ·refine Z1 C ?_;cases H1036;cases H923;cases H798;cases H531;cases H10;exact Ax
 refine Z1 C ?_;exact⟨_,H1036,ZR [(0,0)]⟩
def jD_ (n:Nat)(l:List AG):Nat->Int->Option ((Unit) ⊕ Int)
 |0,_=>none
 |c+1,i=>(if decide (i<(l.length:Int)) then (FV l 0 (i64.wrap (i+1))).bind fun a=>(XI n a).bind fun b=>(if b then some (.inr 11) else jD_ n l c (i64.wrap (i+1))) else some (.inl ()))
def Uj (n:Nat)(l:List AG)(d:Int):Nat->Int->Option ((Unit) ⊕ Int)
 |0,_=>none
 |c+1,a=>(CD l d).bind fun b=>(if decide (a<(b.rels.length:Int)) then (CD b.rels a).bind fun f=>(XM n l b.name f).bind fun e=>(if (e != 0) then some (.inr e) else Uj n l d c (i64.wrap (a+1))) else some (.inl ()))
def xs_ (n:Nat)(l:List AG):Nat->Int->Option ((Unit) ⊕ Int)
 |0,_=>none
 |c+1,a=>(if decide (a<(l.length:Int)) then (Uj n l a n 0:Option ((Unit) ⊕ Int)).bind fun | .inl _=>xs_ n l c (i64.wrap (a+1)) | .inr r=>some (.inr r) else some (.inl ()))
def XO (n:Nat)(l:List AG):Option Int:=
 (
  jD_ n l n 0:Option ((Unit) ⊕ Int)).bind fun
  | .inl _=>
   (
    xs_ n l n 0:Option ((Unit) ⊕ Int)).bind fun
    | .inl _=>
     (Ui n l).bind fun a=>
     (if a.2.2 then
      some 0
     else
      some 14)
    | .inr r=>some r
  | .inr r=>some r
theorem ya {l:List AG}{r:Int}(H:XO n l=some r):AI Tryz.prog 16 [D.sl (List.map AQ l)] (D.v (.int .i64 r)) true:=by
 unfold XO at H;refine zP #[.tmp 2] Tryz.func16 ?_;refine KF ?_;refine zi H (fun f _ _=>⟨kp [0] f AK,AM,0⟩) (fun I v a=> ?_) fun _ a=> ?_
 ·refine EG v (fun f _ i=>⟨kp [0] f (upd 3 (.v (.int .i64 i)) AK),AM,0⟩) (ZR []) fun c i w=> ?_
  refine AP ?_;obtain⟨b,H20⟩ |⟨b,H20⟩:=As w
  ·obtain⟨x,y,H22⟩:=AL H20;obtain⟨z,A,J,B⟩:=KB y;have p:0<=Int.toNat (i64.wrap (i+1)):=(by omega);have q:Int.toNat (i64.wrap (i+1))<=(List.length l):=(by omega);have s:List.take (Int.toNat (i64.wrap (i+1))) (List.map AQ l)=List.map AQ x:=by rw[B];simp[N8]
   try simp only[Lk] at p q s
   obtain⟨K,C,H31⟩:=AL H22;have d:=Y6 b (A8 .i64 (NG z A)) p q s (Hk (n:=2) (f:=AQ) (fun _=>rfl) l);refine Z1 d ?_;refine Cn (yR C) ?_;refine Z1 d ?_;obtain⟨e,H33⟩ |⟨e,H33⟩:=Cg d H31
   ·refine Z1 e ?_;cases H33;cases a;exact Ax
   refine Z1 e ?_;exact⟨_,H33,ZR []⟩
  refine Z1 b ?_;cases H20;exact⟨_,rfl,ZR []⟩
 refine EZ ?_;refine zi a (fun f _ _=>⟨kp [0] f AK,AM,0⟩) (fun L E34 H35=> ?_) fun _ H35=> ?_;rotate_left
 ·refine ZT 1 ?_;obtain⟨M,E,H122⟩:=AL H35;refine Z0 ?_;refine Cn (yZ E) ?_;refine Z0 ?_;obtain⟨g,H124⟩ |⟨g,H124⟩:=As H122
  ·refine Z1 g ?_;cases H124;exact Ax
  refine Z1 g ?_;cases H124;exact Ax
 refine EG E34 (fun f _ t=>⟨kp [0] f (upd 4 (.v (.int .i64 t)) AK),AM,0⟩) (ZR []) fun c t L36=> ?_
 refine Ay ?_;obtain⟨h,H80⟩ |⟨h,H80⟩:=As L36
 ·refine XX h ?_;refine zi H80 (fun f _ _=>⟨kp [0,4] f AK,AM,0⟩) (fun N E81 H82=> ?_) fun _ H82=> ?_
  ·refine EG E81 (fun f _ u=>⟨kp [0,4] f (upd 5 (.v (.int .i64 u)) AK),AM,0⟩) (ZR []) fun c u L83=> ?_
   refine ZT 1 ?_;obtain⟨O,P,Q,j,H103⟩:=zI AQ L83;refine Z1 j ?_;obtain⟨k,H109⟩ |⟨k,H109⟩:=As H103
   ·obtain⟨R,S,T,F,H111⟩:=zI Ah H109;obtain⟨U,G,H117⟩:=AL H111;have m:=Y3 j k F;refine Z1 m ?_;refine EB (yV G) ?_;refine Ds m ?_;obtain⟨o,H119⟩ |⟨o,H119⟩:=Cg m H117
    ·refine Z1 o ?_;cases H119;cases H82;cases H35;exact Ax
    refine Z1 o ?_;exact⟨_,H119,ZR []⟩
   refine Z1 (Y2 j k) ?_;cases H109;exact⟨_,rfl,ZR []⟩
  refine Fc ?_;exact⟨_,H82,ZR []⟩
 refine Z1 h ?_;cases H80;exact⟨_,rfl,ZR []⟩
def Se (n:Nat)(l:List AD)(t:AD):Nat->(Int × Int)->Option (Int)
 |0,_=>none
 |c+1,(a,b)=>(if decide (a<b) then (CD l (i64.wrap (Int.tdiv (i64.wrap (a+b)) 2))).bind fun d=>(XR n d t).bind fun e=>(if e then Se n l t c ((i64.wrap ((i64.wrap (Int.tdiv (i64.wrap (a+b)) 2))+1)),b) else Se n l t c (a,(i64.wrap (Int.tdiv (i64.wrap (a+b)) 2)))) else some a)
def aA (n:Nat)(l:List AD)(t:AD):Option Int:=(Se n l t n (0,(l.length:Int)):Option (Int)).bind fun a=>some a
theorem yb {l:List AD}{t:AD}{r:Int}(H:aA n l t=some r):AI Tryz.prog 42 [D.sl (List.map AE l),D.ag (AE t)] (D.v (.int .i64 r)) true:=by
 unfold aA at H;refine zP #[.tmp 4] Tryz.func42 ?_;refine EE ?_;refine AT ?_;refine zj H (fun _ _ e=>⟨upd 5 (.v (.int .i64 e)) AK,AM,0⟩) (fun q k g=> ?_) fun e g=> ?_
 ·refine EG k (fun f h (i,j)=>⟨kp [0,3] f (upd 5 (.v (.int .i64 i)) (upd 6 (.v (.int .i64 j)) AK)),kh [0] h AM,1⟩) (ZR [(0,0)]) fun c ⟨i,j⟩ m=> ?_
  refine AP ?_;obtain⟨a,H17⟩ |⟨a,H17⟩:=As m
  ·obtain⟨s,u,v,o,H19⟩:=zI AE H17;obtain⟨w,p,H25⟩:=AL H19;have b:=Y2 a o;refine Z1 b ?_;refine EB (fW p) ?_;refine Ds b ?_;obtain⟨d,H27⟩ |⟨d,H27⟩:=Cg b H25
   ·refine Z1 d ?_;exact⟨_,H27,ZR [(0,0)]⟩
   refine Z1 d ?_;exact⟨_,H27,ZR [(0,0)]⟩
  refine Z1 a ?_;cases H17;exact ZR []
 refine AP ?_;cases g;exact Ax
def XP (n:Nat)(l:List AD)(o:Ak)(rel:ByteArray):Nat->(List AN × Int)->Option (List AN)
 |0,_=>none
 |c+1,(a,i)=>(if decide (i<(l.length:Int)) then (CD l i).bind fun b=>(if ((b.obj.type_==o.type_)&&(b.obj.id_==o.id_)) then (if (b.rel.toList==rel.toList) then (DG a [b.sub_]).bind fun d=>XP n l o rel c (d,(i64.wrap (i+1))) else some a) else some a) else some a)
def aB (_:Nat)(_:List AD)(o:Ak)(rel:ByteArray)(a:List AN)(x2:AD)(k:List AN->Option (List AN)):Option (List AN):=
 match a with
 |out=>
  (if ((x2.obj.type_==o.type_)&&(x2.obj.id_==o.id_)) then
   (if (x2.rel.toList==rel.toList) then
    (DG out [x2.sub_]).bind fun b=>
    k b
   else
    some out)
  else
   some out)
def XQ (_:Nat)(_:List AD)(_:Ak)(_:ByteArray)(a:List AN):Option (List AN):=
 match a with
 |out=>some out
theorem yc (n:Nat)(l:List AD)(o:Ak)(rel:ByteArray)(d:l.length<4611686018427387904)(c:Nat)(b:List AN)(a:Nat)(e:a<=l.length)(f:l.length-a<c):XP n l o rel c (match b,(a:Int) with |out,a=>(out,a))=Dl (aB n l o rel) (XQ n l o rel) (l.drop a) b:=
 Ka (fun c b a=>XP n l o rel c (match b,a with |out,a=>(out,a))) l (aB n l o rel) (XQ n l o rel) (fun _ _ _=>rfl) d c b a e f
def Sf (n:Nat)(l:List AD)(o:Ak)(rel:ByteArray):Option (List AN):=(aA n l (⟨o,rel,(⟨ByteArray.empty,ByteArray.empty,ByteArray.empty⟩:AN)⟩:AD)).bind fun a=>(XP n l o rel n ([],a):Option (List AN)).bind fun b=>some b
theorem yd {l:List AD}{o:Ak}{rel:ByteArray}{r:List AN}(H:Sf n l o rel=some r):AI Tryz.prog 19 [D.sl (List.map AE l),D.ag (C3 o),D.v (.string rel)] (D.sl (List.map AR r)) true:=by
 unfold Sf at H;refine zP #[.tmp 6] Tryz.func19 ?_;refine EE ?_;refine AT (AT ?_);refine ZT 1 ?_;obtain⟨F,v,w⟩:=AL H;refine Z0 ?_;refine Cn (yb v) ?_;refine Z0 ?_;refine F7 w (fun _ _ e j=>⟨upd 7 (Ac 0 j (List.map AR e)) AK,upd 0 (A6 3 j false (List.map AR e)) AM,1⟩) (fun G x s=> ?_) fun e j s=> ?_;rotate_left
 ·refine AP ?_;cases s;exact Ax
 refine Ej x (fun f h (a,i) g=>⟨kp [0,2,4] f (upd 7 (Ac 1 g (List.map AR a)) (upd 8 (.v (.int .i64 i)) AK)),kh [0] h (upd 1 (A6 3 g false (List.map AR a)) AM),2⟩) 0 (ZR [(0,0)]) fun c ⟨a,i⟩ g y=> ?_
 refine AP ?_;obtain⟨k,H19⟩ |⟨k,H19⟩:=As y;rotate_left
 ·refine Ds k ?_;cases H19;exact⟨g,ZR [(0,1)]⟩
 obtain⟨m,I,J,z,H21⟩:=zI AE H19;have t:=Y2 k z;refine Z1 t ?_;obtain⟨b,H27⟩ |⟨b,H27⟩:=Cg t H21
 ·refine Ds b ?_;obtain⟨p,H29⟩ |⟨p,H29⟩:=As H27
  ·obtain⟨d,A,H31⟩:=AL H29;obtain⟨q,u⟩:=Ee A;have q:a.length+1<=4294967296:=q;have B:List.map AR a++[[.v (.string m.sub_.type_),.v (.string m.sub_.id_),.v (.string m.sub_.rel)]]=List.map AR d:=ER AR u;have C:a.length+1=d.length:=ES u;have E:d.length<=4294967296:=(by omega);have K:0<d.length:=(by omega);refine Z1 (Y6 b p q B C E) ?_;rcases a with _ |⟨L,M⟩
   ·try simp only[Lw,CW,CZ]
    exact⟨_,0,H31,ZR [(0,0),(1,31)]⟩
   try simp only[Li,CW,CZ]
   exact⟨_,(g+1),H31,ZR [(0,0),(1,1)]⟩
  refine Z1 (Y2 b p) ?_;cases H29;exact⟨g,ZR [(0,1)]⟩
 refine Ds b ?_;cases H27;exact⟨g,ZR [(0,1)]⟩
end Go.Proofs.YtnmkbmefohakmaaGreat.Ab
