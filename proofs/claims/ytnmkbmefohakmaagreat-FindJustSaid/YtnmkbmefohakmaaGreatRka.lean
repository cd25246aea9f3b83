/-
 Functions, read off the code.
-/
import Derived.Test.YtnmkbmefohakmaaGreatMkz
set_option linter.all false
namespace Go.Proofs.YtnmkbmefohakmaaGreat.Ab
open Go.RowKit IntKind
def HI (n:Nat)(a:List AC)(d:List AC):Nat->(List AC × Int × Int)->Option (List AC)
 |0,_=>none
 |c+1,(f,b,e)=>((if decide (b<(a.length:Int)) then some true else some (decide (e<(d.length:Int)))):Option (Bool)).bind fun h=>(if h then ((if (e==(d.length:Int)) then some true else (if decide (b<(a.length:Int)) then (idx a b).bind fun i=>(idx d e).bind fun j=>(WP n i j).bind fun k=>some k else some false)):Option (Bool)).bind fun m=>(if m then (idx a b).bind fun o=>(Cu f [o]).bind fun p=>HI n a d c (p,(i64.wrap (b+1)),e) else (if (b==(a.length:Int)) then (idx d e).bind fun q=>(Cu f [q]).bind fun r=>HI n a d c (r,b,(i64.wrap (e+1))) else (idx d e).bind fun g=>(idx a b).bind fun s=>(WP n g s).bind fun t=>(if t then (Cu f [g]).bind fun u=>HI n a d c (u,b,(i64.wrap (e+1))) else HI n a d c (f,(i64.wrap (b+1)),e)))) else some f)
def RN:Nat->(List AC)->Option (List AC)
 |0,_=>none
 |n+1,a=>(if decide ((a.length:Int)<2) then (Cu [] a).bind fun _=>some a else (Fd a 0 (i64.wrap (Int.tdiv (a.length:Int) 2))).bind fun b=>((RN n) b).bind fun c=>(Fd a (i64.wrap (Int.tdiv (a.length:Int) 2)) ((List.length a):Int)).bind fun d=>((RN n) d).bind fun e=>(HI n c e n ([],0,0):Option (List AC)).bind fun f=>some f)
set_option maxHeartbeats 8000000 in
theorem xh:∀ {n:Nat} {a:List AC} {r:List AC},RN n a=some r->AM Tryz.prog 15 [D.sl (List.map AE a)] (D.sl (List.map AE r)) true:=by
 intro n;induction n with
 |zero=>intro a r H;exact Zx H
 |succ n ih=>
  intro a r H;unfold RN at H;refine zP #[.tmp 2] Tryz.func15 ?_;refine AU (ZT 1 ?_);refine Z0 ?_;refine AU (ZT 1 ?_);refine Z0 ?_;rcases Ah H with⟨h,R⟩ |⟨h,R⟩
  ·have⟨l,b3,H4⟩:=AP R;have⟨P,S⟩:=Dp b3;have S:a=l:=S;subst S;have P:a.length<=4294967296:=(by have:=P;simpa using this);refine Z1 (Y4 h (QR (f:=AE) (fun _=>rfl) a) (Fm (n:=6) (f:=AE) (fun _=>rfl) a) P) ?_;obtain rfl:=Zi H4;exact Rb (Y4 h (QR (f:=AE) (fun _=>rfl) a) (Fm (n:=6) (f:=AE) (fun _=>rfl) a) P)
  refine Z1 h ?_;refine AU (ZT 1 ?_);have⟨l2,b9,H10⟩:=AP R;have⟨u,v,dd,ba⟩:=KO b9;have m:0<=Int.toNat (i64.wrap (Int.tdiv (a.length:Int) 2)):=by omega
  have o:Int.toNat (i64.wrap (Int.tdiv (a.length:Int) 2))<=(List.length a):=by omega
  have p:List.take (Int.toNat (i64.wrap (Int.tdiv (a.length:Int) 2))) (List.map AE a)=List.map AE l2:=by rw[ba];simp[NZ]
  try simp only[Li] at m o p
  have⟨Q,bb,H19⟩:=AP H10;refine Z1 (Y6 h (CC .i64 (NC u v)) m o p (Fm (n:=6) (f:=AE) (fun _=>rfl) a)) ?_;refine Ds (ih bb) ?_;have⟨l3,bd,H21⟩:=AP H19;have⟨J,df,dk,be⟩:=KO bd;have w:Int.toNat (i64.wrap (Int.tdiv (a.length:Int) 2))<=(List.length a):=by omega
  have x:(List.length a)<=(List.length a):=by omega
  have z:List.drop (Int.toNat (i64.wrap (Int.tdiv (a.length:Int) 2))) (List.map AE a)=List.map AE l3:=by rw[be];simp[List.map_drop]
  try simp only[Li] at w x z
  have⟨K,bg,H30⟩:=AP H21;refine Z1 (Y2 (Y6 h (CC .i64 (NC u v)) m o p (Fm (n:=6) (f:=AE) (fun _=>rfl) a)) (Y4 (CC .i64 J) w x z)) ?_;refine Ds (ih bg) ?_;refine Z1 (Y2 (Y6 h (CC .i64 (NC u v)) m o p (Fm (n:=6) (f:=AE) (fun _=>rfl) a)) (Y4 (CC .i64 J) w x z)) ?_;refine DD (by rfl) ?_;refine Z1 (Y2 (Y6 h (CC .i64 (NC u v)) m o p (Fm (n:=6) (f:=AE) (fun _=>rfl) a)) (Y4 (CC .i64 J) w x z)) ?_;refine AU (ZT 1 ?_);refine Z1 (Y2 (Y6 h (CC .i64 (NC u v)) m o p (Fm (n:=6) (f:=AE) (fun _=>rfl) a)) (Y4 (CC .i64 J) w x z)) ?_;refine AU (ZT 1 ?_);refine Z1 (Y2 (Y6 h (CC .i64 (NC u v)) m o p (Fm (n:=6) (f:=AE) (fun _=>rfl) a)) (Y4 (CC .i64 J) w x z)) ?_;refine AU ?_;have⟨e_,E31,H32⟩:=AP H30;refine Dw (α:={ y:List AC // e_=y } × Nat) (fun |⟨⟨T,_⟩,U⟩=>⟨upd 5 (AW 0 U (List.map AE T)) AJ,upd 0 (Am 6 U false (List.map AE T)) AK,1⟩) ?_ ?_;rotate_left
  ·rintro⟨⟨T,bl⟩,U⟩;obtain rfl:=bl.symm;try dsimp only at H32
   refine ZT 1 ?_;refine Z0 ?_;obtain rfl:=Zi H32;exact As
  refine CV ?_;refine DV (α:={ q:(Nat × (List AC × Int × Int)) × Nat // HI n Q K q.1.1 q.1.2=some e_ }) (fun |⟨⟨⟨c,⟨b,e,d⟩⟩,g⟩,_⟩=>⟨upd 3 (.d (.sl (List.map AE Q)) false) (upd 4 (.d (.sl (List.map AE K)) false) (upd 5 (AW 0 g (List.map AE b)) (upd 6 (.v (.int .i64 e)) (upd 7 (.v (.int .i64 d)) AJ)))),upd 0 (Am 6 g false (List.map AE b)) AK,1⟩) (fun q=>q.1.1.1) ⟨((n,([],0,0)),0),E31⟩ ?_ ?_
  ·exact ZR []
  rintro⟨⟨⟨c,⟨b,e,d⟩⟩,g⟩,L33⟩;rcases c with _ |c
  ·exact Zx L33
  unfold HI at L33
  try dsimp only at L33
  refine AU (AU ?_);have⟨bo,E94,H95⟩:=AP L33;refine Dw (α:={ y:Bool // bo=y } × Nat) (fun |⟨⟨aq,_⟩,s⟩=>⟨upd 3 (.d (.sl (List.map AE Q)) false) (upd 4 (.d (.sl (List.map AE K)) false) (upd 5 (AW 0 s (List.map AE b)) (upd 6 (.v (.int .i64 e)) (upd 7 (.v (.int .i64 d)) (upd 35 (.v (.bool aq)) AJ))))),upd 0 (Am 6 s false (List.map AE b)) AK,1⟩) ?_ ?_
  ·refine ZT 1 ?_;refine Z0 ?_;rcases Ah E94 with⟨V,H97⟩ |⟨V,H97⟩
   ·refine Z1 V ?_;obtain rfl:=Zi H97;exact⟨⟨⟨true,rfl⟩,g⟩,ZR [(0,0)]⟩
   refine Z1 V ?_;obtain rfl:=Zi H97;exact⟨⟨⟨(decide (d<(K.length:Int))),rfl⟩,g⟩,ZR [(0,0)]⟩
  rintro⟨⟨aq,br⟩,s⟩;obtain rfl:=br.symm;try dsimp only at H95
  refine ZT 1 ?_;refine Z0 ?_;rcases Ah H95 with⟨X,H99⟩ |⟨X,H99⟩;rotate_left
  ·refine Z1 X ?_;obtain rfl:=Zi H99;exact⟨⟨⟨b,rfl⟩,s⟩,ZR [(0,0)]⟩
  refine Z1 X ?_;refine CV ?_;refine CV ?_;refine AU ?_;have⟨bs,E100,H101⟩:=AP H99;refine Dw (α:={ y:Bool // bs=y } × Nat) (fun |⟨⟨av,_⟩,t⟩=>⟨upd 3 (.d (.sl (List.map AE Q)) false) (upd 4 (.d (.sl (List.map AE K)) false) (upd 5 (AW 0 t (List.map AE b)) (upd 6 (.v (.int .i64 e)) (upd 7 (.v (.int .i64 d)) (upd 38 (.v (.bool av)) AJ))))),upd 0 (Am 6 t false (List.map AE b)) AK,1⟩) ?_ ?_
  ·refine ZT 1 ?_;refine Z0 ?_;rcases Ah E100 with⟨j,H103⟩ |⟨j,H103⟩
   ·refine Z1 j ?_;refine DD (by rfl) ?_;refine Z1 j ?_;obtain rfl:=Zi H103;exact⟨⟨⟨true,rfl⟩,s⟩,ZR [(0,0)]⟩
   refine Z1 j ?_;rcases Ah H103 with⟨A,H105⟩ |⟨A,H105⟩
   ·have⟨x7,bx,H107⟩:=AP H105;have⟨Y,aE⟩:=F0 bx;try simp only[Int.reduceToNat,Li] at aE
    have Z:=Cz AE aE;have⟨x8,b0,H113⟩:=AP H107;have⟨aa,a0⟩:=F0 b0;try simp only[Int.reduceToNat,Li] at a0
    have ab:=Cz AE a0;have⟨b1,b2,H119⟩:=AP H113;refine Z1 (Y6 j A (CC .i64 Y) Z (CC .i64 aa) ab) ?_;refine Ds (dK b2) ?_;refine Z1 (Y6 j A (CC .i64 Y) Z (CC .i64 aa) ab) ?_;refine DD (by rfl) ?_;refine Z1 (Y6 j A (CC .i64 Y) Z (CC .i64 aa) ab) ?_;obtain rfl:=Zi H119;exact⟨⟨⟨b1,rfl⟩,s⟩,ZR [(0,0)]⟩
   refine Z1 (Y2 j A) ?_;refine DD (by rfl) ?_;refine Z1 (Y2 j A) ?_;obtain rfl:=Zi H105;exact⟨⟨⟨false,rfl⟩,s⟩,ZR [(0,0)]⟩
  rintro⟨⟨av,b4⟩,t⟩;obtain rfl:=b4.symm;try dsimp only at H101
  refine ZT 3 ?_;refine Z0 ?_;rcases Ah H101 with⟨i,H121⟩ |⟨i,H121⟩
  ·have⟨B,b5,H123⟩:=AP H121;have⟨b6,a1⟩:=F0 b5;try simp only[Int.reduceToNat,Li] at a1
   have b7:=Cz AE a1;have⟨C,b8,H129⟩:=AP H123;have⟨ad,a2⟩:=Dp b8;have ad:b.length+1<=4294967296:=ad;have cb:List.map AE b++[[.v (.string B.obj.type_),.v (.string B.obj.id_),.v (.string B.rel),.v (.string B.sub_.type_),.v (.string B.sub_.id_),.v (.string B.sub_.rel)]]=List.map AE C:=D6 AE a2;have cf:b.length+1=C.length:=D7 a2;have ch:C.length<=4294967296:=(by omega);have dl:0<C.length:=(by omega);refine Z1 (Y2 (Y6 i (CC .i64 b6) b7 ad cb cf) ch) ?_;rcases b with _ |⟨q0,q1⟩
   ·try simp only[Lu,CF,CG]
    exact⟨⟨((c,(C,(i64.wrap (e+1)),d)),0),H129⟩,ZR [(0,7)],Ls _⟩
   try simp only[Lh,CF,CG]
   exact⟨⟨((c,(C,(i64.wrap (e+1)),d)),(t+1)),H129⟩,ZR [(0,0)],Ls _⟩
  refine Z1 i ?_;rcases Ah H121 with⟨k,H137⟩ |⟨k,H137⟩
  ·refine Z1 (Y2 i k) ?_;refine DD (by rfl) ?_;have⟨E,cp,H139⟩:=AP H137;have⟨cs,a3⟩:=F0 cp;try simp only[Int.reduceToNat,Li] at a3
   have cx:=Cz AE a3;have⟨F,cN,H145⟩:=AP H139;have⟨ag,a4⟩:=Dp cN;have ag:b.length+1<=4294967296:=ag;have c0:List.map AE b++[[.v (.string E.obj.type_),.v (.string E.obj.id_),.v (.string E.rel),.v (.string E.sub_.type_),.v (.string E.sub_.id_),.v (.string E.sub_.rel)]]=List.map AE F:=D6 AE a4;have c1:b.length+1=F.length:=D7 a4;have c2:F.length<=4294967296:=(by omega);have dm:0<F.length:=(by omega);refine Z1 (Y2 (Y6 i k (CC .i64 cs) cx ag c0) (Y2 c1 c2)) ?_;rcases b with _ |⟨q0,q1⟩
   ·try simp only[Lu,CF,CG]
    exact⟨⟨((c,(F,e,(i64.wrap (d+1)))),0),H145⟩,ZR [(0,23)],Ls _⟩
   try simp only[Lh,CF,CG]
   exact⟨⟨((c,(F,e,(i64.wrap (d+1)))),(t+1)),H145⟩,ZR [(0,0)],Ls _⟩
  have⟨G,c3,H153⟩:=AP H137;have⟨L,a5⟩:=F0 c3;try simp only[Int.reduceToNat,Li] at a5
  have M:=Cz AE a5;have⟨dn,c4,H159⟩:=AP H153;have⟨N,a6⟩:=F0 c4;try simp only[Int.reduceToNat,Li] at a6
  have O:=Cz AE a6;have⟨dp,c5,H165⟩:=AP H159;refine Z1 (Y6 i k (CC .i64 L) M (CC .i64 N) O) ?_;refine Ds (dK c5) ?_;refine Z1 (Y6 i k (CC .i64 L) M (CC .i64 N) O) ?_;refine DD (by rfl) ?_;refine Z1 (Y6 i k (CC .i64 L) M (CC .i64 N) O) ?_;rcases Ah H165 with⟨ak,H167⟩ |⟨ak,H167⟩
  ·have⟨I,c6,H169⟩:=AP H167;have⟨ao,a9⟩:=Dp c6;have ao:b.length+1<=4294967296:=ao;have c7:List.map AE b++[[.v (.string G.obj.type_),.v (.string G.obj.id_),.v (.string G.rel),.v (.string G.sub_.type_),.v (.string G.sub_.id_),.v (.string G.sub_.rel)]]=List.map AE I:=D6 AE a9;have c9:b.length+1=I.length:=D7 a9;have da:I.length<=4294967296:=(by omega);have dq:0<I.length:=(by omega);refine Z1 (Y2 (Y6 i k (CC .i64 L) M (CC .i64 N) O) (Y5 ak ao c7 c9 da)) ?_;rcases b with _ |⟨q0,q1⟩
   ·try simp only[Lu,CF,CG]
    exact⟨⟨((c,(I,e,(i64.wrap (d+1)))),0),H169⟩,ZR [(0,23)],Ls _⟩
   try simp only[Lh,CF,CG]
   exact⟨⟨((c,(I,e,(i64.wrap (d+1)))),(t+1)),H169⟩,ZR [(0,0)],Ls _⟩
  refine Z1 (Y2 (Y6 i k (CC .i64 L) M (CC .i64 N) O) ak) ?_;exact⟨⟨((c,(b,(i64.wrap (e+1)),d)),t),H167⟩,ZR [(0,0)],Ls _⟩
def xL_ (n:Nat)(l:List AG)(i:Int):Nat->Int->Option ((Unit) ⊕ Bool)
 |0,_=>none
 |c+1,a=>(if decide (a<i) then (idx l a).bind fun b=>(idx l i).bind fun d=>(if (b.name.toList==d.name.toList) then some (.inr true) else xL_ n l i c (i64.wrap (a+1))) else some (.inl ()))
def TT (n:Nat)(l:List AG)(i:Int)(a:Int):Nat->Int->Option ((Unit) ⊕ Bool)
 |0,_=>none
 |c+1,b=>(if decide (b<a) then (idx l i).bind fun d=>(idx d.rels b).bind fun e=>(idx d.rels a).bind fun f=>(if (e.name.toList==f.name.toList) then some (.inr true) else TT n l i a c (i64.wrap (b+1))) else some (.inl ()))
def xN_ (n:Nat)(l:List AG)(i:Int):Nat->Int->Option ((Unit) ⊕ Bool)
 |0,_=>none
 |c+1,a=>(idx l i).bind fun b=>(if decide (a<(b.rels.length:Int)) then (TT n l i a n 0:Option ((Unit) ⊕ Bool)).bind fun | .inl _=>xN_ n l i c (i64.wrap (a+1)) | .inr r=>some (.inr r) else some (.inl ()))
def TU (n:Nat)(l:List AG):Nat->Int->Option ((Unit) ⊕ Bool)
 |0,_=>none
 |c+1,i=>
  (if (decide (i<(l.length:Int))) then
   (
    xL_ n l i n 0:Option ((Unit) ⊕ Bool)).bind fun
    | .inl _=>
     (
      xN_ n l i n 0:Option ((Unit) ⊕ Bool)).bind fun
      | .inl _=>
       TU n l c (i64.wrap (i+1))
      | .inr r=>some (.inr r)
    | .inr r=>some (.inr r)
  else
   some (.inl ()))
def V6 (n:Nat)(l:List AG):Option Bool:=(TU n l n 0:Option ((Unit) ⊕ Bool)).bind fun
  | .inl _=>some false
  | .inr r=>some r
variable {l:List AG}{n:Nat}
set_option maxHeartbeats 8000000 in
theorem xi {r:Bool}(H:V6 n l=some r):AM Tryz.prog 38 [D.sl (List.map AS l)] (D.v (.bool r)) true:=by
 unfold V6 at H;refine zP #[.tmp 2] Tryz.func38 ?_;refine JA ?_;refine zi H (fun _ _ _=>⟨AJ,AK,0⟩) (fun B t a=> ?_) fun _ a=> ?_;rotate_left
 ·refine AQ ?_;cases a;exact As
 refine D9 t (fun f _ i=>⟨kp [0] f (upd 3 (.v (.int .i64 i)) AJ),AK,0⟩) (ZR []) fun c i u=> ?_
 refine Ax ?_;obtain⟨b,H83⟩ |⟨b,H83⟩:=Ah u;rotate_left
 ·refine Z1 b ?_;cases H83;exact⟨_,rfl,ZR []⟩
 refine Z1 b ?_;refine AU (CV ?_);refine AU (AU ?_);refine ES b ?_;refine zi H83 (fun f _ _=>⟨kp [0,3] f AJ,AK,0⟩) (fun C E84 H85=> ?_) fun _ H85=> ?_
 ·refine D9 E84 (fun f _ m=>⟨kp [0,3] f (upd 4 (.v (.int .i64 m)) AJ),AK,0⟩) (ZR []) fun c m L86=> ?_
  refine AQ ?_;obtain⟨d,H104⟩ |⟨d,H104⟩:=Ah L86
  ·obtain⟨E,F,G,v,H106⟩:=zI AS H104;obtain⟨I,J,K,w,H112⟩:=zI AS H106;have o:=Y3 d v w;refine Dj o ?_;obtain⟨e,H118⟩ |⟨e,H118⟩:=Cb o H112
   ·refine Z1 e ?_;cases H118;cases H85;cases a;exact As
   refine Z1 e ?_;exact⟨_,H118,ZR []⟩
  refine Z1 d ?_;cases H104;exact⟨_,rfl,ZR []⟩
 refine Ax ?_;refine zi H85 (fun f _ _=>⟨kp [0,3] f AJ,AK,0⟩) (fun L E119 H120=> ?_) fun _ H120=> ?_;rotate_left
 ·refine FN ?_;exact⟨_,H120,ZR []⟩
 refine D9 E119 (fun f _ p=>⟨kp [0,3] f (upd 5 (.v (.int .i64 p)) AJ),AK,0⟩) (ZR []) fun c p L121=> ?_
 refine AU (ZT 1 ?_);obtain⟨M,N,O,g,H135⟩:=zI AS L121;refine Z1 g ?_;obtain⟨h,H141⟩ |⟨h,H141⟩:=Ah H135
 ·have x:=Y2 g h;refine MX x ?_;refine zi H141 (fun f _ _=>⟨kp [0,3,5] f AJ,AK,0⟩) (fun P E142 H143=> ?_) fun _ H143=> ?_
  ·refine D9 E142 (fun f _ q=>⟨kp [0,3,5] f (upd 6 (.v (.int .i64 q)) AJ),AK,0⟩) (ZR []) fun c q L144=> ?_
   refine AQ ?_;obtain⟨j,H168⟩ |⟨j,H168⟩:=Ah L144
   ·obtain⟨Q,R,S,y,H170⟩:=zI AS H168;obtain⟨T,U,V,z,H176⟩:=zI Al H170;obtain⟨X,Y,Z,A,H182⟩:=zI Al H176;have s:=Y4 j y z A;refine Dj s ?_;obtain⟨k,H188⟩ |⟨k,H188⟩:=Cb s H182
    ·refine Z1 k ?_;cases H188;cases H143;cases H120;cases a;exact As
    refine Z1 k ?_;exact⟨_,H188,ZR []⟩
   refine Z1 j ?_;cases H168;exact⟨_,rfl,ZR []⟩
  refine FN ?_;exact⟨_,H143,ZR []⟩
 refine Z1 (Y2 g h) ?_;cases H141;exact⟨_,rfl,ZR []⟩
def V7 (n:Nat)(l:List AG)(s:AX)(a:AZ × Bool):Nat->Int->Option ((Unit) ⊕ Int)
 |0,_=>none
 |c+1,i=>(if decide (i<(a.1.subs.length:Int)) then (idx a.1.subs i).bind fun b=>(G4 n l b.type_ s.b).bind fun d=>(if d.2 then (if (b.rel.toList==({ data:= #[] }:ByteArray).toList) then V7 n l s a c (i64.wrap (i+1)) else some (.inr 13)) else some (.inr 13)) else some (.inl ()))
def TV (n:Nat)(l:List AG)(t:ByteArray)(s:AX):Option Int:=(G4 n l t s.a).bind fun a=>(if a.2 then (if decide (0<(a.1.expr.length:Int)) then some 13 else (V7 n l s a n 0:Option ((Unit) ⊕ Int)).bind fun
    | .inl _=>some 0
    | .inr r=>some r) else some 12)
theorem xj {t:ByteArray}{s:AX}{r:Int}(H:TV n l t s=some r):AM Tryz.prog 75 [D.sl (List.map AS l),D.v (.string t),D.ag (AY s)] (D.v (.int .i64 r)) true:=by
 unfold TV at H;refine zP #[.tmp 6] Tryz.func75 ?_;refine Ax ?_;refine AU (ZT 1 ?_);obtain⟨e,q,u⟩:=AP H;refine Z0 ?_;refine CT (KW q) ?_;refine DQ ?_;refine Z0 ?_;obtain⟨a,g⟩ |⟨a,g⟩:=Ah u;rotate_left
 ·refine Z1 a ?_;cases g;exact As
 refine Gt a ?_;obtain⟨j,k⟩ |⟨j,k⟩:=Ah g
 ·refine Z1 (Y2 a j) ?_;cases k;exact As
 have v:=Y2 a j;refine HK v ?_;refine zi k (fun _ _ _=>⟨AJ,AK,0⟩) (fun A w b=> ?_) fun _ b=> ?_
 ·refine D9 w (fun f h i=>⟨kp [0,5] f (upd 7 (.pt 1 0) (upd 9 (.v (.int .i64 i)) AJ)),kh [0] h (upd 1 (some (.bx [.v (.string e.1.name),.d (.sl (List.map AR e.1.subs)) true,.d (.sl (List.map AY e.1.expr)) true])) AK),2⟩) (ZR [(0,0),(1,10)]) fun c i x=> ?_
  refine AQ ?_;obtain⟨m,H25⟩ |⟨m,H25⟩:=Ah x
  ·obtain⟨B,C,E,y,H27⟩:=zI AR H25;obtain⟨F,z,H33⟩:=AP H27;have o:=Y2 m y;refine Z1 o ?_;refine Ds (KW z) ?_;refine Dj o ?_;obtain⟨d,H35⟩ |⟨d,H35⟩:=Cb o H33
   ·refine Z1 d ?_;obtain⟨p,H37⟩ |⟨p,H37⟩:=Cb d H35
    ·refine Z1 p ?_;exact⟨_,H37,ZR [(0,0),(1,1)]⟩
    refine Z1 p ?_;cases H37;cases b;exact As
   refine Z1 d ?_;cases H35;cases b;exact As
  refine Z1 m ?_;cases H25;exact⟨_,rfl,ZR []⟩
 refine AQ ?_;cases b;exact As
def xP_ (n:Nat)(t0:List AG)(a:AZ):Nat->Int->Option ((Unit) ⊕ Int)
 |0,_=>none
 |c+1,b=>(if decide (b<(a.subs.length:Int)) then (idx a.subs b).bind fun d=>(PP n t0 d.type_ ({ data:= #[] })).bind fun e=>(if decide (e.1<0) then some (.inr 12) else (G4 n t0 d.type_ d.rel).bind fun f=>(if (d.rel.toList==({ data:= #[] }:ByteArray).toList) then xP_ n t0 a c (i64.wrap (b+1)) else (if f.2 then xP_ n t0 a c (i64.wrap (b+1)) else some (.inr 12)))) else some (.inl ()))
def V8 (n:Nat)(t0:List AG)(_:AZ)(a:Unit)(x2:AL)(k:Unit->Option ((Unit) ⊕ Int)):Option ((Unit) ⊕ Int):=
 match a with
 |_=>
  (PP n t0 x2.type_ ({ data:= #[] })).bind fun b=>
  (if (decide (b.1<0)) then
   some (.inr 12)
  else
   (G4 n t0 x2.type_ x2.rel).bind fun c=>
   (if (x2.rel.toList==({ data:= #[] }:ByteArray).toList) then
    k ()
   else
    (if c.2 then
     k ()
    else
     some (.inr 12))))
def Yt (_:Nat)(_:List AG)(_:AZ)(a:Unit):Option ((Unit) ⊕ Int):=
 match a with
 |_=>some (.inl ())
theorem xk (n:Nat)(t0:List AG)(a:AZ)(e:a.subs.length<4611686018427387904)(c:Nat)(d:Unit)(b:Nat)(f:b<=a.subs.length)(g:a.subs.length-b<c):xP_ n t0 a c (match d,(b:Int) with |_,b=>b)=DP (V8 n t0 a) (Yt n t0 a) (a.subs.drop b) d:=
 Gl (fun c d b=>xP_ n t0 a c (match d,b with |_,b=>b)) a.subs (V8 n t0 a) (Yt n t0 a) (fun _ _ _=>rfl) e c d b f g
def xg_ (n:Nat)(t0:List AG)(a:ByteArray)(b:AZ):Nat->Int->Option ((Unit) ⊕ Int)
 |0,_=>none
 |c+1,d=>(if decide (d<(b.expr.length:Int)) then (idx b.expr d).bind fun e=>(if (e.kind==1) then (G4 n t0 a e.a).bind fun g=>(if g.2 then xg_ n t0 a b c (i64.wrap (d+1)) else some (.inr 12)) else (if (e.kind==2) then (TV n t0 a e).bind fun f=>(if (f != 0) then some (.inr f) else xg_ n t0 a b c (i64.wrap (d+1))) else xg_ n t0 a b c (i64.wrap (d+1)))) else some (.inl ()))
def V9 (n:Nat)(t0:List AG)(b:ByteArray)(_:AZ)(d:Unit)(a:AX)(k:Unit->Option ((Unit) ⊕ Int)):Option ((Unit) ⊕ Int):=
 match d with
 |_=>
  (if (a.kind==1) then
   (G4 n t0 b a.a).bind fun e=>
   (if e.2 then
    k ()
   else
    some (.inr 12))
  else
   (if (a.kind==2) then
    (TV n t0 b a).bind fun c=>
    (if (c != 0) then
     some (.inr c)
    else
     k ())
   else
    k ()))
def Yu (_:Nat)(_:List AG)(_:ByteArray)(_:AZ)(a:Unit):Option ((Unit) ⊕ Int):=
 match a with
 |_=>some (.inl ())
theorem xl (n:Nat)(t0:List AG)(d:ByteArray)(a:AZ)(f:a.expr.length<4611686018427387904)(c:Nat)(e:Unit)(b:Nat)(g:b<=a.expr.length)(h:a.expr.length-b<c):xg_ n t0 d a c (match e,(b:Int) with |_,b=>b)=DP (V9 n t0 d a) (Yu n t0 d a) (a.expr.drop b) e:=
 Gl (fun c e b=>xg_ n t0 d a c (match e,b with |_,b=>b)) a.expr (V9 n t0 d a) (Yu n t0 d a) (fun _ _ _=>rfl) f c e b g h
def WA (n:Nat)(t0:List AG)(b:ByteArray)(a:AZ):Option Int:=
 (
  xP_ n t0 a n 0:Option ((Unit) ⊕ Int)).bind fun
  | .inl _=>
   (
    xg_ n t0 b a n 0:Option ((Unit) ⊕ Int)).bind fun
    | .inl _=>
     some 0
    | .inr r=>some r
  | .inr r=>some r
theorem xm {t0:List AG}{q:ByteArray}{s:AZ}{r:Int}(H:WA n t0 q s=some r):AM Tryz.prog 39 [D.sl (List.map AS t0),D.v (.string q),D.ag (Al s)] (D.v (.int .i64 r)) true:=by
 unfold WA at H;refine zP #[.tmp 6] Tryz.func39 ?_;refine JA ?_;refine zi H (fun f h _=>⟨kp [0,1,5] f AJ,kh [0] h AK,1⟩) (fun F w e=> ?_) fun _ e=> ?_
 ·refine D9 w (fun f h t=>⟨kp [0,1,5] f (upd 7 (.v (.int .i64 t)) AJ),kh [0] h AK,1⟩) (ZR [(0,0)]) fun c t x=> ?_
  refine AQ ?_;obtain⟨i,H23⟩ |⟨i,H23⟩:=Ah x
  ·obtain⟨G,I,J,y,H25⟩:=zI AR H23;obtain⟨K,z,H31⟩:=AP H25;have j:=Y2 i y;refine Z1 j ?_;refine CT (mK z) ?_;refine Z1 j ?_;obtain⟨b,H33⟩ |⟨b,H33⟩:=Cb j H31
   ·refine Z1 b ?_;cases H33;cases e;exact As
   obtain⟨L,A,H35⟩:=AP H33;refine Z1 b ?_;refine CT (KW A) ?_;refine Z1 b ?_;obtain⟨g,H37⟩ |⟨g,H37⟩:=Cb b H35
   ·refine Z1 g ?_;exact⟨_,H37,ZR [(0,0)]⟩
   refine Z1 g ?_;obtain⟨k,H39⟩ |⟨k,H39⟩:=Cb g H37
   ·refine Z1 k ?_;exact⟨_,H39,ZR [(0,0)]⟩
   refine Z1 k ?_;cases H39;cases e;exact As
  refine Z1 i ?_;cases H23;exact⟨_,rfl,ZR [(0,0)]⟩
 refine Dy ?_;refine zi e (fun _ _ _=>⟨AJ,AK,0⟩) (fun M E40 H41=> ?_) fun _ H41=> ?_;rotate_left
 ·refine AQ ?_;cases H41;exact As
 refine D9 E40 (fun f h u=>⟨kp [0,1,5] f (upd 13 (.v (.int .i64 u)) AJ),kh [0] h AK,1⟩) (ZR [(0,0)]) fun c u L42=> ?_
 refine AQ ?_;obtain⟨m,H64⟩ |⟨m,H64⟩:=Ah L42;rotate_left
 ·refine Z1 m ?_;cases H64;exact⟨_,rfl,ZR []⟩
 obtain⟨N,O,P,B,H66⟩:=zI AY H64;have v:=Y2 m B;refine Z1 v ?_;obtain⟨a,H72⟩ |⟨a,H72⟩:=Cb v H66
 ·obtain⟨Q,C,H74⟩:=AP H72;refine Z1 a ?_;refine CT (KW C) ?_;refine Z1 a ?_;obtain⟨o,H76⟩ |⟨o,H76⟩:=Cb a H74
  ·refine Z1 o ?_;exact⟨_,H76,ZR [(0,0)]⟩
  refine Z1 o ?_;cases H76;cases H41;exact As
 refine Z1 a ?_;obtain⟨d,H78⟩ |⟨d,H78⟩:=Cb a H72
 ·obtain⟨R,E,H80⟩:=AP H78;refine Z1 d ?_;refine CT (xj E) ?_;refine Z1 d ?_;obtain⟨p,H82⟩ |⟨p,H82⟩:=Cb d H80
  ·refine Z1 p ?_;cases H82;cases H41;exact As
  refine Z1 p ?_;exact⟨_,H82,ZR [(0,0)]⟩
 refine Z1 d ?_;exact⟨_,H78,ZR [(0,0)]⟩
def TW (n:Nat)(l:List AG)(i:Int):Nat->(List Ai × Int)->Option (List Ai)
 |0,_=>none
 |c+1,(d,a)=>(idx l i).bind fun b=>(if decide (a<(b.rels.length:Int)) then (idx b.rels a).bind fun e=>(Cu d [(⟨b.name,e.name⟩:Ai)]).bind fun f=>TW n l i c (f,(i64.wrap (a+1))) else some d)
def TX (n:Nat)(l:List AG):Nat->(List Ai × Int)->Option (List Ai)
 |0,_=>none
 |c+1,(a,i)=>(if decide (i<(l.length:Int)) then (TW n l i n (a,0):Option (List Ai)).bind fun b=>TX n l c (b,(i64.wrap (i+1))) else some a)
def TY (n:Nat)(l:List AG):Option (List Ai):=(TX n l n ([],0):Option (List Ai)).bind fun a=>some a
theorem xn {r:List Ai}(H:TY n l=some r):AM Tryz.prog 76 [D.sl (List.map AS l)] (D.sl (List.map CK r)) true:=by
 unfold TY at H;refine zP #[.tmp 2] Tryz.func76 ?_;refine Dg ?_;refine Dy ?_;refine EJ H (fun _ _ h j=>⟨upd 3 (AW 0 j (List.map CK h)) AJ,upd 0 (Am 2 j false (List.map CK h)) AK,1⟩) (fun I x t=> ?_) fun h j t=> ?_;rotate_left
 ·refine AQ ?_;cases t;exact As
 refine DL x (fun f _ (k,i) b=>⟨kp [0] f (upd 3 (AW 0 b (List.map CK k)) (upd 4 (.v (.int .i64 i)) AJ)),upd 0 (Am 2 b false (List.map CK k)) AK,1⟩) 0 (ZR []) fun c ⟨k,i⟩ b y=> ?_
 refine Ax ?_;obtain⟨m,H47⟩ |⟨m,H47⟩:=Ah y;rotate_left
 ·refine Z1 m ?_;cases H47;exact⟨b,ZR [(0,0)]⟩
 refine MX m ?_;refine EJ H47 (fun f _ o e=>⟨kp [0,4] f (upd 3 (AW 0 e (List.map CK o)) AJ),upd 0 (Am 2 e false (List.map CK o)) AK,1⟩) (fun J E48 H49=> ?_) fun o e H49=> ?_
 ·refine DL E48 (fun f _ (a,u) d=>⟨kp [0,4] f (upd 3 (AW 0 d (List.map CK a)) (upd 5 (.v (.int .i64 u)) AJ)),upd 0 (Am 2 d false (List.map CK a)) AK,1⟩) b (ZR [(0,0)]) fun c ⟨a,u⟩ d L50=> ?_
  refine ZT 1 ?_;obtain⟨z,K,L,p,H74⟩:=zI AS L50;refine Z1 p ?_;obtain⟨q,H80⟩ |⟨q,H80⟩:=Ah H74
  ·obtain⟨A,M,N,B,H82⟩:=zI Al H80;obtain⟨g,C,H88⟩:=AP H82;obtain⟨s,v⟩:=Dp C;have s:a.length+1<=4294967296:=s;have E:List.map CK a++[[.v (.string z.name),.v (.string A.name)]]=List.map CK g:=D6 CK v;have F:a.length+1=g.length:=D7 v;have G:g.length<=4294967296:=(by omega);have O:0<g.length:=(by omega);have w:=Y2 (Y6 p q B s E F) G;refine Z1 w ?_;refine DD (by (cases a<;>rfl)) ?_;refine Z1 w ?_;rcases a with _ |⟨P,Q⟩
   ·try simp only[Lu,CF,CG]
    exact⟨_,0,H88,ZR [(0,26)]⟩
   try simp only[Lh,CF,CG]
   exact⟨_,(d+1),H88,ZR [(0,0)]⟩
  refine Z1 (Y2 p q) ?_;cases H80;exact⟨d,ZR [(0,0)]⟩
 refine FN ?_;exact⟨_,e,H49,ZR [(0,0)]⟩
def Pg:Nat->(List AX)->Int->Option Int
 |0,_,_=>none
 |n+1,x,a=>(idx x a).bind fun b=>((if (b.kind==1) then some (.inr a) else (if (b.kind==2) then some (.inr a) else some (.inl ()))):Option ((Unit) ⊕ Int)).bind fun | .inl _=>((Pg n) x (i64.wrap (a-1))).bind fun c=>((Pg n) x (i64.wrap (c-1))).bind fun d=>some d | .inr r=>some r
theorem xo:∀ {n:Nat} {x:List AX} {a:Int} {r:Int},Pg n x a=some r->AM Tryz.prog 107 [D.sl (List.map AY x),D.v (.int .i64 a)] (D.v (.int .i64 r)) true:=by
 intro n;induction n with
 |zero=>intro x a r H;exact Zx H
 |succ n e=>
  intro x a r H;unfold Pg at H;refine zP #[.tmp 4] Tryz.func107 ?_;refine AU (ZT 1 ?_);refine Z0 ?_;refine AU (AU ?_);refine ZT 1 ?_;have⟨s,g,h⟩:=AP H;have⟨i,f⟩:=F0 g;try simp only[Int.reduceToNat,Li] at f
  have j:=Cz AY f;refine Z1 (Y2 (CC .i64 i) j) ?_;have⟨k,m,c⟩:=AP h;refine Dw (α:={ y:Unit // k= .inl y }) (fun |⟨_,_⟩=>⟨upd 0 (.d (.sl (List.map AY x)) true) (upd 1 (.v (.int .i64 a)) AJ),AK,0⟩) ?_ ?_
  ·refine ZT 1 ?_;refine Z0 ?_;rcases Ah m with⟨b,H10⟩ |⟨b,H10⟩
   ·refine Z1 b ?_;obtain rfl:=Zi H10;obtain rfl:=Zi c;exact As
   refine Z1 b ?_;rcases Ah H10 with⟨d,H12⟩ |⟨d,H12⟩
   ·refine Z1 (Y2 b d) ?_;obtain rfl:=Zi H12;obtain rfl:=Zi c;exact As
   refine Z1 (Y2 b d) ?_;obtain rfl:=Zi H12;exact⟨⟨(),rfl⟩,ZR []⟩
  rintro⟨_,o⟩;obtain rfl:=o.symm;try dsimp only at c
  refine ZT 1 ?_;have⟨t,p,H14⟩:=AP c;refine Z0 ?_;refine CT (e p) ?_;have⟨u,q,H16⟩:=AP H14;refine Z0 ?_;refine CT (e q) ?_;refine Z0 ?_;obtain rfl:=Zi H16;exact As
def MT (n:Nat)(a:AZ × Bool):Nat->(List An × Int)->Option (List An)
 |0,_=>none
 |c+1,(d,b)=>(if decide (b<(a.1.subs.length:Int)) then (idx a.1.subs b).bind fun e=>(if (e.rel.toList==({ data:= #[] }:ByteArray).toList) then MT n a c (d,(i64.wrap (b+1))) else (Cu d [(⟨e.type_,e.rel,false⟩:An)]).bind fun l=>MT n a c (l,(i64.wrap (b+1)))) else some d)
def RO (n:Nat)(d:Int):Nat->(List Bool × Int)->Option (List Bool)
 |0,_=>none
 |c+1,(b,a)=>(if decide (a<d) then (idx b a).bind fun _=>(some (List.set b (Int.toNat a) true)).bind fun e=>RO n d c (e,(i64.wrap (a+1))) else some b)
def Hi (n:Nat)(b:AZ × Bool):Nat->(List Bool × Int)->Option (List Bool)
 |0,_=>none
 |c+1,(d,a)=>(if decide (a<(b.1.expr.length:Int)) then (idx b.1.expr a).bind fun e=>(if (e.kind==4) then (Pg n b.1.expr (i64.wrap (a-1))).bind fun f=>(RO n a n (d,f):Option (List Bool)).bind fun g=>Hi n b c (g,(i64.wrap (a+1))) else Hi n b c (d,(i64.wrap (a+1)))) else some d)
def Ph (n:Nat)(e:List Bool)(f:Int)(g:AX)(a:AZ × Bool):Nat->(List An × Int)->Option (List An)
 |0,_=>none
 |c+1,(b,d)=>(if decide (d<(a.1.subs.length:Int)) then (idx a.1.subs d).bind fun h=>(idx e f).bind fun i=>(Cu b [(⟨h.type_,g.b,i⟩:An)]).bind fun j=>Ph n e f g a c (j,(i64.wrap (d+1))) else Cy (decide (0<b.length))<| some b)
def Kd (n:Nat)(t0:List AG)(b:ByteArray)(f:AZ × Bool)(d:List Bool):Nat->(List An × Int)->Option (List An)
 |0,_=>none
 |c+1,(g,a)=>(if decide (a<(f.1.expr.length:Int)) then (idx f.1.expr a).bind fun e=>(if (e.kind==1) then (idx d a).bind fun i=>(Cu g [(⟨b,e.a,i⟩:An)]).bind fun j=>Kd n t0 b f d c (j,(i64.wrap (a+1))) else (if (e.kind==2) then (G4 n t0 b e.a).bind fun k=>(idx d a).bind fun m=>(Cu g [(⟨b,e.a,m⟩:An)]).bind fun o=>(Ph n d a e k n (o,0):Option (List An)).bind fun h=>Cy (decide (0<h.length))<| Kd n t0 b f d c (h,(i64.wrap (a+1))) else Kd n t0 b f d c (g,(i64.wrap (a+1))))) else some g)
def G5 (n:Nat)(t0:List AG)(b:ByteArray)(c:ByteArray):Option (List An):=(G4 n t0 b c).bind fun a=>(MT n a n ([],0):Option (List An)).bind fun d=>(PS (a.1.expr.length:Int)).bind fun e=>(Hi n a n (e,0):Option (List Bool)).bind fun f=>(Kd n t0 b a f n (d,0):Option (List An)).bind fun g=>some g
set_option maxHeartbeats 8000000 in
theorem xp {t0:List AG}{i:ByteArray}{t2:ByteArray}{r:List An}(H:G5 n t0 i t2=some r):AM Tryz.prog 77 [D.sl (List.map AS t0),D.v (.string i),D.v (.string t2)] (D.sl (List.map Ao r)) true:=by
 unfold G5 at H;refine zP #[.tmp 6] Tryz.func77 ?_;refine AU (ZT 1 ?_);refine Z0 ?_;refine AU (ZT 1 ?_);have⟨a,b1,H2⟩:=AP H;refine Z0 ?_;refine CT (KW b1) ?_;refine Z0 ?_;refine AU (ZT 1 ?_);refine Z0 ?_;refine AU (AU ?_);refine ZT 1 ?_;refine Z0 ?_;have⟨e_,E3,H4⟩:=AP H2;refine Dw (α:={ y:List An // e_=y } × Nat) (fun |⟨⟨j,_⟩,S⟩=>⟨upd 0 (.d (.sl (List.map AS t0)) true) (upd 1 (.v (.string i)) (upd 7 (.pt 0 0) (upd 9 (AW 1 S (List.map Ao j)) AJ))),upd 0 (some (.bx [.v (.string a.1.name),.d (.sl (List.map AR a.1.subs)) true,.d (.sl (List.map AY a.1.expr)) true])) (upd 1 (Am 3 S false (List.map Ao j)) AK),2⟩) ?_ ?_
 ·refine CV ?_;refine DV (α:={ q:(Nat × (List An × Int)) × Nat // MT n a q.1.1 q.1.2=some e_ }) (fun |⟨⟨⟨c,⟨o,L⟩⟩,g⟩,_⟩=>⟨upd 0 (.d (.sl (List.map AS t0)) true) (upd 1 (.v (.string i)) (upd 7 (.pt 0 0) (upd 9 (AW 1 g (List.map Ao o)) (upd 10 (.v (.int .i64 L)) AJ)))),upd 0 (some (.bx [.v (.string a.1.name),.d (.sl (List.map AR a.1.subs)) true,.d (.sl (List.map AY a.1.expr)) true])) (upd 1 (Am 3 g false (List.map Ao o)) AK),2⟩) (fun q=>q.1.1.1) ⟨((n,([],0)),0),E3⟩ ?_ ?_
  ·exact ZR [(0,8)]
  rintro⟨⟨⟨c,⟨o,L⟩⟩,g⟩,T⟩;rcases c with _ |c
  ·exact Zx T
  unfold MT at T
  try dsimp only at T
  refine ZT 1 ?_;refine Z0 ?_;rcases Ah T with⟨B,H17⟩ |⟨B,H17⟩
  ·have⟨x2,da,H19⟩:=AP H17;have⟨U,bg⟩:=F0 da;try simp only[Int.reduceToNat,Li] at bg
   have V:=Cz AR bg;refine Z1 (Y3 B (CC .i64 U) V) ?_;rcases Ah H19 with⟨X,H25⟩ |⟨X,H25⟩
   ·refine Z1 (Y4 B (CC .i64 U) V X) ?_;exact⟨⟨((c,(o,(i64.wrap (L+1)))),g),H25⟩,ZR [(0,0),(1,1)],Ls _⟩
   have⟨l,dd,H27⟩:=AP H25;have⟨Y,bl⟩:=Dp dd;have Y:o.length+1<=4294967296:=Y;have bo:List.map Ao o++[[.v (.string x2.type_),.v (.string x2.rel),.v (.bool false)]]=List.map Ao l:=D6 Ao bl;have br:o.length+1=l.length:=D7 bl;have bs:l.length<=4294967296:=(by omega);have ex:0<l.length:=(by omega);refine Z1 (Y2 (Y6 B (CC .i64 U) V X Y bo) (Y2 br bs)) ?_;refine DD (by (cases o<;>rfl)) ?_;refine Z1 (Y2 (Y6 B (CC .i64 U) V X Y bo) (Y2 br bs)) ?_;rcases o with _ |⟨q0,q1⟩
   ·try simp only[Lu,CF,CG]
    exact⟨⟨((c,(l,(i64.wrap (L+1)))),0),H27⟩,ZR [(0,0),(1,29)],Ls _⟩
   try simp only[Lh,CF,CG]
   exact⟨⟨((c,(l,(i64.wrap (L+1)))),(g+1)),H27⟩,ZR [(0,0),(1,1)],Ls _⟩
  refine Z1 B ?_;obtain rfl:=Zi H17;exact⟨⟨⟨o,rfl⟩,g⟩,ZR [(0,0),(1,1)]⟩
 rintro⟨⟨j,df⟩,S⟩;obtain rfl:=df.symm;try dsimp only at H4
 refine AU (ZT 1 ?_);have⟨l2,dk,H35⟩:=AP H4;have⟨dl,dm,dn⟩:=mX dk;try simp -implicitDefEqProofs only[go_sem,Nat.reduceLT,Nat.reduceEqDiff,Nat.reduceAdd,Nat.reduceLeDiff,reduceCtorEq, ↓reduceIte,(dl .i64),dm,dn,Lc]
 refine AU (AU ?_);refine ZT 1 ?_;try simp -implicitDefEqProofs only[go_sem,Nat.reduceAdd]
 have⟨bx,E39,H40⟩:=AP H35;refine Dw (α:={ y:List Bool // bx=y } × Nat) (fun |⟨⟨k,_⟩,Z⟩=>⟨upd 0 (.d (.sl (List.map AS t0)) true) (upd 1 (.v (.string i)) (upd 7 (.pt 0 0) (upd 9 (AW 1 Z (List.map Ao j)) (upd 11 (.so 2 0 0 (k.length)) AJ)))),upd 0 (some (.bx [.v (.string a.1.name),.d (.sl (List.map AR a.1.subs)) true,.d (.sl (List.map AY a.1.expr)) true])) (upd 1 (Am 3 Z false (List.map Ao j)) (upd 2 (some (.rw (List.map eB k) 1 0 false false)) AK)),3⟩) ?_ ?_
 ·refine CV ?_;refine DV (α:={ q:(Nat × (List Bool × Int)) × Nat // Hi n a q.1.1 q.1.2=some bx }) (fun |⟨⟨⟨c,⟨C,x⟩⟩,E⟩,_⟩=>⟨upd 0 (.d (.sl (List.map AS t0)) true) (upd 1 (.v (.string i)) (upd 7 (.pt 0 0) (upd 9 (AW 1 E (List.map Ao j)) (upd 11 (.so 2 0 0 (C.length)) (upd 12 (.v (.int .i64 x)) AJ))))),upd 0 (some (.bx [.v (.string a.1.name),.d (.sl (List.map AR a.1.subs)) true,.d (.sl (List.map AY a.1.expr)) true])) (upd 1 (Am 3 E false (List.map Ao j)) (upd 2 (some (.rw (List.map eB C) 1 0 false false)) AK)),3⟩) (fun q=>q.1.1.1) ⟨((n,(l2,0)),S),E39⟩ ?_ ?_
  ·exact ZR [(0,0),(1,1),(2,5)]
  rintro⟨⟨⟨c,⟨C,x⟩⟩,E⟩,L41⟩;rcases c with _ |c
  ·exact Zx L41
  unfold Hi at L41
  try dsimp only at L41
  refine AU (ZT 1 ?_);refine Z0 ?_;rcases Ah L41 with⟨p,H89⟩ |⟨p,H89⟩;rotate_left
  ·refine Z1 p ?_;obtain rfl:=Zi H89;exact⟨⟨⟨C,rfl⟩,E⟩,ZR [(0,0),(1,1),(2,2)]⟩
  refine Z1 p ?_;refine AU (CV ?_);refine AU (ZT 1 ?_);have⟨x6,dp,H91⟩:=AP H89;have⟨F,b0⟩:=F0 dp;try simp only[Int.reduceToNat,Li] at b0
  have G:=Cz AY b0;refine Z1 (Y3 p (CC .i64 F) G) ?_;rcases Ah H91 with⟨t,H97⟩ |⟨t,H97⟩;rotate_left
  ·refine DI (by rfl) t ?_;refine Z1 (Y4 p (CC .i64 F) G t) ?_;refine ZT 3 ?_;refine Z1 (Y4 p (CC .i64 F) G t) ?_;exact⟨⟨((c,(C,(i64.wrap (x+1)))),E),H97⟩,ZR [(0,0),(1,1),(2,2)],Ls _⟩
  refine ED (by rfl) t ?_;refine Z1 (Y4 p (CC .i64 F) G t) ?_;refine AU (ZT 1 ?_);have⟨dq,dr,H99⟩:=AP H97;refine Z1 (Y4 p (CC .i64 F) G t) ?_;refine CT (xo dr) ?_;refine Z1 (Y4 p (CC .i64 F) G t) ?_;have⟨b2,E100,H101⟩:=AP H99;refine Dw (α:={ y:List Bool // b2=y } × Nat) (fun |⟨⟨aa,_⟩,ab⟩=>⟨upd 0 (.d (.sl (List.map AS t0)) true) (upd 1 (.v (.string i)) (upd 7 (.pt 0 0) (upd 9 (AW 1 ab (List.map Ao j)) (upd 11 (.so 2 0 0 (aa.length)) (upd 12 (.v (.int .i64 x)) AJ))))),upd 0 (some (.bx [.v (.string a.1.name),.d (.sl (List.map AR a.1.subs)) true,.d (.sl (List.map AY a.1.expr)) true])) (upd 1 (Am 3 ab false (List.map Ao j)) (upd 2 (some (.rw (List.map eB aa) 1 0 false false)) AK)),3⟩) ?_ ?_;rotate_left
  ·rintro⟨⟨aa,ds⟩,ab⟩;obtain rfl:=ds.symm;try dsimp only at H101
   refine Z0 ?_;refine ZT 1 ?_;refine Z0 ?_;exact⟨⟨((c,(aa,(i64.wrap (x+1)))),ab),H101⟩,ZR [(0,0),(1,1),(2,2)],Ls _⟩
  refine CV ?_;refine DV (α:={ q:(Nat × (List Bool × Int)) × Nat // RO n x q.1.1 q.1.2=some b2 }) (fun |⟨⟨⟨c,⟨u,I⟩⟩,M⟩,_⟩=>⟨upd 0 (.d (.sl (List.map AS t0)) true) (upd 1 (.v (.string i)) (upd 7 (.pt 0 0) (upd 9 (AW 1 M (List.map Ao j)) (upd 11 (.so 2 0 0 (u.length)) (upd 12 (.v (.int .i64 x)) (upd 13 (.v (.int .i64 I)) AJ)))))),upd 0 (some (.bx [.v (.string a.1.name),.d (.sl (List.map AR a.1.subs)) true,.d (.sl (List.map AY a.1.expr)) true])) (upd 1 (Am 3 M false (List.map Ao j)) (upd 2 (some (.rw (List.map eB u) 1 0 false false)) AK)),3⟩) (fun q=>q.1.1.1) ⟨((n,(C,dq)),E),E100⟩ ?_ ?_
  ·exact ZR [(0,0),(1,1),(2,2)]
  rintro⟨⟨⟨c,⟨u,I⟩⟩,M⟩,L102⟩;rcases c with _ |c
  ·exact Zx L102
  unfold RO at L102
  try dsimp only at L102
  refine ZT 1 ?_;refine Z0 ?_;rcases Ah L102 with⟨av,H119⟩ |⟨av,H119⟩
  ·have⟨x8,dt,H121⟩:=AP H119;have⟨dw,aE⟩:=F0 dt;try simp only[Int.reduceToNat,Li] at aE
   have dy:=Cz eB aE;have dS:=EN aE;have⟨J,d0,H127⟩:=AP H121;have b3:List.set u (Int.toNat I) true=J:=LI d0;have b4:List.set (List.map eB u) (Int.toNat I) [.v (.bool true)]=List.map eB J:=by rw[<-b3,NF]
   try simp only[Lh,Lu] at b4
   have d1:u.length=J.length:=(by rw[<-b3,NS]);have d2:∀w,AV.so 2 w 0 u.length=AV.so 2 w 0 J.length:=fun w=>(by rw[d1]);have d3:(Int.toNat I)<J.length:=(by omega);refine Z1 (Y2 (Y6 av (CC .i64 dw) dy dS b4 d2) d3) ?_;exact⟨⟨((c,(J,(i64.wrap (I+1)))),M),H127⟩,ZR [(0,0),(1,1),(2,2)],Ls _⟩
  refine Z1 av ?_;obtain rfl:=Zi H119;exact⟨⟨⟨u,rfl⟩,M⟩,ZR [(0,0),(1,1),(2,2)]⟩
 rintro⟨⟨k,d4⟩,Z⟩;obtain rfl:=d4.symm;try dsimp only at H40
 refine AU (AU ?_);refine ZT 1 ?_;refine Z0 ?_;have⟨b5,E134,H135⟩:=AP H40;refine Dw (α:={ y:List An // b5=y } × Nat) (fun |⟨⟨a0,_⟩,a1⟩=>⟨upd 9 (AW 0 a1 (List.map Ao a0)) AJ,upd 0 (Am 3 a1 false (List.map Ao a0)) AK,1⟩) ?_ ?_;rotate_left
 ·rintro⟨⟨a0,ea⟩,a1⟩;obtain rfl:=ea.symm;try dsimp only at H135
  refine ZT 1 ?_;refine Z0 ?_;obtain rfl:=Zi H135;exact As
 refine CV ?_;refine DV (α:={ q:(Nat × (List An × Int)) × Nat // Kd n t0 i a k q.1.1 q.1.2=some b5 }) (fun |⟨⟨⟨c,⟨d,s⟩⟩,z⟩,_⟩=>⟨upd 0 (.d (.sl (List.map AS t0)) true) (upd 1 (.v (.string i)) (upd 7 (.pt 0 0) (upd 9 (AW 1 z (List.map Ao d)) (upd 11 (.so 2 0 0 (k.length)) (upd 14 (.v (.int .i64 s)) AJ))))),upd 0 (some (.bx [.v (.string a.1.name),.d (.sl (List.map AR a.1.subs)) true,.d (.sl (List.map AY a.1.expr)) true])) (upd 1 (Am 3 z false (List.map Ao d)) (upd 2 (some (.rw (List.map eB k) 1 0 false false)) AK)),3⟩) (fun q=>q.1.1.1) ⟨((n,(j,0)),Z),E134⟩ ?_ ?_
 ·exact ZR [(0,0),(1,1),(2,2)]
 rintro⟨⟨⟨c,⟨d,s⟩⟩,z⟩,L136⟩;rcases c with _ |c
 ·exact Zx L136
 unfold Kd at L136
 try dsimp only at L136
 refine AU (ZT 1 ?_);refine Z0 ?_;rcases Ah L136 with⟨b,H234⟩ |⟨b,H234⟩;rotate_left
 ·refine Z1 b ?_;obtain rfl:=Zi H234;exact⟨⟨⟨d,rfl⟩,z⟩,ZR [(0,1)]⟩
 refine Z1 b ?_;refine AU (CV ?_);refine AU (ZT 1 ?_);have⟨A,eb,H236⟩:=AP H234;have⟨e,b6⟩:=F0 eb;try simp only[Int.reduceToNat,Li] at b6
 have f:=Cz AY b6;refine Z1 (Y3 b (CC .i64 e) f) ?_;refine AU (ZT 1 ?_);refine Z1 (Y3 b (CC .i64 e) f) ?_;refine CV ?_;refine AU (ZT 1 ?_);refine Z1 (Y3 b (CC .i64 e) f) ?_;rcases Ah H236 with⟨h,H242⟩ |⟨h,H242⟩
 ·refine ED (by rfl) h ?_;refine Z1 (Y4 b (CC .i64 e) f h) ?_;refine ZT 4 ?_;have⟨ed,ee,H244⟩:=AP H242;have⟨b7,a2⟩:=F0 ee;try simp only[Int.reduceToNat,Li] at a2
  have b8:=Cz eB a2;have b9:=EN a2;have⟨K,ef,H250⟩:=AP H244;have⟨ad,cb⟩:=Dp ef;have ad:d.length+1<=4294967296:=ad;have cf:List.map Ao d++[[.v (.string i),.v (.string A.a),.v (.bool ed)]]=List.map Ao K:=D6 Ao cb;have ch:d.length+1=K.length:=D7 cb;have cp:K.length<=4294967296:=by omega
  have ey:0<K.length:=by omega
  refine Z1 (Y2 (Y6 b (CC .i64 e) f h (CC .i64 b7) b8) (Y5 b9 ad cf ch cp)) ?_;refine DD (by (cases d<;>rfl)) ?_;refine Z1 (Y2 (Y6 b (CC .i64 e) f h (CC .i64 b7) b8) (Y5 b9 ad cf ch cp)) ?_;rcases d with _ |⟨q0,q1⟩
  ·try simp only[Lu,CF,CG]
   exact⟨⟨((c,(K,(i64.wrap (s+1)))),0),H250⟩,ZR [(0,0),(1,29),(2,2)],Ls _⟩
  try simp only[Lh,CF,CG]
  exact⟨⟨((c,(K,(i64.wrap (s+1)))),(z+1)),H250⟩,ZR [(0,0),(1,1),(2,2)],Ls _⟩
 refine DI (by rfl) h ?_;refine Z1 (Y4 b (CC .i64 e) f h) ?_;refine AU (ZT 1 ?_);refine Z1 (Y4 b (CC .i64 e) f h) ?_;rcases Ah H242 with⟨m,H258⟩ |⟨m,H258⟩;rotate_left
 ·refine DI (by rfl) m ?_;refine Z1 (Y5 b (CC .i64 e) f h m) ?_;refine ZT 4 ?_;refine Z1 (Y5 b (CC .i64 e) f h m) ?_;exact⟨⟨((c,(d,(i64.wrap (s+1)))),z),H258⟩,ZR [(0,0),(1,1),(2,2)],Ls _⟩
 refine ED (by rfl) m ?_;refine Z1 (Y5 b (CC .i64 e) f h m) ?_;refine AU (ZT 1 ?_);have⟨ag,eg,H260⟩:=AP H258;refine Z1 (Y5 b (CC .i64 e) f h m) ?_;refine CT (KW eg) ?_;refine Z1 (Y5 b (CC .i64 e) f h m) ?_;refine AU (ZT 1 ?_);have⟨eh,ek,H262⟩:=AP H260;have⟨a3,a4⟩:=F0 ek
 try simp only[Int.reduceToNat,Li] at a4
 have a5:=Cz eB a4;have a6:=EN a4;have⟨N,el,H268⟩:=AP H262;have⟨O,cs⟩:=Dp el;have O:d.length+1<=4294967296:=O;have a9:List.map Ao d++[[.v (.string i),.v (.string A.a),.v (.bool eh)]]=List.map Ao N:=D6 Ao cs;have ba:d.length+1=N.length:=D7 cs;have bb:N.length<=4294967296:=by omega
 have ez:0<N.length:=by omega
 refine Z1 (Y2 (Y6 b (CC .i64 e) f h m (CC .i64 a3)) (Y6 a5 a6 O a9 ba bb)) ?_;refine DD (by (cases d<;>rfl)) ?_;refine Z1 (Y2 (Y6 b (CC .i64 e) f h m (CC .i64 a3)) (Y6 a5 a6 O a9 ba bb)) ?_;refine AU (ZT 1 ?_);refine Z1 (Y2 (Y6 b (CC .i64 e) f h m (CC .i64 a3)) (Y6 a5 a6 O a9 ba bb)) ?_;have⟨cx,E275,H276⟩:=AP H268;refine Dw (α:={ y:List An // cx=y } × Nat) (fun |⟨⟨P,_⟩,ak⟩=>⟨upd 0 (.d (.sl (List.map AS t0)) true) (upd 1 (.v (.string i)) (upd 7 (.pt 0 0) (upd 9 (.so 1 ak 0 (P.length)) (upd 11 (.so 2 0 0 (k.length)) (upd 14 (.v (.int .i64 s)) AJ))))),upd 0 (some (.bx [.v (.string a.1.name),.d (.sl (List.map AR a.1.subs)) true,.d (.sl (List.map AY a.1.expr)) true])) (upd 1 (some (.rw (List.map Ao P) 3 ak false false)) (upd 2 (some (.rw (List.map eB k) 1 0 false false)) AK)),3⟩) ?_ ?_;rotate_left
 ·rintro⟨⟨P,em⟩,ak⟩;obtain rfl:=em.symm;try dsimp only at H276
  refine Z0 ?_;refine ZT 1 ?_;have⟨en,H326⟩:=Dv H276;have eA:0<P.length:=of_decide_eq_true en;refine Z0 ?_;exact⟨⟨((c,(P,(i64.wrap (s+1)))),ak),H326⟩,ZR [(0,0),(1,1),(2,2)],Ls _⟩
 refine CV ?_;refine DV (α:={ q:(Nat × (List An × Int)) × Nat // Ph n k s A ag q.1.1 q.1.2=some cx }) (fun |⟨⟨⟨c,⟨v,bd⟩⟩,Q⟩,_⟩=>⟨upd 0 (.d (.sl (List.map AS t0)) true) (upd 1 (.v (.string i)) (upd 7 (.pt 0 0) (upd 9 (.so 1 Q 0 (v.length)) (upd 11 (.so 2 0 0 (k.length)) (upd 14 (.v (.int .i64 s)) (upd 15 (.pt 3 0) (upd 16 (.pt 4 0) (upd 18 (.v (.int .i64 bd)) AJ)))))))),upd 0 (some (.bx [.v (.string a.1.name),.d (.sl (List.map AR a.1.subs)) true,.d (.sl (List.map AY a.1.expr)) true])) (upd 1 (some (.rw (List.map Ao v) 3 Q false false)) (upd 2 (some (.rw (List.map eB k) 1 0 false false)) (upd 3 (some (.bx [.v (.int .i64 A.kind),.v (.string A.a),.v (.string A.b)])) (upd 4 (some (.bx [.v (.string ag.1.name),.d (.sl (List.map AR ag.1.subs)) true,.d (.sl (List.map AY ag.1.expr)) true])) AK)))),5⟩) (fun q=>q.1.1.1) ⟨((n,(N,0)),(CG z (List.map Ao d))),E275⟩ ?_ ?_
 ·rcases d with _ |⟨q0,q1⟩
  ·try simp only[Lu,CF,CG]
   exact ZR [(0,0),(1,42),(2,2),(3,13),(4,29)]
  try simp only[Lh,CF,CG]
  exact ZR [(0,0),(1,1),(2,2),(3,13),(4,29)]
 rintro⟨⟨⟨c,⟨v,bd⟩⟩,Q⟩,L277⟩;rcases c with _ |c
 ·exact Zx L277
 unfold Ph at L277
 try dsimp only at L277
 refine ZT 1 ?_;refine Z0 ?_;rcases Ah L277 with⟨ao,H301⟩ |⟨ao,H301⟩
 ·have⟨eo,eq,H303⟩:=AP H301;have⟨cN,c0⟩:=F0 eq;try simp only[Int.reduceToNat,Li] at c0
  have c1:=Cz AR c0;have⟨er,es,H309⟩:=AP H303;have⟨c2,be⟩:=F0 es;try simp only[Int.reduceToNat,Li] at be
  have c3:=Cz eB be;have c4:=EN be;have⟨R,et,H315⟩:=AP H309;have⟨aq,c5⟩:=Dp et;have aq:v.length+1<=4294967296:=aq;have c6:List.map Ao v++[[.v (.string eo.type_),.v (.string A.b),.v (.bool er)]]=List.map Ao R:=D6 Ao c5;have c7:v.length+1=R.length:=D7 c5;have c9:R.length<=4294967296:=by omega
  have eD:0<R.length:=by omega
  refine Z1 (Y2 (Y6 ao (CC .i64 cN) c1 (CC .i64 c2) c3 c4) (Y4 aq c6 c7 c9)) ?_;refine DD (by rfl) ?_;refine Z1 (Y2 (Y6 ao (CC .i64 cN) c1 (CC .i64 c2) c3 c4) (Y4 aq c6 c7 c9)) ?_;exact⟨⟨((c,(R,(i64.wrap (bd+1)))),(Q+1)),H315⟩,ZR [(0,0),(1,1),(2,2),(3,3),(4,4)],Ls _⟩
 have⟨ew,H323⟩:=Dv H301;have eF:0<v.length:=of_decide_eq_true ew;refine Z1 ao ?_;obtain rfl:=Zi H323;exact⟨⟨⟨v,rfl⟩,Q⟩,ZR [(0,0),(1,1),(2,2)]⟩
end Go.Proofs.YtnmkbmefohakmaaGreat.Ab
