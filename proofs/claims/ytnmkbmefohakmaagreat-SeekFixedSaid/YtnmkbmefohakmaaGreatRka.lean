/-
 Functions, read off the code.
-/
import Derived.Test.YtnmkbmefohakmaaGreatMkz
set_option linter.all false
namespace Go.Proofs.YtnmkbmefohakmaaGreat.Ab
open Go.RowKit IntKind
def Hy (n:Nat)(a:List AD)(d:List AD):Nat->(List AD × Int × Int)->Option (List AD)
 |0,_=>none
 |c+1,(f,b,e)=>((if decide (b<(a.length:Int)) then some true else some (decide (e<(d.length:Int)))):Option (Bool)).bind fun h=>(if h then ((if (e==(d.length:Int)) then some true else (if decide (b<(a.length:Int)) then (CD a b).bind fun i=>(CD d e).bind fun j=>(XR n i j).bind fun k=>some k else some false)):Option (Bool)).bind fun m=>(if m then (CD a b).bind fun o=>(DG f [o]).bind fun p=>Hy n a d c (p,(i64.wrap (b+1)),e) else (if (b==(a.length:Int)) then (CD d e).bind fun q=>(DG f [q]).bind fun r=>Hy n a d c (r,b,(i64.wrap (e+1))) else (CD d e).bind fun g=>(CD a b).bind fun s=>(XR n g s).bind fun t=>(if t then (DG f [g]).bind fun u=>Hy n a d c (u,b,(i64.wrap (e+1))) else Hy n a d c (f,(i64.wrap (b+1)),e)))) else some f)
def Qf:Nat->(List AD)->Option (List AD)
 |0,_=>none
 |n+1,a=>(if decide ((a.length:Int)<2) then (DG [] a).bind fun _=>some a else (FV a 0 (i64.wrap (Int.tdiv (a.length:Int) 2))).bind fun b=>((Qf n) b).bind fun c=>(FV a (i64.wrap (Int.tdiv (a.length:Int) 2)) ((List.length a):Int)).bind fun d=>((Qf n) d).bind fun e=>(Hy n c e n ([],0,0):Option (List AD)).bind fun f=>some f)
set_option maxHeartbeats 8000000 in
theorem yQ:∀ {n:Nat} {a:List AD} {r:List AD},Qf n a=some r->AI Tryz.prog 15 [D.sl (List.map AE a)] (D.sl (List.map AE r)) true:=by
 intro n;induction n with
 |zero=>intro a r H;exact Zx H
 |succ n ih=>
  intro a r H;unfold Qf at H;refine zP #[.tmp 2] Tryz.func15 ?_;refine AT (ZT 1 ?_);refine Z0 ?_;refine AT (ZT 1 ?_);refine Z0 ?_;rcases As H with⟨h,R⟩ |⟨h,R⟩
  ·have⟨l,b3,H4⟩:=AL R;have⟨P,S⟩:=Ee b3;have S:a=l:=S;subst S;have P:a.length<=4294967296:=(by have:=P;simpa using this);refine Z1 (Y4 h (T9 (f:=AE) (fun _=>rfl) a) (Hk (n:=6) (f:=AE) (fun _=>rfl) a) P) ?_;obtain rfl:=Zi H4;exact XW (Y4 h (T9 (f:=AE) (fun _=>rfl) a) (Hk (n:=6) (f:=AE) (fun _=>rfl) a) P)
  refine Z1 h ?_;refine AT (ZT 1 ?_);have⟨l2,b9,H10⟩:=AL R;have⟨u,v,c6,a6⟩:=KB b9;have m:0<=Int.toNat (i64.wrap (Int.tdiv (a.length:Int) 2)):=by omega
  have o:Int.toNat (i64.wrap (Int.tdiv (a.length:Int) 2))<=(List.length a):=by omega
  have p:List.take (Int.toNat (i64.wrap (Int.tdiv (a.length:Int) 2))) (List.map AE a)=List.map AE l2:=by rw[a6];simp[N8]
  try simp only[Lk] at m o p
  have⟨Q,a7,H19⟩:=AL H10;refine Z1 (Y6 h (A8 .i64 (NG u v)) m o p (Hk (n:=6) (f:=AE) (fun _=>rfl) a)) ?_;refine EB (ih a7) ?_;have⟨l3,a8,H21⟩:=AL H19;have⟨J,c7,c9,a9⟩:=KB a8;have w:Int.toNat (i64.wrap (Int.tdiv (a.length:Int) 2))<=(List.length a):=by omega
  have x:(List.length a)<=(List.length a):=by omega
  have z:List.drop (Int.toNat (i64.wrap (Int.tdiv (a.length:Int) 2))) (List.map AE a)=List.map AE l3:=by rw[a9];simp[Ia]
  try simp only[Lk] at w x z
  have⟨K,ba,H30⟩:=AL H21;refine Z1 (Y2 (Y6 h (A8 .i64 (NG u v)) m o p (Hk (n:=6) (f:=AE) (fun _=>rfl) a)) (Y4 (A8 .i64 J) w x z)) ?_;refine EB (ih ba) ?_;refine Z1 (Y2 (Y6 h (A8 .i64 (NG u v)) m o p (Hk (n:=6) (f:=AE) (fun _=>rfl) a)) (Y4 (A8 .i64 J) w x z)) ?_;refine DF (by rfl) ?_;refine Z1 (Y2 (Y6 h (A8 .i64 (NG u v)) m o p (Hk (n:=6) (f:=AE) (fun _=>rfl) a)) (Y4 (A8 .i64 J) w x z)) ?_;refine AT (ZT 1 ?_);refine Z1 (Y2 (Y6 h (A8 .i64 (NG u v)) m o p (Hk (n:=6) (f:=AE) (fun _=>rfl) a)) (Y4 (A8 .i64 J) w x z)) ?_;refine AT (ZT 1 ?_);refine Z1 (Y2 (Y6 h (A8 .i64 (NG u v)) m o p (Hk (n:=6) (f:=AE) (fun _=>rfl) a)) (Y4 (A8 .i64 J) w x z)) ?_;refine AT ?_;have⟨e_,E31,H32⟩:=AL H30;refine D3 (α:={ y:List AD // e_=y } × Nat) (fun |⟨⟨T,_⟩,U⟩=>⟨upd 5 (Ac 0 U (List.map AE T)) AK,upd 0 (A6 6 U false (List.map AE T)) AM,1⟩) ?_ ?_;rotate_left
  ·rintro⟨⟨T,bb⟩,U⟩;obtain rfl:=bb.symm;try dsimp only at H32
   refine ZT 1 ?_;refine Z0 ?_;obtain rfl:=Zi H32;exact Ax
  refine CS ?_;refine DQ (α:={ q:(Nat × (List AD × Int × Int)) × Nat // Hy n Q K q.1.1 q.1.2=some e_ }) (fun |⟨⟨⟨c,⟨b,e,d⟩⟩,g⟩,_⟩=>⟨upd 3 (.d (.sl (List.map AE Q)) false) (upd 4 (.d (.sl (List.map AE K)) false) (upd 5 (Ac 0 g (List.map AE b)) (upd 6 (.v (.int .i64 e)) (upd 7 (.v (.int .i64 d)) AK)))),upd 0 (A6 6 g false (List.map AE b)) AM,1⟩) (fun q=>q.1.1.1) ⟨((n,([],0,0)),0),E31⟩ ?_ ?_
  ·exact ZR []
  rintro⟨⟨⟨c,⟨b,e,d⟩⟩,g⟩,L33⟩;rcases c with _ |c
  ·exact Zx L33
  unfold Hy at L33
  try dsimp only at L33
  refine AT (AT ?_);have⟨bd,E94,H95⟩:=AL L33;refine D3 (α:={ y:Bool // bd=y } × Nat) (fun |⟨⟨ap,_⟩,s⟩=>⟨upd 3 (.d (.sl (List.map AE Q)) false) (upd 4 (.d (.sl (List.map AE K)) false) (upd 5 (Ac 0 s (List.map AE b)) (upd 6 (.v (.int .i64 e)) (upd 7 (.v (.int .i64 d)) (upd 35 (.v (.bool ap)) AK))))),upd 0 (A6 6 s false (List.map AE b)) AM,1⟩) ?_ ?_
  ·refine ZT 1 ?_;refine Z0 ?_;rcases As E94 with⟨V,H97⟩ |⟨V,H97⟩
   ·refine Z1 V ?_;obtain rfl:=Zi H97;exact⟨⟨⟨true,rfl⟩,g⟩,ZR [(0,0)]⟩
   refine Z1 V ?_;obtain rfl:=Zi H97;exact⟨⟨⟨(decide (d<(K.length:Int))),rfl⟩,g⟩,ZR [(0,0)]⟩
  rintro⟨⟨ap,be⟩,s⟩;obtain rfl:=be.symm;try dsimp only at H95
  refine ZT 1 ?_;refine Z0 ?_;rcases As H95 with⟨X,H99⟩ |⟨X,H99⟩;rotate_left
  ·refine Z1 X ?_;obtain rfl:=Zi H99;exact⟨⟨⟨b,rfl⟩,s⟩,ZR [(0,0)]⟩
  refine Z1 X ?_;refine CS ?_;refine CS ?_;refine AT ?_;have⟨bg,E100,H101⟩:=AL H99;refine D3 (α:={ y:Bool // bg=y } × Nat) (fun |⟨⟨aq,_⟩,t⟩=>⟨upd 3 (.d (.sl (List.map AE Q)) false) (upd 4 (.d (.sl (List.map AE K)) false) (upd 5 (Ac 0 t (List.map AE b)) (upd 6 (.v (.int .i64 e)) (upd 7 (.v (.int .i64 d)) (upd 38 (.v (.bool aq)) AK))))),upd 0 (A6 6 t false (List.map AE b)) AM,1⟩) ?_ ?_
  ·refine ZT 1 ?_;refine Z0 ?_;rcases As E100 with⟨j,H103⟩ |⟨j,H103⟩
   ·refine Z1 j ?_;refine DF (by rfl) ?_;refine Z1 j ?_;obtain rfl:=Zi H103;exact⟨⟨⟨true,rfl⟩,s⟩,ZR [(0,0)]⟩
   refine Z1 j ?_;rcases As H103 with⟨A,H105⟩ |⟨A,H105⟩
   ·have⟨x7,bl,H107⟩:=AL H105;have⟨Y,ar⟩:=FW bl;try simp only[Int.reduceToNat,Lk] at ar
    have Z:=Cr AE ar;have⟨x8,bo,H113⟩:=AL H107;have⟨aa,av⟩:=FW bo;try simp only[Int.reduceToNat,Lk] at av
    have ab:=Cr AE av;have⟨br,bs,H119⟩:=AL H113;refine Z1 (Y6 j A (A8 .i64 Y) Z (A8 .i64 aa) ab) ?_;refine EB (fW bs) ?_;refine Z1 (Y6 j A (A8 .i64 Y) Z (A8 .i64 aa) ab) ?_;refine DF (by rfl) ?_;refine Z1 (Y6 j A (A8 .i64 Y) Z (A8 .i64 aa) ab) ?_;obtain rfl:=Zi H119;exact⟨⟨⟨br,rfl⟩,s⟩,ZR [(0,0)]⟩
   refine Z1 (Y2 j A) ?_;refine DF (by rfl) ?_;refine Z1 (Y2 j A) ?_;obtain rfl:=Zi H105;exact⟨⟨⟨false,rfl⟩,s⟩,ZR [(0,0)]⟩
  rintro⟨⟨aq,bx⟩,t⟩;obtain rfl:=bx.symm;try dsimp only at H101
  refine ZT 3 ?_;refine Z0 ?_;rcases As H101 with⟨i,H121⟩ |⟨i,H121⟩
  ·have⟨B,b0,H123⟩:=AL H121;have⟨b1,aE⟩:=FW b0;try simp only[Int.reduceToNat,Lk] at aE
   have b2:=Cr AE aE;have⟨C,b4,H129⟩:=AL H123;have⟨ad,a0⟩:=Ee b4;have ad:b.length+1<=4294967296:=ad;have b5:List.map AE b++[[.v (.string B.obj.type_),.v (.string B.obj.id_),.v (.string B.rel),.v (.string B.sub_.type_),.v (.string B.sub_.id_),.v (.string B.sub_.rel)]]=List.map AE C:=ER AE a0;have b6:b.length+1=C.length:=ES a0;have b7:C.length<=4294967296:=(by omega);have da:0<C.length:=(by omega);refine Z1 (Y2 (Y6 i (A8 .i64 b1) b2 ad b5 b6) b7) ?_;rcases b with _ |⟨q0,q1⟩
   ·try simp only[Lw,CW,CZ]
    exact⟨⟨((c,(C,(i64.wrap (e+1)),d)),0),H129⟩,ZR [(0,7)],Ls _⟩
   try simp only[Li,CW,CZ]
   exact⟨⟨((c,(C,(i64.wrap (e+1)),d)),(t+1)),H129⟩,ZR [(0,0)],Ls _⟩
  refine Z1 i ?_;rcases As H121 with⟨k,H137⟩ |⟨k,H137⟩
  ·refine Z1 (Y2 i k) ?_;refine DF (by rfl) ?_;have⟨E,b8,H139⟩:=AL H137;have⟨cb,a1⟩:=FW b8;try simp only[Int.reduceToNat,Lk] at a1
   have cf:=Cr AE a1;have⟨F,ch,H145⟩:=AL H139;have⟨ag,a2⟩:=Ee ch;have ag:b.length+1<=4294967296:=ag;have cp:List.map AE b++[[.v (.string E.obj.type_),.v (.string E.obj.id_),.v (.string E.rel),.v (.string E.sub_.type_),.v (.string E.sub_.id_),.v (.string E.sub_.rel)]]=List.map AE F:=ER AE a2;have cs:b.length+1=F.length:=ES a2;have cx:F.length<=4294967296:=(by omega);have dd:0<F.length:=(by omega);refine Z1 (Y2 (Y6 i k (A8 .i64 cb) cf ag cp) (Y2 cs cx)) ?_;rcases b with _ |⟨q0,q1⟩
   ·try simp only[Lw,CW,CZ]
    exact⟨⟨((c,(F,e,(i64.wrap (d+1)))),0),H145⟩,ZR [(0,23)],Ls _⟩
   try simp only[Li,CW,CZ]
   exact⟨⟨((c,(F,e,(i64.wrap (d+1)))),(t+1)),H145⟩,ZR [(0,0)],Ls _⟩
  have⟨G,cN,H153⟩:=AL H137;have⟨L,a3⟩:=FW cN;try simp only[Int.reduceToNat,Lk] at a3
  have M:=Cr AE a3;have⟨df,c0,H159⟩:=AL H153;have⟨N,a4⟩:=FW c0;try simp only[Int.reduceToNat,Lk] at a4
  have O:=Cr AE a4;have⟨dk,c1,H165⟩:=AL H159;refine Z1 (Y6 i k (A8 .i64 L) M (A8 .i64 N) O) ?_;refine EB (fW c1) ?_;refine Z1 (Y6 i k (A8 .i64 L) M (A8 .i64 N) O) ?_;refine DF (by rfl) ?_;refine Z1 (Y6 i k (A8 .i64 L) M (A8 .i64 N) O) ?_;rcases As H165 with⟨ak,H167⟩ |⟨ak,H167⟩
  ·have⟨I,c2,H169⟩:=AL H167;have⟨ao,a5⟩:=Ee c2;have ao:b.length+1<=4294967296:=ao;have c3:List.map AE b++[[.v (.string G.obj.type_),.v (.string G.obj.id_),.v (.string G.rel),.v (.string G.sub_.type_),.v (.string G.sub_.id_),.v (.string G.sub_.rel)]]=List.map AE I:=ER AE a5;have c4:b.length+1=I.length:=ES a5;have c5:I.length<=4294967296:=(by omega);have dl:0<I.length:=(by omega);refine Z1 (Y2 (Y6 i k (A8 .i64 L) M (A8 .i64 N) O) (Y5 ak ao c3 c4 c5)) ?_;rcases b with _ |⟨q0,q1⟩
   ·try simp only[Lw,CW,CZ]
    exact⟨⟨((c,(I,e,(i64.wrap (d+1)))),0),H169⟩,ZR [(0,23)],Ls _⟩
   try simp only[Li,CW,CZ]
   exact⟨⟨((c,(I,e,(i64.wrap (d+1)))),(t+1)),H169⟩,ZR [(0,0)],Ls _⟩
  refine Z1 (Y2 (Y6 i k (A8 .i64 L) M (A8 .i64 N) O) ak) ?_;exact⟨⟨((c,(b,(i64.wrap (e+1)),d)),t),H167⟩,ZR [(0,0)],Ls _⟩
def xm_ (n:Nat)(l:List AG)(i:Int):Nat->Int->Option ((Unit) ⊕ Bool)
 |0,_=>none
 |c+1,a=>(if decide (a<i) then (CD l a).bind fun b=>(CD l i).bind fun d=>(if (b.name.toList==d.name.toList) then some (.inr true) else xm_ n l i c (i64.wrap (a+1))) else some (.inl ()))
def Uc (n:Nat)(l:List AG)(i:Int)(a:Int):Nat->Int->Option ((Unit) ⊕ Bool)
 |0,_=>none
 |c+1,b=>(if decide (b<a) then (CD l i).bind fun d=>(CD d.rels b).bind fun e=>(CD d.rels a).bind fun f=>(if (e.name.toList==f.name.toList) then some (.inr true) else Uc n l i a c (i64.wrap (b+1))) else some (.inl ()))
def xo_ (n:Nat)(l:List AG)(i:Int):Nat->Int->Option ((Unit) ⊕ Bool)
 |0,_=>none
 |c+1,a=>(CD l i).bind fun b=>(if decide (a<(b.rels.length:Int)) then (Uc n l i a n 0:Option ((Unit) ⊕ Bool)).bind fun | .inl _=>xo_ n l i c (i64.wrap (a+1)) | .inr r=>some (.inr r) else some (.inl ()))
def Ud (n:Nat)(l:List AG):Nat->Int->Option ((Unit) ⊕ Bool)
 |0,_=>none
 |c+1,i=>
  (if (decide (i<(l.length:Int))) then
   (
    xm_ n l i n 0:Option ((Unit) ⊕ Bool)).bind fun
    | .inl _=>
     (
      xo_ n l i n 0:Option ((Unit) ⊕ Bool)).bind fun
      | .inl _=>
       Ud n l c (i64.wrap (i+1))
      | .inr r=>some (.inr r)
    | .inr r=>some (.inr r)
  else
   some (.inl ()))
def XI (n:Nat)(l:List AG):Option Bool:=(Ud n l n 0:Option ((Unit) ⊕ Bool)).bind fun
  | .inl _=>some false
  | .inr r=>some r
variable {l:List AG}{n:Nat}
set_option maxHeartbeats 8000000 in
theorem yR {r:Bool}(H:XI n l=some r):AI Tryz.prog 38 [D.sl (List.map AQ l)] (D.v (.bool r)) true:=by
 unfold XI at H;refine zP #[.tmp 2] Tryz.func38 ?_;refine KF ?_;refine zi H (fun _ _ _=>⟨AK,AM,0⟩) (fun B t a=> ?_) fun _ a=> ?_;rotate_left
 ·refine AP ?_;cases a;exact Ax
 refine EG t (fun f _ i=>⟨kp [0] f (upd 3 (.v (.int .i64 i)) AK),AM,0⟩) (ZR []) fun c i u=> ?_
 refine Ay ?_;obtain⟨b,H83⟩ |⟨b,H83⟩:=As u;rotate_left
 ·refine Z1 b ?_;cases H83;exact⟨_,rfl,ZR []⟩
 refine Z1 b ?_;refine AT (CS ?_);refine AT (AT ?_);refine Fo b ?_;refine zi H83 (fun f _ _=>⟨kp [0,3] f AK,AM,0⟩) (fun C E84 H85=> ?_) fun _ H85=> ?_
 ·refine EG E84 (fun f _ m=>⟨kp [0,3] f (upd 4 (.v (.int .i64 m)) AK),AM,0⟩) (ZR []) fun c m L86=> ?_
  refine AP ?_;obtain⟨d,H104⟩ |⟨d,H104⟩:=As L86
  ·obtain⟨E,F,G,v,H106⟩:=zI AQ H104;obtain⟨I,J,K,w,H112⟩:=zI AQ H106;have o:=Y3 d v w;refine Ds o ?_;obtain⟨e,H118⟩ |⟨e,H118⟩:=Cg o H112
   ·refine Z1 e ?_;cases H118;cases H85;cases a;exact Ax
   refine Z1 e ?_;exact⟨_,H118,ZR []⟩
  refine Z1 d ?_;cases H104;exact⟨_,rfl,ZR []⟩
 refine Ay ?_;refine zi H85 (fun f _ _=>⟨kp [0,3] f AK,AM,0⟩) (fun L E119 H120=> ?_) fun _ H120=> ?_;rotate_left
 ·refine Fc ?_;exact⟨_,H120,ZR []⟩
 refine EG E119 (fun f _ p=>⟨kp [0,3] f (upd 5 (.v (.int .i64 p)) AK),AM,0⟩) (ZR []) fun c p L121=> ?_
 refine AT (ZT 1 ?_);obtain⟨M,N,O,g,H135⟩:=zI AQ L121;refine Z1 g ?_;obtain⟨h,H141⟩ |⟨h,H141⟩:=As H135
 ·have x:=Y2 g h;refine XX x ?_;refine zi H141 (fun f _ _=>⟨kp [0,3,5] f AK,AM,0⟩) (fun P E142 H143=> ?_) fun _ H143=> ?_
  ·refine EG E142 (fun f _ q=>⟨kp [0,3,5] f (upd 6 (.v (.int .i64 q)) AK),AM,0⟩) (ZR []) fun c q L144=> ?_
   refine AP ?_;obtain⟨j,H168⟩ |⟨j,H168⟩:=As L144
   ·obtain⟨Q,R,S,y,H170⟩:=zI AQ H168;obtain⟨T,U,V,z,H176⟩:=zI Ah H170;obtain⟨X,Y,Z,A,H182⟩:=zI Ah H176;have s:=Y4 j y z A;refine Ds s ?_;obtain⟨k,H188⟩ |⟨k,H188⟩:=Cg s H182
    ·refine Z1 k ?_;cases H188;cases H143;cases H120;cases a;exact Ax
    refine Z1 k ?_;exact⟨_,H188,ZR []⟩
   refine Z1 j ?_;cases H168;exact⟨_,rfl,ZR []⟩
  refine Fc ?_;exact⟨_,H143,ZR []⟩
 refine Z1 (Y2 g h) ?_;cases H141;exact⟨_,rfl,ZR []⟩
def XJ (n:Nat)(l:List AG)(s:AS)(a:AW × Bool):Nat->Int->Option ((Unit) ⊕ Int)
 |0,_=>none
 |c+1,i=>(if decide (i<(a.1.subs.length:Int)) then (CD a.1.subs i).bind fun b=>(Hr n l b.type_ s.b).bind fun d=>(if d.2 then (if (b.rel.toList==({ data:= #[] }:ByteArray).toList) then XJ n l s a c (i64.wrap (i+1)) else some (.inr 13)) else some (.inr 13)) else some (.inl ()))
def Ue (n:Nat)(l:List AG)(t:ByteArray)(s:AS):Option Int:=(Hr n l t s.a).bind fun a=>(if a.2 then (if decide (0<(a.1.expr.length:Int)) then some 13 else (XJ n l s a n 0:Option ((Unit) ⊕ Int)).bind fun
    | .inl _=>some 0
    | .inr r=>some r) else some 12)
theorem yS {t:ByteArray}{s:AS}{r:Int}(H:Ue n l t s=some r):AI Tryz.prog 75 [D.sl (List.map AQ l),D.v (.string t),D.ag (AX s)] (D.v (.int .i64 r)) true:=by
 unfold Ue at H;refine zP #[.tmp 6] Tryz.func75 ?_;refine Ay ?_;refine AT (ZT 1 ?_);obtain⟨e,q,u⟩:=AL H;refine Z0 ?_;refine Cn (QP q) ?_;refine Dt ?_;refine Z0 ?_;obtain⟨a,g⟩ |⟨a,g⟩:=As u;rotate_left
 ·refine Z1 a ?_;cases g;exact Ax
 refine HL a ?_;obtain⟨j,k⟩ |⟨j,k⟩:=As g
 ·refine Z1 (Y2 a j) ?_;cases k;exact Ax
 have v:=Y2 a j;refine KG v ?_;refine zi k (fun _ _ _=>⟨AK,AM,0⟩) (fun z w b=> ?_) fun _ b=> ?_
 ·refine EG w (fun f h i=>⟨kp [0,5] f (upd 7 (.pt 1 0) (upd 9 (.v (.int .i64 i)) AK)),kh [0] h (upd 1 (some (.bx [.v (.string e.1.name),.d (.sl (List.map AR e.1.subs)) true,.d (.sl (List.map AX e.1.expr)) true])) AM),2⟩) (ZR [(0,0),(1,10)]) fun c i L9=> ?_
  refine AP ?_;obtain⟨m,H25⟩ |⟨m,H25⟩:=As L9
  ·obtain⟨A,B,C,x,H27⟩:=zI AR H25;obtain⟨E,y,H33⟩:=AL H27;have o:=Y2 m x;refine Z1 o ?_;refine EB (QP y) ?_;refine Ds o ?_;obtain⟨d,H35⟩ |⟨d,H35⟩:=Cg o H33
   ·refine Z1 d ?_;obtain⟨p,H37⟩ |⟨p,H37⟩:=Cg d H35
    ·refine Z1 p ?_;exact⟨_,H37,ZR [(0,0),(1,1)]⟩
    refine Z1 p ?_;cases H37;cases b;exact Ax
   refine Z1 d ?_;cases H35;cases b;exact Ax
  refine Z1 m ?_;cases H25;exact⟨_,rfl,ZR []⟩
 refine AP ?_;cases b;exact Ax
def xq_ (n:Nat)(t0:List AG)(a:AW):Nat->Int->Option ((Unit) ⊕ Int)
 |0,_=>none
 |c+1,b=>(if decide (b<(a.subs.length:Int)) then (CD a.subs b).bind fun d=>(QO n t0 d.type_ ({ data:= #[] })).bind fun e=>(if decide (e.1<0) then some (.inr 12) else (Hr n t0 d.type_ d.rel).bind fun f=>(if (d.rel.toList==({ data:= #[] }:ByteArray).toList) then xq_ n t0 a c (i64.wrap (b+1)) else (if f.2 then xq_ n t0 a c (i64.wrap (b+1)) else some (.inr 12)))) else some (.inl ()))
def XK (n:Nat)(t0:List AG)(_:AW)(a:Unit)(x2:AN)(k:Unit->Option ((Unit) ⊕ Int)):Option ((Unit) ⊕ Int):=
 match a with
 |_=>
  (QO n t0 x2.type_ ({ data:= #[] })).bind fun b=>
  (if (decide (b.1<0)) then
   some (.inr 12)
  else
   (Hr n t0 x2.type_ x2.rel).bind fun c=>
   (if (x2.rel.toList==({ data:= #[] }:ByteArray).toList) then
    k ()
   else
    (if c.2 then
     k ()
    else
     some (.inr 12))))
def Z8 (_:Nat)(_:List AG)(_:AW)(a:Unit):Option ((Unit) ⊕ Int):=
 match a with
 |_=>some (.inl ())
theorem yT (n:Nat)(t0:List AG)(a:AW)(e:a.subs.length<4611686018427387904)(c:Nat)(d:Unit)(b:Nat)(f:b<=a.subs.length)(g:a.subs.length-b<c):xq_ n t0 a c (match d,(b:Int) with |_,b=>b)=Dl (XK n t0 a) (Z8 n t0 a) (a.subs.drop b) d:=
 Ka (fun c d b=>xq_ n t0 a c (match d,b with |_,b=>b)) a.subs (XK n t0 a) (Z8 n t0 a) (fun _ _ _=>rfl) e c d b f g
def jT_ (n:Nat)(t0:List AG)(a:ByteArray)(b:AW):Nat->Int->Option ((Unit) ⊕ Int)
 |0,_=>none
 |c+1,d=>(if decide (d<(b.expr.length:Int)) then (CD b.expr d).bind fun e=>(if (e.kind==1) then (Hr n t0 a e.a).bind fun g=>(if g.2 then jT_ n t0 a b c (i64.wrap (d+1)) else some (.inr 12)) else (if (e.kind==2) then (Ue n t0 a e).bind fun f=>(if (f != 0) then some (.inr f) else jT_ n t0 a b c (i64.wrap (d+1))) else jT_ n t0 a b c (i64.wrap (d+1)))) else some (.inl ()))
def XL (n:Nat)(t0:List AG)(b:ByteArray)(_:AW)(d:Unit)(a:AS)(k:Unit->Option ((Unit) ⊕ Int)):Option ((Unit) ⊕ Int):=
 match d with
 |_=>
  (if (a.kind==1) then
   (Hr n t0 b a.a).bind fun e=>
   (if e.2 then
    k ()
   else
    some (.inr 12))
  else
   (if (a.kind==2) then
    (Ue n t0 b a).bind fun c=>
    (if (c != 0) then
     some (.inr c)
    else
     k ())
   else
    k ()))
def Z9 (_:Nat)(_:List AG)(_:ByteArray)(_:AW)(a:Unit):Option ((Unit) ⊕ Int):=
 match a with
 |_=>some (.inl ())
theorem yU (n:Nat)(t0:List AG)(d:ByteArray)(a:AW)(f:a.expr.length<4611686018427387904)(c:Nat)(e:Unit)(b:Nat)(g:b<=a.expr.length)(h:a.expr.length-b<c):jT_ n t0 d a c (match e,(b:Int) with |_,b=>b)=Dl (XL n t0 d a) (Z9 n t0 d a) (a.expr.drop b) e:=
 Ka (fun c e b=>jT_ n t0 d a c (match e,b with |_,b=>b)) a.expr (XL n t0 d a) (Z9 n t0 d a) (fun _ _ _=>rfl) f c e b g h
def XM (n:Nat)(t0:List AG)(b:ByteArray)(a:AW):Option Int:=
 (
  xq_ n t0 a n 0:Option ((Unit) ⊕ Int)).bind fun
  | .inl _=>
   (
    jT_ n t0 b a n 0:Option ((Unit) ⊕ Int)).bind fun
    | .inl _=>
     some 0
    | .inr r=>some r
  | .inr r=>some r
theorem yV {t0:List AG}{q:ByteArray}{s:AW}{r:Int}(H:XM n t0 q s=some r):AI Tryz.prog 39 [D.sl (List.map AQ t0),D.v (.string q),D.ag (Ah s)] (D.v (.int .i64 r)) true:=by
 unfold XM at H;refine zP #[.tmp 6] Tryz.func39 ?_;refine KF ?_;refine zi H (fun f h _=>⟨kp [0,1,5] f AK,kh [0] h AM,1⟩) (fun F w e=> ?_) fun _ e=> ?_
 ·refine EG w (fun f h t=>⟨kp [0,1,5] f (upd 7 (.v (.int .i64 t)) AK),kh [0] h AM,1⟩) (ZR [(0,0)]) fun c t x=> ?_
  refine AP ?_;obtain⟨i,H23⟩ |⟨i,H23⟩:=As x
  ·obtain⟨G,I,J,y,H25⟩:=zI AR H23;obtain⟨K,z,H31⟩:=AL H25;have j:=Y2 i y;refine Z1 j ?_;refine Cn (nL z) ?_;refine Z1 j ?_;obtain⟨b,H33⟩ |⟨b,H33⟩:=Cg j H31
   ·refine Z1 b ?_;cases H33;cases e;exact Ax
   obtain⟨L,A,H35⟩:=AL H33;refine Z1 b ?_;refine Cn (QP A) ?_;refine Z1 b ?_;obtain⟨g,H37⟩ |⟨g,H37⟩:=Cg b H35
   ·refine Z1 g ?_;exact⟨_,H37,ZR [(0,0)]⟩
   refine Z1 g ?_;obtain⟨k,H39⟩ |⟨k,H39⟩:=Cg g H37
   ·refine Z1 k ?_;exact⟨_,H39,ZR [(0,0)]⟩
   refine Z1 k ?_;cases H39;cases e;exact Ax
  refine Z1 i ?_;cases H23;exact⟨_,rfl,ZR [(0,0)]⟩
 refine EZ ?_;refine zi e (fun _ _ _=>⟨AK,AM,0⟩) (fun M E40 H41=> ?_) fun _ H41=> ?_;rotate_left
 ·refine AP ?_;cases H41;exact Ax
 refine EG E40 (fun f h u=>⟨kp [0,1,5] f (upd 13 (.v (.int .i64 u)) AK),kh [0] h AM,1⟩) (ZR [(0,0)]) fun c u L42=> ?_
 refine AP ?_;obtain⟨m,H64⟩ |⟨m,H64⟩:=As L42;rotate_left
 ·refine Z1 m ?_;cases H64;exact⟨_,rfl,ZR []⟩
 obtain⟨N,O,P,B,H66⟩:=zI AX H64;have v:=Y2 m B;refine Z1 v ?_;obtain⟨a,H72⟩ |⟨a,H72⟩:=Cg v H66
 ·obtain⟨Q,C,H74⟩:=AL H72;refine Z1 a ?_;refine Cn (QP C) ?_;refine Z1 a ?_;obtain⟨o,H76⟩ |⟨o,H76⟩:=Cg a H74
  ·refine Z1 o ?_;exact⟨_,H76,ZR [(0,0)]⟩
  refine Z1 o ?_;cases H76;cases H41;exact Ax
 refine Z1 a ?_;obtain⟨d,H78⟩ |⟨d,H78⟩:=Cg a H72
 ·obtain⟨R,E,H80⟩:=AL H78;refine Z1 d ?_;refine Cn (yS E) ?_;refine Z1 d ?_;obtain⟨p,H82⟩ |⟨p,H82⟩:=Cg d H80
  ·refine Z1 p ?_;cases H82;cases H41;exact Ax
  refine Z1 p ?_;exact⟨_,H82,ZR [(0,0)]⟩
 refine Z1 d ?_;exact⟨_,H78,ZR [(0,0)]⟩
def Uf (n:Nat)(l:List AG)(i:Int):Nat->(List An × Int)->Option (List An)
 |0,_=>none
 |c+1,(d,a)=>(CD l i).bind fun b=>(if decide (a<(b.rels.length:Int)) then (CD b.rels a).bind fun e=>(DG d [(⟨b.name,e.name⟩:An)]).bind fun f=>Uf n l i c (f,(i64.wrap (a+1))) else some d)
def Ug (n:Nat)(l:List AG):Nat->(List An × Int)->Option (List An)
 |0,_=>none
 |c+1,(a,i)=>(if decide (i<(l.length:Int)) then (Uf n l i n (a,0):Option (List An)).bind fun b=>Ug n l c (b,(i64.wrap (i+1))) else some a)
def Uh (n:Nat)(l:List AG):Option (List An):=(Ug n l n ([],0):Option (List An)).bind fun a=>some a
theorem yW {r:List An}(H:Uh n l=some r):AI Tryz.prog 76 [D.sl (List.map AQ l)] (D.sl (List.map Ar r)) true:=by
 unfold Uh at H;refine zP #[.tmp 2] Tryz.func76 ?_;refine EE ?_;refine EZ ?_;refine F7 H (fun _ _ h j=>⟨upd 3 (Ac 0 j (List.map Ar h)) AK,upd 0 (A6 2 j false (List.map Ar h)) AM,1⟩) (fun I x t=> ?_) fun h j t=> ?_;rotate_left
 ·refine AP ?_;cases t;exact Ax
 refine Ej x (fun f _ (k,i) b=>⟨kp [0] f (upd 3 (Ac 0 b (List.map Ar k)) (upd 4 (.v (.int .i64 i)) AK)),upd 0 (A6 2 b false (List.map Ar k)) AM,1⟩) 0 (ZR []) fun c ⟨k,i⟩ b y=> ?_
 refine Ay ?_;obtain⟨m,H47⟩ |⟨m,H47⟩:=As y;rotate_left
 ·refine Z1 m ?_;cases H47;exact⟨b,ZR [(0,0)]⟩
 refine XX m ?_;refine F7 H47 (fun f _ o e=>⟨kp [0,4] f (upd 3 (Ac 0 e (List.map Ar o)) AK),upd 0 (A6 2 e false (List.map Ar o)) AM,1⟩) (fun J E48 H49=> ?_) fun o e H49=> ?_
 ·refine Ej E48 (fun f _ (a,u) d=>⟨kp [0,4] f (upd 3 (Ac 0 d (List.map Ar a)) (upd 5 (.v (.int .i64 u)) AK)),upd 0 (A6 2 d false (List.map Ar a)) AM,1⟩) b (ZR [(0,0)]) fun c ⟨a,u⟩ d L50=> ?_
  refine ZT 1 ?_;obtain⟨z,K,L,p,H74⟩:=zI AQ L50;refine Z1 p ?_;obtain⟨q,H80⟩ |⟨q,H80⟩:=As H74
  ·obtain⟨A,M,N,B,H82⟩:=zI Ah H80;obtain⟨g,C,H88⟩:=AL H82;obtain⟨s,v⟩:=Ee C;have s:a.length+1<=4294967296:=s;have E:List.map Ar a++[[.v (.string z.name),.v (.string A.name)]]=List.map Ar g:=ER Ar v;have F:a.length+1=g.length:=ES v;have G:g.length<=4294967296:=(by omega);have O:0<g.length:=(by omega);have w:=Y2 (Y6 p q B s E F) G;refine Z1 w ?_;refine DF (by (cases a<;>rfl)) ?_;refine Z1 w ?_;rcases a with _ |⟨P,Q⟩
   ·try simp only[Lw,CW,CZ]
    exact⟨_,0,H88,ZR [(0,26)]⟩
   try simp only[Li,CW,CZ]
   exact⟨_,(d+1),H88,ZR [(0,0)]⟩
  refine Z1 (Y2 p q) ?_;cases H80;exact⟨d,ZR [(0,0)]⟩
 refine Fc ?_;exact⟨_,e,H49,ZR [(0,0)]⟩
def Qg:Nat->(List AS)->Int->Option Int
 |0,_,_=>none
 |n+1,x,a=>(CD x a).bind fun b=>((if (b.kind==1) then some (.inr a) else (if (b.kind==2) then some (.inr a) else some (.inl ()))):Option ((Unit) ⊕ Int)).bind fun | .inl _=>((Qg n) x (i64.wrap (a-1))).bind fun c=>((Qg n) x (i64.wrap (c-1))).bind fun d=>some d | .inr r=>some r
theorem yX:∀ {n:Nat} {x:List AS} {a:Int} {r:Int},Qg n x a=some r->AI Tryz.prog 107 [D.sl (List.map AX x),D.v (.int .i64 a)] (D.v (.int .i64 r)) true:=by
 intro n;induction n with
 |zero=>intro x a r H;exact Zx H
 |succ n e=>
  intro x a r H;unfold Qg at H;refine zP #[.tmp 4] Tryz.func107 ?_;refine AT (ZT 1 ?_);refine Z0 ?_;refine AT (AT ?_);refine ZT 1 ?_;have⟨s,g,h⟩:=AL H;have⟨i,f⟩:=FW g;try simp only[Int.reduceToNat,Lk] at f
  have j:=Cr AX f;refine Z1 (Y2 (A8 .i64 i) j) ?_;have⟨k,m,c⟩:=AL h;refine D3 (α:={ y:Unit // k= .inl y }) (fun |⟨_,_⟩=>⟨upd 0 (.d (.sl (List.map AX x)) true) (upd 1 (.v (.int .i64 a)) AK),AM,0⟩) ?_ ?_
  ·refine ZT 1 ?_;refine Z0 ?_;rcases As m with⟨b,H10⟩ |⟨b,H10⟩
   ·refine Z1 b ?_;obtain rfl:=Zi H10;obtain rfl:=Zi c;exact Ax
   refine Z1 b ?_;rcases As H10 with⟨d,H12⟩ |⟨d,H12⟩
   ·refine Z1 (Y2 b d) ?_;obtain rfl:=Zi H12;obtain rfl:=Zi c;exact Ax
   refine Z1 (Y2 b d) ?_;obtain rfl:=Zi H12;exact⟨⟨(),rfl⟩,ZR []⟩
  rintro⟨_,o⟩;obtain rfl:=o.symm;try dsimp only at c
  refine ZT 1 ?_;have⟨t,p,H14⟩:=AL c;refine Z0 ?_;refine Cn (e p) ?_;have⟨u,q,H16⟩:=AL H14;refine Z0 ?_;refine Cn (e q) ?_;refine Z0 ?_;obtain rfl:=Zi H16;exact Ax
def PL (n:Nat)(a:AW × Bool):Nat->(List Ao × Int)->Option (List Ao)
 |0,_=>none
 |c+1,(d,b)=>(if decide (b<(a.1.subs.length:Int)) then (CD a.1.subs b).bind fun e=>(if (e.rel.toList==({ data:= #[] }:ByteArray).toList) then PL n a c (d,(i64.wrap (b+1))) else (DG d [(⟨e.type_,e.rel,false⟩:Ao)]).bind fun l=>PL n a c (l,(i64.wrap (b+1)))) else some d)
def Sa (n:Nat)(d:Int):Nat->(List Bool × Int)->Option (List Bool)
 |0,_=>none
 |c+1,(b,a)=>(if decide (a<d) then (CD b a).bind fun _=>(some (List.set b (Int.toNat a) true)).bind fun e=>Sa n d c (e,(i64.wrap (a+1))) else some b)
def JD (n:Nat)(b:AW × Bool):Nat->(List Bool × Int)->Option (List Bool)
 |0,_=>none
 |c+1,(d,a)=>(if decide (a<(b.1.expr.length:Int)) then (CD b.1.expr a).bind fun e=>(if (e.kind==4) then (Qg n b.1.expr (i64.wrap (a-1))).bind fun f=>(Sa n a n (d,f):Option (List Bool)).bind fun g=>JD n b c (g,(i64.wrap (a+1))) else JD n b c (d,(i64.wrap (a+1)))) else some d)
def Qh (n:Nat)(e:List Bool)(f:Int)(g:AS)(a:AW × Bool):Nat->(List Ao × Int)->Option (List Ao)
 |0,_=>none
 |c+1,(b,d)=>(if decide (d<(a.1.subs.length:Int)) then (CD a.1.subs d).bind fun h=>(CD e f).bind fun i=>(DG b [(⟨h.type_,g.b,i⟩:Ao)]).bind fun j=>Qh n e f g a c (j,(i64.wrap (d+1))) else DM (decide (0<b.length))<| some b)
def MZ (n:Nat)(t0:List AG)(b:ByteArray)(f:AW × Bool)(d:List Bool):Nat->(List Ao × Int)->Option (List Ao)
 |0,_=>none
 |c+1,(g,a)=>(if decide (a<(f.1.expr.length:Int)) then (CD f.1.expr a).bind fun e=>(if (e.kind==1) then (CD d a).bind fun i=>(DG g [(⟨b,e.a,i⟩:Ao)]).bind fun j=>MZ n t0 b f d c (j,(i64.wrap (a+1))) else (if (e.kind==2) then (Hr n t0 b e.a).bind fun k=>(CD d a).bind fun m=>(DG g [(⟨b,e.a,m⟩:Ao)]).bind fun o=>(Qh n d a e k n (o,0):Option (List Ao)).bind fun h=>DM (decide (0<h.length))<| MZ n t0 b f d c (h,(i64.wrap (a+1))) else MZ n t0 b f d c (g,(i64.wrap (a+1))))) else some g)
def Hz (n:Nat)(t0:List AG)(b:ByteArray)(c:ByteArray):Option (List Ao):=(Hr n t0 b c).bind fun a=>(PL n a n ([],0):Option (List Ao)).bind fun d=>(Wu (a.1.expr.length:Int)).bind fun e=>(JD n a n (e,0):Option (List Bool)).bind fun f=>(MZ n t0 b a f n (d,0):Option (List Ao)).bind fun g=>some g
set_option maxHeartbeats 8000000 in
theorem yY {t0:List AG}{i:ByteArray}{t2:ByteArray}{r:List Ao}(H:Hz n t0 i t2=some r):AI Tryz.prog 77 [D.sl (List.map AQ t0),D.v (.string i),D.v (.string t2)] (D.sl (List.map Ae r)) true:=by
 unfold Hz at H;refine zP #[.tmp 6] Tryz.func77 ?_;refine AT (ZT 1 ?_);refine Z0 ?_;refine AT (ZT 1 ?_);have⟨a,b1,H2⟩:=AL H;refine Z0 ?_;refine Cn (QP b1) ?_;refine Z0 ?_;refine AT (ZT 1 ?_);refine Z0 ?_;refine AT (AT ?_);refine ZT 1 ?_;refine Z0 ?_;have⟨e_,E3,H4⟩:=AL H2;refine D3 (α:={ y:List Ao // e_=y } × Nat) (fun |⟨⟨j,_⟩,S⟩=>⟨upd 0 (.d (.sl (List.map AQ t0)) true) (upd 1 (.v (.string i)) (upd 7 (.pt 0 0) (upd 9 (Ac 1 S (List.map Ae j)) AK))),upd 0 (some (.bx [.v (.string a.1.name),.d (.sl (List.map AR a.1.subs)) true,.d (.sl (List.map AX a.1.expr)) true])) (upd 1 (A6 3 S false (List.map Ae j)) AM),2⟩) ?_ ?_
 ·refine CS ?_;refine DQ (α:={ q:(Nat × (List Ao × Int)) × Nat // PL n a q.1.1 q.1.2=some e_ }) (fun |⟨⟨⟨c,⟨o,L⟩⟩,g⟩,_⟩=>⟨upd 0 (.d (.sl (List.map AQ t0)) true) (upd 1 (.v (.string i)) (upd 7 (.pt 0 0) (upd 9 (Ac 1 g (List.map Ae o)) (upd 10 (.v (.int .i64 L)) AK)))),upd 0 (some (.bx [.v (.string a.1.name),.d (.sl (List.map AR a.1.subs)) true,.d (.sl (List.map AX a.1.expr)) true])) (upd 1 (A6 3 g false (List.map Ae o)) AM),2⟩) (fun q=>q.1.1.1) ⟨((n,([],0)),0),E3⟩ ?_ ?_
  ·exact ZR [(0,8)]
  rintro⟨⟨⟨c,⟨o,L⟩⟩,g⟩,T⟩;rcases c with _ |c
  ·exact Zx T
  unfold PL at T
  try dsimp only at T
  refine ZT 1 ?_;refine Z0 ?_;rcases As T with⟨B,H17⟩ |⟨B,H17⟩
  ·have⟨x2,c5,H19⟩:=AL H17;have⟨U,ba⟩:=FW c5;try simp only[Int.reduceToNat,Lk] at ba
   have V:=Cr AR ba;refine Z1 (Y3 B (A8 .i64 U) V) ?_;rcases As H19 with⟨X,H25⟩ |⟨X,H25⟩
   ·refine Z1 (Y4 B (A8 .i64 U) V X) ?_;exact⟨⟨((c,(o,(i64.wrap (L+1)))),g),H25⟩,ZR [(0,0),(1,1)],Ls _⟩
   have⟨l,c6,H27⟩:=AL H25;have⟨Y,bb⟩:=Ee c6;have Y:o.length+1<=4294967296:=Y;have bd:List.map Ae o++[[.v (.string x2.type_),.v (.string x2.rel),.v (.bool false)]]=List.map Ae l:=ER Ae bb;have be:o.length+1=l.length:=ES bb;have bg:l.length<=4294967296:=(by omega);have er:0<l.length:=(by omega);refine Z1 (Y2 (Y6 B (A8 .i64 U) V X Y bd) (Y2 be bg)) ?_;refine DF (by (cases o<;>rfl)) ?_;refine Z1 (Y2 (Y6 B (A8 .i64 U) V X Y bd) (Y2 be bg)) ?_;rcases o with _ |⟨q0,q1⟩
   ·try simp only[Lw,CW,CZ]
    exact⟨⟨((c,(l,(i64.wrap (L+1)))),0),H27⟩,ZR [(0,0),(1,29)],Ls _⟩
   try simp only[Li,CW,CZ]
   exact⟨⟨((c,(l,(i64.wrap (L+1)))),(g+1)),H27⟩,ZR [(0,0),(1,1)],Ls _⟩
  refine Z1 B ?_;obtain rfl:=Zi H17;exact⟨⟨⟨o,rfl⟩,g⟩,ZR [(0,0),(1,1)]⟩
 rintro⟨⟨j,c7⟩,S⟩;obtain rfl:=c7.symm;try dsimp only at H4
 refine AT (ZT 1 ?_);have⟨l2,c9,H35⟩:=AL H4;have⟨da,dd,df⟩:=xm c9;try simp -implicitDefEqProofs only[go_sem,Nat.reduceLT,Nat.reduceEqDiff,Nat.reduceAdd,Nat.reduceLeDiff,reduceCtorEq, ↓reduceIte,(da .i64),dd,df,Lc]
 refine AT (AT ?_);refine ZT 1 ?_;try simp -implicitDefEqProofs only[go_sem,Nat.reduceAdd]
 have⟨bl,E39,H40⟩:=AL H35;refine D3 (α:={ y:List Bool // bl=y } × Nat) (fun |⟨⟨k,_⟩,Z⟩=>⟨upd 0 (.d (.sl (List.map AQ t0)) true) (upd 1 (.v (.string i)) (upd 7 (.pt 0 0) (upd 9 (Ac 1 Z (List.map Ae j)) (upd 11 (.so 2 0 0 (k.length)) AK)))),upd 0 (some (.bx [.v (.string a.1.name),.d (.sl (List.map AR a.1.subs)) true,.d (.sl (List.map AX a.1.expr)) true])) (upd 1 (A6 3 Z false (List.map Ae j)) (upd 2 (some (.rw (List.map eB k) 1 0 false false)) AM)),3⟩) ?_ ?_
 ·refine CS ?_;refine DQ (α:={ q:(Nat × (List Bool × Int)) × Nat // JD n a q.1.1 q.1.2=some bl }) (fun |⟨⟨⟨c,⟨C,x⟩⟩,E⟩,_⟩=>⟨upd 0 (.d (.sl (List.map AQ t0)) true) (upd 1 (.v (.string i)) (upd 7 (.pt 0 0) (upd 9 (Ac 1 E (List.map Ae j)) (upd 11 (.so 2 0 0 (C.length)) (upd 12 (.v (.int .i64 x)) AK))))),upd 0 (some (.bx [.v (.string a.1.name),.d (.sl (List.map AR a.1.subs)) true,.d (.sl (List.map AX a.1.expr)) true])) (upd 1 (A6 3 E false (List.map Ae j)) (upd 2 (some (.rw (List.map eB C) 1 0 false false)) AM)),3⟩) (fun q=>q.1.1.1) ⟨((n,(l2,0)),S),E39⟩ ?_ ?_
  ·exact ZR [(0,0),(1,1),(2,5)]
  rintro⟨⟨⟨c,⟨C,x⟩⟩,E⟩,L41⟩;rcases c with _ |c
  ·exact Zx L41
  unfold JD at L41
  try dsimp only at L41
  refine AT (ZT 1 ?_);refine Z0 ?_;rcases As L41 with⟨p,H89⟩ |⟨p,H89⟩;rotate_left
  ·refine Z1 p ?_;obtain rfl:=Zi H89;exact⟨⟨⟨C,rfl⟩,E⟩,ZR [(0,0),(1,1),(2,2)]⟩
  refine Z1 p ?_;refine AT (CS ?_);refine AT (ZT 1 ?_);have⟨x6,dk,H91⟩:=AL H89;have⟨F,bo⟩:=FW dk;try simp only[Int.reduceToNat,Lk] at bo
  have G:=Cr AX bo;refine Z1 (Y3 p (A8 .i64 F) G) ?_;rcases As H91 with⟨t,H97⟩ |⟨t,H97⟩;rotate_left
  ·refine DN (by rfl) t ?_;refine Z1 (Y4 p (A8 .i64 F) G t) ?_;refine ZT 3 ?_;refine Z1 (Y4 p (A8 .i64 F) G t) ?_;exact⟨⟨((c,(C,(i64.wrap (x+1)))),E),H97⟩,ZR [(0,0),(1,1),(2,2)],Ls _⟩
  refine ET (by rfl) t ?_;refine Z1 (Y4 p (A8 .i64 F) G t) ?_;refine AT (ZT 1 ?_);have⟨dl,dm,H99⟩:=AL H97;refine Z1 (Y4 p (A8 .i64 F) G t) ?_;refine Cn (yX dm) ?_;refine Z1 (Y4 p (A8 .i64 F) G t) ?_;have⟨br,E100,H101⟩:=AL H99;refine D3 (α:={ y:List Bool // br=y } × Nat) (fun |⟨⟨aa,_⟩,ab⟩=>⟨upd 0 (.d (.sl (List.map AQ t0)) true) (upd 1 (.v (.string i)) (upd 7 (.pt 0 0) (upd 9 (Ac 1 ab (List.map Ae j)) (upd 11 (.so 2 0 0 (aa.length)) (upd 12 (.v (.int .i64 x)) AK))))),upd 0 (some (.bx [.v (.string a.1.name),.d (.sl (List.map AR a.1.subs)) true,.d (.sl (List.map AX a.1.expr)) true])) (upd 1 (A6 3 ab false (List.map Ae j)) (upd 2 (some (.rw (List.map eB aa) 1 0 false false)) AM)),3⟩) ?_ ?_;rotate_left
  ·rintro⟨⟨aa,dn⟩,ab⟩;obtain rfl:=dn.symm;try dsimp only at H101
   refine Z0 ?_;refine ZT 1 ?_;refine Z0 ?_;exact⟨⟨((c,(aa,(i64.wrap (x+1)))),ab),H101⟩,ZR [(0,0),(1,1),(2,2)],Ls _⟩
  refine CS ?_;refine DQ (α:={ q:(Nat × (List Bool × Int)) × Nat // Sa n x q.1.1 q.1.2=some br }) (fun |⟨⟨⟨c,⟨u,I⟩⟩,M⟩,_⟩=>⟨upd 0 (.d (.sl (List.map AQ t0)) true) (upd 1 (.v (.string i)) (upd 7 (.pt 0 0) (upd 9 (Ac 1 M (List.map Ae j)) (upd 11 (.so 2 0 0 (u.length)) (upd 12 (.v (.int .i64 x)) (upd 13 (.v (.int .i64 I)) AK)))))),upd 0 (some (.bx [.v (.string a.1.name),.d (.sl (List.map AR a.1.subs)) true,.d (.sl (List.map AX a.1.expr)) true])) (upd 1 (A6 3 M false (List.map Ae j)) (upd 2 (some (.rw (List.map eB u) 1 0 false false)) AM)),3⟩) (fun q=>q.1.1.1) ⟨((n,(C,dl)),E),E100⟩ ?_ ?_
  ·exact ZR [(0,0),(1,1),(2,2)]
  rintro⟨⟨⟨c,⟨u,I⟩⟩,M⟩,L102⟩;rcases c with _ |c
  ·exact Zx L102
  unfold Sa at L102
  try dsimp only at L102
  refine ZT 1 ?_;refine Z0 ?_;rcases As L102 with⟨aq,H119⟩ |⟨aq,H119⟩
  ·have⟨x8,dp,H121⟩:=AL H119;have⟨dq,ar⟩:=FW dp;try simp only[Int.reduceToNat,Lk] at ar
   have dr:=Cr eB ar;have ds:=EQ ar;have⟨J,dt,H127⟩:=AL H121;have bs:List.set u (Int.toNat I) true=J:=LM dt;have bx:List.set (List.map eB u) (Int.toNat I) [.v (.bool true)]=List.map eB J:=by rw[<-bs,NK]
   try simp only[Li,Lw] at bx
   have dw:u.length=J.length:=(by rw[<-bs,NZ]);have dy:∀w,AV.so 2 w 0 u.length=AV.so 2 w 0 J.length:=fun w=>(by rw[dw]);have dS:(Int.toNat I)<J.length:=(by omega);refine Z1 (Y2 (Y6 aq (A8 .i64 dq) dr ds bx dy) dS) ?_;exact⟨⟨((c,(J,(i64.wrap (I+1)))),M),H127⟩,ZR [(0,0),(1,1),(2,2)],Ls _⟩
  refine Z1 aq ?_;obtain rfl:=Zi H119;exact⟨⟨⟨u,rfl⟩,M⟩,ZR [(0,0),(1,1),(2,2)]⟩
 rintro⟨⟨k,d0⟩,Z⟩;obtain rfl:=d0.symm;try dsimp only at H40
 refine AT (AT ?_);refine ZT 1 ?_;refine Z0 ?_;have⟨b0,E134,H135⟩:=AL H40;refine D3 (α:={ y:List Ao // b0=y } × Nat) (fun |⟨⟨av,_⟩,aE⟩=>⟨upd 9 (Ac 0 aE (List.map Ae av)) AK,upd 0 (A6 3 aE false (List.map Ae av)) AM,1⟩) ?_ ?_;rotate_left
 ·rintro⟨⟨av,d1⟩,aE⟩;obtain rfl:=d1.symm;try dsimp only at H135
  refine ZT 1 ?_;refine Z0 ?_;obtain rfl:=Zi H135;exact Ax
 refine CS ?_;refine DQ (α:={ q:(Nat × (List Ao × Int)) × Nat // MZ n t0 i a k q.1.1 q.1.2=some b0 }) (fun |⟨⟨⟨c,⟨d,s⟩⟩,z⟩,_⟩=>⟨upd 0 (.d (.sl (List.map AQ t0)) true) (upd 1 (.v (.string i)) (upd 7 (.pt 0 0) (upd 9 (Ac 1 z (List.map Ae d)) (upd 11 (.so 2 0 0 (k.length)) (upd 14 (.v (.int .i64 s)) AK))))),upd 0 (some (.bx [.v (.string a.1.name),.d (.sl (List.map AR a.1.subs)) true,.d (.sl (List.map AX a.1.expr)) true])) (upd 1 (A6 3 z false (List.map Ae d)) (upd 2 (some (.rw (List.map eB k) 1 0 false false)) AM)),3⟩) (fun q=>q.1.1.1) ⟨((n,(j,0)),Z),E134⟩ ?_ ?_
 ·exact ZR [(0,0),(1,1),(2,2)]
 rintro⟨⟨⟨c,⟨d,s⟩⟩,z⟩,L136⟩;rcases c with _ |c
 ·exact Zx L136
 unfold MZ at L136
 try dsimp only at L136
 refine AT (ZT 1 ?_);refine Z0 ?_;rcases As L136 with⟨b,H234⟩ |⟨b,H234⟩;rotate_left
 ·refine Z1 b ?_;obtain rfl:=Zi H234;exact⟨⟨⟨d,rfl⟩,z⟩,ZR [(0,1)]⟩
 refine Z1 b ?_;refine AT (CS ?_);refine AT (ZT 1 ?_);have⟨A,d2,H236⟩:=AL H234;have⟨e,b2⟩:=FW d2;try simp only[Int.reduceToNat,Lk] at b2
 have f:=Cr AX b2;refine Z1 (Y3 b (A8 .i64 e) f) ?_;refine AT (ZT 1 ?_);refine Z1 (Y3 b (A8 .i64 e) f) ?_;refine CS ?_;refine AT (ZT 1 ?_);refine Z1 (Y3 b (A8 .i64 e) f) ?_;rcases As H236 with⟨h,H242⟩ |⟨h,H242⟩
 ·refine ET (by rfl) h ?_;refine Z1 (Y4 b (A8 .i64 e) f h) ?_;refine ZT 4 ?_;have⟨d3,d4,H244⟩:=AL H242;have⟨b3,a0⟩:=FW d4;try simp only[Int.reduceToNat,Lk] at a0
  have b4:=Cr eB a0;have b5:=EQ a0;have⟨K,ea,H250⟩:=AL H244;have⟨ad,b6⟩:=Ee ea;have ad:d.length+1<=4294967296:=ad;have b7:List.map Ae d++[[.v (.string i),.v (.string A.a),.v (.bool d3)]]=List.map Ae K:=ER Ae b6;have b8:d.length+1=K.length:=ES b6;have b9:K.length<=4294967296:=by omega
  have es:0<K.length:=by omega
  refine Z1 (Y2 (Y6 b (A8 .i64 e) f h (A8 .i64 b3) b4) (Y5 b5 ad b7 b8 b9)) ?_;refine DF (by (cases d<;>rfl)) ?_;refine Z1 (Y2 (Y6 b (A8 .i64 e) f h (A8 .i64 b3) b4) (Y5 b5 ad b7 b8 b9)) ?_;rcases d with _ |⟨q0,q1⟩
  ·try simp only[Lw,CW,CZ]
   exact⟨⟨((c,(K,(i64.wrap (s+1)))),0),H250⟩,ZR [(0,0),(1,29),(2,2)],Ls _⟩
  try simp only[Li,CW,CZ]
  exact⟨⟨((c,(K,(i64.wrap (s+1)))),(z+1)),H250⟩,ZR [(0,0),(1,1),(2,2)],Ls _⟩
 refine DN (by rfl) h ?_;refine Z1 (Y4 b (A8 .i64 e) f h) ?_;refine AT (ZT 1 ?_);refine Z1 (Y4 b (A8 .i64 e) f h) ?_;rcases As H242 with⟨m,H258⟩ |⟨m,H258⟩;rotate_left
 ·refine DN (by rfl) m ?_;refine Z1 (Y5 b (A8 .i64 e) f h m) ?_;refine ZT 4 ?_;refine Z1 (Y5 b (A8 .i64 e) f h m) ?_;exact⟨⟨((c,(d,(i64.wrap (s+1)))),z),H258⟩,ZR [(0,0),(1,1),(2,2)],Ls _⟩
 refine ET (by rfl) m ?_;refine Z1 (Y5 b (A8 .i64 e) f h m) ?_;refine AT (ZT 1 ?_);have⟨ag,eb,H260⟩:=AL H258;refine Z1 (Y5 b (A8 .i64 e) f h m) ?_;refine Cn (QP eb) ?_;refine Z1 (Y5 b (A8 .i64 e) f h m) ?_;refine AT (ZT 1 ?_);have⟨ed,ee,H262⟩:=AL H260;have⟨a1,a2⟩:=FW ee
 try simp only[Int.reduceToNat,Lk] at a2
 have a3:=Cr eB a2;have a4:=EQ a2;have⟨N,ef,H268⟩:=AL H262;have⟨O,cb⟩:=Ee ef;have O:d.length+1<=4294967296:=O;have a5:List.map Ae d++[[.v (.string i),.v (.string A.a),.v (.bool ed)]]=List.map Ae N:=ER Ae cb;have a6:d.length+1=N.length:=ES cb;have a7:N.length<=4294967296:=by omega
 have et:0<N.length:=by omega
 refine Z1 (Y2 (Y6 b (A8 .i64 e) f h m (A8 .i64 a1)) (Y6 a3 a4 O a5 a6 a7)) ?_;refine DF (by (cases d<;>rfl)) ?_;refine Z1 (Y2 (Y6 b (A8 .i64 e) f h m (A8 .i64 a1)) (Y6 a3 a4 O a5 a6 a7)) ?_;refine AT (ZT 1 ?_);refine Z1 (Y2 (Y6 b (A8 .i64 e) f h m (A8 .i64 a1)) (Y6 a3 a4 O a5 a6 a7)) ?_;have⟨cf,E275,H276⟩:=AL H268;refine D3 (α:={ y:List Ao // cf=y } × Nat) (fun |⟨⟨P,_⟩,ak⟩=>⟨upd 0 (.d (.sl (List.map AQ t0)) true) (upd 1 (.v (.string i)) (upd 7 (.pt 0 0) (upd 9 (.so 1 ak 0 (P.length)) (upd 11 (.so 2 0 0 (k.length)) (upd 14 (.v (.int .i64 s)) AK))))),upd 0 (some (.bx [.v (.string a.1.name),.d (.sl (List.map AR a.1.subs)) true,.d (.sl (List.map AX a.1.expr)) true])) (upd 1 (some (.rw (List.map Ae P) 3 ak false false)) (upd 2 (some (.rw (List.map eB k) 1 0 false false)) AM)),3⟩) ?_ ?_;rotate_left
 ·rintro⟨⟨P,eg⟩,ak⟩;obtain rfl:=eg.symm;try dsimp only at H276
  refine Z0 ?_;refine ZT 1 ?_;have⟨eh,H326⟩:=FC H276;have ew:0<P.length:=of_decide_eq_true eh;refine Z0 ?_;exact⟨⟨((c,(P,(i64.wrap (s+1)))),ak),H326⟩,ZR [(0,0),(1,1),(2,2)],Ls _⟩
 refine CS ?_;refine DQ (α:={ q:(Nat × (List Ao × Int)) × Nat // Qh n k s A ag q.1.1 q.1.2=some cf }) (fun |⟨⟨⟨c,⟨v,a8⟩⟩,Q⟩,_⟩=>⟨upd 0 (.d (.sl (List.map AQ t0)) true) (upd 1 (.v (.string i)) (upd 7 (.pt 0 0) (upd 9 (.so 1 Q 0 (v.length)) (upd 11 (.so 2 0 0 (k.length)) (upd 14 (.v (.int .i64 s)) (upd 15 (.pt 3 0) (upd 16 (.pt 4 0) (upd 18 (.v (.int .i64 a8)) AK)))))))),upd 0 (some (.bx [.v (.string a.1.name),.d (.sl (List.map AR a.1.subs)) true,.d (.sl (List.map AX a.1.expr)) true])) (upd 1 (some (.rw (List.map Ae v) 3 Q false false)) (upd 2 (some (.rw (List.map eB k) 1 0 false false)) (upd 3 (some (.bx [.v (.int .i64 A.kind),.v (.string A.a),.v (.string A.b)])) (upd 4 (some (.bx [.v (.string ag.1.name),.d (.sl (List.map AR ag.1.subs)) true,.d (.sl (List.map AX ag.1.expr)) true])) AM)))),5⟩) (fun q=>q.1.1.1) ⟨((n,(N,0)),(CZ z (List.map Ae d))),E275⟩ ?_ ?_
 ·rcases d with _ |⟨q0,q1⟩
  ·try simp only[Lw,CW,CZ]
   exact ZR [(0,0),(1,42),(2,2),(3,13),(4,29)]
  try simp only[Li,CW,CZ]
  exact ZR [(0,0),(1,1),(2,2),(3,13),(4,29)]
 rintro⟨⟨⟨c,⟨v,a8⟩⟩,Q⟩,L277⟩;rcases c with _ |c
 ·exact Zx L277
 unfold Qh at L277
 try dsimp only at L277
 refine ZT 1 ?_;refine Z0 ?_;rcases As L277 with⟨ao,H301⟩ |⟨ao,H301⟩
 ·have⟨ek,el,H303⟩:=AL H301;have⟨ch,cp⟩:=FW el;try simp only[Int.reduceToNat,Lk] at cp
  have cs:=Cr AR cp;have⟨em,en,H309⟩:=AL H303;have⟨cx,a9⟩:=FW en;try simp only[Int.reduceToNat,Lk] at a9
  have cN:=Cr eB a9;have c0:=EQ a9;have⟨R,eo,H315⟩:=AL H309;have⟨ap,c1⟩:=Ee eo;have ap:v.length+1<=4294967296:=ap;have c2:List.map Ae v++[[.v (.string ek.type_),.v (.string A.b),.v (.bool em)]]=List.map Ae R:=ER Ae c1;have c3:v.length+1=R.length:=ES c1;have c4:R.length<=4294967296:=by omega
  have ex:0<R.length:=by omega
  refine Z1 (Y2 (Y6 ao (A8 .i64 ch) cs (A8 .i64 cx) cN c0) (Y4 ap c2 c3 c4)) ?_;refine DF (by rfl) ?_;refine Z1 (Y2 (Y6 ao (A8 .i64 ch) cs (A8 .i64 cx) cN c0) (Y4 ap c2 c3 c4)) ?_;exact⟨⟨((c,(R,(i64.wrap (a8+1)))),(Q+1)),H315⟩,ZR [(0,0),(1,1),(2,2),(3,3),(4,4)],Ls _⟩
 have⟨eq,H323⟩:=FC H301;have ey:0<v.length:=of_decide_eq_true eq;refine Z1 ao ?_;obtain rfl:=Zi H323;exact⟨⟨⟨v,rfl⟩,Q⟩,ZR [(0,0),(1,1),(2,2)]⟩
end Go.Proofs.YtnmkbmefohakmaaGreat.Ab
