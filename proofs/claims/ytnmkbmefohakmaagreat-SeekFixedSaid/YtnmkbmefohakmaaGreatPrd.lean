/-
 The document's reader of schemas: several of an expression.
-/
import Derived.Test.YtnmkbmefohakmaaGreatPas
set_option linter.all false
namespace Go.Proofs.YtnmkbmefohakmaaGreat.Ab
open Go.RowKit IntKind
structure Aj where
 l:List CN
 p:Nat
 long:Int
 e:Int
 bad:Int
 deep:Nat
 out:List AS
 from_:Int
abbrev Aq (x:Aj)(bl:Bool)(ov:AV):AO:=.bx [.d (.sl (x.l.map Am)) bl,.v (.int .i64 (x.p:Int)),.v (.int .i64 x.long),.v (.int .i64 x.e),.v (.int .i64 x.bad),.v (.int .i64 (x.deep:Int)),ov,.v (.int .i64 x.from_)]
def Hv (x:Aj):Int:=match x.l[x.p]? with |some t=>t.at_ |none=>x.long
def isM (x:Aj)(s:ByteArray):Bool:=match x.l[x.p]? with |some t=>t.kind==2&&t.text.toList==s.toList |none=>false
variable {bl:Bool}{hp:Hp}{n oid q:Nat}{t:ByteArray}{x:Aj}
section
variable {x:Aj}{bl:Bool}{ov:AV}{q nx:Nat}{hp:Hp}
theorem W9 (b:hp q=some (Aq x bl ov))(_:x.l.length<4611686018427387904):AU Tryz.prog 84 [.pt q 0] hp nx fun v e f=>v= .v (.int .i64 (Hv x))/\e=hp/\nx<=f:=by
 refine zr Tryz.func84 ?_;unfold Hv;by_cases h:x.p<x.l.length
 ·have a:(decide ((x.p:Int)<(x.l.length:Int)))=true:=Cp;have c:x.l[x.p]? =some x.l[x.p]:=Le h;have d:(x.l.map Am)[x.p]? =some [D.v (.int .i64 x.l[x.p].kind),D.v (.int .i64 x.l[x.p].at_),D.v (.string x.l[x.p].text)]:=Cr Am c;rw[c];refine Z1 (Y3 b a d) ?_;refine DF (by rfl) ?_;refine Z1 (Y5 b a d (A8 .i64 (show(0:Int)<=(x.p:Int) by omega)) (show((x.p:Int)).toNat=x.p from Lk _)) ?_;refine DF (by rfl) ?_;refine Z0 ?_;exact⟨_,_,rfl,⟨fun _=>.inr rfl⟩,rfl,rfl,by show nx<=nx+1+10+12;omega⟩
 have a:(decide ((x.p:Int)<(x.l.length:Int)))=false:=C6;rw[Nk (by omega)];refine Z1 (Y2 b a) ?_;refine DF (by rfl) ?_;refine Z1 (Y2 b a) ?_;exact⟨_,_,rfl,⟨fun _=>.inr rfl⟩,rfl,rfl,by show nx<=nx+1+10+5;omega⟩
set_option maxRecDepth 8000 in
theorem I8 (b:hp q=some (Aq x bl ov))(_:x.l.length<4611686018427387904):AU Tryz.prog 56 [.pt q 0,.v (.string t)] hp nx fun v e f=>v= .v (.bool (isM x t))/\e=hp/\nx<=f:=by
 refine zr Tryz.func56 ?_;unfold isM;by_cases h:x.p<x.l.length
 ·have a:(decide ((x.p:Int)<(x.l.length:Int)))=true:=Cp;have c:x.l[x.p]? =some x.l[x.p]:=Le h;have g:(x.l.map Am)[x.p]? =some [D.v (.int .i64 x.l[x.p].kind),D.v (.int .i64 x.l[x.p].at_),D.v (.string x.l[x.p].text)]:=Cr Am c;have w:=Y2 b (Y4 a g (A8 .i64 (show(0:Int)<=(x.p:Int) by omega)) (show((x.p:Int)).toNat=x.p from Lk _));rw[c];dsimp only;cases d:(x.l[x.p].kind==2) with
  |true=>
   refine Z1 (Y2 d w) ?_;refine DF (by rfl) ?_;refine Z0 ?_;exact⟨.v (.bool (x.l[x.p].text.toList==t.toList)),_,rfl,⟨fun _=>.inr rfl⟩,rfl,rfl,by show nx<=nx+1+40;omega⟩
  |false=>
   refine Z1 (Y2 d w) ?_;refine DF (by rfl) ?_;refine Z0 ?_;exact⟨.v (.bool false),_,rfl,⟨fun _=>.inr rfl⟩,rfl,rfl,by show nx<=nx+1+40;omega⟩
 have a:(decide ((x.p:Int)<(x.l.length:Int)))=false:=C6;rw[Nk (by omega)];refine Z1 (Y2 b a) ?_;refine DF (by rfl) ?_;refine Z0 ?_;exact⟨_,_,rfl,⟨fun _=>.inr rfl⟩,rfl,rfl,by show nx<=nx+1+40;omega⟩
def jS_ (x:Aj)(c:Int):Aj:=if x.e==0 then{ x with e:=c,bad:=Hv x } else x
theorem MS {c:Int}(a:hp q=some (Aq x bl ov))(f:x.l.length<4611686018427387904):AU Tryz.prog 54 [.pt q 0,.v (.int .i64 c)] hp nx fun v b d=>v= .tu []/\b=upd q (some (Aq (jS_ x c) bl ov)) hp/\nx<=d:=by
 refine zr Tryz.func54 ?_;unfold jS_;cases e:(x.e==0) with
 |true=>
  rw[if_pos rfl];refine Z1 (Y2 a e) ?_;refine CR ((W9 a f).mono ?_);rintro v b d ⟨rfl,rfl,g⟩;dsimp only at g;refine Z1 a ?_;exact⟨_,_,rfl,⟨fun _=>.inr rfl⟩,rfl,by show upd q _ (upd q _ b)=upd q _ b;rw[Em],by dsimp only;omega⟩
 |false=>
  rw[if_neg (by decide)];refine Z1 (Y2 a e) ?_;exact⟨_,_,rfl,⟨fun _=>.inr rfl⟩,rfl,(Fv a).symm,by show nx<=nx+5;omega⟩
def Do (x:Aj)(t:ByteArray):Aj:=if x.e==0 then(if isM x t then{ x with p:=x.p+1 } else jS_ x 9) else x
theorem SS (a:hp q=some (Aq x bl ov))(c:x.l.length<4611686018427387904)(i:x.p<4611686018427387903):AU Tryz.prog 58 [.pt q 0,.v (.string t)] hp nx fun v d e=>v= .tu []/\d=upd q (some (Aq (Do x t) bl ov)) hp/\nx<=e:=by
 refine zr Tryz.func58 ?_;unfold Do;cases f:(x.e==0) with
 |true=>
  have b:(x.e != 0)=false:=by rw[bne,f];rfl
  rw[if_pos rfl];refine Z1 (Y2 a b) ?_;refine CR ((I8 a c).mono ?_);rintro v d e ⟨rfl,rfl,g⟩;dsimp only at g;cases j:isM x t with
  |true=>
   rw[if_pos rfl];refine Z1 (Y2 a (Al (n:=x.p))) ?_;exact⟨_,_,rfl,⟨fun _=>.inr rfl⟩,rfl,rfl,by dsimp only;omega⟩
  |false=>
   rw[if_neg (by decide)];refine Z0 ?_;refine CR ((MS a c).mono ?_);rintro v k l ⟨rfl,rfl,h⟩;dsimp only at h;refine Z0 ?_;exact⟨_,_,rfl,⟨fun _=>.inr rfl⟩,rfl,rfl,by dsimp only;omega⟩
 |false=>
  have b:(x.e != 0)=true:=by rw[bne,f];rfl
  rw[if_neg (by decide)];refine Z1 (Y2 a b) ?_;exact⟨_,_,rfl,⟨fun _=>.inr rfl⟩,rfl,(Fv a).symm,by dsimp only;omega⟩
end
def KE (_:Nat)(a:Int):Option Bool:=(if decide (97<=a) then (if decide (a<=122) then some true else (if decide (48<=a) then (if decide (a<=57) then some true else some (a==95)) else some (a==95))) else (if decide (48<=a) then (if decide (a<=57) then some true else some (a==95)) else some (a==95)))
theorem fG {k:Int}{r:Bool}(H:KE n k=some r):AI Tryz.prog 82 [D.v (.int .u8 k)] (D.v (.bool r)) true:=by
 unfold KE at H;refine zP #[.tmp 2] Tryz.func82 ?_;refine AP ?_;obtain⟨a,c⟩ |⟨a,c⟩:=As H
 ·refine Z1 a ?_;obtain⟨d,e⟩ |⟨d,e⟩:=As c
  ·refine Z1 (Y2 a d) ?_;cases e;exact Ax
  have l:=Y2 a d;refine Z1 l ?_;obtain⟨b,f⟩ |⟨b,f⟩:=Cg l e
  ·refine Z1 b ?_;obtain⟨g,h⟩ |⟨g,h⟩:=Cg b f
   ·refine Z1 g ?_;cases h;exact Ax
   refine Z1 g ?_;cases h;exact Ax
  refine Z1 b ?_;cases f;exact Ax
 refine Z1 a ?_;obtain⟨i,H10⟩ |⟨i,H10⟩:=As c
 ·have m:=Y2 a i;refine Z1 m ?_;obtain⟨j,H12⟩ |⟨j,H12⟩:=Cg m H10
  ·refine Z1 j ?_;cases H12;exact Ax
  refine Z1 j ?_;cases H12;exact Ax
 refine Z1 (Y2 a i) ?_;cases H10;exact Ax
def xO_ (n:Nat)(s:ByteArray)(a:Int):Nat->Int->Option ((Unit) ⊕ Int)
 |0,_=>none
 |c+1,i=>(if decide (i<(s.size:Int)) then (D6 s i).bind fun b=>(if (b==a) then some (.inr i) else xO_ n s a c (i64.wrap (i+1))) else some (.inl ()))
def W8 (n:Nat)(s:ByteArray)(a:Int)(b:Int):Option Int:=(xO_ n s a n b:Option ((Unit) ⊕ Int)).bind fun
  | .inl _=>some (-1)
  | .inr r=>some r
theorem xx {s:ByteArray}{e:Int}{g:Int}{r:Int}(H:W8 n s e g=some r):AI Tryz.prog 83 [D.v (.string s),D.v (.int .u8 e),D.v (.int .i64 g)] (D.v (.int .i64 r)) true:=by
 unfold W8 at H;refine zP #[.tmp 6] Tryz.func83 ?_;refine KF ?_;refine zi H (fun _ _ _=>⟨AK,AM,0⟩) (fun u k a=> ?_) fun _ a=> ?_
 ·refine EG k (fun f _ i=>⟨kp [0,1] f (upd 7 (.v (.int .i64 i)) AK),AM,0⟩) (ZR []) fun c i l=> ?_
  refine AP ?_;obtain⟨b,H14⟩ |⟨b,H14⟩:=As l
  ·have⟨v,m,H16⟩:=AL H14;have⟨o,w,h,p⟩:=IV m;try simp only[Int.reduceToNat,Lk] at h
   have j:=Y4 b (A8 .i64 o) h p.symm;refine Z1 j ?_;obtain⟨d,H21⟩ |⟨d,H21⟩:=Cg j H16
   ·refine Z1 d ?_;cases H21;cases a;exact Ax
   refine Z1 d ?_;exact⟨_,H21,ZR []⟩
  refine Z1 b ?_;cases H14;exact⟨_,rfl,ZR []⟩
 refine AP ?_;cases a;exact Ax
def Zw (n:Nat)(t0:ByteArray):Nat->Int->Option (Int)
 |0,_=>none
 |c+1,a=>(if decide (a<(t0.size:Int)) then (D6 t0 a).bind fun b=>(if (b != 10) then Zw n t0 c (i64.wrap (a+1)) else some a) else some a)
def SP (n:Nat)(t0:ByteArray):Nat->Int->Option (Int)
 |0,_=>none
 |c+1,a=>(if decide (a<(t0.size:Int)) then (D6 t0 a).bind fun b=>(KE n b).bind fun d=>(if d then SP n t0 c (i64.wrap (a+1)) else some a) else some a)
def Kx (n:Nat)(t0:ByteArray):Nat->(List CN × Int)->Option ((List CN) ⊕ (List CN × Int × Int))
 |0,_=>none
 |c+1,(d,a)=>(if decide (a<(t0.size:Int)) then (D6 t0 a).bind fun b=>(((if (b==32) then some true else (if (b==9) then some true else (if (b==10) then some true else some (b==13)))):Option (Bool)).bind fun g=>(if g then some (.inl ((i64.wrap (a+1)),0)) else ((if (b==47) then (if (decide ((i64.wrap (a+1))<(t0.size:Int))) then (D6 t0 (i64.wrap (a+1))).bind fun h=>some (h==47) else some false) else some false):Option (Bool)).bind fun i=>(if i then (Zw n t0 n (i64.wrap (a+1)):Option (Int)).bind fun j=>some (.inl (j,0)) else (KE n b).bind fun k=>(if k then (SP n t0 n (i64.wrap (a+1)):Option (Int)).bind fun m=>some (.inl (m,1)) else ((if (b==45) then (if (decide ((i64.wrap (a+1))<(t0.size:Int))) then (D6 t0 (i64.wrap (a+1))).bind fun o=>some (o==62) else some false) else some false):Option (Bool)).bind fun p=>(if p then some (.inl ((i64.wrap ((i64.wrap (a+1))+1)),2)) else (W8 n ({ data:= #[123,125,58,59,124,35,61,43,45,38,40,41] }) b 0).bind fun s=>(if decide (s<0) then some (.inr ([],a,7)) else some (.inl ((i64.wrap (a+1)),2))))))):Option ((Int × Int) ⊕ (List CN × Int × Int))).bind fun | .inl (e,f)=>(if decide (0<f) then (KZ t0 a e).bind fun u=>(DG d [(⟨f,a,u⟩:CN)]).bind fun l=>Kx n t0 c (l,e) else Kx n t0 c (d,e)) | .inr r=>some (.inr r) else some (.inl d))
def SQ (n:Nat)(t0:ByteArray):Option (List CN × Int × Int):=(if decide (100000<(t0.size:Int)) then some ([],0,8) else (Kx n t0 n ([],0):Option ((List CN) ⊕ (List CN × Int × Int))).bind fun
   | .inl a=>some (a,0,0)
   | .inr r=>some r)
set_option maxHeartbeats 8000000 in
theorem xy {t0:ByteArray}{r:List CN × Int × Int}(H:SQ n t0=some r):AI Tryz.prog 53 [D.v (.string t0)] (D.tu [D.sl (List.map Am r.1),D.v (.int .i64 r.2.1),D.v (.int .i64 r.2.2)]) true:=by
 unfold SQ at H;refine zP #[.tmp 2,.tmp 3,.tmp 4] Tryz.func53 ?_;refine EE ?_;obtain⟨z,E⟩ |⟨z,E⟩:=As H
 ·refine Z1 z ?_;cases E;exact Ax
 refine HL z ?_;refine AT (AT ?_);refine Fo z ?_;refine pF E (fun _ _ F G=>⟨upd 5 (Ac 0 G (List.map Am F)) AK,upd 0 (A6 3 G false (List.map Am F)) AM,1⟩) (fun e_ E3 I=> ?_) fun F G I=> ?_;rotate_left
 ·refine AP ?_;cases I;exact Ax
 refine Ej E3 (fun f _ (a,m) g=>⟨kp [0] f (upd 5 (Ac 0 g (List.map Am a)) (upd 6 (.v (.int .i64 m)) AK)),upd 0 (A6 3 g false (List.map Am a)) AM,1⟩) 0 (ZR []) fun c ⟨a,m⟩ g L5=> ?_
 refine Ay ?_;obtain⟨A,H123⟩ |⟨A,H123⟩:=As L5;rotate_left
 ·refine Z1 A ?_;cases H123;exact⟨_,g,rfl,ZR [(0,0)]⟩
 refine Z1 A ?_;refine CS ?_;refine AT (ZT 1 ?_);have⟨ch,a6,H125⟩:=AL H123;have⟨a7,cp,X,a8⟩:=IV a6;try simp only[Int.reduceToNat,Lk] at X
 have Y:=Y4 A (A8 .i64 a7) X a8.symm;refine HL Y ?_;refine AT (ZT 1 ?_);refine Z1 Y ?_;refine AT ?_;refine pF H125 (fun f _ (o,J) p=>⟨kp [0,6] f (upd 5 (Ac 0 p (List.map Am a)) (upd 8 (.v (.int .i64 o)) (upd 9 (.v (.int .i64 J)) AK))),upd 0 (A6 3 p false (List.map Am a)) AM,1⟩) (fun cs E129 H130=> ?_) fun⟨o,J⟩ p H130=> ?_;rotate_left
 ·refine ZT 2 ?_;refine Z0 ?_;obtain⟨K,H227⟩ |⟨K,H227⟩:=As H130
  ·have⟨s2,a9,H229⟩:=AL H227;have⟨Z,ba,cx,bb⟩:=ur a9;have aa:Int.toNat m<=Int.toNat o:=(by omega);have ab:Int.toNat o<=t0.size:=(by omega);have ad:ByteArray.extract t0 (Int.toNat m) (Int.toNat o)=s2:=bb.symm;try simp only[Lk] at aa ab ad
   have⟨l,bd,H238⟩:=AL H229;have⟨L,ag⟩:=Ee bd;have L:a.length+1<=4294967296:=L;have be:List.map Am a++[[.v (.int .i64 J),.v (.int .i64 m),.v (.string s2)]]=List.map Am l:=ER Am ag;have bg:a.length+1=l.length:=ES ag;have bo:l.length<=4294967296:=(by omega);have cN:0<l.length:=(by omega);refine Z1 (Y2 (Y6 K (A8 .i64 Z) (A8 .i64 (NG Z ba)) aa ab ad) (Y4 L be bg bo)) ?_;rcases a with _ |⟨q0,q1⟩
   ·try simp only[Lw,CW,CZ]
    exact⟨_,0,H238,ZR [(0,12)]⟩
   try simp only[Li,CW,CZ]
   exact⟨_,(p+1),H238,ZR [(0,0)]⟩
  refine Z1 K ?_;exact⟨_,p,H227,ZR [(0,0)]⟩
 refine CS ?_;refine AT ?_;refine F7 E129 (fun f _ ak e=>⟨kp [0,6,7,8,9] f (upd 5 (Ac 0 e (List.map Am a)) (upd 22 (.v (.bool ak)) AK)),upd 0 (A6 3 e false (List.map Am a)) AM,1⟩) (fun c0 E131 H132=> ?_) fun ak e H132=> ?_
 ·refine AP ?_;obtain⟨s,H134⟩ |⟨s,H134⟩:=As E131
  ·refine Z1 s ?_;cases H134;exact⟨g,ZR [(0,0)]⟩
  refine Z1 s ?_;obtain⟨M,H136⟩ |⟨M,H136⟩:=As H134
  ·refine Z1 (Y2 s M) ?_;cases H136;exact⟨g,ZR [(0,0)]⟩
  have ao:=Y2 s M;refine Z1 ao ?_;obtain⟨N,H138⟩ |⟨N,H138⟩:=Cg ao H136
  ·refine Z1 N ?_;cases H138;exact⟨g,ZR [(0,0)]⟩
  refine Z1 N ?_;cases H138;exact⟨g,ZR [(0,0)]⟩
 obtain⟨h,H140⟩ |⟨h,H140⟩:=As H132
 ·refine ET (by rfl) h ?_;refine Z1 h ?_;refine ZT 2 ?_;refine Z1 h ?_;cases H140;exact⟨_,e,rfl,ZR [(0,0)]⟩
 refine DN (by rfl) h ?_;refine Z1 h ?_;refine AT ?_;refine F7 H140 (fun f _ ap d=>⟨kp [0,6,7,8,9] f (upd 5 (Ac 0 d (List.map Am a)) (upd 37 (.v (.bool ap)) AK)),upd 0 (A6 3 d false (List.map Am a)) AM,1⟩) (fun c1 E141 H142=> ?_) fun ap d H142=> ?_
 ·refine AP ?_;obtain⟨u,H144⟩ |⟨u,H144⟩:=As E141
  ·refine Z1 u ?_;obtain⟨O,H146⟩ |⟨O,H146⟩:=As H144
   ·have⟨c2,br,H148⟩:=AL H146;have⟨bs,c3,aq,bx⟩:=IV br;try simp only[Int.reduceToNat,Lk] at aq
    refine Z1 (Y5 u O (A8 .i64 bs) aq bx.symm) ?_;cases H148;exact⟨e,ZR [(0,0)]⟩
   refine Z1 (Y2 u O) ?_;cases H146;exact⟨e,ZR [(0,0)]⟩
  refine Z1 u ?_;cases H144;exact⟨e,ZR [(0,0)]⟩
 obtain⟨b,H153⟩ |⟨b,H153⟩:=As H142
 ·refine ET (by rfl) b ?_;refine Z1 b ?_;refine AT ?_;refine F7 H153 (fun f _ ar B=>⟨kp [0,6] f (upd 5 (Ac 0 B (List.map Am a)) (upd 8 (.v (.int .i64 ar)) AK)),upd 0 (A6 3 B false (List.map Am a)) AM,1⟩) (fun c4 E154 H155=> ?_) fun ar B H155=> ?_
  ·refine Ej E154 (fun f _ av i=>⟨kp [0,6] f (upd 5 (Ac 0 i (List.map Am a)) (upd 8 (.v (.int .i64 av)) AK)),upd 0 (A6 3 i false (List.map Am a)) AM,1⟩) d (ZR [(0,0)]) fun c av i L156=> ?_
   refine AP ?_;obtain⟨P,H167⟩ |⟨P,H167⟩:=As L156
   ·have⟨c5,b0,H169⟩:=AL H167;have⟨b1,c6,aE,b2⟩:=IV b0;try simp only[Int.reduceToNat,Lk] at aE
    have a0:=Y4 P (A8 .i64 b1) aE b2.symm;refine Z1 a0 ?_;obtain⟨Q,H174⟩ |⟨Q,H174⟩:=Cg a0 H169
    ·refine Z1 Q ?_;exact⟨_,i,H174,ZR [(0,0)]⟩
    refine Z1 Q ?_;cases H174;exact⟨i,ZR [(0,0)]⟩
   refine Z1 P ?_;cases H167;exact⟨i,ZR [(0,0)]⟩
  refine ZT 2 ?_;refine Z0 ?_;cases H155;exact⟨_,B,rfl,ZR [(0,0)]⟩
 refine DN (by rfl) b ?_;refine Cw b ?_;have⟨c7,b3,H177⟩:=AL H153;refine Z1 b ?_;refine Cn (fG b3) ?_;refine Z1 b ?_;obtain⟨v,H179⟩ |⟨v,H179⟩:=As H177
 ·refine ET (by rfl) v ?_;refine Z1 (Y2 b v) ?_;refine AT ?_;refine F7 H179 (fun f _ a1 C=>⟨kp [0,6] f (upd 5 (Ac 0 C (List.map Am a)) (upd 8 (.v (.int .i64 a1)) AK)),upd 0 (A6 3 C false (List.map Am a)) AM,1⟩) (fun c9 E180 H181=> ?_) fun a1 C H181=> ?_
  ·refine Ej E180 (fun f _ a2 j=>⟨kp [0,6] f (upd 5 (Ac 0 j (List.map Am a)) (upd 8 (.v (.int .i64 a2)) AK)),upd 0 (A6 3 j false (List.map Am a)) AM,1⟩) d (ZR [(0,0)]) fun c a2 j L182=> ?_
   refine AP ?_;obtain⟨R,H195⟩ |⟨R,H195⟩:=As L182
   ·have⟨da,b4,H197⟩:=AL H195;have⟨b5,dd,a3,b6⟩:=IV b4;try simp only[Int.reduceToNat,Lk] at a3
    have⟨df,b7,H202⟩:=AL H197;have S:=Y4 R (A8 .i64 b5) a3 b6.symm;refine Z1 S ?_;refine Cn (fG b7) ?_;refine Z1 S ?_;obtain⟨T,H204⟩ |⟨T,H204⟩:=Cg S H202
    ·refine Z1 T ?_;exact⟨_,j,H204,ZR [(0,0)]⟩
    refine Z1 T ?_;cases H204;exact⟨j,ZR [(0,0)]⟩
   refine Z1 R ?_;cases H195;exact⟨j,ZR [(0,0)]⟩
  refine ZT 2 ?_;refine Z0 ?_;cases H181;exact⟨_,C,rfl,ZR [(0,0)]⟩
 refine DN (by rfl) v ?_;refine Z1 (Y2 b v) ?_;refine AT ?_;refine F7 H179 (fun f _ a4 w=>⟨kp [0,6,7,8,9] f (upd 5 (Ac 0 w (List.map Am a)) (upd 79 (.v (.bool a4)) AK)),upd 0 (A6 3 w false (List.map Am a)) AM,1⟩) (fun dk E206 H207=> ?_) fun a4 w H207=> ?_
 ·refine AP ?_;obtain⟨y,H209⟩ |⟨y,H209⟩:=As E206
  ·refine Z1 y ?_;obtain⟨U,H211⟩ |⟨U,H211⟩:=As H209
   ·have⟨dl,b8,H213⟩:=AL H211;have⟨b9,dm,a5,cb⟩:=IV b8;try simp only[Int.reduceToNat,Lk] at a5
    refine Z1 (Y5 y U (A8 .i64 b9) a5 cb.symm) ?_;cases H213;exact⟨d,ZR [(0,0)]⟩
   refine Z1 (Y2 y U) ?_;cases H211;exact⟨d,ZR [(0,0)]⟩
  refine Z1 y ?_;cases H209;exact⟨d,ZR [(0,0)]⟩
 refine ZT 2 ?_;refine Z0 ?_;obtain⟨k,H218⟩ |⟨k,H218⟩:=As H207
 ·refine Z1 k ?_;cases H218;exact⟨_,w,rfl,ZR [(0,0)]⟩
 have⟨dn,cf,H220⟩:=AL H218;refine Z1 k ?_;refine Cn (xx cf) ?_;refine Z1 k ?_;obtain⟨V,H222⟩ |⟨V,H222⟩:=As H220
 ·refine Z1 (Y2 k V) ?_;cases H222;cases H130;cases I;exact Ax
 refine Z1 (Y2 k V) ?_;cases H222;exact⟨_,w,rfl,ZR [(0,0)]⟩
def Zy (n:Nat)(s:ByteArray):Nat->Int->Option ((Unit) ⊕ Bool)
 |0,_=>none
 |c+1,i=>(if decide (i<(s.size:Int)) then (D6 s i).bind fun a=>(KE n a).bind fun b=>(if b then Zy n s c (i64.wrap (i+1)) else some (.inr false)) else some (.inl ()))
def Gc (n:Nat)(s:ByteArray):Option Bool:=(Zy n s n 0:Option ((Unit) ⊕ Bool)).bind fun
  | .inl _=>(if decide (1<=(s.size:Int)) then (if decide ((s.size:Int)<=30) then (D6 s 0).bind fun a=>(if (a != 95) then some (!(s.toList==({ data:= #[116,121,112,101] }:ByteArray).toList)) else some false) else some false) else some false)
  | .inr r=>some r
theorem xz {s:ByteArray}{r:Bool}(H:Gc n s=some r):AI Tryz.prog 85 [D.v (.string s)] (D.v (.bool r)) true:=by
 unfold Gc at H;refine zP #[.tmp 2] Tryz.func85 ?_;refine KF ?_;refine zi H (fun f _ _=>⟨kp [0] f AK,AM,0⟩) (fun C o b=> ?_) fun _ b=> ?_
 ·refine EG o (fun f _ i=>⟨kp [0] f (upd 3 (.v (.int .i64 i)) AK),AM,0⟩) (ZR []) fun c i p=> ?_
  refine AP ?_;obtain⟨d,H16⟩ |⟨d,H16⟩:=As p
  ·have⟨E,u,H18⟩:=AL H16;have⟨v,F,k,w⟩:=IV u;try simp only[Int.reduceToNat,Lk] at k
   have⟨G,y,H23⟩:=AL H18;have e:=Y4 d (A8 .i64 v) k w.symm;refine Z1 e ?_;refine Cn (fG y) ?_;refine Z1 e ?_;obtain⟨g,H25⟩ |⟨g,H25⟩:=Cg e H23
   ·refine Z1 g ?_;exact⟨_,H25,ZR []⟩
   refine Z1 g ?_;cases H25;cases b;exact Ax
  refine Z1 d ?_;cases H16;exact⟨_,rfl,ZR []⟩
 refine AP ?_;obtain⟨a,H27⟩ |⟨a,H27⟩:=As b
 ·refine Z1 a ?_;obtain⟨h,H29⟩ |⟨h,H29⟩:=As H27
  ·have⟨I,z,H31⟩:=AL H29;have⟨A,J,l,B⟩:=IV z;try simp only[Int.reduceToNat] at l
   have m:=Y5 a h (A8 .i64 A) l B.symm;refine Z1 m ?_;obtain⟨j,H36⟩ |⟨j,H36⟩:=Cg m H31
   ·refine Z1 j ?_;cases H36;exact Ax
   refine Z1 j ?_;cases H36;exact Ax
  refine Z1 (Y2 a h) ?_;cases H29;exact Ax
 refine Z1 a ?_;cases H27;exact Ax
def zI_ (n:Nat)(x:Aj):Option (Aj × ByteArray):=
 if x.e==0 then(match x.l[x.p]? with
  |some t=>if t.kind==1 then(Gc n t.text).bind fun b=>if b then some ({ x with p:=x.p+1 },t.text) else some (jS_ x 9,{ data:= #[] }) else some (jS_ x 9,{ data:= #[] })
  |none=>some (jS_ x 9,{ data:= #[] })) else some (x,{ data:= #[] })
section
variable {x:Aj}{bl:Bool}{ov:AV}{q nx:Nat}{hp:Hp}
set_option maxRecDepth 8000 in
theorem QY {r:Aj × ByteArray}(a:hp q=some (Aq x bl ov))(z:x.l.length<4611686018427387903)(h:zI_ n x=some r):AU Tryz.prog 55 [.pt q 0] hp nx fun v o p=>v= .v (.string r.2)/\o=upd q (some (Aq r.1 bl ov)) hp/\nx<=p:=by
 refine zr Tryz.func55 ?_;unfold zI_ at h;cases d:(x.e==0) with
 |false=>
  have e:(x.e != 0)=true:=by rw[bne,d];rfl
  rw[d,if_neg (by decide)] at h;cases h;refine Z1 (Y2 a e) ?_;exact⟨_,_,rfl,⟨fun _=>.inr rfl⟩,rfl,(Fv a).symm,by dsimp only;omega⟩
 |true=>
  have e:(x.e != 0)=false:=by rw[bne,d];rfl
  rw[d,if_pos rfl] at h;by_cases s:x.p<x.l.length
  ·have g:(decide ((x.p:Int)>=(x.l.length:Int)))=false:=C6;have i:(decide ((x.l.length:Int)<=(x.p:Int)))=false:=C6;have k:x.l[x.p]? =some x.l[x.p]:=Le s;have u:(x.l.map Am)[x.p]? =some [D.v (.int .i64 x.l[x.p].kind),D.v (.int .i64 x.l[x.p].at_),D.v (.string x.l[x.p].text)]:=Cr Am k;have w:=Y2 a (Y6 e g i u (A8 .i64 (show(0:Int)<=(x.p:Int) by omega)) (show((x.p:Int)).toNat=x.p from Lk _));rw[k] at h;dsimp only at h;cases f:(x.l[x.p].kind==1) with
   |true=>
    have j:(x.l[x.p].kind != 1)=false:=(by rw[bne,f];rfl);rw[f,if_pos rfl] at h;have⟨b,y,h⟩:=AL h;refine Z1 (Y2 j w) ?_;refine EB (xz y) ?_;cases b with
    |true=>
     rw[if_pos rfl] at h;cases h;refine Z0 ?_;refine DF (by rfl) ?_;refine Z1 (Y3 (Al (n:=x.p)) (GV (n:=x.p) (by omega)) w) ?_;refine DF (by rfl) ?_;refine Z0 ?_;exact⟨_,_,rfl,⟨fun _=>.inr rfl⟩,rfl,rfl,by dsimp only;omega⟩
    |false=>
     rw[if_neg (by decide)] at h;cases h;refine Z0 ?_;refine DF (by rfl) ?_;refine Z1 w ?_;refine CR ((MS a (by omega)).mono ?_);rintro v l m ⟨rfl,rfl,c⟩;dsimp only at c;refine Z0 ?_;exact⟨_,_,rfl,⟨fun _=>.inr rfl⟩,rfl,rfl,by dsimp only;omega⟩
   |false=>
    have j:(x.l[x.p].kind != 1)=true:=(by rw[bne,f];rfl);rw[f,if_neg (by decide)] at h;cases h;refine Z1 (Y2 j w) ?_;refine DF (by rfl) ?_;refine Z1 w ?_;refine CR ((MS a (by omega)).mono ?_);rintro v l m ⟨rfl,rfl,c⟩;dsimp only at c;refine Z0 ?_;exact⟨_,_,rfl,⟨fun _=>.inr rfl⟩,rfl,rfl,by dsimp only;omega⟩
  have g:(decide ((x.p:Int)>=(x.l.length:Int)))=true:=Cp;have i:(decide ((x.l.length:Int)<=(x.p:Int)))=true:=Cp;rw[Nk (by omega)] at h;cases h;have w:=Y2 a (Y3 e g i);refine Ds w ?_;refine CR ((MS a (by omega)).mono ?_);rintro v l m ⟨rfl,rfl,c⟩;dsimp only at c;refine Z0 ?_;exact⟨_,_,rfl,⟨fun _=>.inr rfl⟩,rfl,rfl,by dsimp only;omega⟩
end
structure SU (hp:Hp) (q:Nat) (x:Aj) (bl:Bool) (oid ver:Nat):Prop where
 box:hp q=some (Aq x bl (Ac oid ver (x.out.map AX)))
 row:x.out≠[]->hp oid=some (.rw (x.out.map AX) 3 ver false false)/\oid≠q
def DO (x:Aj)(s:AS)(a:Int):Aj:=if x.e==0 then(if x.out.length=200 then{ x with e:=8,bad:=a } else{ x with out:=x.out++[s] }) else x
def MT (hp:Hp)(nx q oid:Nat)(x0 x:Aj)(bl:Bool)(b:Hp)(nx2:Nat):Prop:=∃a c,SU b q x bl a c/\(∀j,j<nx->j≠q->(x0.out≠[]->j≠oid)->b j=hp j)/\(∀j,nx2<=j->b j=none)/\nx<=nx2/\a<nx2/\(x.out≠[]->(x0.out≠[]/\a=oid)\/nx<=a)
set_option maxRecDepth 8000 in
theorem MU {nx ver:Nat}{s:AS}{a:Int}{vs:AV}(b:∀j,nx<=j->hp j=none)(l:SU hp q x bl oid ver)(L:oid<nx)(p:Dv vs=some [.v (.int .i64 s.kind),.v (.string s.a),.v (.string s.b)])(G:x.out.length<=200):
  AU Tryz.prog 112 [.pt q 0,vs,.v (.int .i64 a)] hp nx fun v I J=>v= .tu []/\MT hp nx q oid x (DO x s a) bl I J:=by
 refine zr Tryz.func112 ?_;have c:=l.box;have M:q<nx:=Cd b c;unfold DO;cases u:(x.e==0) with
 |false=>
  rw[if_neg (by decide)];refine Z1 (Y4 p (Fp b c) c u) ?_;refine⟨_,hp,rfl,fh b,rfl,oid,ver,l,fun _ _ _ _=>rfl,fun j g=>b j (by dsimp only at g;omega),by dsimp only;omega,by dsimp only;omega,fun h=>.inl ⟨h,rfl⟩⟩
 |true=>
  rw[if_pos rfl];cases d:x.out with
  |nil=>
   rw[if_neg (by decide)];rw[d] at c;have N:hp oid=hp oid:=rfl;have f:q≠nx+1+13+5+7:=(by omega);have i:nx≠nx+1+13+5+7:=(by omega);have m:nx+1+13+5+6≠nx+1+13+5+7:=(by omega);refine Z1 (Y2 (Y6 p (Fp b c) c u (show(q=nx+1+13+5+7)=False from eq_false f) (show(q=nx+1+13+5+6)=False from Ey)) (Y5 (show(nx=nx+1+13+5+6)=False from Ey) (show(nx=nx+1+13+5+7)=False from eq_false i) (show(nx+1+13+5+7=nx+1+13+5+6)=False from eq_false (Ne.symm m)) (show(nx+1+13+5+7=q)=False from eq_false (Ne.symm f)) trivial)) ?_;have z:Ci q (nx+1+13+5+7) nx (nx+1+13+5+6) q=1:=(by simp[Ci]);have A:Ci q (nx+1+13+5+7) nx (nx+1+13+5+6) (nx+1+13+5+7)=2:=(by simp[Ci,Ne.symm f]);have B:Ci q (nx+1+13+5+7) nx (nx+1+13+5+6) nx=3:=(by unfold Ci;rw[ifn,if_neg i,if_pos rfl]);have C:Ci q (nx+1+13+5+7) nx (nx+1+13+5+6) (nx+1+13+5+6)=4:=(by unfold Ci;rw[ifn,if_neg m,ifn,if_pos rfl]);refine KH (Ci q (nx+1+13+5+7) nx (nx+1+13+5+6)) _ rfl (by simp only[Nl,Np,LA,LL,Li,Lw,H0,z,A,B,C];rfl) (by rfl) ?_;refine Z0 ?_;refine⟨_,_,rfl,⟨fun _=>.inr rfl⟩,rfl,nx+1+13+5+7,0,⟨Ap _ _ _,fun _=>⟨by dsimp only;rw[Aa,Ap];rfl,by omega⟩⟩,fun j H k _=>by dsimp only;rw[Ai _ _ k,Aa,Aa,Aa],fun j g=>by dsimp only at g⊢;rw[Aa,Aa,Aa,Aa];exact b j (by omega),by dsimp only;omega,by dsimp only;omega,fun _=>.inr (by omega)⟩
  |cons y r=>
   rw[d] at c;have E:=(l.row (by rw[d];simp)).1;rw[d] at E;have O:r.length+1<=200:=(by rw[d] at G;exact G);by_cases w:(y::r).length=200
   ·rw[if_pos w];have F:(((r.length+1:Nat):Int)==200)=true:=(by simp at w⊢;omega);refine Z1 (Y5 p (Fp b c) c u F) ?_;have o:=l.row (by rw[d];simp);rw[d] at o;refine⟨_,_,rfl,⟨fun _=>.inr rfl⟩,rfl,oid,ver,⟨by dsimp only;rw[Ap];simp[Ac],fun _=>⟨by dsimp only;rw[Ai _ _ o.2,Ai _ _ o.2,Aa];exact o.1,o.2⟩⟩,fun j H k _=>by dsimp only;rw[Ai _ _ k,Ai _ _ k,Aa],fun j g=>by dsimp only at g⊢;rw[Aa,Aa,Aa];exact b j (by omega),by dsimp only;omega,by dsimp only;omega,fun _=>.inl ⟨by rw[d];simp,rfl⟩⟩
   rw[if_neg w];have F:(((r.length+1:Nat):Int)==200)=false:=(by simp at w⊢;omega);have f:q≠oid:=fun e=>l.row (by rw[d];simp)|>.2 e.symm;have i:nx≠oid:=(by omega);have m:nx+1+13+5+6≠oid:=(by omega);refine Z1 (Y3 (Y6 p (Fp b c) c u (show(q=oid)=False from eq_false f) (show(q=nx+1+13+5+6)=False from Ey)) (Y6 (show(nx=nx+1+13+5+6)=False from Ey) (show(nx=oid)=False from eq_false i) (show(oid=nx+1+13+5+6)=False from eq_false (Ne.symm m)) (show(oid=q)=False from eq_false (Ne.symm f)) (Fp b E) E) (Y3 F (show(r.length+1+1<=4294967296)=True from Fu) (show(oid=nx)=False from eq_false (Ne.symm i)))) ?_
   have z:Ci q (oid) nx (nx+1+13+5+6) q=1:=(by simp[Ci]);have A:Ci q (oid) nx (nx+1+13+5+6) (oid)=2:=(by simp[Ci,Ne.symm f]);have B:Ci q (oid) nx (nx+1+13+5+6) nx=3:=(by unfold Ci;rw[ifn,if_neg i,if_pos rfl]);have C:Ci q (oid) nx (nx+1+13+5+6) (nx+1+13+5+6)=4:=(by unfold Ci;rw[ifn,if_neg m,ifn,if_pos rfl]);refine KH (Ci q (oid) nx (nx+1+13+5+6)) _ rfl (by simp only[Nl,Np,LA,LL,Li,Lw,H0,z,A,B,C];rfl) (by rfl) ?_;refine Z0 ?_;refine⟨_,_,rfl,⟨fun _=>.inr rfl⟩,rfl,oid,ver+1,⟨by dsimp only;rw[Ap];simp[Ac],fun _=>⟨by dsimp only;rw[Ai _ _ (Ne.symm f),Ap];simp,Ne.symm f⟩⟩,fun j H k K=>by dsimp only;rw[Ai _ _ k,Ai _ _ (K (by rw[d];simp)),Aa,Aa],fun j g=>by dsimp only at g⊢;rw[Aa,Aa,Aa,Aa];exact b j (by omega),by dsimp only;omega,by dsimp only;omega,fun _=>.inl ⟨by rw[d];simp,rfl⟩⟩
def D8 (x:Aj):Prop:=x.l.length<1152921504606846976/\x.p<=x.l.length/\x.out.length<=200/\x.deep<=20
instance (x:Aj):Decidable (D8 x):=inferInstanceAs (Decidable (_/\_/\_/\_))
theorem GR (h:isM x t=true):x.p<x.l.length:=by
 unfold isM at h;split at h
 ·rename_i e;exact(Lb.1 e).1
 cases h
theorem I9 (x:Aj)(c:Int):(jS_ x c).l=x.l/\(jS_ x c).out=x.out/\(jS_ x c).deep=x.deep/\(jS_ x c).p=x.p:=by
 unfold jS_;split<;>exact⟨rfl,rfl,rfl,rfl⟩
theorem XA (x:Aj)(t:ByteArray):(Do x t).l=x.l/\(Do x t).out=x.out/\(Do x t).deep=x.deep/\(x.p<=x.l.length->(Do x t).p<=x.l.length):=by
 unfold Do;split
 ·split
  ·rename_i h;exact⟨rfl,rfl,rfl,fun _=>GR h⟩
  have:=I9 x 9;exact⟨this.1,this.2.1,this.2.2.1,fun h=>by rw[this.2.2.2];exact h⟩
 exact⟨rfl,rfl,rfl,id⟩
theorem JA {r:Aj × ByteArray}(h:zI_ n x=some r):r.1.l=x.l/\r.1.out=x.out/\r.1.deep=x.deep/\(x.p<=x.l.length->r.1.p<=x.l.length):=by
 have a:=I9 x 9;have c:(jS_ x 9).l=x.l/\(jS_ x 9).out=x.out/\(jS_ x 9).deep=x.deep/\(x.p<=x.l.length->(jS_ x 9).p<=x.l.length):=⟨a.1,a.2.1,a.2.2.1,fun h=>by rw[a.2.2.2];exact h⟩;unfold zI_ at h;split at h
 ·split at h
  ·rename_i e;split at h
   ·have⟨b,_,h⟩:=AL h;split at h
    ·cases h;exact⟨rfl,rfl,rfl,fun _=>(Lb.1 e).1⟩
    cases h;exact c
   cases h;exact c
  cases h;exact c
 cases h;exact⟨rfl,rfl,rfl,id⟩
theorem SU.upd {hp:Hp}{q oid ver:Nat}{x y:Aj}{bl:Bool}{ov:AV}(h:SU hp q x bl oid ver)(e:y.out=x.out)(c:ov=Ac oid ver (x.out.map AX)):SU (upd q (some (Aq y bl ov)) hp) q y bl oid ver:=
 ⟨by rw[Ap,e,c],fun b=>by
  rw[e] at b;have a:=h.row b;exact⟨by rw[Ai _ _ a.2,a.1,e],a.2⟩⟩
def XB (F:FuncId)(M:Aj->Option Aj):Prop:=∀(hp:Hp) (nx q oid a:Nat) (x y:Aj) (bl:Bool),(∀j,nx<=j->hp j=none)->SU hp q x bl oid a->oid<nx->M x=some y->AU Tryz.prog F [.pt q 0] hp nx fun v b c=>v= .tu []/\MT hp nx q oid x y bl b c
theorem MT.trans {e f:Hp}{nx d nx2 oid1:Nat}{x0 g x2:Aj}(z:nx<=d)(A:oid1<d)(h:g.out≠[]->(x0.out≠[]/\oid1=oid)\/nx<=oid1)(l:∀j,j<nx->j≠q->(x0.out≠[]->j≠oid)->e j=hp j)(m:MT e d q oid1 g x2 bl f nx2):MT hp nx q oid x0 x2 bl f nx2:=by
 have⟨o,p,r,s,u,B,v,w⟩:=m;refine⟨o,p,r,fun j c a i=> ?_,u,by omega,v,fun b=> ?_⟩
 ·rw[s j (by omega) a fun y=> ?_,l j c a i];rcases h y with⟨k,rfl⟩ |k
  ·exact i k
  omega
 rcases w b with⟨c,rfl⟩ |c
 ·rcases h c with a |a
  ·exact .inl a
  exact .inr a
 exact .inr (by omega)
def MV:ByteArray:={ data:= #[40] }
def Ha:ByteArray:={ data:= #[41] }
def Jo:ByteArray:={ data:= #[45,62] }
def EU (n:Nat)(ex:Aj->Option Aj)(x:Aj):Option Aj:=if D8 x then (if x.e==0&&isM x MV then (if x.deep=20 then some (jS_ x 10) else(ex { x with deep:=x.deep+1,p:=x.p+1 }).bind fun y=>if D8 y/\0<y.deep then some { Do y Ha with deep:=y.deep-1 } else none) else(zI_ n x).bind fun r=>if r.1.e==0&&isM r.1 Jo then(zI_ n { r.1 with p:=r.1.p+1 }).bind fun s=>some (DO s.1 ⟨2,r.2,s.2⟩ (Hv x)) else some (DO r.1 ⟨1,r.2,{ data:= #[] }⟩ (Hv x))) else none
set_option maxRecDepth 8000 in
theorem SV {ex:Aj->Option Aj}(Z:XB 86 ex):XB 140 (EU n ex):=by
 intro hp nx q oid P x y bl m B ho h;unfold EU at h;split at h;rotate_left
 ·cases h
 rename_i hw;have⟨w1,w2,A,w4⟩:=hw;have f:=B.box;obtain⟨ov,l⟩:∃ov,ov=Ac oid P (x.out.map AX):=⟨_,rfl⟩;rw[<-l] at f;have ao:q<nx:=Cd m f;refine zr Tryz.func140 ?_;refine Z0 ?_;refine CR ((W9 f (by omega)).mono ?_);rintro v ap aq ⟨rfl,rfl,aa⟩;dsimp only at aa;cases L:(x.e==0) with
 |false=>
  rw[L,LT,if_neg (by decide)] at h;refine Z1 (Y2 f L) ?_;have⟨r,C,h⟩:=AL h;refine CR ((QY f (by omega) C).mono ?_);rintro v Q M ⟨rfl,rfl,E⟩;dsimp only at E;have c:=JA C;have o:=B.upd (y:=r.1) c.2.1 l;have g:∀R:Hp,upd q (some (Aq r.1 bl ov)) R q=some (Aq r.1 bl ov):=fun _=>Ap _ _ _;cases u:(r.1.e==0) with
  |false=>
   rw[u,LT,if_neg (by decide)] at h;cases h;refine Z1 (Y2 g u) ?_;refine CR ((MU (s:=⟨1,r.2,{ data:= #[] }⟩) (fun j d=> ?_) o (by dsimp only;omega) rfl (by rw[c.2.1];exact A)).mono ?_)
   ·dsimp only at d
    repeat rw[Aa]
    exact m j (by omega)
   rintro v F G ⟨rfl,i⟩;refine Z0 ?_;exact⟨_,_,rfl,⟨fun _=>.inr rfl⟩,rfl,i.trans (by dsimp only;omega) (by dsimp only;omega) (fun b=>.inl ⟨by rw[<-c.2.1];exact b,rfl⟩) fun j _ e _=>by repeat rw[Ai _ _ e]⟩
  |true=>
   refine Z1 (Y2 g u) ?_;refine CR ((I8 (g _) (by rw[c.1];omega)).mono ?_);rintro v U V ⟨rfl,rfl,H⟩;dsimp only at H;rw[u,NC] at h;cases k:isM r.1 Jo with
   |false=>
    have w:isM r.1 { data:= #[45,62] }=false:=k;rw[k,if_neg (by decide)] at h;cases h;refine Z1 (Y2 g w) ?_;refine CR ((MU (s:=⟨1,r.2,{ data:= #[] }⟩) (fun j d=> ?_) o (by dsimp only;omega) rfl (by rw[c.2.1];exact A)).mono ?_)
    ·dsimp only at d
     repeat rw[Aa]
     exact m j (by omega)
    rintro v F G ⟨rfl,i⟩;refine Z0 ?_;exact⟨_,_,rfl,⟨fun _=>.inr rfl⟩,rfl,i.trans (by dsimp only;omega) (by dsimp only;omega) (fun b=>.inl ⟨by rw[<-c.2.1];exact b,rfl⟩) fun j _ e _=>by repeat rw[Ai _ _ e]⟩
   |true=>
    have w:isM r.1 { data:= #[45,62] }=true:=k;rw[k,if_pos rfl] at h;have⟨s,I,h⟩:=AL h;cases h;have S:=GR k;rw[c.1] at S;have J:=o.upd (y:={ r.1 with p:=r.1.p+1 }) rfl (l.trans (by rw[c.2.1]));refine Z1 (Y3 g w (Al (n:=r.1.p))) ?_;refine CR ((QY (x:={ r.1 with p:=r.1.p+1 }) (ov:=ov) (Ap _ _ _) (by show r.1.l.length<_;rw[c.1];omega) I).mono ?_);rintro v ab ad ⟨rfl,rfl,T⟩;dsimp only at T;have z:=JA I;have I3:=J.upd (y:=s.1) z.2.1 (l.trans (by rw[<-c.2.1]));refine Z0 ?_;refine CR ((MU (s:=⟨2,r.2,s.2⟩) (fun j d=> ?_) I3 (by dsimp only;omega) rfl (by rw[z.2.1];show r.1.out.length<=200;rw[c.2.1];exact A)).mono ?_)
    ·dsimp only at d
     repeat rw[Aa]
     exact m j (by omega)
    rintro v F G ⟨rfl,i⟩;refine Z0 ?_;exact⟨_,_,rfl,⟨fun _=>.inr rfl⟩,rfl,i.trans (by dsimp only;omega) (by dsimp only;omega) (fun b=>.inl ⟨by rw[<-c.2.1];rw[z.2.1] at b;exact b,rfl⟩) fun j _ e _=>by repeat rw[Ai _ _ e]⟩
 |true=>
  rw[L,NC] at h;refine Z1 (Y2 f L) ?_;refine CR ((I8 f (by omega)).mono ?_);rintro v ar av ⟨rfl,rfl,ag⟩;dsimp only at ag;cases K:isM x MV with
  |false=>
   have N:isM x { data:= #[40] }=false:=K;rw[K,if_neg (by decide)] at h;refine Z1 (Y2 f N) ?_;have⟨r,C,h⟩:=AL h;refine CR ((QY f (by omega) C).mono ?_);rintro v Q M ⟨rfl,rfl,E⟩;dsimp only at E;have c:=JA C;have o:=B.upd (y:=r.1) c.2.1 l;have g:∀R:Hp,upd q (some (Aq r.1 bl ov)) R q=some (Aq r.1 bl ov):=fun _=>Ap _ _ _
   cases u:(r.1.e==0) with
   |false=>
    rw[u,LT,if_neg (by decide)] at h;cases h;refine Z1 (Y2 g u) ?_;refine CR ((MU (s:=⟨1,r.2,{ data:= #[] }⟩) (fun j d=> ?_) o (by dsimp only;omega) rfl (by rw[c.2.1];exact A)).mono ?_)
    ·dsimp only at d
     repeat rw[Aa]
     exact m j (by omega)
    rintro v F G ⟨rfl,i⟩;refine Z0 ?_;exact⟨_,_,rfl,⟨fun _=>.inr rfl⟩,rfl,i.trans (by dsimp only;omega) (by dsimp only;omega) (fun b=>.inl ⟨by rw[<-c.2.1];exact b,rfl⟩) fun j _ e _=>by repeat rw[Ai _ _ e]⟩
   |true=>
    refine Z1 (Y2 g u) ?_;refine CR ((I8 (g _) (by rw[c.1];omega)).mono ?_);rintro v U V ⟨rfl,rfl,H⟩;dsimp only at H;rw[u,NC] at h;cases k:isM r.1 Jo with
    |false=>
     have w:isM r.1 { data:= #[45,62] }=false:=k;rw[k,if_neg (by decide)] at h;cases h;refine Z1 (Y2 g w) ?_;refine CR ((MU (s:=⟨1,r.2,{ data:= #[] }⟩) (fun j d=> ?_) o (by dsimp only;omega) rfl (by rw[c.2.1];exact A)).mono ?_)
     ·dsimp only at d
      repeat rw[Aa]
      exact m j (by omega)
     rintro v F G ⟨rfl,i⟩;refine Z0 ?_;exact⟨_,_,rfl,⟨fun _=>.inr rfl⟩,rfl,i.trans (by dsimp only;omega) (by dsimp only;omega) (fun b=>.inl ⟨by rw[<-c.2.1];exact b,rfl⟩) fun j _ e _=>by repeat rw[Ai _ _ e]⟩
    |true=>
     have w:isM r.1 { data:= #[45,62] }=true:=k;rw[k,if_pos rfl] at h;have⟨s,I,h⟩:=AL h;cases h;have S:=GR k;rw[c.1] at S;have J:=o.upd (y:={ r.1 with p:=r.1.p+1 }) rfl (l.trans (by rw[c.2.1]));refine Z1 (Y3 g w (Al (n:=r.1.p))) ?_;refine CR ((QY (x:={ r.1 with p:=r.1.p+1 }) (ov:=ov) (Ap _ _ _) (by show r.1.l.length<_;rw[c.1];omega) I).mono ?_);rintro v ab ad ⟨rfl,rfl,T⟩;dsimp only at T;have z:=JA I;have I3:=J.upd (y:=s.1) z.2.1 (l.trans (by rw[<-c.2.1]));refine Z0 ?_;refine CR ((MU (s:=⟨2,r.2,s.2⟩) (fun j d=> ?_) I3 (by dsimp only;omega) rfl (by rw[z.2.1];show r.1.out.length<=200;rw[c.2.1];exact A)).mono ?_)
     ·dsimp only at d
      repeat rw[Aa]
      exact m j (by omega)
     rintro v F G ⟨rfl,i⟩;refine Z0 ?_;exact⟨_,_,rfl,⟨fun _=>.inr rfl⟩,rfl,i.trans (by dsimp only;omega) (by dsimp only;omega) (fun b=>.inl ⟨by rw[<-c.2.1];rw[z.2.1] at b;exact b,rfl⟩) fun j _ e _=>by repeat rw[Ai _ _ e]⟩
  |true=>
   have N:isM x { data:= #[40] }=true:=K;have aE:=GR K;rw[K,if_pos rfl] at h;by_cases hd:x.deep=20
   ·rw[if_pos hd] at h;cases h;have c1:((x.deep:Int)==20)=true:=(by rw[hd];rfl);refine Z1 (Y3 f N c1) ?_;refine CR ((MS f (by omega)).mono ?_);rintro v Q M ⟨rfl,rfl,E⟩;dsimp only at E;refine Z0 ?_;have c:=I9 x 10;exact⟨_,_,rfl,⟨fun _=>.inr rfl⟩,rfl,oid,P,B.upd c.2.1 l,fun j _ e _=>Ai _ _ e,fun j d=>by dsimp only at d⊢;rw[Aa];exact m j (by omega),by dsimp only;omega,by dsimp only;omega,fun b=>.inl ⟨by rw[<-c.2.1];exact b,rfl⟩⟩
   rw[if_neg hd] at h;have⟨y,hy,h⟩:=AL h;split at h;rotate_left
   ·cases h
   rename_i ak;have⟨⟨a0,a1,a2,a3⟩,a4⟩:=ak;cases h;have c1:((x.deep:Int)==20)=false:=(by simp;omega);have o:=B.upd (y:={ x with deep:=x.deep+1 }) rfl l;have J:=o.upd (y:={ x with deep:=x.deep+1,p:=x.p+1 }) rfl l;refine Z1 (Y5 f N c1 (Al (n:=x.p)) (Al (n:=x.deep))) ?_;refine CR ((Z _ _ q oid P _ y bl (fun j d=> ?_) J (by dsimp only;omega) hy).mono ?_)
   ·dsimp only at d⊢
    repeat rw[Aa]
    exact m j (by omega)
   rintro v Q M ⟨rfl,X,Y,J1,J2,J3,J4,J5,J6⟩;dsimp only at J2 J4;refine Z0 ?_;refine CR ((SS (t:={ data:= #[41] }) J1.box (by omega) (by omega)).mono ?_);rintro v U V ⟨rfl,rfl,H⟩;dsimp only at H;have c:=XA y Ha;have K1:=J1.upd (y:=Do y Ha) c.2.1 rfl;have K2:=K1.upd (y:={ Do y Ha with deep:=y.deep-1 }) rfl (ov:=Ac X Y (y.out.map AX)) (by rw[c.2.1]);have c2:i64.wrap (((Do y { data:= #[41] }).deep:Int)-1)=((y.deep-1:Nat):Int):=by
    rw[show(Do y { data:= #[41] }).deep=y.deep from c.2.2.1];exact EA (a:=y.deep) (b:=1) (by omega) (by omega)
   refine Z1 c2 ?_;refine⟨_,_,rfl,⟨fun _=>.inr rfl⟩,rfl,X,Y,K2,fun j O e b3=> ?_,fun j d=> ?_,by dsimp only;omega,by dsimp only;omega,fun b=> ?_⟩
   ·dsimp only
    repeat rw[Ai _ _ e]
    rw[J2 j (by omega) e b3];repeat rw[Ai _ _ e]
   ·dsimp only at d⊢
    have:q<M:=by omega
    repeat rw[Aa]
    exact J3 j (by omega)
   rcases J6 (by rw[<-c.2.1];exact b) with O |O
   ·exact .inl O
   dsimp only at O;exact .inr (by omega)
def EM:ByteArray:={ data:= #[38] }
def G6 (n:Nat)(ex:Aj->Option Aj):Nat->Aj->Option Aj
 |0,_=>none
 |c+1,x=>if D8 x then(if x.e==0&&isM x EM then(EU n ex { x with p:=x.p+1 }).bind fun y=>if y.out.length<=200 then G6 n ex c (DO y ⟨5,ByteArray.empty,ByteArray.empty⟩ (Hv x)) else none else some x) else none
def F6 (n:Nat)(ex:Aj->Option Aj)(c:Nat)(x:Aj):Option Aj:=(EU n ex x).bind (G6 n ex c)
theorem MT.up {a:Hp}{nx nx2 b:Nat}{x0:Aj}(h:MT hp nx q oid x0 x bl a nx2)(k:nx2<=b):MT hp nx q oid x0 x bl a b:=by
 have⟨c,d,e,f,g,l,m,i⟩:=h;exact⟨c,d,e,f,fun j o=>g j (by omega),by omega,by omega,i⟩
set_option maxRecDepth 8000 in
theorem yB {c:Nat}{ex:Aj->Option Aj}(F:XB 86 ex):XB 111 (F6 n ex c):=by
 intro hp nx q oid G x y bl k l ho h;have o:=SV (n:=n) F;unfold F6 at h;have⟨r,H,h⟩:=AL h;have ak:q<nx:=Cd k l.box;refine zq Tryz.func111 ?_;refine Ay ?_;refine CR ((o _ _ q oid G _ r bl (fun j d=> ?_) l (by dsimp only;omega) H).mono ?_)
 ·dsimp only at d⊢;exact k j (by omega)
 rintro v K L ⟨rfl,M⟩;refine Z0 ?_;refine CS ?_;refine DQ (α:={ t:Nat × Aj × Hp × Nat // MT hp nx q oid x t.2.1 bl t.2.2.1 t.2.2.2/\G6 n ex t.1 t.2.1=some y })
  (fun t=>⟨upd 0 (.pt q 0) AK,t.1.2.2.1,t.1.2.2.2⟩) (fun t=>t.1.1) ⟨(c,r,K,L),?_,h⟩ ?_ ?_
 ·exact M.trans (oid1:=oid) (by dsimp only;omega) (by dsimp only;omega) (fun b=>.inl ⟨b,rfl⟩) fun _ _ _ _=>rfl
 ·exact CT
 rintro⟨⟨c,z,ao,N⟩,g,m⟩;dsimp only at g m;cases c with
 |zero=>cases m
 |succ c=>
 unfold G6 at m;split at m;rotate_left
 ·cases m
 rename_i O;have⟨w1,w2,w3,w4⟩:=O;have u:=g;have⟨w,A,I,P,Q,ap,aq,R⟩:=g;have a:=I.box;obtain⟨ov,B⟩:∃ov,ov=Ac w A (z.out.map AX):=⟨_,rfl⟩;rw[<-B] at a;refine AT (AT ?_);refine ZT 1 ?_;cases f:(z.e==0) with
 |false=>
  rw[f,LT,if_neg (by decide)] at m;cases m;refine Z1 (Y2 a f) ?_;refine AP ?_;exact⟨_,_,rfl,⟨fun _=>.inr rfl⟩,rfl,u.up (by dsimp only;omega)⟩
 |true=>
  refine Z1 (Y2 a f) ?_;refine CR ((I8 a (by omega)).mono ?_);rintro v ar av ⟨rfl,rfl,S⟩;dsimp only at S;rw[f,NC] at m;cases e:isM z EM with
  |false=>
   have i:isM z { data:= #[38] }=false:=e;rw[e,if_neg (by decide)] at m;cases m;refine Z1 i ?_;refine AP ?_;exact⟨_,_,rfl,⟨fun _=>.inr rfl⟩,rfl,u.up (by dsimp only;omega)⟩
  |true=>
   have i:isM z { data:= #[38] }=true:=e;have aE:=GR e;rw[e,if_pos rfl] at m;have⟨C,T,m⟩:=AL m;split at m;rotate_left
   ·cases m
   rename_i w5;refine Z1 i ?_;refine AP ?_;refine CS ?_;refine Ay ?_;refine CR ((W9 a (by omega)).mono ?_);rintro v a0 a1 ⟨rfl,rfl,U⟩;dsimp only at U;refine Dt ?_;refine Z1 (Y2 a (Al (n:=z.p))) ?_;have I1:=I.upd (y:={ z with p:=z.p+1 }) rfl B;refine Ay ?_;refine CR ((o _ _ q w A _ C bl (fun j d=> ?_) I1 (by dsimp only;omega) T).mono ?_)
   ·dsimp only at d⊢
    have:q<N:=by omega
    repeat rw[Aa]
    exact Q j (by omega)
   rintro v a2 a3 ⟨rfl,V⟩;have X:=V.trans (hp:=hp) (nx:=nx) (x0:=x) (oid:=oid) (by dsimp only;omega) (by dsimp only;omega) R fun j b1 E b3=>by
    repeat rw[Ai _ _ E]
    exact P j b1 E b3
   have⟨o2,v2,J,Y,Z,a4,a5,aa⟩:=X;refine Fc ?_;refine CR ((MU (s:=⟨5,ByteArray.empty,ByteArray.empty⟩) (fun j d=> ?_) J (by dsimp only;omega) rfl w5).mono ?_)
   ·dsimp only at d⊢;exact Z j (by omega)
   rintro v ab ad ⟨rfl,ag⟩;refine Z0 ?_;exact⟨⟨(c,DO C ⟨5,ByteArray.empty,ByteArray.empty⟩ (Hv z),ab,ad),ag.trans (by dsimp only;omega) (by dsimp only;omega) aa Y,m⟩,CT,Ls c⟩
end Go.Proofs.YtnmkbmefohakmaaGreat.Ab
