/-
 Sorting so that equals stay: parts are turned over.
-/
import Derived.Test.YtnmkbmefohakmaaGreatPas
set_option linter.all false
namespace Go.Proofs.YtnmkbmefohakmaaGreat.Ab
open Go.RowKit IntKind
structure Au where
 l:List C5
 p:Nat
 long:Int
 e:Int
 bad:Int
 deep:Nat
 out:List AX
 from_:Int
abbrev Aw (x:Au)(bl:Bool)(ov:AV):AO:=.bx [.d (.sl (x.l.map Ap)) bl,.v (.int .i64 (x.p:Int)),.v (.int .i64 x.long),.v (.int .i64 x.e),.v (.int .i64 x.bad),.v (.int .i64 (x.deep:Int)),ov,.v (.int .i64 x.from_)]
def I4 (x:Au):Int:=match x.l[x.p]? with |some t=>t.at_ |none=>x.long
def isM (x:Au)(s:ByteArray):Bool:=match x.l[x.p]? with |some t=>t.kind==2&&t.text.toList==s.toList |none=>false
section
variable {x:Au}{bl:Bool}{ov:AV}{q nx:Nat}{hp:Hp}
theorem Vv (c:hp q=some (Aw x bl ov))(_:x.l.length<4611686018427387904):AT Tryz.prog 84 [.pt q 0] hp nx fun v f g=>v= .v (.int .i64 (I4 x))/\f=hp/\nx<=g:=by
 refine zr Tryz.func84 ?_;unfold I4;by_cases h:x.p<x.l.length
 ·have b:(decide ((x.p:Int)<(x.l.length:Int)))=true:=DB;have d:x.l[x.p]? =some x.l[x.p]:=Le h;have e:(x.l.map Ap)[x.p]? =some [D.v (.int .i64 x.l[x.p].kind),D.v (.int .i64 x.l[x.p].at_),D.v (.string x.l[x.p].text)]:=Cz Ap d;rw[d];refine Z1 (Y3 c b e) ?_;refine DD (by rfl) ?_;refine Z1 (Y5 c b e (CC .i64 (show(0:Int)<=(x.p:Int) by omega)) (show((x.p:Int)).toNat=x.p from Li _)) ?_;refine DD (by rfl) ?_;refine Z0 ?_;exact⟨_,_,rfl,⟨fun _=>.inr rfl⟩,rfl,rfl,by show nx<=nx+1+10+12;omega⟩
 have b:(decide ((x.p:Int)<(x.l.length:Int)))=false:=DE;rw[Nl (by omega)];refine Z1 (Y2 c b) ?_;refine DD (by rfl) ?_;refine Z1 (Y2 c b) ?_;exact⟨_,_,rfl,⟨fun _=>.inr rfl⟩,rfl,rfl,by show nx<=nx+1+10+5;omega⟩
set_option maxRecDepth 8000 in
theorem Hc {t:ByteArray}(c:hp q=some (Aw x bl ov))(_:x.l.length<4611686018427387904):AT Tryz.prog 56 [.pt q 0,.v (.string t)] hp nx fun v f g=>v= .v (.bool (isM x t))/\f=hp/\nx<=g:=by
 refine zr Tryz.func56 ?_;unfold isM;by_cases h:x.p<x.l.length
 ·have b:(decide ((x.p:Int)<(x.l.length:Int)))=true:=DB;have d:x.l[x.p]? =some x.l[x.p]:=Le h;have j:(x.l.map Ap)[x.p]? =some [D.v (.int .i64 x.l[x.p].kind),D.v (.int .i64 x.l[x.p].at_),D.v (.string x.l[x.p].text)]:=Cz Ap d;have w:=Y2 c (Y4 b j (CC .i64 (show(0:Int)<=(x.p:Int) by omega)) (show((x.p:Int)).toNat=x.p from Li _));rw[d];dsimp only;cases e:(x.l[x.p].kind==2) with
  |true=>
   refine Z1 (Y2 e w) ?_;refine DD (by rfl) ?_;refine Z0 ?_;exact⟨.v (.bool (x.l[x.p].text.toList==t.toList)),_,rfl,⟨fun _=>.inr rfl⟩,rfl,rfl,by show nx<=nx+1+40;omega⟩
  |false=>
   refine Z1 (Y2 e w) ?_;refine DD (by rfl) ?_;refine Z0 ?_;exact⟨.v (.bool false),_,rfl,⟨fun _=>.inr rfl⟩,rfl,rfl,by show nx<=nx+1+40;omega⟩
 have b:(decide ((x.p:Int)<(x.l.length:Int)))=false:=DE;rw[Nl (by omega)];refine Z1 (Y2 c b) ?_;refine DD (by rfl) ?_;refine Z0 ?_;exact⟨_,_,rfl,⟨fun _=>.inr rfl⟩,rfl,rfl,by show nx<=nx+1+40;omega⟩
def xe_ (x:Au)(c:Int):Au:=if x.e==0 then{ x with e:=c,bad:=I4 x } else x
theorem KY {c:Int}(b:hp q=some (Aw x bl ov))(g:x.l.length<4611686018427387904):AT Tryz.prog 54 [.pt q 0,.v (.int .i64 c)] hp nx fun v d e=>v= .tu []/\d=upd q (some (Aw (xe_ x c) bl ov)) hp/\nx<=e:=by
 refine zr Tryz.func54 ?_;unfold xe_;cases f:(x.e==0) with
 |true=>
  rw[if_pos rfl];refine Z1 (Y2 b f) ?_;refine CO ((Vv b g).mono ?_);rintro v d e ⟨rfl,rfl,h⟩;dsimp only at h;refine Z1 b ?_;exact⟨_,_,rfl,⟨fun _=>.inr rfl⟩,rfl,by show upd q _ (upd q _ d)=upd q _ d;rw[EU],by dsimp only;omega⟩
 |false=>
  rw[if_neg (by decide)];refine Z1 (Y2 b f) ?_;exact⟨_,_,rfl,⟨fun _=>.inr rfl⟩,rfl,(Fc b).symm,by show nx<=nx+5;omega⟩
def EE (x:Au)(t:ByteArray):Au:=if x.e==0 then(if isM x t then{ x with p:=x.p+1 } else xe_ x 9) else x
theorem RG {t:ByteArray}(b:hp q=some (Aw x bl ov))(d:x.l.length<4611686018427387904)(k:x.p<4611686018427387903):AT Tryz.prog 58 [.pt q 0,.v (.string t)] hp nx fun v e f=>v= .tu []/\e=upd q (some (Aw (EE x t) bl ov)) hp/\nx<=f:=by
 refine zr Tryz.func58 ?_;unfold EE;cases g:(x.e==0) with
 |true=>
  have c:(x.e != 0)=false:=by rw[bne,g];rfl
  rw[if_pos rfl];refine Z1 (Y2 b c) ?_;refine CO ((Hc b d).mono ?_);rintro v e f ⟨rfl,rfl,h⟩;dsimp only at h;cases l:isM x t with
  |true=>
   rw[if_pos rfl];refine Z1 (Y2 b (Ar (n:=x.p))) ?_;exact⟨_,_,rfl,⟨fun _=>.inr rfl⟩,rfl,rfl,by dsimp only;omega⟩
  |false=>
   rw[if_neg (by decide)];refine Z0 ?_;refine CO ((KY b d).mono ?_);rintro v m o ⟨rfl,rfl,j⟩;dsimp only at j;refine Z0 ?_;exact⟨_,_,rfl,⟨fun _=>.inr rfl⟩,rfl,rfl,by dsimp only;omega⟩
 |false=>
  have c:(x.e != 0)=true:=by rw[bne,g];rfl
  rw[if_neg (by decide)];refine Z1 (Y2 b c) ?_;exact⟨_,_,rfl,⟨fun _=>.inr rfl⟩,rfl,(Fc b).symm,by dsimp only;omega⟩
end
def RF (_:Nat)(b:Int):Option Bool:=(if decide (97<=b) then (if decide (b<=122) then some true else (if decide (48<=b) then (if decide (b<=57) then some true else some (b==95)) else some (b==95))) else (if decide (48<=b) then (if decide (b<=57) then some true else some (b==95)) else some (b==95)))
variable {a n:Nat}{hp:Hp}
theorem cj {m:Int}{r:Bool}(H:RF n m=some r):AM Tryz.prog 82 [D.v (.int .u8 m)] (D.v (.bool r)) true:=by
 unfold RF at H;refine zP #[.tmp 2] Tryz.func82 ?_;refine AQ ?_;obtain⟨b,d⟩ |⟨b,d⟩:=Ah H
 ·refine Z1 b ?_;obtain⟨e,f⟩ |⟨e,f⟩:=Ah d
  ·refine Z1 (Y2 b e) ?_;cases f;exact As
  have o:=Y2 b e;refine Z1 o ?_;obtain⟨c,g⟩ |⟨c,g⟩:=Cb o f
  ·refine Z1 c ?_;obtain⟨h,j⟩ |⟨h,j⟩:=Cb c g
   ·refine Z1 h ?_;cases j;exact As
   refine Z1 h ?_;cases j;exact As
  refine Z1 c ?_;cases g;exact As
 refine Z1 b ?_;obtain⟨k,H10⟩ |⟨k,H10⟩:=Ah d
 ·have p:=Y2 b k;refine Z1 p ?_;obtain⟨l,H12⟩ |⟨l,H12⟩:=Cb p H10
  ·refine Z1 l ?_;cases H12;exact As
  refine Z1 l ?_;cases H12;exact As
 refine Z1 (Y2 b k) ?_;cases H10;exact As
def vX_ (n:Nat)(s:ByteArray)(b:Int):Nat->Int->Option ((Unit) ⊕ Int)
 |0,_=>none
 |c+1,i=>(if decide (i<(s.size:Int)) then (EL s i).bind fun d=>(if (d==b) then some (.inr i) else vX_ n s b c (i64.wrap (i+1))) else some (.inl ()))
def Yi (n:Nat)(s:ByteArray)(b:Int)(c:Int):Option Int:=(vX_ n s b n c:Option ((Unit) ⊕ Int)).bind fun
  | .inl _=>some (-1)
  | .inr r=>some r
theorem xL {s:ByteArray}{g:Int}{h:Int}{r:Int}(H:Yi n s g h=some r):AM Tryz.prog 83 [D.v (.string s),D.v (.int .u8 g),D.v (.int .i64 h)] (D.v (.int .i64 r)) true:=by
 unfold Yi at H;refine zP #[.tmp 6] Tryz.func83 ?_;refine JA ?_;refine zi H (fun _ _ _=>⟨AJ,AK,0⟩) (fun u l b=> ?_) fun _ b=> ?_
 ·refine D9 l (fun f _ i=>⟨kp [0,1] f (upd 7 (.v (.int .i64 i)) AJ),AK,0⟩) (ZR []) fun c i m=> ?_
  refine AQ ?_;obtain⟨d,H14⟩ |⟨d,H14⟩:=Ah m
  ·have⟨v,o,H16⟩:=AP H14;have⟨p,w,j,t⟩:=HY o;try simp only[Int.reduceToNat,Li] at j
   have k:=Y4 d (CC .i64 p) j t.symm;refine Z1 k ?_;obtain⟨e,H21⟩ |⟨e,H21⟩:=Cb k H16
   ·refine Z1 e ?_;cases H21;cases b;exact As
   refine Z1 e ?_;exact⟨_,H21,ZR []⟩
  refine Z1 d ?_;cases H14;exact⟨_,rfl,ZR []⟩
 refine AQ ?_;cases b;exact As
def Yj (n:Nat)(t0:ByteArray):Nat->Int->Option (Int)
 |0,_=>none
 |c+1,b=>(if decide (b<(t0.size:Int)) then (EL t0 b).bind fun d=>(if (d != 10) then Yj n t0 c (i64.wrap (b+1)) else some b) else some b)
def Yk (n:Nat)(t0:ByteArray):Nat->Int->Option (Int)
 |0,_=>none
 |c+1,b=>(if decide (b<(t0.size:Int)) then (EL t0 b).bind fun d=>(RF n d).bind fun e=>(if e then Yk n t0 c (i64.wrap (b+1)) else some b) else some b)
def Vs (n:Nat)(t0:ByteArray):Nat->(List C5 × Int)->Option ((List C5) ⊕ (List C5 × Int × Int))
 |0,_=>none
 |c+1,(e,b)=>(if decide (b<(t0.size:Int)) then (EL t0 b).bind fun d=>(((if (d==32) then some true else (if (d==9) then some true else (if (d==10) then some true else some (d==13)))):Option (Bool)).bind fun h=>(if h then some (.inl ((i64.wrap (b+1)),0)) else ((if (d==47) then (if (decide ((i64.wrap (b+1))<(t0.size:Int))) then (EL t0 (i64.wrap (b+1))).bind fun j=>some (j==47) else some false) else some false):Option (Bool)).bind fun k=>(if k then (Yj n t0 n (i64.wrap (b+1)):Option (Int)).bind fun m=>some (.inl (m,0)) else (RF n d).bind fun o=>(if o then (Yk n t0 n (i64.wrap (b+1)):Option (Int)).bind fun p=>some (.inl (p,1)) else ((if (d==45) then (if (decide ((i64.wrap (b+1))<(t0.size:Int))) then (EL t0 (i64.wrap (b+1))).bind fun s=>some (s==62) else some false) else some false):Option (Bool)).bind fun t=>(if t then some (.inl ((i64.wrap ((i64.wrap (b+1))+1)),2)) else (Yi n ({ data:= #[123,125,58,59,124,35,61,43,45,38,40,41] }) d 0).bind fun u=>(if decide (u<0) then some (.inr ([],b,7)) else some (.inl ((i64.wrap (b+1)),2))))))):Option ((Int × Int) ⊕ (List C5 × Int × Int))).bind fun | .inl (f,g)=>(if decide (0<g) then (IR t0 b f).bind fun v=>(Cu e [(⟨g,b,v⟩:C5)]).bind fun l=>Vs n t0 c (l,f) else Vs n t0 c (e,f)) | .inr r=>some (.inr r) else some (.inl e))
def Vt (n:Nat)(t0:ByteArray):Option (List C5 × Int × Int):=(if decide (100000<(t0.size:Int)) then some ([],0,8) else (Vs n t0 n ([],0):Option ((List C5) ⊕ (List C5 × Int × Int))).bind fun
   | .inl b=>some (b,0,0)
   | .inr r=>some r)
set_option maxHeartbeats 8000000 in
theorem xM {t0:ByteArray}{r:List C5 × Int × Int}(H:Vt n t0=some r):AM Tryz.prog 53 [D.v (.string t0)] (D.tu [D.sl (List.map Ap r.1),D.v (.int .i64 r.2.1),D.v (.int .i64 r.2.2)]) true:=by
 unfold Vt at H;refine zP #[.tmp 2,.tmp 3,.tmp 4] Tryz.func53 ?_;refine Dg ?_;obtain⟨A,F⟩ |⟨A,F⟩:=Ah H
 ·refine Z1 A ?_;cases F;exact As
 refine Gt A ?_;refine AU (AU ?_);refine ES A ?_;refine WU F (fun _ _ G I=>⟨upd 5 (AW 0 I (List.map Ap G)) AJ,upd 0 (Am 3 I false (List.map Ap G)) AK,1⟩) (fun e_ E3 J=> ?_) fun G I J=> ?_;rotate_left
 ·refine AQ ?_;cases J;exact As
 refine DL E3 (fun f _ (b,p) g=>⟨kp [0] f (upd 5 (AW 0 g (List.map Ap b)) (upd 6 (.v (.int .i64 p)) AJ)),upd 0 (Am 3 g false (List.map Ap b)) AK,1⟩) 0 (ZR []) fun c ⟨b,p⟩ g L5=> ?_
 refine Ax ?_;obtain⟨B,H123⟩ |⟨B,H123⟩:=Ah L5;rotate_left
 ·refine Z1 B ?_;cases H123;exact⟨_,g,rfl,ZR [(0,0)]⟩
 refine Z1 B ?_;refine CV ?_;refine AU (ZT 1 ?_);have⟨c2,bd,H125⟩:=AP H123;have⟨be,c3,Z,bg⟩:=HY bd;try simp only[Int.reduceToNat,Li] at Z
 have aa:=Y4 B (CC .i64 be) Z bg.symm;refine Gt aa ?_;refine AU (ZT 1 ?_);refine Z1 aa ?_;refine AU ?_;refine WU H125 (fun f _ (s,K) t=>⟨kp [0,6] f (upd 5 (AW 0 t (List.map Ap b)) (upd 8 (.v (.int .i64 s)) (upd 9 (.v (.int .i64 K)) AJ))),upd 0 (Am 3 t false (List.map Ap b)) AK,1⟩) (fun c4 E129 H130=> ?_) fun⟨s,K⟩ t H130=> ?_;rotate_left
 ·refine ZT 2 ?_;refine Z0 ?_;obtain⟨M,H227⟩ |⟨M,H227⟩:=Ah H130
  ·have⟨s2,bo,H229⟩:=AP H227;have⟨ab,bs,c5,bx⟩:=jD bo;have ad:Int.toNat p<=Int.toNat s:=(by omega);have ag:Int.toNat s<=t0.size:=(by omega);have ak:ByteArray.extract t0 (Int.toNat p) (Int.toNat s)=s2:=bx.symm;try simp only[Li] at ad ag ak
   have⟨l,b0,H238⟩:=AP H229;have⟨N,ao⟩:=Dp b0;have N:b.length+1<=4294967296:=N;have b1:List.map Ap b++[[.v (.int .i64 K),.v (.int .i64 p),.v (.string s2)]]=List.map Ap l:=D6 Ap ao;have b2:b.length+1=l.length:=D7 ao;have b3:l.length<=4294967296:=(by omega);have c6:0<l.length:=(by omega);refine Z1 (Y2 (Y6 M (CC .i64 ab) (CC .i64 (NC ab bs)) ad ag ak) (Y4 N b1 b2 b3)) ?_;rcases b with _ |⟨q0,q1⟩
   ·try simp only[Lu,CF,CG]
    exact⟨_,0,H238,ZR [(0,12)]⟩
   try simp only[Lh,CF,CG]
   exact⟨_,(t+1),H238,ZR [(0,0)]⟩
  refine Z1 M ?_;exact⟨_,t,H227,ZR [(0,0)]⟩
 refine CV ?_;refine AU ?_;refine EJ E129 (fun f _ aq h=>⟨kp [0,6,7,8,9] f (upd 5 (AW 0 h (List.map Ap b)) (upd 22 (.v (.bool aq)) AJ)),upd 0 (Am 3 h false (List.map Ap b)) AK,1⟩) (fun c7 E131 H132=> ?_) fun aq h H132=> ?_
 ·refine AQ ?_;obtain⟨u,H134⟩ |⟨u,H134⟩:=Ah E131
  ·refine Z1 u ?_;cases H134;exact⟨g,ZR [(0,0)]⟩
  refine Z1 u ?_;obtain⟨O,H136⟩ |⟨O,H136⟩:=Ah H134
  ·refine Z1 (Y2 u O) ?_;cases H136;exact⟨g,ZR [(0,0)]⟩
  have av:=Y2 u O;refine Z1 av ?_;obtain⟨P,H138⟩ |⟨P,H138⟩:=Cb av H136
  ·refine Z1 P ?_;cases H138;exact⟨g,ZR [(0,0)]⟩
  refine Z1 P ?_;cases H138;exact⟨g,ZR [(0,0)]⟩
 obtain⟨j,H140⟩ |⟨j,H140⟩:=Ah H132
 ·refine ED (by rfl) j ?_;refine Z1 j ?_;refine ZT 2 ?_;refine Z1 j ?_;cases H140;exact⟨_,h,rfl,ZR [(0,0)]⟩
 refine DI (by rfl) j ?_;refine Z1 j ?_;refine AU ?_;refine EJ H140 (fun f _ aE e=>⟨kp [0,6,7,8,9] f (upd 5 (AW 0 e (List.map Ap b)) (upd 37 (.v (.bool aE)) AJ)),upd 0 (Am 3 e false (List.map Ap b)) AK,1⟩) (fun c9 E141 H142=> ?_) fun aE e H142=> ?_
 ·refine AQ ?_;obtain⟨v,H144⟩ |⟨v,H144⟩:=Ah E141
  ·refine Z1 v ?_;obtain⟨Q,H146⟩ |⟨Q,H146⟩:=Ah H144
   ·have⟨da,b4,H148⟩:=AP H146;have⟨b5,dd,a0,b6⟩:=HY b4;try simp only[Int.reduceToNat,Li] at a0
    refine Z1 (Y5 v Q (CC .i64 b5) a0 b6.symm) ?_;cases H148;exact⟨h,ZR [(0,0)]⟩
   refine Z1 (Y2 v Q) ?_;cases H146;exact⟨h,ZR [(0,0)]⟩
  refine Z1 v ?_;cases H144;exact⟨h,ZR [(0,0)]⟩
 obtain⟨d,H153⟩ |⟨d,H153⟩:=Ah H142
 ·refine ED (by rfl) d ?_;refine Z1 d ?_;refine AU ?_;refine EJ H153 (fun f _ a1 C=>⟨kp [0,6] f (upd 5 (AW 0 C (List.map Ap b)) (upd 8 (.v (.int .i64 a1)) AJ)),upd 0 (Am 3 C false (List.map Ap b)) AK,1⟩) (fun df E154 H155=> ?_) fun a1 C H155=> ?_
  ·refine DL E154 (fun f _ a2 k=>⟨kp [0,6] f (upd 5 (AW 0 k (List.map Ap b)) (upd 8 (.v (.int .i64 a2)) AJ)),upd 0 (Am 3 k false (List.map Ap b)) AK,1⟩) e (ZR [(0,0)]) fun c a2 k L156=> ?_
   refine AQ ?_;obtain⟨R,H167⟩ |⟨R,H167⟩:=Ah L156
   ·have⟨dk,b7,H169⟩:=AP H167;have⟨b8,dl,a3,b9⟩:=HY b7;try simp only[Int.reduceToNat,Li] at a3
    have a4:=Y4 R (CC .i64 b8) a3 b9.symm;refine Z1 a4 ?_;obtain⟨S,H174⟩ |⟨S,H174⟩:=Cb a4 H169
    ·refine Z1 S ?_;exact⟨_,k,H174,ZR [(0,0)]⟩
    refine Z1 S ?_;cases H174;exact⟨k,ZR [(0,0)]⟩
   refine Z1 R ?_;cases H167;exact⟨k,ZR [(0,0)]⟩
  refine ZT 2 ?_;refine Z0 ?_;cases H155;exact⟨_,C,rfl,ZR [(0,0)]⟩
 refine DI (by rfl) d ?_;refine Ct d ?_;have⟨dm,cb,H177⟩:=AP H153;refine Z1 d ?_;refine CT (cj cb) ?_;refine Z1 d ?_;obtain⟨w,H179⟩ |⟨w,H179⟩:=Ah H177
 ·refine ED (by rfl) w ?_;refine Z1 (Y2 d w) ?_;refine AU ?_;refine EJ H179 (fun f _ a5 E=>⟨kp [0,6] f (upd 5 (AW 0 E (List.map Ap b)) (upd 8 (.v (.int .i64 a5)) AJ)),upd 0 (Am 3 E false (List.map Ap b)) AK,1⟩) (fun dn E180 H181=> ?_) fun a5 E H181=> ?_
  ·refine DL E180 (fun f _ a6 m=>⟨kp [0,6] f (upd 5 (AW 0 m (List.map Ap b)) (upd 8 (.v (.int .i64 a6)) AJ)),upd 0 (Am 3 m false (List.map Ap b)) AK,1⟩) e (ZR [(0,0)]) fun c a6 m L182=> ?_
   refine AQ ?_;obtain⟨T,H195⟩ |⟨T,H195⟩:=Ah L182
   ·have⟨dp,cf,H197⟩:=AP H195;have⟨ch,dq,a9,cp⟩:=HY cf;try simp only[Int.reduceToNat,Li] at a9
    have⟨dr,cs,H202⟩:=AP H197;have U:=Y4 T (CC .i64 ch) a9 cp.symm;refine Z1 U ?_;refine CT (cj cs) ?_;refine Z1 U ?_;obtain⟨V,H204⟩ |⟨V,H204⟩:=Cb U H202
    ·refine Z1 V ?_;exact⟨_,m,H204,ZR [(0,0)]⟩
    refine Z1 V ?_;cases H204;exact⟨m,ZR [(0,0)]⟩
   refine Z1 T ?_;cases H195;exact⟨m,ZR [(0,0)]⟩
  refine ZT 2 ?_;refine Z0 ?_;cases H181;exact⟨_,E,rfl,ZR [(0,0)]⟩
 refine DI (by rfl) w ?_;refine Z1 (Y2 d w) ?_;refine AU ?_;refine EJ H179 (fun f _ ba y=>⟨kp [0,6,7,8,9] f (upd 5 (AW 0 y (List.map Ap b)) (upd 79 (.v (.bool ba)) AJ)),upd 0 (Am 3 y false (List.map Ap b)) AK,1⟩) (fun ds E206 H207=> ?_) fun ba y H207=> ?_
 ·refine AQ ?_;obtain⟨z,H209⟩ |⟨z,H209⟩:=Ah E206
  ·refine Z1 z ?_;obtain⟨X,H211⟩ |⟨X,H211⟩:=Ah H209
   ·have⟨dt,cx,H213⟩:=AP H211;have⟨cN,dw,bb,c0⟩:=HY cx;try simp only[Int.reduceToNat,Li] at bb
    refine Z1 (Y5 z X (CC .i64 cN) bb c0.symm) ?_;cases H213;exact⟨e,ZR [(0,0)]⟩
   refine Z1 (Y2 z X) ?_;cases H211;exact⟨e,ZR [(0,0)]⟩
  refine Z1 z ?_;cases H209;exact⟨e,ZR [(0,0)]⟩
 refine ZT 2 ?_;refine Z0 ?_;obtain⟨o,H218⟩ |⟨o,H218⟩:=Ah H207
 ·refine Z1 o ?_;cases H218;exact⟨_,y,rfl,ZR [(0,0)]⟩
 have⟨dy,c1,H220⟩:=AP H218;refine Z1 o ?_;refine CT (xL c1) ?_;refine Z1 o ?_;obtain⟨Y,H222⟩ |⟨Y,H222⟩:=Ah H220
 ·refine Z1 (Y2 o Y) ?_;cases H222;cases H130;cases J;exact As
 refine Z1 (Y2 o Y) ?_;cases H222;exact⟨_,y,rfl,ZR [(0,0)]⟩
def Yl (n:Nat)(s:ByteArray):Nat->Int->Option ((Unit) ⊕ Bool)
 |0,_=>none
 |c+1,i=>(if decide (i<(s.size:Int)) then (EL s i).bind fun b=>(RF n b).bind fun d=>(if d then Yl n s c (i64.wrap (i+1)) else some (.inr false)) else some (.inl ()))
def MO (n:Nat)(s:ByteArray):Option Bool:=(Yl n s n 0:Option ((Unit) ⊕ Bool)).bind fun
  | .inl _=>(if decide (1<=(s.size:Int)) then (if decide ((s.size:Int)<=30) then (EL s 0).bind fun b=>(if (b != 95) then some (!(s.toList==({ data:= #[116,121,112,101] }:ByteArray).toList)) else some false) else some false) else some false)
  | .inr r=>some r
theorem xN {s:ByteArray}{r:Bool}(H:MO n s=some r):AM Tryz.prog 85 [D.v (.string s)] (D.v (.bool r)) true:=by
 unfold MO at H;refine zP #[.tmp 2] Tryz.func85 ?_;refine JA ?_;refine zi H (fun f _ _=>⟨kp [0] f AJ,AK,0⟩) (fun C p d=> ?_) fun _ d=> ?_
 ·refine D9 p (fun f _ i=>⟨kp [0] f (upd 3 (.v (.int .i64 i)) AJ),AK,0⟩) (ZR []) fun c i t=> ?_
  refine AQ ?_;obtain⟨e,H16⟩ |⟨e,H16⟩:=Ah t
  ·have⟨E,u,H18⟩:=AP H16;have⟨v,F,l,w⟩:=HY u;try simp only[Int.reduceToNat,Li] at l
   have⟨G,y,H23⟩:=AP H18;have g:=Y4 e (CC .i64 v) l w.symm;refine Z1 g ?_;refine CT (cj y) ?_;refine Z1 g ?_;obtain⟨h,H25⟩ |⟨h,H25⟩:=Cb g H23
   ·refine Z1 h ?_;exact⟨_,H25,ZR []⟩
   refine Z1 h ?_;cases H25;cases d;exact As
  refine Z1 e ?_;cases H16;exact⟨_,rfl,ZR []⟩
 refine AQ ?_;obtain⟨b,H27⟩ |⟨b,H27⟩:=Ah d
 ·refine Z1 b ?_;obtain⟨j,H29⟩ |⟨j,H29⟩:=Ah H27
  ·have⟨I,z,H31⟩:=AP H29;have⟨A,J,m,B⟩:=HY z;try simp only[Int.reduceToNat] at m
   have o:=Y5 b j (CC .i64 A) m B.symm;refine Z1 o ?_;obtain⟨k,H36⟩ |⟨k,H36⟩:=Cb o H31
   ·refine Z1 k ?_;cases H36;exact As
   refine Z1 k ?_;cases H36;exact As
  refine Z1 (Y2 b j) ?_;cases H29;exact As
 refine Z1 b ?_;cases H27;exact As
def vJ_ (n:Nat)(x:Au):Option (Au × ByteArray):=
 if x.e==0 then(match x.l[x.p]? with
  |some t=>if t.kind==1 then(MO n t.text).bind fun b=>if b then some ({ x with p:=x.p+1 },t.text) else some (xe_ x 9,{ data:= #[] }) else some (xe_ x 9,{ data:= #[] })
  |none=>some (xe_ x 9,{ data:= #[] })) else some (x,{ data:= #[] })
section
variable {x:Au}{bl:Bool}{ov:AV}{q nx:Nat}{hp:Hp}
set_option maxRecDepth 8000 in
theorem PV {r:Au × ByteArray}(c:hp q=some (Aw x bl ov))(A:x.l.length<4611686018427387903)(h:vJ_ n x=some r):AT Tryz.prog 55 [.pt q 0] hp nx fun v s t=>v= .v (.string r.2)/\s=upd q (some (Aw r.1 bl ov)) hp/\nx<=t:=by
 refine zr Tryz.func55 ?_;unfold vJ_ at h;cases e:(x.e==0) with
 |false=>
  have f:(x.e != 0)=true:=by rw[bne,e];rfl
  rw[e,if_neg (by decide)] at h;cases h;refine Z1 (Y2 c f) ?_;exact⟨_,_,rfl,⟨fun _=>.inr rfl⟩,rfl,(Fc c).symm,by dsimp only;omega⟩
 |true=>
  have f:(x.e != 0)=false:=by rw[bne,e];rfl
  rw[e,if_pos rfl] at h;by_cases u:x.p<x.l.length
  ·have j:(decide ((x.p:Int)>=(x.l.length:Int)))=false:=DE;have k:(decide ((x.l.length:Int)<=(x.p:Int)))=false:=DE;have m:x.l[x.p]? =some x.l[x.p]:=Le u;have y:(x.l.map Ap)[x.p]? =some [D.v (.int .i64 x.l[x.p].kind),D.v (.int .i64 x.l[x.p].at_),D.v (.string x.l[x.p].text)]:=Cz Ap m;have w:=Y2 c (Y6 f j k y (CC .i64 (show(0:Int)<=(x.p:Int) by omega)) (show((x.p:Int)).toNat=x.p from Li _));rw[m] at h;dsimp only at h;cases g:(x.l[x.p].kind==1) with
   |true=>
    have l:(x.l[x.p].kind != 1)=false:=(by rw[bne,g];rfl);rw[g,if_pos rfl] at h;have⟨b,z,h⟩:=AP h;refine Z1 (Y2 l w) ?_;refine Ds (xN z) ?_;cases b with
    |true=>
     rw[if_pos rfl] at h;cases h;refine Z0 ?_;refine DD (by rfl) ?_;refine Z1 (Y3 (Ar (n:=x.p)) (GB (n:=x.p) (by omega)) w) ?_;refine DD (by rfl) ?_;refine Z0 ?_;exact⟨_,_,rfl,⟨fun _=>.inr rfl⟩,rfl,rfl,by dsimp only;omega⟩
    |false=>
     rw[if_neg (by decide)] at h;cases h;refine Z0 ?_;refine DD (by rfl) ?_;refine Z1 w ?_;refine CO ((KY c (by omega)).mono ?_);rintro v o p ⟨rfl,rfl,d⟩;dsimp only at d;refine Z0 ?_;exact⟨_,_,rfl,⟨fun _=>.inr rfl⟩,rfl,rfl,by dsimp only;omega⟩
   |false=>
    have l:(x.l[x.p].kind != 1)=true:=(by rw[bne,g];rfl);rw[g,if_neg (by decide)] at h;cases h;refine Z1 (Y2 l w) ?_;refine DD (by rfl) ?_;refine Z1 w ?_;refine CO ((KY c (by omega)).mono ?_);rintro v o p ⟨rfl,rfl,d⟩;dsimp only at d;refine Z0 ?_;exact⟨_,_,rfl,⟨fun _=>.inr rfl⟩,rfl,rfl,by dsimp only;omega⟩
  have j:(decide ((x.p:Int)>=(x.l.length:Int)))=true:=DB;have k:(decide ((x.l.length:Int)<=(x.p:Int)))=true:=DB;rw[Nl (by omega)] at h;cases h;have w:=Y2 c (Y3 f j k);refine Dj w ?_;refine CO ((KY c (by omega)).mono ?_);rintro v o p ⟨rfl,rfl,d⟩;dsimp only at d;refine Z0 ?_;exact⟨_,_,rfl,⟨fun _=>.inr rfl⟩,rfl,rfl,by dsimp only;omega⟩
end
structure RH (hp:Hp) (q:Nat) (x:Au) (bl:Bool) (oid ver:Nat):Prop where
 box:hp q=some (Aw x bl (AW oid ver (x.out.map AY)))
 row:x.out≠[]->hp oid=some (.rw (x.out.map AY) 3 ver false false)/\oid≠q
def EF (x:Au)(s:AX)(b:Int):Au:=if x.e==0 then(if x.out.length=200 then{ x with e:=8,bad:=b } else{ x with out:=x.out++[s] }) else x
def KZ (hp:Hp)(nx q oid:Nat)(x0 x:Au)(bl:Bool)(c:Hp)(nx2:Nat):Prop:=∃b d,RH c q x bl b d/\(∀j,j<nx->j≠q->(x0.out≠[]->j≠oid)->c j=hp j)/\(∀j,nx2<=j->c j=none)/\nx<=nx2/\b<nx2/\(x.out≠[]->(x0.out≠[]/\b=oid)\/nx<=b)
set_option maxRecDepth 8000 in
theorem Ka {x:Au}{bl:Bool}{q nx oid ver:Nat}{s:AX}{a:Int}{vs:AV}(b:∀j,nx<=j->hp j=none)(m:RH hp q x bl oid ver)(M:oid<nx)(t:EB vs=some [.v (.int .i64 s.kind),.v (.string s.a),.v (.string s.b)])(G:x.out.length<=200):
  AT Tryz.prog 112 [.pt q 0,vs,.v (.int .i64 a)] hp nx fun v I J=>v= .tu []/\KZ hp nx q oid x (EF x s a) bl I J:=by
 refine zr Tryz.func112 ?_;have c:=m.box;have N:q<nx:=Ch b c;unfold EF;cases u:(x.e==0) with
 |false=>
  rw[if_neg (by decide)];refine Z1 (Y4 t (FX b c) c u) ?_;refine⟨_,hp,rfl,dR b,rfl,oid,ver,m,fun _ _ _ _=>rfl,fun j g=>b j (by dsimp only at g;omega),by dsimp only;omega,by dsimp only;omega,fun h=>.inl ⟨h,rfl⟩⟩
 |true=>
  rw[if_pos rfl];cases d:x.out with
  |nil=>
   rw[if_neg (by decide)];rw[d] at c;have O:hp oid=hp oid:=rfl;have f:q≠nx+1+13+5+7:=(by omega);have k:nx≠nx+1+13+5+7:=(by omega);have o:nx+1+13+5+6≠nx+1+13+5+7:=(by omega);refine Z1 (Y2 (Y6 t (FX b c) c u (show(q=nx+1+13+5+7)=False from eq_false f) (show(q=nx+1+13+5+6)=False from Ep)) (Y5 (show(nx=nx+1+13+5+6)=False from Ep) (show(nx=nx+1+13+5+7)=False from eq_false k) (show(nx+1+13+5+7=nx+1+13+5+6)=False from eq_false (Ne.symm o)) (show(nx+1+13+5+7=q)=False from eq_false (Ne.symm f)) trivial)) ?_;have z:Cr q (nx+1+13+5+7) nx (nx+1+13+5+6) q=1:=(by simp[Cr]);have A:Cr q (nx+1+13+5+7) nx (nx+1+13+5+6) (nx+1+13+5+7)=2:=(by simp[Cr,Ne.symm f]);have B:Cr q (nx+1+13+5+7) nx (nx+1+13+5+6) nx=3:=(by unfold Cr;rw[ifn,if_neg k,if_pos rfl]);have C:Cr q (nx+1+13+5+7) nx (nx+1+13+5+6) (nx+1+13+5+6)=4:=(by unfold Cr;rw[ifn,if_neg o,ifn,if_pos rfl]);refine JW (Cr q (nx+1+13+5+7) nx (nx+1+13+5+6)) _ rfl (by simp only[Nm,Nr,LA,LU,Lh,Lu,HL,z,A,B,C];rfl) (by rfl) ?_;refine Z0 ?_;refine⟨_,_,rfl,⟨fun _=>.inr rfl⟩,rfl,nx+1+13+5+7,0,⟨At _ _ _,fun _=>⟨by dsimp only;rw[Ac,At];rfl,by omega⟩⟩,fun j H l _=>by dsimp only;rw[Aj _ _ l,Ac,Ac,Ac],fun j g=>by dsimp only at g⊢;rw[Ac,Ac,Ac,Ac];exact b j (by omega),by dsimp only;omega,by dsimp only;omega,fun _=>.inr (by omega)⟩
  |cons y r=>
   rw[d] at c;have E:=(m.row (by rw[d];simp)).1;rw[d] at E;have P:r.length+1<=200:=(by rw[d] at G;exact G);by_cases w:(y::r).length=200
   ·rw[if_pos w];have F:(((r.length+1:Nat):Int)==200)=true:=(by simp at w⊢;omega);refine Z1 (Y5 t (FX b c) c u F) ?_;have p:=m.row (by rw[d];simp);rw[d] at p;refine⟨_,_,rfl,⟨fun _=>.inr rfl⟩,rfl,oid,ver,⟨by dsimp only;rw[At];simp[AW],fun _=>⟨by dsimp only;rw[Aj _ _ p.2,Aj _ _ p.2,Ac];exact p.1,p.2⟩⟩,fun j H l _=>by dsimp only;rw[Aj _ _ l,Aj _ _ l,Ac],fun j g=>by dsimp only at g⊢;rw[Ac,Ac,Ac];exact b j (by omega),by dsimp only;omega,by dsimp only;omega,fun _=>.inl ⟨by rw[d];simp,rfl⟩⟩
   rw[if_neg w];have F:(((r.length+1:Nat):Int)==200)=false:=(by simp at w⊢;omega);have f:q≠oid:=fun e=>m.row (by rw[d];simp)|>.2 e.symm;have k:nx≠oid:=(by omega);have o:nx+1+13+5+6≠oid:=(by omega);refine Z1 (Y3 (Y6 t (FX b c) c u (show(q=oid)=False from eq_false f) (show(q=nx+1+13+5+6)=False from Ep)) (Y6 (show(nx=nx+1+13+5+6)=False from Ep) (show(nx=oid)=False from eq_false k) (show(oid=nx+1+13+5+6)=False from eq_false (Ne.symm o)) (show(oid=q)=False from eq_false (Ne.symm f)) (FX b E) E) (Y3 F (show(r.length+1+1<=4294967296)=True from Fa) (show(oid=nx)=False from eq_false (Ne.symm k)))) ?_
   have z:Cr q (oid) nx (nx+1+13+5+6) q=1:=(by simp[Cr]);have A:Cr q (oid) nx (nx+1+13+5+6) (oid)=2:=(by simp[Cr,Ne.symm f]);have B:Cr q (oid) nx (nx+1+13+5+6) nx=3:=(by unfold Cr;rw[ifn,if_neg k,if_pos rfl]);have C:Cr q (oid) nx (nx+1+13+5+6) (nx+1+13+5+6)=4:=(by unfold Cr;rw[ifn,if_neg o,ifn,if_pos rfl]);refine JW (Cr q (oid) nx (nx+1+13+5+6)) _ rfl (by simp only[Nm,Nr,LA,LU,Lh,Lu,HL,z,A,B,C];rfl) (by rfl) ?_;refine Z0 ?_;refine⟨_,_,rfl,⟨fun _=>.inr rfl⟩,rfl,oid,ver+1,⟨by dsimp only;rw[At];simp[AW],fun _=>⟨by dsimp only;rw[Aj _ _ (Ne.symm f),At];simp,Ne.symm f⟩⟩,fun j H l K=>by dsimp only;rw[Aj _ _ l,Aj _ _ (K (by rw[d];simp)),Ac,Ac],fun j g=>by dsimp only at g⊢;rw[Ac,Ac,Ac,Ac];exact b j (by omega),by dsimp only;omega,by dsimp only;omega,fun _=>.inl ⟨by rw[d];simp,rfl⟩⟩
def FE {α:Type}(a b:Nat):Nat->List α->Nat->Option (List α)
 |0,c,_=>some c
 |k+1,c,i=>(c[b+i]?).bind fun x=>(c[a+i]?).bind fun y=>FE a b k ((c.set (a+i) x).set (b+i) y) (i+1)
def FF {α:Type}(m:Nat):Nat->List α->Nat->Nat->Option (List α)
 |0,_,_,_=>none
 |f+1,b,i,j=>if i<=m then(if i=j then FE (m-i) m i b 0 else if j<i then(FE (m-i) m j b 0).bind fun c=>FF m f c (i-j) j else(FE (m-i) (m+j-i) i b 0).bind fun c=>FF m f c i (j-i)) else none
theorem Tr {α:Type}{a b:Nat}:∀ {k i:Nat} {c d:List α},FE a b k c i=some d->d.length=c.length
 |0,_,_,_,h=>by cases h;rfl
 |k+1,i,c,d,h=>by
  unfold FE at h;have⟨x,_,h⟩:=AP h;have⟨y,_,h⟩:=AP h;rw[Tr h];simp
theorem yz {α:Type}{xs:List α}{i j:Nat}{x y z:α}(b:xs[j]? =some x)(c:xs[i]? =some y)(h:z∈(xs.set i x).set j y):z∈xs:=by
 rcases Br h with h |h
 ·rcases Br h with h |h
  ·exact h
  rw[h];exact Ly b
 rw[h];exact Ly c
theorem ZN {α:Type}{a b:Nat}{z:α}:∀ {k i:Nat} {c d:List α},FE a b k c i=some d->z∈d->z∈c
 |0,_,_,_,h=>by cases h;exact id
 |k+1,i,c,d,h=>by
  unfold FE at h;have⟨x,e,h⟩:=AP h;have⟨y,f,h⟩:=AP h;exact fun g=>yz e f (ZN h g)
theorem ZO {α:Type}{m:Nat}:∀ {f i j:Nat} {b c:List α},FF m f b i j=some c->c.length=b.length
 |0,_,_,_,_,h=>by cases h
 |f+1,i,j,b,c,h=>by
  unfold FF at h;split at h
  ·split at h
   ·exact Tr h
   split at h
   ·have⟨e,d,h⟩:=AP h;rw[ZO h,Tr d]
   have⟨e,d,h⟩:=AP h;rw[ZO h,Tr d]
  cases h
theorem ZQ {α:Type}{m:Nat}{z:α}:∀ {f i j:Nat} {b c:List α},FF m f b i j=some c->z∈c->z∈b
 |0,_,_,_,_,h=>by cases h
 |f+1,i,j,b,c,h=>by
  unfold FF at h;split at h
  ·split at h
   ·exact ZN h
   split at h
   ·have⟨g,d,h⟩:=AP h;exact fun e=>ZN d (ZQ h e)
   have⟨g,d,h⟩:=AP h;exact fun e=>ZN d (ZQ h e)
  cases h
theorem FG {b:Nat}(h:a+b<4611686018427387904):i64.wrap ((a:Int)+(b:Int))=((a+b:Nat):Int):=by
 rw[show(a:Int)+(b:Int)=((a+b:Nat):Int) by omega];exact Hl h
theorem EI {b:Nat}(c:b<=a)(h:a<4611686018427387904):i64.wrap ((a:Int)-(b:Int))=((a-b:Nat):Int):=by
 rw[show(a:Int)-(b:Int)=((a-b:Nat):Int) by omega];exact Hl
section
variable {i ver L:Nat}{br:Bool}
set_option maxRecDepth 4000 in
theorem dv {xs R:List AB}{b nx:Nat}{cmp:AV}(m:hp i=Cd xs ver br)(o:xs.length=L)(C:L<4294967296)(p:FE a b n xs 0=some R):
  AT Tryz.prog 186 [.so i ver 0 L,.v (.int .i64 (a:Int)),.v (.int .i64 (b:Int)),.v (.int .i64 (n:Int)),cmp] hp nx fun v r s=>v= .tu []/\r=upd i (Cd R ver br) hp/\nx<=s:=by
 refine zq Tryz.func186 ?_;refine Ax ?_;refine CV ?_;refine DV (α:={ x:Nat × List AB × Nat // x.1<=n/\x.1<=L/\nx<=x.2.2/\x.2.1.length=L/\FE a b (n-x.1) x.2.1 x.1=some R })
  (fun x=>⟨upd 0 (.so i ver 0 L) (upd 1 (.v (.int .i64 (a:Int))) (upd 2 (.v (.int .i64 (b:Int))) (upd 3 (.v (.int .i64 (n:Int))) (upd 10 (.v (.int .i64 (x.1.1:Int))) AJ)))),upd i (Cd x.1.2.1 ver br) hp,x.1.2.2⟩) (fun x=>n-x.1.1) ⟨(0,xs,nx+1),Lf _,Lf _,by show nx<=nx+1;omega,o,p⟩ ?_ ?_
 ·rw[Fc m];exact CW
 rintro⟨⟨k,d,f⟩,t,u,w,g,c⟩;dsimp only at u t w g c;refine AU (AU ?_);refine ZT 1 ?_;by_cases E:k<n
 ·obtain⟨q,A⟩:∃q,n-k=q+1:=⟨n-k-1,by omega⟩;rw[A] at c;unfold FE at c;have⟨x,j,c⟩:=AP c;have⟨y,l,c⟩:=AP c;have F:=(Lb.1 j).1;have G:=(Lb.1 l).1;have e:(decide ((k:Int)<(n:Int)))=true:=DB;refine FM e ?_;refine AU (CV ?_);refine ZT 1 ?_;obtain⟨z,B⟩:∃z:AB,((d.map AF).set (a+k) (AF x))[b+k]? =some (AF z):=by
   rw[<-NF,Ln];cases h:(d.set (a+k) x)[b+k]? with
   |none=>
    rw[OC,NS] at h;omega
   |some z=>exact⟨z,rfl⟩
  refine Z1 (Y2 (Y6 (FG (a:=a) (b:=k) (by omega)) (FG (a:=b) (b:=k) (by omega)) (Cz AF j) (Cz AF l) B (show(a+k<L)=True from Fa)) (show(b+k<L)=True from Fa)) ?_;refine DD (by rfl) ?_;refine Z0 ?_;refine ZT 1 ?_;refine Z1 (Ar (show k+1<_ by omega)) ?_;refine⟨⟨(k+1,(d.set (a+k) x).set (b+k) y,_),by show k+1<=n;omega,by show k+1<=L;omega,?_,by simpa using g,by rw[show n-(k+1)=q by omega];exact c⟩,GE ?_ DW,by show n-(k+1)<n-k;omega⟩
  ·show nx<=f+3+24+3;omega
  rw[EU,EU];show upd i (some (.rw (((d.set (a+k) x).set (b+k) y).map AF) 3 ver br false)) hp=_;rw[NF,NF]
 have e:(decide ((k:Int)<(n:Int)))=false:=DE;rw[show n-k=0 by omega] at c;cases c;refine FM e ?_;exact⟨_,_,rfl,⟨fun _=>.inr rfl⟩,rfl,rfl,by show nx<=f+3;omega⟩
set_option maxRecDepth 4000 in
theorem Rr {xs R:List AB}{m b f nx:Nat}{cmp:AV}(B:hp i=Cd xs ver br)(C:xs.length=L)(k:L<4294967296)(E:a<=m)(F:m<=b)(K:b<=L)(G:FF m f xs (m-a) (b-m)=some R):
  AT Tryz.prog 176 [.so i ver 0 L,.v (.int .i64 (a:Int)),.v (.int .i64 (m:Int)),.v (.int .i64 (b:Int)),cmp] hp nx fun v j d=>v= .tu []/\j=upd i (Cd R ver br) hp/\nx<=d:=by
 refine zq Tryz.func176 ?_;refine AU (ZT 1 ?_);refine Z1 (EI E (by omega)) ?_;refine AU (ZT 1 ?_);refine Z1 (EI F (by omega)) ?_;refine AU (CV ?_);refine DV (α:={ x:Nat × Nat × List AB × Nat × Nat // nx<=x.2.2.2.1/\x.2.2.1.length=L/\x.1<=L/\x.2.1<=L/\FF m x.2.2.2.2 x.2.2.1 x.1 x.2.1=some R })
  (fun x=>⟨upd 0 (.so i ver 0 L) (upd 2 (.v (.int .i64 (m:Int))) (upd 4 cmp (upd 10 (.v (.int .i64 (x.1.1:Int))) (upd 11 (.v (.int .i64 (x.1.2.1:Int))) AJ)))),upd i (Cd x.1.2.2.1 ver br) hp,x.1.2.2.2.1⟩) (fun x=>x.1.2.2.2.2) ⟨(m-a,b-m,xs,nx+4+4,f),by show nx<=nx+4+4;omega,C,by show m-a<=L;omega,by show b-m<=L;omega,G⟩ ?_ ?_
 ·rw[Fc B];exact CW
 rintro⟨⟨u,v,M,l,f⟩,H,e,y,z,c⟩;dsimp only at H e y z c;obtain⟨f,rfl⟩:∃I,f=I+1:=by
  cases f with |zero=>cases c |succ f=>exact⟨f,rfl⟩
 unfold FF at c;split at c;rotate_left
 ·cases c
 rename_i o;refine AU (AU ?_);refine ZT 1 ?_;by_cases p:u=v
 ·rw[if_pos p] at c;have g:=c;subst p;have r:((u:Int) != (u:Int))=false:=by simp
  refine FM r ?_;refine ZT 1 ?_;refine Z1 (EI o (by omega)) ?_;refine CO (AT.mono (dv (At ..) e k g) fun v j d h=> ?_);obtain⟨rfl,rfl,h⟩:=h;have h:l+3+8<=d:=h;refine Z0 ?_;exact⟨_,_,rfl,⟨fun _=>.inr rfl⟩,rfl,EU _ _ _ _,by show nx<=d;omega⟩
 rw[if_neg p] at c;have r:((u:Int) != (v:Int))=true:=by simp;omega
 refine FM r ?_;refine CV ?_;refine AU (ZT 1 ?_);by_cases A:v<u
 ·rw[if_pos A] at c;have⟨s,c,g⟩:=AP c;have t:(decide ((u:Int) > (v:Int)))=true:=DB;have w:(decide ((v:Int)<(u:Int)))=true:=DB;refine Z1 (Y2 t w) ?_;refine ZT 1 ?_;refine Z1 (EI o (by omega)) ?_;refine CO (AT.mono (dv (At ..) e k c) fun J j d h=> ?_);obtain⟨rfl,rfl,h⟩:=h;have h:l+3+3+8<=d:=h;refine Z1 (EI (a:=u) (b:=v) (by omega) (by omega)) ?_;refine⟨⟨(u-v,v,s,_,f),?_,(Tr c).trans e,by show u-v<=L;omega,z,g⟩,GE ?_ DW,Ls f⟩
  ·show nx<=d+4;omega
  exact(EU _ _ _ _).symm
 rw[if_neg A] at c;have⟨s,c,g⟩:=AP c;have t:(decide ((u:Int) > (v:Int)))=false:=DE;have w:(decide ((v:Int)<(u:Int)))=false:=DE;refine Z1 (Y2 t w) ?_;refine ZT 1 ?_;refine Z1 (Y3 (EI o (by omega)) (FG (a:=m) (b:=v) (by omega)) (EI (a:=m+v) (b:=u) (by omega) (by omega))) ?_;refine CO (AT.mono (dv (At ..) e k c) fun J j d h=> ?_);obtain⟨rfl,rfl,h⟩:=h;have h:l+3+3+12<=d:=h;refine Z1 (EI (a:=v) (b:=u) (by omega) (by omega)) ?_;refine⟨⟨(u,v-u,s,_,f),?_,(Tr c).trans e,y,by show v-u<=L;omega,g⟩,GE ?_ DW,Ls f⟩
 ·show nx<=d+4;omega
 exact(EU _ _ _ _).symm
end
end Go.Proofs.YtnmkbmefohakmaaGreat.Ab
