/-
 The order of texts; Compact of what is sorted is the set; Once is the set. No program in sight.
-/
import Derived.Test.YtnmkbmefohakmaaGreatRks
import Derived.Shelf.Small.Strs
import Derived.Handy
import Derived.Lib.SlicesCompact
import Derived.Lib.Strings
set_option linter.all false
namespace Go.Proofs.YtnmkbmefohakmaaGreat.Ab
open Go.RowKit IntKind
def M9 (_:Nat)(a:Int)(b:List Int):Option Int:=(if decide (a<(b.length:Int)) then (CD b a).bind fun x=>some x else some 0)
variable {l:List AG}{n:Nat}{n_:Int}{r:Bool}
theorem Wj {c:Int}{d:List Int}{r:Int}(H:M9 n c d=some r):AI Tryz.prog 27 [D.v (.int .i64 c),D.pt [D.sl (List.map eI d)] 0] (D.v (.int .i64 r)) true:=by
 unfold M9 at H;refine zP #[.tmp 3] Tryz.func27 ?_;refine AP ?_;obtain⟨a,b⟩ |⟨a,b⟩:=As H
 ·obtain⟨x,g,h,e,f⟩:=zI eI b;refine Z1 (Y2 a e) ?_;cases f;exact Ax
 refine Z1 a ?_;cases b;exact Ax
def PB (_:Nat)(n_:Int):Option ByteArray:=(CD ([{ data:= #[117] },{ data:= #[117] },{ data:= #[97,35,114] },{ data:= #[98,35,114] },{ data:= #[97,35,115] },{ data:= #[98,35,112] },{ data:= #[97] },{ data:= #[98] },{ data:= #[117] },{ data:= #[97,35,113] }]:List ByteArray) (Int.tmod (i64.wrap (an n_ 255:Int)) 10)).bind fun x=>some x
theorem nI {r:ByteArray}(H:PB n n_=some r):AI Tryz.prog 28 [D.v (.int .i64 n_)] (D.v (.string r)) true:=by
 unfold PB at H;refine zP #[.tmp 2] Tryz.func28 ?_;refine ZT 1 ?_;obtain⟨x,d,a,e⟩:=Hc H;have b:=Cr eS a;simp only[Li,Lw,eS] at b;have c:=EQ a;simp only[Lh,Lu,Nat.reduceAdd] at c;refine Z1 (Y3 (A8 .i64 d) b c) ?_;cases e;exact Ax
def MM (_:Nat)(n_:Int):Option ByteArray:=(CD ([{ data:= #[114] },{ data:= #[115] },{ data:= #[114] },{ data:= #[115] },{ data:= #[115,45,62,114] },{ data:= #[115,45,62,112] },{ data:= #[112] },{ data:= #[113] }]:List ByteArray) (i64.wrap (an n_ 7:Int))).bind fun x=>some x
theorem Zl {r:ByteArray}(H:MM n n_=some r):AI Tryz.prog 29 [D.v (.int .i64 n_)] (D.v (.string r)) true:=by
 unfold MM at H;refine zP #[.tmp 2] Tryz.func29 ?_;refine ZT 1 ?_;obtain⟨x,d,a,e⟩:=Hc H;have b:=Cr eS a;simp only[Li,Lw,eS] at b;have c:=EQ a;simp only[Lh,Lu,Nat.reduceAdd] at c;refine Z1 (Y3 (A8 .i64 d) b c) ?_;cases e;exact Ax
def Jj (n:Nat)(t0:List Int)(d:Int):Nat->(ByteArray × Int)->Option (ByteArray)
 |0,_=>none
 |c+1,(e,b)=>(if decide (b<2) then (M9 n (i64.wrap ((i64.wrap (d+1))+b)) t0).bind fun a=>(Ed e ({ data:= #[32] })).bind fun h=>(CD ([{ data:= #[112] },{ data:= #[113] }]:List ByteArray) b).bind fun i=>(Ed h i).bind fun j=>(Ed j ({ data:= #[32,61,32] })).bind fun k=>(MM n a).bind fun m=>(Ed k m).bind fun o=>(CD ([{ data:= #[32,43,32] },{ data:= #[32,38,32] },{ data:= #[32,45,32] },{ data:= #[32,43,32] }]:List ByteArray) (i64.wrap (an (sh a 4) 3:Int))).bind fun p=>(Ed o p).bind fun q=>(MM n (sh a 8)).bind fun s=>(Ed q s).bind fun f=>(if ((i64.wrap (an (sh a 12) 1:Int))==1) then (CD ([{ data:= #[32,43,32] },{ data:= #[32,38,32] },{ data:= #[32,45,32] },{ data:= #[32,45,32,40] }]:List ByteArray) (i64.wrap (an (sh a 13) 3:Int))).bind fun t=>(Ed f t).bind fun u=>(MM n (sh a 16)).bind fun v=>(Ed u v).bind fun g=>(if ((i64.wrap (an (sh a 13) 3:Int))==3) then (Ed g ({ data:= #[32,38,32] })).bind fun w=>(MM n (sh a 20)).bind fun x=>(Ed w x).bind fun y=>(Ed y ({ data:= #[41] })).bind fun z=>(Ed z ({ data:= #[59] })).bind fun A=>Jj n t0 d c (A,(i64.wrap (b+1))) else (Ed g ({ data:= #[59] })).bind fun B=>Jj n t0 d c (B,(i64.wrap (b+1)))) else (Ed f ({ data:= #[59] })).bind fun C=>Jj n t0 d c (C,(i64.wrap (b+1)))) else some e)
def MN (n:Nat)(t0:List Int):Nat->(ByteArray × Int × Int)->Option (ByteArray)
 |0,_=>none
 |c+1,(d,a,b)=>(if decide (b<2) then (Ed d ({ data:= #[116,121,112,101,32] })).bind fun f=>(CD ([{ data:= #[97] },{ data:= #[98] }]:List ByteArray) b).bind fun g=>(Ed f g).bind fun h=>(Ed h ({ data:= #[32,123,32,114,58,32] })).bind fun i=>(M9 n a t0).bind fun j=>(PB n j).bind fun k=>(Ed i k).bind fun e=>(M9 n a t0).bind fun m=>((if ((i64.wrap (an (sh m 8) 1:Int))==1) then (Ed e ({ data:= #[32,124,32] })).bind fun o=>(M9 n a t0).bind fun p=>(PB n (sh p 9)).bind fun q=>(Ed o q).bind fun s=>some s else some e):Option (ByteArray)).bind fun t=>(Ed t ({ data:= #[59,32,115,58,32] })).bind fun u=>(M9 n a t0).bind fun v=>(CD ([{ data:= #[97] },{ data:= #[98] },{ data:= #[97,32,124,32,98] },{ data:= #[117,32,124,32,97] }]:List ByteArray) (Int.tmod (i64.wrap (an (sh v 20) 255:Int)) 4)).bind fun w=>(Ed u w).bind fun x=>(Ed x ({ data:= #[59] })).bind fun y=>(Jj n t0 a n (y,0):Option (ByteArray)).bind fun z=>(Ed z ({ data:= #[32,125,10] })).bind fun A=>MN n t0 c (A,(i64.wrap (a+3)),(i64.wrap (b+1))) else some d)
def QN (n:Nat)(t0:List Int):Option ByteArray:=(MN n t0 n ({ data:= #[116,121,112,101,32,117,10] },0,0):Option (ByteArray)).bind fun a=>some a
set_option maxHeartbeats 8000000 in
theorem xc {t0:List Int}{r:ByteArray}(H:QN n t0=some r):AI Tryz.prog 9 [D.sl (List.map eI t0)] (D.v (.string r)) true:=by
 unfold QN at H;refine zP #[.tmp 2] Tryz.func9 ?_;refine EE ?_;refine EE ?_;refine EE ?_;refine EZ ?_;refine zj H (fun _ _ w=>⟨upd 6 (.v (.string w)) AK,AM,0⟩) (fun e_ E1 x=> ?_) fun w x=> ?_;rotate_left
 ·refine AP ?_;cases x;exact Ax
 refine EG E1 (fun f h (g,y,z)=>⟨kp [3,4,5] f (upd 6 (.v (.string g)) (upd 7 (.v (.int .i64 y)) (upd 8 (.v (.int .i64 z)) AK))),kh [0] h AM,1⟩) (ZR [(0,0)]) fun c ⟨g,y,z⟩ L3=> ?_
 refine Ay ?_;obtain⟨b,H266⟩ |⟨b,H266⟩:=As L3;rotate_left
 ·refine Z1 b ?_;cases H266;exact ZR []
 refine PM b ?_;obtain⟨e1,a1,H268⟩:=AL H266;obtain⟨A,a2⟩:=Fi a1;have a3:g.size+5<=maxLen:=A;obtain⟨x7,a4,B,H273⟩:=Hc H268;have C:=Cr eS B;simp only[Li,Lw,eS] at C;have E:=EQ B;simp only[Lh,Lu,Nat.reduceAdd] at E;obtain⟨a5,a6,H279⟩:=AL H273;obtain⟨a7,a8⟩:=Fi a6;obtain⟨e2,a9,H283⟩:=AL H279;obtain⟨F,ba⟩:=Fi a9;have bb:a5.size+6<=maxLen:=F;obtain⟨e3,bd,H288⟩:=AL H283;have i:=Y2 (Y6 b A a2 a3 (A8 .i64 a4) C) (Y6 E a7 a8 F ba bb);refine Z1 i ?_;refine ci [0] (by intro e4 h1;have j:=h1 0 (by simp);(try simp -implicitDefEqProofs only[go_sem,reduceCtorEq, ↓reduceIte] at j);first |(simp -implicitDefEqProofs only[go_sem,j];done) |(simp -implicitDefEqProofs only[go_sem,j];rfl)) (CO.of_pure (Wj bd)) (by first |exact .inr rfl |exact .inl rfl) ?_;obtain⟨e5,be,H291⟩:=AL H288;refine Z1 i ?_;refine EB (nI be) ?_;obtain⟨bg,bl,H293⟩:=AL H291;obtain⟨bo,br⟩:=Fi bl;have d:=Y3 i bo br;refine Ds d ?_;refine AT (AT ?_);refine ZT 1 ?_;obtain⟨e6,bs,H297⟩:=AL H293;refine Z1 d ?_;refine Sk d (CO.of_pure (Wj bs)) ?_;refine Z1 d ?_;refine zj H297 (fun f h k=>⟨kp [3,4,5,7,8] f (upd 6 (.v (.string k)) AK),kh [0] h AM,1⟩) (fun e7 E298 H299=> ?_) fun k H299=> ?_
 ·refine AP ?_;obtain⟨m,H301⟩ |⟨m,H301⟩:=As E298
  ·obtain⟨e8,bx,H303⟩:=AL H301;obtain⟨G,b0⟩:=Fi bx;have b1:bg.size+3<=maxLen:=G;obtain⟨e9,b2,H308⟩:=AL H303;have e:=Y4 m G b0 b1;refine Z1 e ?_;refine Sk e (CO.of_pure (Wj b2)) ?_;obtain⟨fa,b3,H310⟩:=AL H308;refine Z1 e ?_;refine Cn (nI b3) ?_;obtain⟨fb,b4,H312⟩:=AL H310;obtain⟨b5,b6⟩:=Fi b4;refine Z1 (Y3 e b5 b6) ?_;cases H312;exact ZR [(0,0)]
  refine Z1 m ?_;cases H301;exact ZR [(0,0)]
 refine AT (ZT 1 ?_);obtain⟨fi,b7,H316⟩:=AL H299;obtain⟨I,b8⟩:=Fi b7;have b9:k.size+5<=maxLen:=I;obtain⟨fn,cb,H321⟩:=AL H316;have o:=Y3 I b8 b9;refine Z1 o ?_;refine Sk o (CO.of_pure (Wj cb)) ?_;obtain⟨x8,cf,J,H323⟩:=Hc H321;have K:=Cr eS J;simp only[Li,Lw,eS] at K;have L:=EQ J;simp only[Lh,Lu,Nat.reduceAdd] at L;obtain⟨ch,cp,H329⟩:=AL H323;obtain⟨cs,cx⟩:=Fi cp;obtain⟨fq,cN,H333⟩:=AL H329;obtain⟨M,c0⟩:=Fi cN;have c1:ch.size+1<=maxLen:=M;have c2:=Y2 (Y6 o (A8 .i64 cf) K L cs cx) (Y3 M c0 c1);refine KG c2 ?_;refine zj H333 (fun f h p=>⟨kp [3,4,5,7,8] f (upd 6 (.v (.string p)) AK),kh [0] h AM,1⟩) (fun fr E337 H338=> ?_) fun p H338=> ?_;rotate_left
 ·refine ZT 3 ?_;obtain⟨fs,c3,H528⟩:=AL H338;obtain⟨N,c4⟩:=Fi c3;have c5:p.size+3<=maxLen:=N;refine Z1 (Y3 N c4 c5) ?_;exact⟨_,H528,ZR [(0,0)]⟩
 refine EG E337 (fun f h (q,P)=>⟨kp [3,4,5,7,8] f (upd 6 (.v (.string q)) (upd 9 (.v (.int .i64 P)) AK)),kh [0] h AM,1⟩) (ZR [(0,0)]) fun c ⟨q,P⟩ L339=> ?_
 refine AP ?_;obtain⟨a,H431⟩ |⟨a,H431⟩:=As L339;rotate_left
 ·refine Z1 a ?_;cases H431;exact ZR [(0,0)]
 obtain⟨ft,c6,H433⟩:=AL H431;refine Z1 a ?_;refine Sk a (CO.of_pure (Wj c6)) ?_;obtain⟨fv,c7,H435⟩:=AL H433;obtain⟨Q,c9⟩:=Fi c7;have da:q.size+1<=maxLen:=Q;obtain⟨fz,dd,R,H440⟩:=Hc H435;have S:=Cr eS R;simp only[Li,Lw,eS] at S;have T:=EQ R;simp only[Lh,Lu,Nat.reduceAdd] at T;obtain⟨df,dk,H446⟩:=AL H440;obtain⟨dl,dm⟩:=Fi dk;obtain⟨f1,dn,H450⟩:=AL H446;obtain⟨U,dp⟩:=Fi dn;have dq:df.size+3<=maxLen:=U;obtain⟨f2,dr,H455⟩:=AL H450;have V:=Y2 (Y6 a Q c9 da (A8 .i64 dd) S) (Y6 T dl dm U dp dq);refine Z1 V ?_;refine EB (Zl dr) ?_;obtain⟨f3,ds,H457⟩:=AL H455;obtain⟨dt,dw⟩:=Fi ds;obtain⟨f4,dy,X,H461⟩:=Hc H457;have Y:=Cr eS X;simp only[Li,Lw,eS] at Y;have Z:=EQ X;simp only[Lh,Lu,Nat.reduceAdd] at Z;obtain⟨f5,dS,H467⟩:=AL H461;obtain⟨d0,d1⟩:=Fi dS;obtain⟨f6,d2,H471⟩:=AL H467;have aa:=Y2 (Y6 V dt dw (A8 .i64 dy) Y Z) (Y2 d0 d1);refine Z1 aa ?_;refine EB (Zl d2) ?_;obtain⟨d3,d4,H473⟩:=AL H471;obtain⟨ea,eb⟩:=Fi d4;have s:=Y3 aa ea eb;refine Ds s ?_;obtain⟨t,H477⟩ |⟨t,H477⟩:=As H473
 ·obtain⟨f7,ed,ab,H479⟩:=Hc H477;have ad:=Cr eS ab;simp only[Li,Lw,eS] at ad;have ag:=EQ ab;simp only[Lh,Lu,Nat.reduceAdd] at ag;obtain⟨f8,ee,H485⟩:=AL H479;obtain⟨ef,eg⟩:=Fi ee;obtain⟨gb,eh,H489⟩:=AL H485;have ak:=Y2 (Y6 s t (A8 .i64 ed) ad ag ef) eg;refine Z1 ak ?_;refine EB (Zl eh) ?_;obtain⟨ao,ek,H491⟩:=AL H489;obtain⟨el,em⟩:=Fi ek;have u:=Y3 ak el em;refine Ds u ?_;obtain⟨v,H495⟩ |⟨v,H495⟩:=As H491
  ·obtain⟨ge,en,H497⟩:=AL H495;obtain⟨ap,eo⟩:=Fi en;have eq:ao.size+3<=maxLen:=ap;obtain⟨gh,er,H502⟩:=AL H497;have aq:=Y5 u v ap eo eq;refine Z1 aq ?_;refine Cn (Zl er) ?_;obtain⟨es,et,H504⟩:=AL H502;obtain⟨ew,ex⟩:=Fi et;obtain⟨ey,ez,H508⟩:=AL H504;obtain⟨ar,eA⟩:=Fi ez;have eD:es.size+1<=maxLen:=ar;obtain⟨gi,eF,H513⟩:=AL H508;obtain⟨av,eH⟩:=Fi eF;have eK:ey.size+1<=maxLen:=av;refine Z1 (Y2 (Y6 aq ew ex ar eA eD) (Y3 av eH eK)) ?_;exact⟨_,H513,ZR [(0,0)]⟩
  obtain⟨gn,eN,H518⟩:=AL H495;obtain⟨aE,eP⟩:=Fi eN;have eR:ao.size+1<=maxLen:=aE;refine Z1 (Y5 u v aE eP eR) ?_;exact⟨_,H518,ZR [(0,0)]⟩
 obtain⟨go,eU,H523⟩:=AL H477;obtain⟨a0,eV⟩:=Fi eU;have e0:d3.size+1<=maxLen:=a0;refine Z1 (Y5 s t a0 eV e0) ?_;exact⟨_,H523,ZR [(0,0)]⟩
def UT (_:Nat)(n_:Int):Option ByteArray:=(CD ([{ data:= #[97] },{ data:= #[98] },{ data:= #[99] },{ data:= #[100] },{ data:= #[97,98] },{ data:= #[98,45,49] },{ data:= #[120,46,121] },{ data:= #[48] }]:List ByteArray) (i64.wrap (an n_ 7:Int))).bind fun x=>some x
theorem nJ {r:ByteArray}(H:UT n n_=some r):AI Tryz.prog 59 [D.v (.int .i64 n_)] (D.v (.string r)) true:=by
 unfold UT at H;refine zP #[.tmp 2] Tryz.func59 ?_;refine ZT 1 ?_;obtain⟨x,d,a,e⟩:=Hc H;have b:=Cr eS a;simp only[Li,Lw,eS] at b;have c:=EQ a;simp only[Lh,Lu,Nat.reduceAdd] at c;refine Z1 (Y3 (A8 .i64 d) b c) ?_;cases e;exact Ax
def UU (n:Nat)(n_:Int):Option AD:=(CD ([{ data:= #[97] },{ data:= #[98] }]:List ByteArray) (i64.wrap (an n_ 1:Int))).bind fun x=>(UT n (sh n_ 1)).bind fun a=>(CD ([{ data:= #[114] },{ data:= #[115] }]:List ByteArray) (i64.wrap (an (sh n_ 4) 1:Int))).bind fun b=>(CD ([{ data:= #[117] },{ data:= #[97] },{ data:= #[98] }]:List ByteArray) (Int.tmod (i64.wrap (an (sh n_ 5) 255:Int)) 3)).bind fun c=>(UT n (sh n_ 13)).bind fun d=>(if ((i64.wrap (an (sh n_ 16) 3:Int))==0) then (CD ([{ data:= #[114] },{ data:= #[115] }]:List ByteArray) (i64.wrap (an (sh n_ 18) 1:Int))).bind fun e=>some (⟨(⟨x,a⟩:Ak),b,(⟨c,d,e⟩:AN)⟩:AD) else some (⟨(⟨x,a⟩:Ak),b,(⟨c,d,ByteArray.empty⟩:AN)⟩:AD))
theorem nK {r:AD}(H:UU n n_=some r):AI Tryz.prog 30 [D.v (.int .i64 n_)] (D.ag (AE r)) true:=by
 unfold UU at H;refine zP #[.cell 2 35] Tryz.func30 ?_;refine ZT 1 ?_;obtain⟨x,s,c,t⟩:=Hc H;have d:=Cr eS c;simp only[Li,Lw,eS] at d;have e:=EQ c;simp only[Lh,Lu,Nat.reduceAdd] at e;obtain⟨B,u,v⟩:=AL t;have f:=Y3 (A8 .i64 s) d e;refine Z1 f ?_;refine EB (nJ u) ?_;obtain⟨C,w,g,H10⟩:=Hc v;have h:=Cr eS g;simp only[Li,Lw,eS] at h;have i:=EQ g;simp only[Lh,Lu,Nat.reduceAdd] at i;obtain⟨E,y,j,H16⟩:=Hc H10;have k:=Cr eS j;simp only[Li,Lw,eS] at k;have m:=EQ j;simp only[Lh,Lu,Nat.reduceAdd] at m;obtain⟨F,z,H22⟩:=AL H16;have a:=Y2 (Y6 f (A8 .i64 w) h i (A8 .i64 y) k) m;refine Z1 a ?_;refine EB (nJ z) ?_;refine Z1 a ?_;refine DF (by kernel_rfl) ?_;refine Z1 a ?_;obtain⟨b,H24⟩ |⟨b,H24⟩:=As H22
 ·obtain⟨G,A,o,H26⟩:=Hc H24;have p:=Cr eS o;simp only[Li,Lw,eS] at p;have q:=EQ o;simp only[Lh,Lu,Nat.reduceAdd] at q;refine Z1 (Y5 a b (A8 .i64 A) p q) ?_;cases H26;exact Ax
 refine Z1 (Y2 a b) ?_;cases H24;exact Ax
def Wk (n:Nat)(l:List Int):Nat->(List AD × Int)->Option (List AD)
 |0,_=>none
 |c+1,(a,i)=>((if decide (i<(l.length:Int)) then some (decide (i<80)) else some false):Option (Bool)).bind fun b=>(if b then (CD l i).bind fun d=>(UU n d).bind fun e=>(DG a [e]).bind fun f=>Wk n l c (f,(i64.wrap (i+1))) else some a)
def Wl (n:Nat)(l:List Int):Option (List AD):=(Wk n l n ([],0):Option (List AD)).bind fun a=>some a
theorem xd {l:List Int}{r:List AD}(H:Wl n l=some r):AI Tryz.prog 10 [D.sl (List.map eI l)] (D.sl (List.map AE r)) true:=by
 unfold Wl at H;refine zP #[.tmp 2] Tryz.func10 ?_;refine EE ?_;refine EZ ?_;refine F7 H (fun _ _ h j=>⟨upd 3 (Ac 0 j (List.map AE h)) AK,upd 0 (A6 6 j false (List.map AE h)) AM,1⟩) (fun C u p=> ?_) fun h j p=> ?_;rotate_left
 ·refine AP ?_;cases p;exact Ax
 refine Ej u (fun f _ (a,i) g=>⟨kp [0] f (upd 3 (Ac 0 g (List.map AE a)) (upd 4 (.v (.int .i64 i)) AK)),upd 0 (A6 6 g false (List.map AE a)) AM,1⟩) 0 (ZR []) fun c ⟨a,i⟩ g v=> ?_
 refine AT (AT ?_);refine F7 v (fun f _ q d=>⟨kp [0,4] f (upd 3 (Ac 0 d (List.map AE a)) (upd 12 (.v (.bool q)) AK)),upd 0 (A6 6 d false (List.map AE a)) AM,1⟩) (fun E E19 H20=> ?_) fun q d H20=> ?_
 ·refine AP ?_;obtain⟨k,H22⟩ |⟨k,H22⟩:=As E19
  ·refine Z1 k ?_;cases H22;exact⟨g,ZR [(0,0)]⟩
  refine Z1 k ?_;cases H22;exact⟨g,ZR [(0,0)]⟩
 refine ZT 2 ?_;refine Z0 ?_;obtain⟨m,H24⟩ |⟨m,H24⟩:=As H20
 ·obtain⟨F,G,I,w,H26⟩:=zI eI H24;obtain⟨b,x,H32⟩:=AL H26;have s:=Y2 m w;refine Z1 s ?_;refine Cn (nK x) ?_;obtain⟨e,y,H34⟩:=AL H32;obtain⟨o,t⟩:=Ee y;have o:a.length+1<=4294967296:=o;have z:List.map AE a++[[.v (.string b.obj.type_),.v (.string b.obj.id_),.v (.string b.rel),.v (.string b.sub_.type_),.v (.string b.sub_.id_),.v (.string b.sub_.rel)]]=List.map AE e:=ER AE t;have A:a.length+1=e.length:=ES t;have B:e.length<=4294967296:=by omega
  have J:0<e.length:=by omega
  refine Z1 (Y5 s o z A B) ?_;rcases a with _ |⟨K,L⟩
  ·try simp only[Lw,CW,CZ]
   exact⟨_,0,H34,ZR [(0,8)]⟩
  try simp only[Li,CW,CZ]
  exact⟨_,(d+1),H34,ZR [(0,0)]⟩
 refine Z1 m ?_;cases H24;exact⟨d,ZR [(0,0)]⟩
def Wm (n:Nat)(n_:Int):Option (Ak × ByteArray × AN):=(UU n n_).bind fun a=>(CD ([{ data:= #[114] },{ data:= #[115] },{ data:= #[112] },{ data:= #[113] },{ data:= #[112] },{ data:= #[113] },{ data:= #[122] },{ data:= #[112] }]:List ByteArray) (i64.wrap (an (sh n_ 24) 7:Int))).bind fun x=>some (a.obj,x,(⟨a.sub_.type_,a.sub_.id_,{ data:= #[] }⟩:AN))
theorem xe {r:Ak × ByteArray × AN}(H:Wm n n_=some r):AI Tryz.prog 11 [D.v (.int .i64 n_)] (D.tu [D.ag (C3 r.1),D.v (.string r.2.1),D.ag (AR r.2.2)]) true:=by
 unfold Wm at H;refine zP #[.cell 2 29,.tmp 3,.cell 4 31] Tryz.func11 ?_;refine ZT 1 ?_;obtain⟨i,d,e⟩:=AL H;refine Z0 ?_;refine Cn (nK d) ?_;obtain⟨x,f,a,g⟩:=Hc e;have b:=Cr eS a;simp only[Li,Lw,eS] at b;have c:=EQ a;simp only[Lh,Lu,Nat.reduceAdd] at c;have h:=Y3 (A8 .i64 f) b c;refine Ds h ?_;cases g;exact Ax
def PC (n:Nat)(l:List AG)(rel:ByteArray)(i:Int):Nat->Int->Option ((Unit) ⊕ (Int × Int))
 |0,_=>none
 |c+1,a=>(CD l i).bind fun b=>(if decide (a<(b.rels.length:Int)) then (CD b.rels a).bind fun d=>(if (d.name.toList==rel.toList) then some (.inr (i,a)) else PC n l rel i c (i64.wrap (a+1))) else some (.inl ()))
def MO (n:Nat)(l:List AG)(t:ByteArray)(rel:ByteArray):Nat->Int->Option ((Unit) ⊕ (Int × Int))
 |0,_=>none
 |c+1,i=>(if decide (i<(l.length:Int)) then (CD l i).bind fun a=>(if (a.name.toList==t.toList) then (PC n l rel i n 0:Option ((Unit) ⊕ (Int × Int))).bind fun | .inl _=>some (.inr (i,(-1))) | .inr r=>some (.inr r) else MO n l t rel c (i64.wrap (i+1))) else some (.inl ()))
def QO (n:Nat)(l:List AG)(t:ByteArray)(rel:ByteArray):Option (Int × Int):=(MO n l t rel n 0:Option ((Unit) ⊕ (Int × Int))).bind fun
  | .inl _=>some ((-1),(-1))
  | .inr r=>some r
theorem nL {t:ByteArray}{rel:ByteArray}{r:Int × Int}(H:QO n l t rel=some r):AI Tryz.prog 41 [D.sl (List.map AQ l),D.v (.string t),D.v (.string rel)] (D.tu [D.v (.int .i64 r.1),D.v (.int .i64 r.2)]) true:=by
 unfold QO at H;refine zP #[.tmp 6,.tmp 7] Tryz.func41 ?_;refine KF ?_;refine zi H (fun _ _ _=>⟨AK,AM,0⟩) (fun u o a=> ?_) fun _ a=> ?_;rotate_left
 ·refine AP ?_;cases a;exact Ax
 refine EG o (fun f _ i=>⟨kp [0,1,2] f (upd 8 (.v (.int .i64 i)) AK),AM,0⟩) (ZR []) fun c i p=> ?_
 refine Ay ?_;obtain⟨b,H51⟩ |⟨b,H51⟩:=As p;rotate_left
 ·refine Z1 b ?_;cases H51;exact⟨_,rfl,ZR []⟩
 refine PM b ?_;obtain⟨v,w,x,q,H53⟩:=zI AQ H51;have j:=Y2 b q;refine Z1 j ?_;obtain⟨d,H59⟩ |⟨d,H59⟩:=Cg j H53
 ·refine KG d ?_;refine zi H59 (fun f _ _=>⟨kp [8] f AK,AM,0⟩) (fun y E60 H61=> ?_) fun _ H61=> ?_
  ·refine EG E60 (fun f _ k=>⟨kp [0,2,8] f (upd 9 (.v (.int .i64 k)) AK),AM,0⟩) (ZR []) fun c k L62=> ?_
   refine ZT 1 ?_;obtain⟨z,A,B,e,H80⟩:=zI AQ L62;refine Z1 e ?_;obtain⟨g,H86⟩ |⟨g,H86⟩:=As H80
   ·obtain⟨C,E,F,s,H88⟩:=zI Ah H86;have m:=Y3 e g s;refine Z1 m ?_;obtain⟨h,H94⟩ |⟨h,H94⟩:=Cg m H88
    ·refine Z1 h ?_;cases H94;cases H61;cases a;exact Ax
    refine Z1 h ?_;exact⟨_,H94,ZR []⟩
   refine Z1 (Y2 e g) ?_;cases H86;exact⟨_,rfl,ZR []⟩
  refine ZT 3 ?_;refine Z0 ?_;cases H61;cases a;exact Ax
 refine K5 d ?_;exact⟨_,H59,ZR []⟩
def Hr (n:Nat)(l:List AG)(t:ByteArray)(rel:ByteArray):Option (AW × Bool):=(QO n l t rel).bind fun a=>(if decide (a.1<0) then some ((⟨ByteArray.empty,[],[]⟩:AW),false) else (if decide (a.2<0) then some ((⟨ByteArray.empty,[],[]⟩:AW),false) else (CD l a.1).bind fun x=>(CD x.rels a.2).bind fun b=>some (b,true)))
theorem QP {t:ByteArray}{rel:ByteArray}{r:AW × Bool}(H:Hr n l t rel=some r):AI Tryz.prog 18 [D.sl (List.map AQ l),D.v (.string t),D.v (.string rel)] (D.tu [D.ag (Ah r.1),D.v (.bool r.2)]) false:=by
 unfold Hr at H;refine zP #[.cell 6 52,.tmp 7] Tryz.func18 ?_;refine ZT 1 ?_;obtain⟨j,e,f⟩:=AL H;refine Z0 ?_;refine Cn (nL e) ?_;refine Z0 ?_;obtain⟨a,b⟩ |⟨a,b⟩:=As f
 ·refine Z1 a ?_;cases b;exact Ax
 refine Z1 a ?_;obtain⟨c,d⟩ |⟨c,d⟩:=As b
 ·refine Z1 (Y2 a c) ?_;cases d;exact Ax
 obtain⟨x,k,m,g,h⟩:=zI AQ d;obtain⟨o,p,q,i,H14⟩:=zI Ah h;refine Z1 (Y4 a c g i) ?_;cases H14;exact Ax
def Wn (_:Nat)(a:Int):Option Bool:=(if decide (97<=a) then (if decide (a<=122) then some true else (if decide (48<=a) then some (decide (a<=57)) else some false)) else (if decide (48<=a) then some (decide (a<=57)) else some false))
theorem ep {i:Int}(H:Wn n i=some r):AI Tryz.prog 87 [D.v (.int .u8 i)] (D.v (.bool r)) true:=by
 unfold Wn at H;refine zP #[.tmp 2] Tryz.func87 ?_;refine AP ?_;obtain⟨a,b⟩ |⟨a,b⟩:=As H
 ·refine Z1 a ?_;obtain⟨c,d⟩ |⟨c,d⟩:=As b
  ·refine Z1 (Y2 a c) ?_;cases d;exact Ax
  have j:=Y2 a c;refine Z1 j ?_;obtain⟨e,f⟩ |⟨e,f⟩:=Cg j d
  ·refine Z1 e ?_;cases f;exact Ax
  refine Z1 e ?_;cases f;exact Ax
 refine Z1 a ?_;obtain⟨g,h⟩ |⟨g,h⟩:=As b
 ·refine Z1 (Y2 a g) ?_;cases h;exact Ax
 refine Z1 (Y2 a g) ?_;cases h;exact Ax
def Wo (n:Nat)(s:ByteArray):Nat->Int->Option ((Unit) ⊕ Bool)
 |0,_=>none
 |c+1,i=>(if decide (i<(s.size:Int)) then (D6 s i).bind fun a=>(Wn n a).bind fun b=>(if b then Wo n s c (i64.wrap (i+1)) else (if (a != 95) then (if (a != 45) then (if (a != 46) then some (.inr false) else Wo n s c (i64.wrap (i+1))) else Wo n s c (i64.wrap (i+1))) else Wo n s c (i64.wrap (i+1)))) else some (.inl ()))
def SD (n:Nat)(s:ByteArray):Option Bool:=((if decide ((s.size:Int)<1) then some true else (if decide (30<(s.size:Int)) then some true else (D6 s 0).bind fun a=>(Wn n a).bind fun b=>some (!b))):Option (Bool)).bind fun c=>(if c then some false else (Wo n s n 0:Option ((Unit) ⊕ Bool)).bind fun
   | .inl _=>some true
   | .inr r=>some r)
theorem Zm {s:ByteArray}(H:SD n s=some r):AI Tryz.prog 60 [D.v (.string s)] (D.v (.bool r)) true:=by
 unfold SD at H;refine zP #[.tmp 2] Tryz.func60 ?_;refine Ay ?_;refine AT (AT ?_);refine zj H (fun f _ q=>⟨kp [0] f (upd 17 (.v (.bool q)) AK),AM,0⟩) (fun J x t=> ?_) fun q t=> ?_
 ·refine AP ?_;obtain⟨a,g⟩ |⟨a,g⟩:=As x
  ·refine Z1 a ?_;cases g;exact ZR []
  refine Z1 a ?_;obtain⟨h,j⟩ |⟨h,j⟩:=As g
  ·refine Z1 (Y2 a h) ?_;cases j;exact ZR []
  have⟨K,y,z⟩:=AL j;have⟨A,L,u,B⟩:=IV y;try simp only[Int.reduceToNat] at u
  have⟨M,C,H13⟩:=AL z;have v:=Y5 a h (A8 .i64 A) u B.symm;refine Z1 v ?_;refine Cn (ep C) ?_;refine Z1 v ?_;cases H13;exact ZR []
 refine AP ?_;obtain⟨k,H15⟩ |⟨k,H15⟩:=As t
 ·refine Z1 k ?_;cases H15;exact Ax
 refine KG k ?_;refine zi H15 (fun _ _ _=>⟨AK,AM,0⟩) (fun N E16 H17=> ?_) fun _ H17=> ?_;rotate_left
 ·refine AP ?_;cases H17;exact Ax
 refine EG E16 (fun f _ i=>⟨kp [0] f (upd 3 (.v (.int .i64 i)) AK),AM,0⟩) (ZR []) fun c i L18=> ?_
 refine AP ?_;obtain⟨m,H37⟩ |⟨m,H37⟩:=As L18;rotate_left
 ·refine Z1 m ?_;cases H37;exact⟨_,rfl,ZR []⟩
 have⟨P,E,H39⟩:=AL H37;have⟨F,Q,w,G⟩:=IV E;try simp only[Int.reduceToNat,Lk] at w
 have⟨R,I,H44⟩:=AL H39;have o:=Y4 m (A8 .i64 F) w G.symm;refine Z1 o ?_;refine Cn (ep I) ?_;refine Z1 o ?_;obtain⟨b,H46⟩ |⟨b,H46⟩:=Cg o H44
 ·refine Z1 b ?_;exact⟨_,H46,ZR []⟩
 refine Z1 b ?_;obtain⟨d,H48⟩ |⟨d,H48⟩:=Cg b H46
 ·refine Z1 d ?_;obtain⟨e,H50⟩ |⟨e,H50⟩:=Cg d H48
  ·refine Z1 e ?_;obtain⟨p,H52⟩ |⟨p,H52⟩:=Cg e H50
   ·refine Z1 p ?_;cases H52;cases H17;exact Ax
   refine Z1 p ?_;exact⟨_,H52,ZR []⟩
  refine Z1 e ?_;exact⟨_,H50,ZR []⟩
 refine Z1 d ?_;exact⟨_,H48,ZR []⟩
def QQ (n:Nat)(s:ByteArray):Nat->Int->Option ((Unit) ⊕ Bool)
 |0,_=>none
 |c+1,i=>(if decide (i<(s.size:Int)) then (D6 s i).bind fun a=>(Wn n a).bind fun b=>(if b then QQ n s c (i64.wrap (i+1)) else (if (a != 95) then (if (a != 45) then (if (a != 46) then (if (a != 47) then (if (a != 124) then (if (a != 42) then some (.inr false) else QQ n s c (i64.wrap (i+1))) else QQ n s c (i64.wrap (i+1))) else QQ n s c (i64.wrap (i+1))) else QQ n s c (i64.wrap (i+1))) else QQ n s c (i64.wrap (i+1))) else QQ n s c (i64.wrap (i+1)))) else some (.inl ()))
def Wp (n:Nat)(s:ByteArray):Option Bool:=(QQ n s n 0:Option ((Unit) ⊕ Bool)).bind fun
  | .inl _=>(if decide (1<=(s.size:Int)) then some (decide ((s.size:Int)<=250)) else some false)
  | .inr r=>some r
theorem nM {s:ByteArray}(H:Wp n s=some r):AI Tryz.prog 61 [D.v (.string s)] (D.v (.bool r)) true:=by
 unfold Wp at H;refine zP #[.tmp 2] Tryz.func61 ?_;refine KF ?_;refine zi H (fun f _ _=>⟨kp [0] f AK,AM,0⟩) (fun z t j=> ?_) fun _ j=> ?_;rotate_left
 ·refine AP ?_;obtain⟨k,H51⟩ |⟨k,H51⟩:=As j
  ·refine Z1 k ?_;cases H51;exact Ax
  refine Z1 k ?_;cases H51;exact Ax
 refine EG t (fun f _ i=>⟨kp [0] f (upd 3 (.v (.int .i64 i)) AK),AM,0⟩) (ZR []) fun c i u=> ?_
 refine AP ?_;obtain⟨m,H28⟩ |⟨m,H28⟩:=As u;rotate_left
 ·refine Z1 m ?_;cases H28;exact⟨_,rfl,ZR []⟩
 have⟨A,v,H30⟩:=AL H28;have⟨w,B,q,x⟩:=IV v;try simp only[Int.reduceToNat,Lk] at q
 have⟨C,y,H35⟩:=AL H30;have o:=Y4 m (A8 .i64 w) q x.symm;refine Z1 o ?_;refine Cn (ep y) ?_;refine Z1 o ?_;obtain⟨a,H37⟩ |⟨a,H37⟩:=Cg o H35
 ·refine Z1 a ?_;exact⟨_,H37,ZR []⟩
 refine Z1 a ?_;obtain⟨b,H39⟩ |⟨b,H39⟩:=Cg a H37;rotate_left
 ·refine Z1 b ?_;exact⟨_,H39,ZR []⟩
 refine Z1 b ?_;obtain⟨d,H41⟩ |⟨d,H41⟩:=Cg b H39;rotate_left
 ·refine Z1 d ?_;exact⟨_,H41,ZR []⟩
 refine Z1 d ?_;obtain⟨e,H43⟩ |⟨e,H43⟩:=Cg d H41
 ·refine Z1 e ?_;obtain⟨g,H45⟩ |⟨g,H45⟩:=Cg e H43
  ·refine Z1 g ?_;obtain⟨h,H47⟩ |⟨h,H47⟩:=Cg g H45
   ·refine Z1 h ?_;obtain⟨p,H49⟩ |⟨p,H49⟩:=Cg h H47
    ·refine Z1 p ?_;cases H49;cases j;exact Ax
    refine Z1 p ?_;exact⟨_,H49,ZR []⟩
   refine Z1 h ?_;exact⟨_,H47,ZR []⟩
  refine Z1 g ?_;exact⟨_,H45,ZR []⟩
 refine Z1 e ?_;exact⟨_,H43,ZR []⟩
def SE (n:Nat)(t:AD):Option Bool:=(SD n t.obj.type_).bind fun a=>(if a then (Wp n t.obj.id_).bind fun b=>(if b then (SD n t.rel).bind fun c=>(if c then (SD n t.sub_.type_).bind fun d=>(if d then (Wp n t.sub_.id_).bind fun e=>(if e then (if (t.sub_.rel.toList==({ data:= #[] }:ByteArray).toList) then some true else (SD n t.sub_.rel).bind fun f=>some f) else some false) else some false) else some false) else some false) else some false)
theorem xg {t:AD}(H:SE n t=some r):AI Tryz.prog 31 [D.ag (AE t)] (D.v (.bool r)) true:=by
 unfold SE at H;refine zP #[.tmp 2] Tryz.func31 ?_;refine ZT 1 ?_;have⟨v,j,k⟩:=AL H;refine Z0 ?_;refine Cn (Zm j) ?_;refine Z0 ?_;obtain⟨a,f⟩ |⟨a,f⟩:=As k;rotate_left
 ·refine Z1 a ?_;cases f;exact Ax
 have⟨w,m,o⟩:=AL f;refine Z1 a ?_;refine Cn (nM m) ?_;refine Z1 a ?_;obtain⟨g,h⟩ |⟨g,h⟩:=As o;rotate_left
 ·refine Z1 (Y2 a g) ?_;cases h;exact Ax
 have⟨x,p,H10⟩:=AL h;have i:=Y2 a g;refine Z1 i ?_;refine Cn (Zm p) ?_;refine Z1 i ?_;obtain⟨b,H12⟩ |⟨b,H12⟩:=Cg i H10
 ·have⟨y,q,H14⟩:=AL H12;refine Z1 b ?_;refine Cn (Zm q) ?_;refine Z1 b ?_;obtain⟨c,H16⟩ |⟨c,H16⟩:=Cg b H14
  ·have⟨z,s,H18⟩:=AL H16;refine Z1 c ?_;refine Cn (nM s) ?_;refine Z1 c ?_;obtain⟨d,H20⟩ |⟨d,H20⟩:=Cg c H18
   ·refine Z1 d ?_;obtain⟨e,H22⟩ |⟨e,H22⟩:=Cg d H20
    ·refine Z1 e ?_;cases H22;exact Ax
    have⟨A,u,H24⟩:=AL H22;refine Z1 e ?_;refine Cn (Zm u) ?_;refine Z1 e ?_;cases H24;exact Ax
   refine Z1 d ?_;cases H20;exact Ax
  refine Z1 c ?_;cases H16;exact Ax
 refine Z1 b ?_;cases H12;exact Ax
def SF (n:Nat)(t:AD)(a:AW × Bool):Nat->Int->Option ((Unit) ⊕ Bool)
 |0,_=>none
 |c+1,i=>(if decide (i<(a.1.subs.length:Int)) then (CD a.1.subs i).bind fun b=>(if (b.type_.toList==t.sub_.type_.toList) then (if (b.rel.toList==t.sub_.rel.toList) then some (.inr true) else SF n t a c (i64.wrap (i+1))) else SF n t a c (i64.wrap (i+1))) else some (.inl ()))
def Kt (n:Nat)(l:List AG)(t:AD):Option Bool:=(Hr n l t.obj.type_ t.rel).bind fun a=>((if a.2 then (SE n t).bind fun b=>some (!b) else some true):Option (Bool)).bind fun c=>(if c then some false else (SF n t a n 0:Option ((Unit) ⊕ Bool)).bind fun
   | .inl _=>some false
   | .inr r=>some r)
theorem nN {t:AD}(H:Kt n l t=some r):AI Tryz.prog 12 [D.sl (List.map AQ l),D.ag (AE t)] (D.v (.bool r)) true:=by
 unfold Kt at H;refine zP #[.tmp 4] Tryz.func12 ?_;refine Ay ?_;refine AT (ZT 1 ?_);obtain⟨d,q,s⟩:=AL H;refine Z0 ?_;refine Cn (QP q) ?_;refine Z0 ?_;refine AT (AT ?_);refine zj s (fun f h m=>⟨kp [3] f (upd 5 (.pt 1 0) (upd 24 (.v (.bool m)) AK)),kh [0] h (upd 1 (some (.bx [.v (.string d.1.name),.d (.sl (List.map AR d.1.subs)) true,.d (.sl (List.map AX d.1.expr)) true])) AM),2⟩) (fun y u o=> ?_) fun m o=> ?_
 ·refine AP ?_;obtain⟨a,e⟩ |⟨a,e⟩:=As u
  ·obtain⟨z,v,w⟩:=AL e;refine Z1 a ?_;refine Cn (xg v) ?_;refine Z1 a ?_;cases w;exact ZR [(0,0),(1,12)]
  refine Z1 a ?_;cases e;exact ZR [(0,0),(1,12)]
 refine AP ?_;obtain⟨g,H10⟩ |⟨g,H10⟩:=As o
 ·refine Z1 g ?_;cases H10;exact Ax
 refine KG g ?_;refine zi H10 (fun _ _ _=>⟨AK,AM,0⟩) (fun A E11 H12=> ?_) fun _ H12=> ?_
 ·refine EG E11 (fun f h i=>⟨kp [3,5] f (upd 7 (.v (.int .i64 i)) AK),kh [0,1] h AM,2⟩) (ZR [(0,0),(1,1)]) fun c i L13=> ?_
  refine AP ?_;obtain⟨j,H27⟩ |⟨j,H27⟩:=As L13
  ·obtain⟨B,C,E,x,H29⟩:=zI AR H27;have p:=Y2 j x;refine Z1 p ?_;obtain⟨b,H35⟩ |⟨b,H35⟩:=Cg p H29
   ·refine Ds b ?_;obtain⟨k,H37⟩ |⟨k,H37⟩:=Cg b H35
    ·refine Z1 k ?_;cases H37;cases H12;exact Ax
    refine Z1 k ?_;exact⟨_,H37,ZR [(0,0),(1,1)]⟩
   refine Ds b ?_;exact⟨_,H35,ZR [(0,0),(1,1)]⟩
  refine Z1 j ?_;cases H27;exact⟨_,rfl,ZR []⟩
 refine AP ?_;cases H12;exact Ax
end Go.Proofs.YtnmkbmefohakmaaGreat.Ab
namespace Go.Proofs.YtnmkbmefohakmaaGreat.Ab
open Go.Shelf Go.RowKit
def WY:Go.Shelf.Ren:=⟨fun |213=>138 |265=>155 |n=>n,fun |9=>9 |3=>3 |n=>n,fun |n=>n⟩
theorem mB:Lays.n213 Tryz.prog WY:={
 mixed:=by kernel_rfl
 f213:=Tryz.func138.trans (congrArg some (by kernel_rfl))
 f265:=Tryz.func155.trans (congrArg some (by kernel_rfl))
 t3:=Tryz.underlying3
 a3:=Tryz.isAgg3
 z3:=Tryz.sizeOf3
 v3:=Tryz.zeroValue3
 t9:=Tryz.underlying9
 a9:=Tryz.isAgg9
 z9:=Tryz.sizeOf9
 v9:=Tryz.zeroValue9 }
end Go.Proofs.YtnmkbmefohakmaaGreat.Ab
namespace Go.Proofs.YtnmkbmefohakmaaGreat
open Go.RowKit
structure Lin (α:Type) where
 lt:α->α->Bool
 irrefl:∀x,lt x x=false
 trans:∀ {x y z},lt x y=true->lt y z=true->lt x z=true
 total:∀ {x y},lt x y=false->lt y x=false->x=y
namespace Lin
variable {α:Type}(O:Lin α)
theorem asymm {x y:α}(h:O.lt x y=true):O.lt y x=false:=by
 cases a:O.lt y x with
 |false=>rfl
 |true=>
  have:=O.trans h a;rw[O.irrefl] at this;cases this
theorem ne {x y:α}(h:O.lt x y=true):x≠y:=by
 rintro rfl;rw[O.irrefl] at h;cases h
theorem swo:Go.Sort.SWO O.lt where
 irrefl:=O.irrefl
 trans _ _ _:=O.trans
 ntrans x y z h1 h2:=by
  cases h:O.lt x z with
  |false=>rfl
  |true=>
   cases a:O.lt y x with
   |true=>
    have:=O.trans a h;rw[h2] at this;cases this
   |false=>
    have:=O.total h1 a;subst this;rw[h2] at h;cases h
def Rises (l:List α):Prop:=l.Pairwise fun x y=>O.lt x y=true
theorem ext:∀ {a b:List α},O.Rises a->O.Rises b->(∀x,x∈a↔x∈b)->a=b
 |[],[],_,_,_=>rfl
 |[],y::_,_,_,h=>by
  have:=(h y).2 (List.mem_cons_self ..);cases this
 |x::_,[],_,_,h=>by
  have:=(h x).1 (List.mem_cons_self ..);cases this
 |x::a,y::b,j,k,h=>by
  have⟨f,m⟩:=List.pairwise_cons.1 j;have⟨g,o⟩:=List.pairwise_cons.1 k;have p:x=y:=by
   rcases List.mem_cons.1 ((h x).1 (List.mem_cons_self ..)) with e |e
   ·exact e
   rcases List.mem_cons.1 ((h y).2 (List.mem_cons_self ..)) with d |d
   ·exact d.symm
   have q:=g x e;have i:=f y d;rw[O.asymm q] at i;cases i
  subst p;congr 1;refine ext m o fun z=>⟨fun c=> ?_,fun c=> ?_⟩
  ·rcases List.mem_cons.1 ((h z).1 (List.mem_cons_of_mem _ c)) with e |e
   ·subst e;exact absurd rfl (O.ne (f z c))
   exact e
  rcases List.mem_cons.1 ((h z).2 (List.mem_cons_of_mem _ c)) with e |e
  ·subst e;exact absurd rfl (O.ne (g z c))
  exact e
def ins (x:α):List α->List α
 |[]=>[x]
 |y::l=>if O.lt x y then x::y::l else if O.lt y x then y::ins x l else y::l
theorem mem_ins {x z:α}:∀ {l:List α},z∈O.ins x l↔z=x\/z∈l
 |[]=>by simp[ins]
 |y::l=>by
  have c:=mem_ins (x:=x) (z:=z) (l:=l);simp only[ins];by_cases a:O.lt x y=true
  ·simp[a]
  by_cases b:O.lt y x=true
  ·simp only[a,b,if_true,Bool.false_eq_true,if_false,List.mem_cons,c];constructor
   ·rintro(h |h |h)<;>simp[h]
   rintro(h |h |h)<;>simp[h]
  have:=O.total (by simpa using a) (by simpa using b);subst this;simp[a]
theorem rises_ins {x:α}:∀ {l:List α},O.Rises l->O.Rises (O.ins x l)
 |[],_=>by simp[ins,Rises]
 |y::l,h=>by
  have⟨d,f⟩:=List.pairwise_cons.1 h;simp only[ins];by_cases a:O.lt x y=true
  ·rw[if_pos a];refine List.pairwise_cons.2 ⟨fun z b=> ?_,h⟩;rcases List.mem_cons.1 b with e |e
   ·subst e;exact a
   exact O.trans a (d z e)
  rw[if_neg a];by_cases c:O.lt y x=true
  ·rw[if_pos c];refine List.pairwise_cons.2 ⟨fun z b=> ?_,rises_ins f⟩;rcases O.mem_ins.1 b with e |e
   ·subst e;exact c
   exact d z e
  rw[if_neg c];exact h
def ofL (l:List α):List α:=l.foldr O.ins []
theorem rises_ofL:∀l,O.Rises (O.ofL l)
 |[]=>List.Pairwise.nil
 |_::l=>O.rises_ins (rises_ofL l)
theorem mem_ofL {z:α}:∀ {l:List α},z∈O.ofL l↔z∈l
 |[]=>by simp[ofL]
 |x::l=>by
  have a:=mem_ofL (z:=z) (l:=l);show z∈O.ins x (O.ofL l)↔_;rw[O.mem_ins,a,List.mem_cons]
def sub [DecidableEq α](a b:List α):List α:=a.filter fun x=>decide (x∉b)
def mg:List α->List α->List α
 |[],b=>b
 |x::a,[]=>x::a
 |x::a,y::b=>if O.lt x y=true then x::mg a (y::b) else if O.lt y x=true then y::mg (x::a) b else mg a (y::b)
termination_by a b=>a.length+b.length
theorem mg_nil (a:List α):O.mg a []=a:=by
 cases a<;>rw[mg]
theorem nil_mg (b:List α):O.mg [] b=b:=by rw[mg]
theorem mem_mg (z:α):∀(n:Nat) (a b:List α),a.length+b.length<=n->(z∈O.mg a b↔z∈a\/z∈b)
 |_,[],b,_=>by simp[O.nil_mg]
 |_,x::a,[],_=>by simp[O.mg_nil]
 |0,x::a,y::b,h=>by simp at h
 |n+1,x::a,y::b,h=>by
  simp only[List.length_cons] at h;have f:=mem_mg z n a (y::b) (by simp only[List.length_cons];omega);have g:=mem_mg z n (x::a) b (by simp only[List.length_cons];omega);rw[mg];by_cases c:O.lt x y=true
  ·rw[if_pos c,List.mem_cons,f,List.mem_cons (a:=z) (b:=x),or_assoc]
  rw[if_neg c];by_cases d:O.lt y x=true
  ·rw[if_pos d,List.mem_cons,g,List.mem_cons (a:=z) (b:=y)];constructor
   ·rintro(e |e |e)
    ·exact .inr (.inl e)
    ·exact .inl e
    exact .inr (.inr e)
   rintro(e |e |e)
   ·exact .inr (.inl e)
   ·exact .inl e
   exact .inr (.inr e)
  have e:x=y:=O.total (by simpa using c) (by simpa using d);rw[if_neg d,f,List.mem_cons (a:=z) (b:=x),e];constructor
  ·rintro(e |e)
   ·exact .inl (.inr e)
   exact .inr e
  rintro((e |e) |e)
  ·exact .inr (by rw[e];exact List.mem_cons_self ..)
  ·exact .inl e
  exact .inr e
theorem rises_mg:∀(n:Nat) (a b:List α),a.length+b.length<=n->O.Rises a->O.Rises b->O.Rises (O.mg a b)
 |_,[],b,_,_,c=>by rw[O.nil_mg];exact c
 |_,x::a,[],_,d,_=>by rw[O.mg_nil];exact d
 |0,x::a,y::b,h,_,_=>by simp at h
 |n+1,x::a,y::b,h,d,c=>by
  simp only[List.length_cons] at h;have⟨j,k⟩:=List.pairwise_cons.1 d;have⟨m,o⟩:=List.pairwise_cons.1 c;rw[mg];by_cases f:O.lt x y=true
  ·rw[if_pos f];refine List.pairwise_cons.2 ⟨fun z i=> ?_,rises_mg n a (y::b) (by simp only[List.length_cons];omega) k c⟩;rcases(O.mem_mg z _ a (y::b) (Nat.le_refl _)).1 i with e |e
   ·exact j z e
   rcases List.mem_cons.1 e with e |e
   ·rw[e];exact f
   exact O.trans f (m z e)
  rw[if_neg f];by_cases g:O.lt y x=true
  ·rw[if_pos g];refine List.pairwise_cons.2 ⟨fun z i=> ?_,rises_mg n (x::a) b (by simp only[List.length_cons];omega) d o⟩;rcases(O.mem_mg z _ (x::a) b (Nat.le_refl _)).1 i with e |e
   ·rcases List.mem_cons.1 e with e |e
    ·rw[e];exact g
    exact O.trans g (j z e)
   exact m z e
  rw[if_neg g];exact rises_mg n a (y::b) (by simp only[List.length_cons];omega) k c
theorem mg_ofL (a b:List α):O.mg (O.ofL a) (O.ofL b)=O.ofL (a++b):=O.ext (O.rises_mg _ _ _ (Nat.le_refl _) (O.rises_ofL a) (O.rises_ofL b)) (O.rises_ofL _) fun z=>by
 rw[O.mem_mg z _ _ _ (Nat.le_refl _),O.mem_ofL,O.mem_ofL,O.mem_ofL,List.mem_append]
theorem step_left {a b:List α}{i k:Nat}{x:α}(c:a[i]? =some x)(h:b.length<=k\/∃y,b[k]? =some y/\O.lt x y=true):O.mg (a.drop i) (b.drop k)=x::O.mg (a.drop (i+1)) (b.drop k):=by
 have⟨d,e⟩:=List.getElem?_eq_some_iff.1 c;rw[List.drop_eq_getElem_cons d,e];rcases h with h |⟨y,f,g⟩
 ·rw[List.drop_of_length_le h,O.mg_nil,O.mg_nil]
 have⟨j,m⟩:=List.getElem?_eq_some_iff.1 f;rw[List.drop_eq_getElem_cons j,m,mg,if_pos g]
theorem step_right {a b:List α}{i k:Nat}{y:α}(c:b[k]? =some y)(h:a.length<=i\/∃x,a[i]? =some x/\O.lt x y=false/\O.lt y x=true):O.mg (a.drop i) (b.drop k)=y::O.mg (a.drop i) (b.drop (k+1)):=by
 have⟨d,e⟩:=List.getElem?_eq_some_iff.1 c;rw[List.drop_eq_getElem_cons d,e];rcases h with h |⟨x,f,g,j⟩
 ·rw[List.drop_of_length_le h,O.nil_mg,O.nil_mg]
 have⟨m,o⟩:=List.getElem?_eq_some_iff.1 f;rw[List.drop_eq_getElem_cons m,o,mg,if_neg (by rw[g];simp),if_pos j]
theorem step_both {a b:List α}{i k:Nat}{x y:α}(c:a[i]? =some x)(d:b[k]? =some y)(e:O.lt x y=false)(f:O.lt y x=false):O.mg (a.drop i) (b.drop k)=O.mg (a.drop (i+1)) (b.drop k):=by
 have⟨g,h⟩:=List.getElem?_eq_some_iff.1 c;have⟨j,m⟩:=List.getElem?_eq_some_iff.1 d;rw[List.drop_eq_getElem_cons g,h,List.drop_eq_getElem_cons j,m,mg,if_neg (by rw[e];simp),if_neg (by rw[f];simp)]
end Lin
end Go.Proofs.YtnmkbmefohakmaaGreat
namespace Go.Proofs.YtnmkbmefohakmaaGreat
open Go.RowKit
namespace Lin
variable {α:Type}(O:Lin α)
theorem ej [Inhabited α][DecidableEq α](d:Array α)(x:α):∀m,x∈Lib.compactUpTo d m↔∃j,j<m/\d[j]! =x
 |0=>by simp[Lib.compactUpTo]
 |m+1=>by
  have f:=ej d x m;rw[Lib.compactUpTo_succ,List.mem_append,f];by_cases b:Lib.keeps d m=true
  ·rw[if_pos b,List.mem_singleton];constructor
   ·rintro(⟨j,c,a⟩ |h)
    ·exact⟨j,by omega,a⟩
    exact⟨m,by omega,h.symm⟩
   rintro⟨j,c,a⟩;rcases Nat.lt_or_ge j m with h |h
   ·exact .inl ⟨j,h,a⟩
   have:j=m:=(by omega);subst this;exact .inr a.symm
  rw[if_neg b];simp only[List.not_mem_nil,or_false];have i:m≠0:=by
   rintro rfl;exact b (by simp[Lib.keeps])
  have g:d[m]! =d[m-1]! :=by
   by_cases e:d[m]! =d[m-1]!
   ·exact e
   exact absurd (Lib.keeps_pos e) b
  constructor
  ·rintro⟨j,c,a⟩;exact⟨j,by omega,a⟩
  rintro⟨j,c,a⟩;rcases Nat.lt_or_ge j m with h |h
  ·exact⟨j,h,a⟩
  have:j=m:=by omega
  subst this;exact⟨j-1,by omega,by rw[<-g,a]⟩
theorem compact_rises [Inhabited α][DecidableEq α](d:Array α)(a:∀i j,i<j->j<d.size->O.lt d[j]! d[i]! =false):∀m,m<=d.size->O.Rises (Lib.compactUpTo d m)
 |0,_=>by simp[Lib.compactUpTo,Rises]
 |m+1,u=>by
  have c:=compact_rises d a m (by omega);rw[Lib.compactUpTo_succ];by_cases b:Lib.keeps d m=true
  ·rw[if_pos b];refine List.pairwise_append.2 ⟨c,List.pairwise_singleton ..,fun x k y o=> ?_⟩;rw[List.mem_singleton.1 o];obtain⟨j,p,rfl⟩:=(ej d x m).1 k;cases q:O.lt d[j]! d[m]! with
   |true=>rfl
   |false=>
    exfalso;have e:=O.total q (a j m p (by omega));have f:d[m]! ≠d[m-1]! :=fun s=>(by rw[Lib.keeps_neg (by omega) s] at b;cases b);rcases Nat.lt_or_ge j (m-1) with h |h
    ·have g:=a j (m-1) h (by omega);have t:=a (m-1) m (by omega) (by omega);rw[e] at g;exact f (O.total t g)
    have:j=m-1:=(by omega);subst this;exact f e.symm
  rw[if_neg b,List.append_nil];exact c
theorem compact_sorted [Inhabited α][DecidableEq α]{l s:List α}(e:∀x,x∈s↔x∈l)(f:s.Pairwise fun a b=>O.lt b a=false):Lib.compact s=O.ofL l:=by
 have g:∀i j,i<j->j<s.toArray.size->O.lt s.toArray[j]! s.toArray[i]! =false:=fun i j h k=>by
  have d:j<s.length:=by simpa using k
  have:=List.pairwise_iff_getElem.1 f i j (by omega) d h;simpa [d,show i<s.length by omega] using this
 refine O.ext (O.compact_rises _ g _ (by simp)) (O.rises_ofL l) fun x=> ?_;rw[O.mem_ofL,<-e];refine(ej _ x _).trans ⟨?_,fun m=> ?_⟩
 ·rintro⟨j,c,rfl⟩
  have:s.toArray[j]! =s[j]:=by simp[c]
  rw[this];exact List.getElem_mem c
 obtain⟨j,c,rfl⟩:=List.getElem_of_mem m;exact⟨j,c,by simp[c]⟩
end Lin
theorem Zk {a b:ByteArray}(h:a.data.toList=b.data.toList):a=b:=by
 cases a;cases b;congr;exact Array.toList_inj.1 h
theorem DZ (a b:ByteArray):(a.toList==b.toList)=decide (a=b):=by
 rw[Lib.toList_data,Lib.toList_data,Bool.eq_iff_iff];simp only[beq_iff_eq,decide_eq_true_eq];exact⟨Zk,fun h=>by rw[h]⟩
theorem nF:∀a:List UInt8,Op.bytesLess a a=false
 |[]=>rfl
 |a::x=>by simp[Op.bytesLess,nF x]
theorem nG:∀ {a b c:List UInt8},Op.bytesLess a b=true->Op.bytesLess b c=true->Op.bytesLess a c=true
 |_,[],[],_,h=>by simp[Op.bytesLess] at h
 |[],[],_::_,h,_=>by simp[Op.bytesLess] at h
 |_::_,[],_::_,h,_=>by simp[Op.bytesLess] at h
 |_,_::_,[],_,h=>by simp[Op.bytesLess] at h
 |[],_::_,_::_,_,_=>by simp[Op.bytesLess]
 |a::x,b::y,c::z,d,e=>by
  have f:=nG (a:=x) (b:=y) (c:=z);simp only[Op.bytesLess,Bool.or_eq_true,Bool.and_eq_true,decide_eq_true_eq,beq_iff_eq] at *;rcases d with d |⟨d,g⟩<;>rcases e with e |⟨e,i⟩
  ·left;rw[UInt8.lt_iff_toNat_lt] at *;omega
  ·subst e;exact .inl d
  ·subst d;exact .inl e
  subst d;subst e;exact .inr ⟨rfl,f g i⟩
theorem nH:∀ {a b:List UInt8},Op.bytesLess a b=false->Op.bytesLess b a=false->a=b
 |[],[],_,_=>rfl
 |[],_::_,h,_=>by simp[Op.bytesLess] at h
 |_::_,[],_,h=>by simp[Op.bytesLess] at h
 |a::x,b::y,c,d=>by
  have f:=nH (a:=x) (b:=y);simp only[Op.bytesLess,Bool.or_eq_false_iff,Bool.and_eq_false_imp,decide_eq_false_iff_not,beq_iff_eq] at *;have e:a=b:=by
   have g:=c.1;have i:=d.1;rw[UInt8.lt_iff_toNat_lt] at g i;exact UInt8.toNat_inj.1 (by omega)
  subst e;rw[f (c.2 rfl) (d.2 rfl)]
def tx:Lin ByteArray where
 lt a b:=Op.bytesLess a.toList b.toList
 irrefl _:=nF _
 trans:=nG
 total h1 h2:=by
  have:=nH h1 h2
  rw[Lib.toList_data,Lib.toList_data] at this;exact Zk this
namespace Ab
open Go.Sort
end Ab
end Go.Proofs.YtnmkbmefohakmaaGreat
