/-
 Functions, read off the code.
-/
import Derived.Test.YtnmkbmefohakmaaGreatTea
set_option linter.all false
namespace Go.Proofs.YtnmkbmefohakmaaGreat.Ab
open Go.RowKit IntKind
def Ps (n:Nat)(b:List AC)(a:AD × Int):Nat->(List AC × Int)->Option (List AC)
 |0,_=>none
 |c+1,(e,d)=>(if decide (d<(b.length:Int)) then (idx b d).bind fun f=>(Rx n (⟨a.1.types,a.1.rels,a.1.ranks⟩:AD) f).bind fun g=>(if g then (Cu e [f]).bind fun h=>Ps n b a c (h,(i64.wrap (d+1))) else Ps n b a c (e,(i64.wrap (d+1)))) else some e)
def fQ (n:Nat)(_:List AC)(a:AD × Int)(b:List AC)(x2:AC)(k:List AC->Option (List AC)):Option (List AC):=
 match b with
 |fit=>
  (Rx n (⟨a.1.types,a.1.rels,a.1.ranks⟩:AD) x2).bind fun c=>
  (if c then
   (Cu fit [x2]).bind fun d=>
   k d
  else
   k fit)
def fR (_:Nat)(_:List AC)(_:AD × Int)(a:List AC):Option (List AC):=
 match a with
 |fit=>some fit
theorem zN (n:Nat)(a:List AC)(d:AD × Int)(f:a.length<4611686018427387904)(c:Nat)(e:List AC)(b:Nat)(g:b<=a.length)(h:a.length-b<c):Ps n a d c (match e,(b:Int) with |fit,b=>(fit,b))=DP (fQ n a d) (fR n a d) (a.drop b) e:=
 Gl (fun c e b=>Ps n a d c (match e,b with |fit,b=>(fit,b))) a (fQ n a d) (fR n a d) (fun _ _ _=>rfl) f c e b g h
def Ry (n:Nat)(l:List AG)(d:List AC):Option (AI × Int):=(ZV n l).bind fun a=>(if (a.2 != 0) then none else (Ps n d a n ([],0):Option (List AC)).bind fun b=>(Wm n b).bind fun c=>(if decide (b.length=0) then some ((⟨(⟨a.1.types,a.1.rels,a.1.ranks⟩:AD),c,[]⟩:AI),0) else some ((⟨(⟨a.1.types,a.1.rels,a.1.ranks⟩:AD),c,b⟩:AI),0)))
variable {l:List AG}{n:Nat}{n_:Int}{r:Bool}{rel:ByteArray}
theorem pg {s:List AC}{r:AI × Int}(H:Ry n l s=some r):CP Tryz.prog 32 [.d (D.sl (List.map AS l)),.d (D.sl (List.map AE s))] (D.tu [D.pt (Ak r.1) 0,D.v (.int .i64 r.2)]) false:=by
 unfold Ry at H;refine ZC Ev FI (rs:= #[.tmp 4,.tmp 5]) Tryz.func32 ?_;refine Ax ?_;refine AU (ZT 1 ?_);have⟨k,O,P⟩:=AP H;refine Z0 ?_;refine CT (y9 O) ?_;refine DQ ?_;refine Z0 ?_;rcases Ah P with⟨w,B⟩ |⟨w,B⟩
 ·refine Z1 w ?_;cases B
 refine Gt w ?_;refine AU (AU ?_);refine ES w ?_;have⟨I,Q,J⟩:=AP B;refine Dw (α:={ y:List AC // I=y } × Nat) (fun |⟨⟨e,_⟩,C⟩=>⟨upd 6 (.d (.pt [.mp (A7 Value.string false eI k.1.types),.mp (A7 qa_ true Al k.1.rels),.mp (A7 qa_ false eI k.1.ranks)] 0) true) (upd 8 (AW 0 C (List.map AE e)) AJ),upd 0 (Am 6 C false (List.map AE e)) AK,1⟩) ?_ ?_
 ·refine CV ?_;refine DV (α:={ q:(Nat × (List AC × Int)) × Nat // Ps n s k q.1.1 q.1.2=some I }) (fun |⟨⟨⟨c,⟨j,t⟩⟩,g⟩,_⟩=>⟨upd 6 (.d (.pt [.mp (A7 Value.string false eI k.1.types),.mp (A7 qa_ true Al k.1.rels),.mp (A7 qa_ false eI k.1.ranks)] 0) true) (upd 8 (AW 0 g (List.map AE j)) (upd 19 (.d (.sl (List.map AE s)) true) (upd 20 (.v (.int .i64 (s.length:Int))) (upd 21 (.v (.int .i64 t)) AJ)))),upd 0 (Am 6 g false (List.map AE j)) AK,1⟩) (fun q=>q.1.1.1) ⟨((n,([],0)),0),Q⟩ ?_ ?_
  ·exact ZR []
  rintro⟨⟨⟨c,⟨j,t⟩⟩,g⟩,x⟩;rcases c with _ |c
  ·exact Zx x
  unfold Ps at x
  try dsimp only at x
  refine AQ ?_;rcases Ah x with⟨m,H21⟩ |⟨m,H21⟩
  ·have⟨o,R,H23⟩:=AP H21;have⟨z,K⟩:=F0 R;try simp only[Int.reduceToNat,Li] at K
   have A:=Cz AE K;have⟨ab,S,H29⟩:=AP H23;refine Z1 (Y3 m (CC .i64 z) A) ?_;refine CT (zK S) ?_;refine Z1 (Y3 m (CC .i64 z) A) ?_;rcases Ah H29 with⟨E,H31⟩ |⟨E,H31⟩
   ·have⟨p,T,H33⟩:=AP H31;have⟨F,L⟩:=Dp T;have F:j.length+1<=4294967296:=F;have U:List.map AE j++[[.v (.string o.obj.type_),.v (.string o.obj.id_),.v (.string o.rel),.v (.string o.sub_.type_),.v (.string o.sub_.id_),.v (.string o.sub_.rel)]]=List.map AE p:=D6 AE L;have V:j.length+1=p.length:=D7 L;have X:p.length<=4294967296:=(by omega);have ad:0<p.length:=(by omega);refine Z1 (Y2 (Y6 m (CC .i64 z) A E F U) (Y2 V X)) ?_;rcases j with _ |⟨q0,q1⟩
    ·try simp only[Lu,CF,CG]
     exact⟨⟨((c,(p,(i64.wrap (t+1)))),0),H33⟩,ZR [(0,12)],Ls _⟩
    try simp only[Lh,CF,CG]
    exact⟨⟨((c,(p,(i64.wrap (t+1)))),(g+1)),H33⟩,ZR [(0,0)],Ls _⟩
   refine Z1 (Y4 m (CC .i64 z) A E) ?_;exact⟨⟨((c,(j,(i64.wrap (t+1)))),g),H31⟩,ZR [(0,0)],Ls _⟩
  refine Z1 m ?_;obtain rfl:=Zi H21;exact⟨⟨⟨j,rfl⟩,g⟩,ZR [(0,0)]⟩
 rintro⟨⟨e,Y⟩,C⟩;obtain rfl:=Y.symm;try dsimp only at J
 refine ZT 1 ?_;have⟨ag,Z,H41⟩:=AP J;refine Z0 ?_;refine Tk (zM Z) ?_;refine Z0 ?_;rcases Ah H41 with⟨u,H43⟩ |⟨u,H43⟩
 ·have aa:e= []:=LV (of_decide_eq_true u);subst aa;simp only[Lu,Ut,Xo];try simp only[GO,GN]
  refine Z0 ?_;obtain rfl:=Zi H43;exact KQ (b:=true) (v:=.tu [.pt 6 0,.v (.int .i64 0)]) (by first |(simp -implicitDefEqProofs only[go_sem,Nat.reduceEqDiff, ↓reduceIte]<;>rfl) |rfl) (Fq.tu (PW.cons (Cg.one (C3.place (by rfl) (PW.cons (C3.one (b':=true) (is:=[]) rfl (fun _=>rfl)) (PW.cons (C3.one (b':=false) (is:=[]) rfl (fun _=>rfl)) (PW.cons (C3.one (b':=false) (is:=[]) rfl (fun _=>rfl)) PW.nil)))) rfl) (PW.cons (Cg.one (C3.one (b':=false) (is:=[]) rfl (fun _=>rfl)) rfl) PW.nil))) (by intro h;first |rfl |cases h)
 have d:0<e.length:=by have:=of_decide_eq_false u;omega
 have M:∀i,GO i (List.map AE e)= [i]:=fun i=>by cases G:e with |nil=>(rw[G] at d;simp at d) |cons a r=>rfl
 have N:∀b,GN b (List.map AE e)=b:=fun b=>by cases G:e with |nil=>(rw[G] at d;simp at d) |cons a r=>rfl
 refine Z1 (Y6 u M N d (YV (f:=AE) d) (YO (f:=AE) d)) ?_;obtain rfl:=Zi H43;exact KQ (b:=true) (v:=.tu [.pt 6 0,.v (.int .i64 0)]) (by first |(simp -implicitDefEqProofs only[go_sem,Nat.reduceEqDiff, ↓reduceIte]<;>rfl) |rfl) (Fq.tu (PW.cons (Cg.one (C3.place (by rfl) (PW.cons (C3.one (b':=true) (is:=[]) rfl (fun _=>rfl)) (PW.cons (C3.one (b':=false) (is:=[]) rfl (fun _=>rfl)) (PW.cons (C3.one (b':=false) (is:=[0]) (by first |rfl |(simp -implicitDefEqProofs only[go_sem,reduceCtorEq, ↓reduceIte];done) |(simp -implicitDefEqProofs only[go_sem,Ng,Int.reduceToNat,Int.reduceLT,Int.reduceLE,Int.reduceBEq,Int.reduceBNe,Nat.reduceLT,Nat.reduceBEq,Int.reduceEq,Nat.reduceEqDiff,Nat.reduceAdd,Nat.reduceSub,Nat.reduceMul,Nat.reduceLeDiff,reduceCtorEq, ↓reduceIte,Al,DF,AR,AY,AF,AE,AS,Av,Ag,A8,EW,Ej,Ak,u,M,N,d,JN (f:=AE) d,U1 (f:=AE) d];rfl)) (fun _=>rfl)) PW.nil)))) rfl) (PW.cons (Cg.one (C3.one (b':=false) (is:=[]) rfl (fun _=>rfl)) rfl) PW.nil))) (by intro h;first |rfl |cases h)
def Hv (n:Nat)(g:AI)(typ:ByteArray)(rel:ByteArray):Option Bool:=(Gs n g.schema typ rel).bind fun a=>some a.2
theorem ph {g:AI}{typ:ByteArray}(H:Hv n g typ rel=some r):AM Tryz.prog 33 [D.pt (Ak g) 0,D.v (.string typ),D.v (.string rel)] (D.v (.bool r)) true:=by
 unfold Hv at H;refine zP #[.tmp 6] Tryz.func33 ?_;refine ZT 1 ?_;have⟨c,a,b⟩:=AP H;refine Z0 ?_;refine CT (Kf a) ?_;refine Z0 ?_;obtain rfl:=Zi b;exact As
def ML (_:Nat)(a:Int)(b:List Int):Option Int:=(if decide (a<(b.length:Int)) then (idx b a).bind fun x=>some x else some 0)
theorem Vg {c:Int}{d:List Int}{r:Int}(H:ML n c d=some r):AM Tryz.prog 27 [D.v (.int .i64 c),D.pt [D.sl (List.map eI d)] 0] (D.v (.int .i64 r)) true:=by
 unfold ML at H;refine zP #[.tmp 3] Tryz.func27 ?_;refine AQ ?_;obtain⟨a,b⟩ |⟨a,b⟩:=Ah H
 ·obtain⟨x,g,h,e,f⟩:=zI eI b;refine Z1 (Y2 a e) ?_;cases f;exact As
 refine Z1 a ?_;cases b;exact As
def Q5 (_:Nat)(n_:Int):Option ByteArray:=(idx ([{ data:= #[117] },{ data:= #[117] },{ data:= #[97,35,114] },{ data:= #[98,35,114] },{ data:= #[97,35,115] },{ data:= #[98,35,112] },{ data:= #[97] },{ data:= #[98] },{ data:= #[117] },{ data:= #[97,35,113] }]:List ByteArray) (Int.tmod (i64.wrap (an n_ 255:Int)) 10)).bind fun x=>some x
theorem mH {r:ByteArray}(H:Q5 n n_=some r):AM Tryz.prog 28 [D.v (.int .i64 n_)] (D.v (.string r)) true:=by
 unfold Q5 at H;refine zP #[.tmp 2] Tryz.func28 ?_;refine ZT 1 ?_;obtain⟨x,d,a,e⟩:=HJ H;have b:=Cz eS a;simp only[Lh,Lu,eS] at b;have c:=EN a;simp only[Ll,LB,Nat.reduceAdd] at c;refine Z1 (Y3 (CC .i64 d) b c) ?_;cases e;exact As
def PM (_:Nat)(n_:Int):Option ByteArray:=(idx ([{ data:= #[114] },{ data:= #[115] },{ data:= #[114] },{ data:= #[115] },{ data:= #[115,45,62,114] },{ data:= #[115,45,62,112] },{ data:= #[112] },{ data:= #[113] }]:List ByteArray) (i64.wrap (an n_ 7:Int))).bind fun x=>some x
theorem Yb {r:ByteArray}(H:PM n n_=some r):AM Tryz.prog 29 [D.v (.int .i64 n_)] (D.v (.string r)) true:=by
 unfold PM at H;refine zP #[.tmp 2] Tryz.func29 ?_;refine ZT 1 ?_;obtain⟨x,d,a,e⟩:=HJ H;have b:=Cz eS a;simp only[Lh,Lu,eS] at b;have c:=EN a;simp only[Ll,LB,Nat.reduceAdd] at c;refine Z1 (Y3 (CC .i64 d) b c) ?_;cases e;exact As
def PO (n:Nat)(t0:List Int)(d:Int):Nat->(ByteArray × Int)->Option (ByteArray)
 |0,_=>none
 |c+1,(e,b)=>(if decide (b<2) then (ML n (i64.wrap ((i64.wrap (d+1))+b)) t0).bind fun a=>(Ek e ({ data:= #[32] })).bind fun h=>(idx ([{ data:= #[112] },{ data:= #[113] }]:List ByteArray) b).bind fun i=>(Ek h i).bind fun j=>(Ek j ({ data:= #[32,61,32] })).bind fun k=>(PM n a).bind fun m=>(Ek k m).bind fun o=>(idx ([{ data:= #[32,43,32] },{ data:= #[32,38,32] },{ data:= #[32,45,32] },{ data:= #[32,43,32] }]:List ByteArray) (i64.wrap (an (sh a 4) 3:Int))).bind fun p=>(Ek o p).bind fun q=>(PM n (sh a 8)).bind fun s=>(Ek q s).bind fun f=>(if ((i64.wrap (an (sh a 12) 1:Int))==1) then (idx ([{ data:= #[32,43,32] },{ data:= #[32,38,32] },{ data:= #[32,45,32] },{ data:= #[32,45,32,40] }]:List ByteArray) (i64.wrap (an (sh a 13) 3:Int))).bind fun t=>(Ek f t).bind fun u=>(PM n (sh a 16)).bind fun v=>(Ek u v).bind fun g=>(if ((i64.wrap (an (sh a 13) 3:Int))==3) then (Ek g ({ data:= #[32,38,32] })).bind fun w=>(PM n (sh a 20)).bind fun x=>(Ek w x).bind fun y=>(Ek y ({ data:= #[41] })).bind fun z=>(Ek z ({ data:= #[59] })).bind fun A=>PO n t0 d c (A,(i64.wrap (b+1))) else (Ek g ({ data:= #[59] })).bind fun B=>PO n t0 d c (B,(i64.wrap (b+1)))) else (Ek f ({ data:= #[59] })).bind fun C=>PO n t0 d c (C,(i64.wrap (b+1)))) else some e)
def TH (n:Nat)(t0:List Int):Nat->(ByteArray × Int × Int)->Option (ByteArray)
 |0,_=>none
 |c+1,(d,a,b)=>(if decide (b<2) then (Ek d ({ data:= #[116,121,112,101,32] })).bind fun f=>(idx ([{ data:= #[97] },{ data:= #[98] }]:List ByteArray) b).bind fun g=>(Ek f g).bind fun h=>(Ek h ({ data:= #[32,123,32,114,58,32] })).bind fun i=>(ML n a t0).bind fun j=>(Q5 n j).bind fun k=>(Ek i k).bind fun e=>(ML n a t0).bind fun m=>((if ((i64.wrap (an (sh m 8) 1:Int))==1) then (Ek e ({ data:= #[32,124,32] })).bind fun o=>(ML n a t0).bind fun p=>(Q5 n (sh p 9)).bind fun q=>(Ek o q).bind fun s=>some s else some e):Option (ByteArray)).bind fun t=>(Ek t ({ data:= #[59,32,115,58,32] })).bind fun u=>(ML n a t0).bind fun v=>(idx ([{ data:= #[97] },{ data:= #[98] },{ data:= #[97,32,124,32,98] },{ data:= #[117,32,124,32,97] }]:List ByteArray) (Int.tmod (i64.wrap (an (sh v 20) 255:Int)) 4)).bind fun w=>(Ek u w).bind fun x=>(Ek x ({ data:= #[59] })).bind fun y=>(PO n t0 a n (y,0):Option (ByteArray)).bind fun z=>(Ek z ({ data:= #[32,125,10] })).bind fun A=>TH n t0 c (A,(i64.wrap (a+3)),(i64.wrap (b+1))) else some d)
def Vh (n:Nat)(t0:List Int):Option ByteArray:=(TH n t0 n ({ data:= #[116,121,112,101,32,117,10] },0,0):Option (ByteArray)).bind fun a=>some a
set_option maxHeartbeats 8000000 in
theorem wo {t0:List Int}{r:ByteArray}(H:Vh n t0=some r):AM Tryz.prog 9 [D.sl (List.map eI t0)] (D.v (.string r)) true:=by
 unfold Vh at H;refine zP #[.tmp 2] Tryz.func9 ?_;refine Dg ?_;refine Dg ?_;refine Dg ?_;refine Dy ?_;refine zj H (fun _ _ w=>⟨upd 6 (.v (.string w)) AJ,AK,0⟩) (fun e_ E1 x=> ?_) fun w x=> ?_;rotate_left
 ·refine AQ ?_;cases x;exact As
 refine D9 E1 (fun f h (g,y,z)=>⟨kp [3,4,5] f (upd 6 (.v (.string g)) (upd 7 (.v (.int .i64 y)) (upd 8 (.v (.int .i64 z)) AJ))),kh [0] h AK,1⟩) (ZR [(0,0)]) fun c ⟨g,y,z⟩ L3=> ?_
 refine Ax ?_;obtain⟨b,H266⟩ |⟨b,H266⟩:=Ah L3;rotate_left
 ·refine Z1 b ?_;cases H266;exact ZR []
 refine J8 b ?_;obtain⟨e4,a2,H268⟩:=AP H266;obtain⟨A,a3⟩:=Fe a2;have a4:g.size+5<=maxLen:=A;obtain⟨x7,a5,B,H273⟩:=HJ H268;have C:=Cz eS B;simp only[Lh,Lu,eS] at C;have E:=EN B;simp only[Ll,LB,Nat.reduceAdd] at E;obtain⟨a6,a9,H279⟩:=AP H273;obtain⟨ba,bb⟩:=Fe a9;obtain⟨e5,bd,H283⟩:=AP H279;obtain⟨F,be⟩:=Fe bd;have bg:a6.size+6<=maxLen:=F;obtain⟨e6,bl,H288⟩:=AP H283;have i:=Y2 (Y6 b A a3 a4 (CC .i64 a5) C) (Y6 E ba bb F be bg);refine Z1 i ?_;refine Xw [0] (by intro e7 h1;have j:=h1 0 (by simp);(try simp -implicitDefEqProofs only[go_sem,reduceCtorEq, ↓reduceIte] at j);first |(simp -implicitDefEqProofs only[go_sem,j];done) |(simp -implicitDefEqProofs only[go_sem,j];rfl)) (CP.of_pure (Vg bl)) (by first |exact .inr rfl |exact .inl rfl) ?_;obtain⟨e8,bo,H291⟩:=AP H288;refine Z1 i ?_;refine Ds (mH bo) ?_;obtain⟨br,bs,H293⟩:=AP H291;obtain⟨bx,b0⟩:=Fe bs;have d:=Y3 i bx b0;refine Dj d ?_;refine AU (AU ?_);refine ZT 1 ?_;obtain⟨e9,b1,H297⟩:=AP H293;refine Z1 d ?_;refine WS d (CP.of_pure (Vg b1)) ?_;refine Z1 d ?_;refine zj H297 (fun f h k=>⟨kp [3,4,5,7,8] f (upd 6 (.v (.string k)) AJ),kh [0] h AK,1⟩) (fun fa E298 H299=> ?_) fun k H299=> ?_
 ·refine AQ ?_;obtain⟨m,H301⟩ |⟨m,H301⟩:=Ah E298
  ·obtain⟨fb,b2,H303⟩:=AP H301;obtain⟨G,b3⟩:=Fe b2;have b4:br.size+3<=maxLen:=G;obtain⟨fd,b5,H308⟩:=AP H303;have e:=Y4 m G b3 b4;refine Z1 e ?_;refine WS e (CP.of_pure (Vg b5)) ?_;obtain⟨fi,b6,H310⟩:=AP H308;refine Z1 e ?_;refine CT (mH b6) ?_;obtain⟨fn,b7,H312⟩:=AP H310;obtain⟨b8,b9⟩:=Fe b7;refine Z1 (Y3 e b8 b9) ?_;cases H312;exact ZR [(0,0)]
  refine Z1 m ?_;cases H301;exact ZR [(0,0)]
 refine AU (ZT 1 ?_);obtain⟨fo,cb,H316⟩:=AP H299;obtain⟨I,cf⟩:=Fe cb;have ch:k.size+5<=maxLen:=I;obtain⟨fq,cp,H321⟩:=AP H316;have o:=Y3 I cf ch;refine Z1 o ?_;refine WS o (CP.of_pure (Vg cp)) ?_;obtain⟨x8,cs,J,H323⟩:=HJ H321;have K:=Cz eS J;simp only[Lh,Lu,eS] at K;have L:=EN J;simp only[Ll,LB,Nat.reduceAdd] at L;obtain⟨cx,cN,H329⟩:=AP H323;obtain⟨c0,c1⟩:=Fe cN;obtain⟨fr,c2,H333⟩:=AP H329;obtain⟨M,c3⟩:=Fe c2;have c4:cx.size+1<=maxLen:=M;have c5:=Y2 (Y6 o (CC .i64 cs) K L c0 c1) (Y3 M c3 c4);refine HK c5 ?_;refine zj H333 (fun f h p=>⟨kp [3,4,5,7,8] f (upd 6 (.v (.string p)) AJ),kh [0] h AK,1⟩) (fun fs E337 H338=> ?_) fun p H338=> ?_;rotate_left
 ·refine ZT 3 ?_;obtain⟨ft,c6,H528⟩:=AP H338;obtain⟨N,c7⟩:=Fe c6;have c9:p.size+3<=maxLen:=N;refine Z1 (Y3 N c7 c9) ?_;exact⟨_,H528,ZR [(0,0)]⟩
 refine D9 E337 (fun f h (q,O)=>⟨kp [3,4,5,7,8] f (upd 6 (.v (.string q)) (upd 9 (.v (.int .i64 O)) AJ)),kh [0] h AK,1⟩) (ZR [(0,0)]) fun c ⟨q,O⟩ L339=> ?_
 refine AQ ?_;obtain⟨a,H431⟩ |⟨a,H431⟩:=Ah L339;rotate_left
 ·refine Z1 a ?_;cases H431;exact ZR [(0,0)]
 obtain⟨fu,da,H433⟩:=AP H431;refine Z1 a ?_;refine WS a (CP.of_pure (Vg da)) ?_;obtain⟨fv,dd,H435⟩:=AP H433;obtain⟨P,df⟩:=Fe dd;have dk:q.size+1<=maxLen:=P;obtain⟨fz,dl,Q,H440⟩:=HJ H435;have R:=Cz eS Q;simp only[Lh,Lu,eS] at R;have S:=EN Q;simp only[Ll,LB,Nat.reduceAdd] at S;obtain⟨dm,dn,H446⟩:=AP H440;obtain⟨dp,dq⟩:=Fe dn;obtain⟨f1,dr,H450⟩:=AP H446;obtain⟨T,ds⟩:=Fe dr;have dt:dm.size+3<=maxLen:=T;obtain⟨f2,dw,H455⟩:=AP H450;have U:=Y2 (Y6 a P df dk (CC .i64 dl) R) (Y6 S dp dq T ds dt);refine Z1 U ?_;refine Ds (Yb dw) ?_;obtain⟨f3,dy,H457⟩:=AP H455;obtain⟨dS,d0⟩:=Fe dy;obtain⟨f4,d1,V,H461⟩:=HJ H457;have X:=Cz eS V;simp only[Lh,Lu,eS] at X;have Y:=EN V;simp only[Ll,LB,Nat.reduceAdd] at Y;obtain⟨f5,d2,H467⟩:=AP H461;obtain⟨d3,d4⟩:=Fe d2;obtain⟨f6,ea,H471⟩:=AP H467;have Z:=Y2 (Y6 U dS d0 (CC .i64 d1) X Y) (Y2 d3 d4);refine Z1 Z ?_;refine Ds (Yb ea) ?_;obtain⟨eb,ed,H473⟩:=AP H471;obtain⟨ee,ef⟩:=Fe ed;have s:=Y3 Z ee ef;refine Dj s ?_;obtain⟨t,H477⟩ |⟨t,H477⟩:=Ah H473
 ·obtain⟨f7,eg,aa,H479⟩:=HJ H477;have ab:=Cz eS aa;simp only[Lh,Lu,eS] at ab;have ad:=EN aa;simp only[Ll,LB,Nat.reduceAdd] at ad;obtain⟨f8,eh,H485⟩:=AP H479;obtain⟨ek,el⟩:=Fe eh;obtain⟨gb,em,H489⟩:=AP H485;have ag:=Y2 (Y6 s t (CC .i64 eg) ab ad ek) el;refine Z1 ag ?_;refine Ds (Yb em) ?_;obtain⟨ak,en,H491⟩:=AP H489;obtain⟨eo,eq⟩:=Fe en;have u:=Y3 ag eo eq;refine Dj u ?_;obtain⟨v,H495⟩ |⟨v,H495⟩:=Ah H491
  ·obtain⟨ge,er,H497⟩:=AP H495;obtain⟨ao,es⟩:=Fe er;have et:ak.size+3<=maxLen:=ao;obtain⟨gh,ew,H502⟩:=AP H497;have aq:=Y5 u v ao es et;refine Z1 aq ?_;refine CT (Yb ew) ?_;obtain⟨ex,ey,H504⟩:=AP H502;obtain⟨ez,eA⟩:=Fe ey;obtain⟨eD,eF,H508⟩:=AP H504;obtain⟨av,eH⟩:=Fe eF;have eK:ex.size+1<=maxLen:=av;obtain⟨gi,eN,H513⟩:=AP H508;obtain⟨aE,eP⟩:=Fe eN;have eR:eD.size+1<=maxLen:=aE;refine Z1 (Y2 (Y6 aq ez eA av eH eK) (Y3 aE eP eR)) ?_;exact⟨_,H513,ZR [(0,0)]⟩
  obtain⟨gn,eU,H518⟩:=AP H495;obtain⟨a0,eV⟩:=Fe eU;have e0:ak.size+1<=maxLen:=a0;refine Z1 (Y5 u v a0 eV e0) ?_;exact⟨_,H518,ZR [(0,0)]⟩
 obtain⟨go,e1,H523⟩:=AP H477;obtain⟨a1,e2⟩:=Fe e1;have e3:eb.size+1<=maxLen:=a1;refine Z1 (Y5 s t a1 e2 e3) ?_;exact⟨_,H523,ZR [(0,0)]⟩
def TJ (_:Nat)(n_:Int):Option ByteArray:=(idx ([{ data:= #[97] },{ data:= #[98] },{ data:= #[99] },{ data:= #[100] },{ data:= #[97,98] },{ data:= #[98,45,49] },{ data:= #[120,46,121] },{ data:= #[48] }]:List ByteArray) (i64.wrap (an n_ 7:Int))).bind fun x=>some x
theorem mI {r:ByteArray}(H:TJ n n_=some r):AM Tryz.prog 59 [D.v (.int .i64 n_)] (D.v (.string r)) true:=by
 unfold TJ at H;refine zP #[.tmp 2] Tryz.func59 ?_;refine ZT 1 ?_;obtain⟨x,d,a,e⟩:=HJ H;have b:=Cz eS a;simp only[Lh,Lu,eS] at b;have c:=EN a;simp only[Ll,LB,Nat.reduceAdd] at c;refine Z1 (Y3 (CC .i64 d) b c) ?_;cases e;exact As
def TL (n:Nat)(n_:Int):Option AC:=(idx ([{ data:= #[97] },{ data:= #[98] }]:List ByteArray) (i64.wrap (an n_ 1:Int))).bind fun x=>(TJ n (sh n_ 1)).bind fun a=>(idx ([{ data:= #[114] },{ data:= #[115] }]:List ByteArray) (i64.wrap (an (sh n_ 4) 1:Int))).bind fun b=>(idx ([{ data:= #[117] },{ data:= #[97] },{ data:= #[98] }]:List ByteArray) (Int.tmod (i64.wrap (an (sh n_ 5) 255:Int)) 3)).bind fun c=>(TJ n (sh n_ 13)).bind fun d=>(if ((i64.wrap (an (sh n_ 16) 3:Int))==0) then (idx ([{ data:= #[114] },{ data:= #[115] }]:List ByteArray) (i64.wrap (an (sh n_ 18) 1:Int))).bind fun e=>some (⟨(⟨x,a⟩:Ae),b,(⟨c,d,e⟩:AL)⟩:AC) else some (⟨(⟨x,a⟩:Ae),b,(⟨c,d,ByteArray.empty⟩:AL)⟩:AC))
theorem mJ {r:AC}(H:TL n n_=some r):AM Tryz.prog 30 [D.v (.int .i64 n_)] (D.ag (AE r)) true:=by
 unfold TL at H;refine zP #[.cell 2 35] Tryz.func30 ?_;refine ZT 1 ?_;obtain⟨x,s,c,t⟩:=HJ H;have d:=Cz eS c;simp only[Lh,Lu,eS] at d;have e:=EN c;simp only[Ll,LB,Nat.reduceAdd] at e;obtain⟨B,u,v⟩:=AP t;have f:=Y3 (CC .i64 s) d e;refine Z1 f ?_;refine Ds (mI u) ?_;obtain⟨C,w,g,H10⟩:=HJ v;have h:=Cz eS g;simp only[Lh,Lu,eS] at h;have i:=EN g;simp only[Ll,LB,Nat.reduceAdd] at i;obtain⟨E,y,j,H16⟩:=HJ H10;have k:=Cz eS j;simp only[Lh,Lu,eS] at k;have m:=EN j;simp only[Ll,LB,Nat.reduceAdd] at m;obtain⟨F,z,H22⟩:=AP H16;have a:=Y2 (Y6 f (CC .i64 w) h i (CC .i64 y) k) m;refine Z1 a ?_;refine Ds (mI z) ?_;refine Z1 a ?_;refine DD (by kernel_rfl) ?_;refine Z1 a ?_;obtain⟨b,H24⟩ |⟨b,H24⟩:=Ah H22
 ·obtain⟨G,A,o,H26⟩:=HJ H24;have p:=Cz eS o;simp only[Lh,Lu,eS] at p;have q:=EN o;simp only[Ll,LB,Nat.reduceAdd] at q;refine Z1 (Y5 a b (CC .i64 A) p q) ?_;cases H26;exact As
 refine Z1 (Y2 a b) ?_;cases H24;exact As
def Vi (n:Nat)(l:List Int):Nat->(List AC × Int)->Option (List AC)
 |0,_=>none
 |c+1,(a,i)=>((if decide (i<(l.length:Int)) then some (decide (i<80)) else some false):Option (Bool)).bind fun b=>(if b then (idx l i).bind fun d=>(TL n d).bind fun e=>(Cu a [e]).bind fun f=>Vi n l c (f,(i64.wrap (i+1))) else some a)
def Vj (n:Nat)(l:List Int):Option (List AC):=(Vi n l n ([],0):Option (List AC)).bind fun a=>some a
theorem wq {l:List Int}{r:List AC}(H:Vj n l=some r):AM Tryz.prog 10 [D.sl (List.map eI l)] (D.sl (List.map AE r)) true:=by
 unfold Vj at H;refine zP #[.tmp 2] Tryz.func10 ?_;refine Dg ?_;refine Dy ?_;refine EJ H (fun _ _ h j=>⟨upd 3 (AW 0 j (List.map AE h)) AJ,upd 0 (Am 6 j false (List.map AE h)) AK,1⟩) (fun C u p=> ?_) fun h j p=> ?_;rotate_left
 ·refine AQ ?_;cases p;exact As
 refine DL u (fun f _ (a,i) g=>⟨kp [0] f (upd 3 (AW 0 g (List.map AE a)) (upd 4 (.v (.int .i64 i)) AJ)),upd 0 (Am 6 g false (List.map AE a)) AK,1⟩) 0 (ZR []) fun c ⟨a,i⟩ g v=> ?_
 refine AU (AU ?_);refine EJ v (fun f _ q d=>⟨kp [0,4] f (upd 3 (AW 0 d (List.map AE a)) (upd 12 (.v (.bool q)) AJ)),upd 0 (Am 6 d false (List.map AE a)) AK,1⟩) (fun E E19 H20=> ?_) fun q d H20=> ?_
 ·refine AQ ?_;obtain⟨k,H22⟩ |⟨k,H22⟩:=Ah E19
  ·refine Z1 k ?_;cases H22;exact⟨g,ZR [(0,0)]⟩
  refine Z1 k ?_;cases H22;exact⟨g,ZR [(0,0)]⟩
 refine ZT 2 ?_;refine Z0 ?_;obtain⟨m,H24⟩ |⟨m,H24⟩:=Ah H20
 ·obtain⟨F,G,I,w,H26⟩:=zI eI H24;obtain⟨b,x,H32⟩:=AP H26;have s:=Y2 m w;refine Z1 s ?_;refine CT (mJ x) ?_;obtain⟨e,y,H34⟩:=AP H32;obtain⟨o,t⟩:=Dp y;have o:a.length+1<=4294967296:=o;have z:List.map AE a++[[.v (.string b.obj.type_),.v (.string b.obj.id_),.v (.string b.rel),.v (.string b.sub_.type_),.v (.string b.sub_.id_),.v (.string b.sub_.rel)]]=List.map AE e:=D6 AE t;have A:a.length+1=e.length:=D7 t;have B:e.length<=4294967296:=by omega
  have J:0<e.length:=by omega
  refine Z1 (Y5 s o z A B) ?_;rcases a with _ |⟨K,L⟩
  ·try simp only[Lu,CF,CG]
   exact⟨_,0,H34,ZR [(0,8)]⟩
  try simp only[Lh,CF,CG]
  exact⟨_,(d+1),H34,ZR [(0,0)]⟩
 refine Z1 m ?_;cases H24;exact⟨d,ZR [(0,0)]⟩
def Vk (n:Nat)(n_:Int):Option (Ae × ByteArray × AL):=(TL n n_).bind fun a=>(idx ([{ data:= #[114] },{ data:= #[115] },{ data:= #[112] },{ data:= #[113] },{ data:= #[112] },{ data:= #[113] },{ data:= #[122] },{ data:= #[112] }]:List ByteArray) (i64.wrap (an (sh n_ 24) 7:Int))).bind fun x=>some (a.obj,x,(⟨a.sub_.type_,a.sub_.id_,{ data:= #[] }⟩:AL))
theorem wt {r:Ae × ByteArray × AL}(H:Vk n n_=some r):AM Tryz.prog 11 [D.v (.int .i64 n_)] (D.tu [D.ag (DF r.1),D.v (.string r.2.1),D.ag (AR r.2.2)]) true:=by
 unfold Vk at H;refine zP #[.cell 2 29,.tmp 3,.cell 4 31] Tryz.func11 ?_;refine ZT 1 ?_;obtain⟨i,d,e⟩:=AP H;refine Z0 ?_;refine CT (mJ d) ?_;obtain⟨x,f,a,g⟩:=HJ e;have b:=Cz eS a;simp only[Lh,Lu,eS] at b;have c:=EN a;simp only[Ll,LB,Nat.reduceAdd] at c;have h:=Y3 (CC .i64 f) b c;refine Dj h ?_;cases g;exact As
def MM (n:Nat)(l:List AG)(rel:ByteArray)(i:Int):Nat->Int->Option ((Unit) ⊕ (Int × Int))
 |0,_=>none
 |c+1,a=>(idx l i).bind fun b=>(if decide (a<(b.rels.length:Int)) then (idx b.rels a).bind fun d=>(if (d.name.toList==rel.toList) then some (.inr (i,a)) else MM n l rel i c (i64.wrap (a+1))) else some (.inl ()))
def KV (n:Nat)(l:List AG)(t:ByteArray)(rel:ByteArray):Nat->Int->Option ((Unit) ⊕ (Int × Int))
 |0,_=>none
 |c+1,i=>(if decide (i<(l.length:Int)) then (idx l i).bind fun a=>(if (a.name.toList==t.toList) then (MM n l rel i n 0:Option ((Unit) ⊕ (Int × Int))).bind fun | .inl _=>some (.inr (i,(-1))) | .inr r=>some (.inr r) else KV n l t rel c (i64.wrap (i+1))) else some (.inl ()))
def PP (n:Nat)(l:List AG)(t:ByteArray)(rel:ByteArray):Option (Int × Int):=(KV n l t rel n 0:Option ((Unit) ⊕ (Int × Int))).bind fun
  | .inl _=>some ((-1),(-1))
  | .inr r=>some r
theorem mK {t:ByteArray}{r:Int × Int}(H:PP n l t rel=some r):AM Tryz.prog 41 [D.sl (List.map AS l),D.v (.string t),D.v (.string rel)] (D.tu [D.v (.int .i64 r.1),D.v (.int .i64 r.2)]) true:=by
 unfold PP at H;refine zP #[.tmp 6,.tmp 7] Tryz.func41 ?_;refine JA ?_;refine zi H (fun _ _ _=>⟨AJ,AK,0⟩) (fun u o a=> ?_) fun _ a=> ?_;rotate_left
 ·refine AQ ?_;cases a;exact As
 refine D9 o (fun f _ i=>⟨kp [0,1,2] f (upd 8 (.v (.int .i64 i)) AJ),AK,0⟩) (ZR []) fun c i p=> ?_
 refine Ax ?_;obtain⟨b,H51⟩ |⟨b,H51⟩:=Ah p;rotate_left
 ·refine Z1 b ?_;cases H51;exact⟨_,rfl,ZR []⟩
 refine J8 b ?_;obtain⟨v,w,x,q,H53⟩:=zI AS H51;have j:=Y2 b q;refine Z1 j ?_;obtain⟨d,H59⟩ |⟨d,H59⟩:=Cb j H53
 ·refine HK d ?_;refine zi H59 (fun f _ _=>⟨kp [8] f AJ,AK,0⟩) (fun y E60 H61=> ?_) fun _ H61=> ?_
  ·refine D9 E60 (fun f _ k=>⟨kp [0,2,8] f (upd 9 (.v (.int .i64 k)) AJ),AK,0⟩) (ZR []) fun c k L62=> ?_
   refine ZT 1 ?_;obtain⟨z,A,B,e,H80⟩:=zI AS L62;refine Z1 e ?_;obtain⟨g,H86⟩ |⟨g,H86⟩:=Ah H80
   ·obtain⟨C,E,F,s,H88⟩:=zI Al H86;have m:=Y3 e g s;refine Z1 m ?_;obtain⟨h,H94⟩ |⟨h,H94⟩:=Cb m H88
    ·refine Z1 h ?_;cases H94;cases H61;cases a;exact As
    refine Z1 h ?_;exact⟨_,H94,ZR []⟩
   refine Z1 (Y2 e g) ?_;cases H86;exact⟨_,rfl,ZR []⟩
  refine ZT 3 ?_;refine Z0 ?_;cases H61;cases a;exact As
 refine WV d ?_;exact⟨_,H59,ZR []⟩
def G4 (n:Nat)(l:List AG)(t:ByteArray)(rel:ByteArray):Option (AZ × Bool):=(PP n l t rel).bind fun a=>(if decide (a.1<0) then some ((⟨ByteArray.empty,[],[]⟩:AZ),false) else (if decide (a.2<0) then some ((⟨ByteArray.empty,[],[]⟩:AZ),false) else (idx l a.1).bind fun x=>(idx x.rels a.2).bind fun b=>some (b,true)))
theorem KW {t:ByteArray}{r:AZ × Bool}(H:G4 n l t rel=some r):AM Tryz.prog 18 [D.sl (List.map AS l),D.v (.string t),D.v (.string rel)] (D.tu [D.ag (Al r.1),D.v (.bool r.2)]) false:=by
 unfold G4 at H;refine zP #[.cell 6 52,.tmp 7] Tryz.func18 ?_;refine ZT 1 ?_;obtain⟨j,e,f⟩:=AP H;refine Z0 ?_;refine CT (mK e) ?_;refine Z0 ?_;obtain⟨a,b⟩ |⟨a,b⟩:=Ah f
 ·refine Z1 a ?_;cases b;exact As
 refine Z1 a ?_;obtain⟨c,d⟩ |⟨c,d⟩:=Ah b
 ·refine Z1 (Y2 a c) ?_;cases d;exact As
 obtain⟨x,k,m,g,h⟩:=zI AS d;obtain⟨o,p,q,i,H14⟩:=zI Al h;refine Z1 (Y4 a c g i) ?_;cases H14;exact As
def Vl (_:Nat)(a:Int):Option Bool:=(if decide (97<=a) then (if decide (a<=122) then some true else (if decide (48<=a) then some (decide (a<=57)) else some false)) else (if decide (48<=a) then some (decide (a<=57)) else some false))
theorem cg {i:Int}(H:Vl n i=some r):AM Tryz.prog 87 [D.v (.int .u8 i)] (D.v (.bool r)) true:=by
 unfold Vl at H;refine zP #[.tmp 2] Tryz.func87 ?_;refine AQ ?_;obtain⟨a,b⟩ |⟨a,b⟩:=Ah H
 ·refine Z1 a ?_;obtain⟨c,d⟩ |⟨c,d⟩:=Ah b
  ·refine Z1 (Y2 a c) ?_;cases d;exact As
  have j:=Y2 a c;refine Z1 j ?_;obtain⟨e,f⟩ |⟨e,f⟩:=Cb j d
  ·refine Z1 e ?_;cases f;exact As
  refine Z1 e ?_;cases f;exact As
 refine Z1 a ?_;obtain⟨g,h⟩ |⟨g,h⟩:=Ah b
 ·refine Z1 (Y2 a g) ?_;cases h;exact As
 refine Z1 (Y2 a g) ?_;cases h;exact As
def Vm (n:Nat)(s:ByteArray):Nat->Int->Option ((Unit) ⊕ Bool)
 |0,_=>none
 |c+1,i=>(if decide (i<(s.size:Int)) then (EL s i).bind fun a=>(Vl n a).bind fun b=>(if b then Vm n s c (i64.wrap (i+1)) else (if (a != 95) then (if (a != 45) then (if (a != 46) then some (.inr false) else Vm n s c (i64.wrap (i+1))) else Vm n s c (i64.wrap (i+1))) else Vm n s c (i64.wrap (i+1)))) else some (.inl ()))
def Q6 (n:Nat)(s:ByteArray):Option Bool:=((if decide ((s.size:Int)<1) then some true else (if decide (30<(s.size:Int)) then some true else (EL s 0).bind fun a=>(Vl n a).bind fun b=>some (!b))):Option (Bool)).bind fun c=>(if c then some false else (Vm n s n 0:Option ((Unit) ⊕ Bool)).bind fun
   | .inl _=>some true
   | .inr r=>some r)
theorem Yc {s:ByteArray}(H:Q6 n s=some r):AM Tryz.prog 60 [D.v (.string s)] (D.v (.bool r)) true:=by
 unfold Q6 at H;refine zP #[.tmp 2] Tryz.func60 ?_;refine Ax ?_;refine AU (AU ?_);refine zj H (fun f _ q=>⟨kp [0] f (upd 17 (.v (.bool q)) AJ),AK,0⟩) (fun J x t=> ?_) fun q t=> ?_
 ·refine AQ ?_;obtain⟨a,g⟩ |⟨a,g⟩:=Ah x
  ·refine Z1 a ?_;cases g;exact ZR []
  refine Z1 a ?_;obtain⟨h,j⟩ |⟨h,j⟩:=Ah g
  ·refine Z1 (Y2 a h) ?_;cases j;exact ZR []
  have⟨K,y,z⟩:=AP j;have⟨A,L,u,B⟩:=HY y;try simp only[Int.reduceToNat] at u
  have⟨M,C,H13⟩:=AP z;have v:=Y5 a h (CC .i64 A) u B.symm;refine Z1 v ?_;refine CT (cg C) ?_;refine Z1 v ?_;cases H13;exact ZR []
 refine AQ ?_;obtain⟨k,H15⟩ |⟨k,H15⟩:=Ah t
 ·refine Z1 k ?_;cases H15;exact As
 refine HK k ?_;refine zi H15 (fun _ _ _=>⟨AJ,AK,0⟩) (fun N E16 H17=> ?_) fun _ H17=> ?_;rotate_left
 ·refine AQ ?_;cases H17;exact As
 refine D9 E16 (fun f _ i=>⟨kp [0] f (upd 3 (.v (.int .i64 i)) AJ),AK,0⟩) (ZR []) fun c i L18=> ?_
 refine AQ ?_;obtain⟨m,H37⟩ |⟨m,H37⟩:=Ah L18;rotate_left
 ·refine Z1 m ?_;cases H37;exact⟨_,rfl,ZR []⟩
 have⟨O,E,H39⟩:=AP H37;have⟨F,P,w,G⟩:=HY E;try simp only[Int.reduceToNat,Li] at w
 have⟨Q,I,H44⟩:=AP H39;have o:=Y4 m (CC .i64 F) w G.symm;refine Z1 o ?_;refine CT (cg I) ?_;refine Z1 o ?_;obtain⟨b,H46⟩ |⟨b,H46⟩:=Cb o H44
 ·refine Z1 b ?_;exact⟨_,H46,ZR []⟩
 refine Z1 b ?_;obtain⟨d,H48⟩ |⟨d,H48⟩:=Cb b H46
 ·refine Z1 d ?_;obtain⟨e,H50⟩ |⟨e,H50⟩:=Cb d H48
  ·refine Z1 e ?_;obtain⟨p,H52⟩ |⟨p,H52⟩:=Cb e H50
   ·refine Z1 p ?_;cases H52;cases H17;exact As
   refine Z1 p ?_;exact⟨_,H52,ZR []⟩
  refine Z1 e ?_;exact⟨_,H50,ZR []⟩
 refine Z1 d ?_;exact⟨_,H48,ZR []⟩
def PQ (n:Nat)(s:ByteArray):Nat->Int->Option ((Unit) ⊕ Bool)
 |0,_=>none
 |c+1,i=>(if decide (i<(s.size:Int)) then (EL s i).bind fun a=>(Vl n a).bind fun b=>(if b then PQ n s c (i64.wrap (i+1)) else (if (a != 95) then (if (a != 45) then (if (a != 46) then (if (a != 47) then (if (a != 124) then (if (a != 42) then some (.inr false) else PQ n s c (i64.wrap (i+1))) else PQ n s c (i64.wrap (i+1))) else PQ n s c (i64.wrap (i+1))) else PQ n s c (i64.wrap (i+1))) else PQ n s c (i64.wrap (i+1))) else PQ n s c (i64.wrap (i+1)))) else some (.inl ()))
def Vn (n:Nat)(s:ByteArray):Option Bool:=(PQ n s n 0:Option ((Unit) ⊕ Bool)).bind fun
  | .inl _=>(if decide (1<=(s.size:Int)) then some (decide ((s.size:Int)<=250)) else some false)
  | .inr r=>some r
theorem mL {s:ByteArray}(H:Vn n s=some r):AM Tryz.prog 61 [D.v (.string s)] (D.v (.bool r)) true:=by
 unfold Vn at H;refine zP #[.tmp 2] Tryz.func61 ?_;refine JA ?_;refine zi H (fun f _ _=>⟨kp [0] f AJ,AK,0⟩) (fun z t j=> ?_) fun _ j=> ?_;rotate_left
 ·refine AQ ?_;obtain⟨k,H51⟩ |⟨k,H51⟩:=Ah j
  ·refine Z1 k ?_;cases H51;exact As
  refine Z1 k ?_;cases H51;exact As
 refine D9 t (fun f _ i=>⟨kp [0] f (upd 3 (.v (.int .i64 i)) AJ),AK,0⟩) (ZR []) fun c i u=> ?_
 refine AQ ?_;obtain⟨m,H28⟩ |⟨m,H28⟩:=Ah u;rotate_left
 ·refine Z1 m ?_;cases H28;exact⟨_,rfl,ZR []⟩
 have⟨A,v,H30⟩:=AP H28;have⟨w,B,q,x⟩:=HY v;try simp only[Int.reduceToNat,Li] at q
 have⟨C,y,H35⟩:=AP H30;have o:=Y4 m (CC .i64 w) q x.symm;refine Z1 o ?_;refine CT (cg y) ?_;refine Z1 o ?_;obtain⟨a,H37⟩ |⟨a,H37⟩:=Cb o H35
 ·refine Z1 a ?_;exact⟨_,H37,ZR []⟩
 refine Z1 a ?_;obtain⟨b,H39⟩ |⟨b,H39⟩:=Cb a H37;rotate_left
 ·refine Z1 b ?_;exact⟨_,H39,ZR []⟩
 refine Z1 b ?_;obtain⟨d,H41⟩ |⟨d,H41⟩:=Cb b H39;rotate_left
 ·refine Z1 d ?_;exact⟨_,H41,ZR []⟩
 refine Z1 d ?_;obtain⟨e,H43⟩ |⟨e,H43⟩:=Cb d H41
 ·refine Z1 e ?_;obtain⟨g,H45⟩ |⟨g,H45⟩:=Cb e H43
  ·refine Z1 g ?_;obtain⟨h,H47⟩ |⟨h,H47⟩:=Cb g H45
   ·refine Z1 h ?_;obtain⟨p,H49⟩ |⟨p,H49⟩:=Cb h H47
    ·refine Z1 p ?_;cases H49;cases j;exact As
    refine Z1 p ?_;exact⟨_,H49,ZR []⟩
   refine Z1 h ?_;exact⟨_,H47,ZR []⟩
  refine Z1 g ?_;exact⟨_,H45,ZR []⟩
 refine Z1 e ?_;exact⟨_,H43,ZR []⟩
def JS (n:Nat)(t:AC):Option Bool:=(Q6 n t.obj.type_).bind fun a=>(if a then (Vn n t.obj.id_).bind fun b=>(if b then (Q6 n t.rel).bind fun c=>(if c then (Q6 n t.sub_.type_).bind fun d=>(if d then (Vn n t.sub_.id_).bind fun e=>(if e then (if (t.sub_.rel.toList==({ data:= #[] }:ByteArray).toList) then some true else (Q6 n t.sub_.rel).bind fun f=>some f) else some false) else some false) else some false) else some false) else some false)
theorem wu {t:AC}(H:JS n t=some r):AM Tryz.prog 31 [D.ag (AE t)] (D.v (.bool r)) true:=by
 unfold JS at H;refine zP #[.tmp 2] Tryz.func31 ?_;refine ZT 1 ?_;have⟨v,j,k⟩:=AP H;refine Z0 ?_;refine CT (Yc j) ?_;refine Z0 ?_;obtain⟨a,f⟩ |⟨a,f⟩:=Ah k;rotate_left
 ·refine Z1 a ?_;cases f;exact As
 have⟨w,m,o⟩:=AP f;refine Z1 a ?_;refine CT (mL m) ?_;refine Z1 a ?_;obtain⟨g,h⟩ |⟨g,h⟩:=Ah o;rotate_left
 ·refine Z1 (Y2 a g) ?_;cases h;exact As
 have⟨x,p,H10⟩:=AP h;have i:=Y2 a g;refine Z1 i ?_;refine CT (Yc p) ?_;refine Z1 i ?_;obtain⟨b,H12⟩ |⟨b,H12⟩:=Cb i H10
 ·have⟨y,q,H14⟩:=AP H12;refine Z1 b ?_;refine CT (Yc q) ?_;refine Z1 b ?_;obtain⟨c,H16⟩ |⟨c,H16⟩:=Cb b H14
  ·have⟨z,s,H18⟩:=AP H16;refine Z1 c ?_;refine CT (mL s) ?_;refine Z1 c ?_;obtain⟨d,H20⟩ |⟨d,H20⟩:=Cb c H18
   ·refine Z1 d ?_;obtain⟨e,H22⟩ |⟨e,H22⟩:=Cb d H20
    ·refine Z1 e ?_;cases H22;exact As
    have⟨A,u,H24⟩:=AP H22;refine Z1 e ?_;refine CT (Yc u) ?_;refine Z1 e ?_;cases H24;exact As
   refine Z1 d ?_;cases H20;exact As
  refine Z1 c ?_;cases H16;exact As
 refine Z1 b ?_;cases H12;exact As
def Q7 (n:Nat)(t:AC)(a:AZ × Bool):Nat->Int->Option ((Unit) ⊕ Bool)
 |0,_=>none
 |c+1,i=>(if decide (i<(a.1.subs.length:Int)) then (idx a.1.subs i).bind fun b=>(if (b.type_.toList==t.sub_.type_.toList) then (if (b.rel.toList==t.sub_.rel.toList) then some (.inr true) else Q7 n t a c (i64.wrap (i+1))) else Q7 n t a c (i64.wrap (i+1))) else some (.inl ()))
def KX (n:Nat)(l:List AG)(t:AC):Option Bool:=(G4 n l t.obj.type_ t.rel).bind fun a=>((if a.2 then (JS n t).bind fun b=>some (!b) else some true):Option (Bool)).bind fun c=>(if c then some false else (Q7 n t a n 0:Option ((Unit) ⊕ Bool)).bind fun
   | .inl _=>some false
   | .inr r=>some r)
theorem mM {t:AC}(H:KX n l t=some r):AM Tryz.prog 12 [D.sl (List.map AS l),D.ag (AE t)] (D.v (.bool r)) true:=by
 unfold KX at H;refine zP #[.tmp 4] Tryz.func12 ?_;refine Ax ?_;refine AU (ZT 1 ?_);obtain⟨d,q,s⟩:=AP H;refine Z0 ?_;refine CT (KW q) ?_;refine Z0 ?_;refine AU (AU ?_);refine zj s (fun f h m=>⟨kp [3] f (upd 5 (.pt 1 0) (upd 24 (.v (.bool m)) AJ)),kh [0] h (upd 1 (some (.bx [.v (.string d.1.name),.d (.sl (List.map AR d.1.subs)) true,.d (.sl (List.map AY d.1.expr)) true])) AK),2⟩) (fun y u o=> ?_) fun m o=> ?_
 ·refine AQ ?_;obtain⟨a,e⟩ |⟨a,e⟩:=Ah u
  ·obtain⟨z,v,w⟩:=AP e;refine Z1 a ?_;refine CT (wu v) ?_;refine Z1 a ?_;cases w;exact ZR [(0,0),(1,12)]
  refine Z1 a ?_;cases e;exact ZR [(0,0),(1,12)]
 refine AQ ?_;obtain⟨g,H10⟩ |⟨g,H10⟩:=Ah o
 ·refine Z1 g ?_;cases H10;exact As
 refine HK g ?_;refine zi H10 (fun _ _ _=>⟨AJ,AK,0⟩) (fun A E11 H12=> ?_) fun _ H12=> ?_
 ·refine D9 E11 (fun f h i=>⟨kp [3,5] f (upd 7 (.v (.int .i64 i)) AJ),kh [0,1] h AK,2⟩) (ZR [(0,0),(1,1)]) fun c i L13=> ?_
  refine AQ ?_;obtain⟨j,H27⟩ |⟨j,H27⟩:=Ah L13
  ·obtain⟨B,C,E,x,H29⟩:=zI AR H27;have p:=Y2 j x;refine Z1 p ?_;obtain⟨b,H35⟩ |⟨b,H35⟩:=Cb p H29
   ·refine Dj b ?_;obtain⟨k,H37⟩ |⟨k,H37⟩:=Cb b H35
    ·refine Z1 k ?_;cases H37;cases H12;exact As
    refine Z1 k ?_;exact⟨_,H37,ZR [(0,0),(1,1)]⟩
   refine Dj b ?_;exact⟨_,H35,ZR [(0,0),(1,1)]⟩
  refine Z1 j ?_;cases H27;exact⟨_,rfl,ZR []⟩
 refine AQ ?_;cases H12;exact As
end Go.Proofs.YtnmkbmefohakmaaGreat.Ab
