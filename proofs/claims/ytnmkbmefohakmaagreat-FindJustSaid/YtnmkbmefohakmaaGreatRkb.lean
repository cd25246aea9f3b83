/-
 Functions, read off the code.
-/
import Derived.Test.YtnmkbmefohakmaaGreatRka
set_option linter.all false
namespace Go.Proofs.YtnmkbmefohakmaaGreat.Ab
open Go.RowKit IntKind
def Pi (n:Nat)(a:List Ai)(e:Int)(f:List An)(g:Int):Nat->(List Int × Bool × Int)->Option ((List Int × Bool) ⊕ (List Ai × List Int × Bool))
 |0,_=>none
 |c+1,(b,i,d)=>(if decide (d<(a.length:Int)) then ((idx a d).bind fun j=>(idx f g).bind fun k=>(if (j.t.toList==k.type_.toList) then some (!(j.rel.toList==k.rel.toList)) else some true):Option (Bool)).bind fun m=>(if m then Pi n a e f g c (b,i,(i64.wrap (d+1))) else (idx b d).bind fun l=>(idx f g).bind fun p=>((if p.less then some (i64.wrap (l+1)) else some l):Option (Int)).bind fun h=>(idx b e).bind fun q=>(if decide (q<h) then (some (List.set b (Int.toNat e) h)).bind fun r=>(if decide ((a.length:Int)<h) then some (.inr ([],[],false)) else Pi n a e f g c (r,false,(i64.wrap (d+1)))) else (if decide ((a.length:Int)<h) then some (.inr ([],[],false)) else Pi n a e f g c (b,i,(i64.wrap (d+1)))))) else some (.inl (b,i)))
def TZ (n:Nat)(d:List Ai)(e:Int)(a:List An):Nat->(List Int × Bool × Int)->Option ((List Int × Bool) ⊕ (List Ai × List Int × Bool))
 |0,_=>none
 |c+1,(f,g,b)=>(if decide (b<(a.length:Int)) then (Pi n d e a b n (f,g,0):Option ((List Int × Bool) ⊕ (List Ai × List Int × Bool))).bind fun | .inl (h,i)=>TZ n d e a c (h,i,(i64.wrap (b+1))) | .inr r=>some (.inr r) else some (.inl (f,g)))
def Ta (n:Nat)(t0:List AG)(a:List Ai):Nat->(List Int × Bool × Int)->Option ((List Int × Bool) ⊕ (List Ai × List Int × Bool))
 |0,_=>none
 |c+1,(d,e,b)=>(if decide (b<(a.length:Int)) then (idx a b).bind fun f=>(G5 n t0 f.t f.rel).bind fun g=>(TZ n a b g n (d,e,0):Option ((List Int × Bool) ⊕ (List Ai × List Int × Bool))).bind fun | .inl (h,i)=>Ta n t0 a c (h,i,(i64.wrap (b+1))) | .inr r=>some (.inr r) else some (.inl (d,e)))
def WB (n:Nat)(t0:List AG)(a:List Ai):Nat->(List Int × Int)->Option ((Unit) ⊕ (List Ai × List Int × Bool))
 |0,_=>none
 |c+1,(e,b)=>(if (decide (b<=(i64.wrap ((i64.wrap ((a.length:Int)*(a.length:Int)))+1)))) then (Ta n t0 a n (e,true,0):Option ((List Int × Bool) ⊕ (List Ai × List Int × Bool))).bind fun | .inl (d,f)=>(if f then some (.inr (a,d,true)) else WB n t0 a c (d,(i64.wrap (b+1)))) | .inr r=>some (.inr r) else some (.inl ()))
def RP (n:Nat)(t0:List AG):Option (List Ai × List Int × Bool):=(TY n t0).bind fun a=>(Vq (a.length:Int)).bind fun l=>(WB n t0 a n (l,0):Option ((Unit) ⊕ (List Ai × List Int × Bool))).bind fun
  | .inl _=>some ([],[],false)
  | .inr r=>some r
variable {n:Nat}{o:Ae}{rel:ByteArray}
set_option maxHeartbeats 8000000 in
theorem na {t0:List AG}{r:List Ai × List Int × Bool}(H:RP n t0=some r):AM Tryz.prog 40 [D.sl (List.map AS t0)] (D.tu [D.sl (List.map CK r.1),D.sl (List.map eI r.2.1),D.v (.bool r.2.2)]) true:=by
 unfold RP at H;refine zP #[.tmp 2,.tmp 3,.tmp 4] Tryz.func40 ?_;refine Ax ?_;refine AU (ZT 1 ?_);obtain⟨a4,b1,H2⟩:=AP H;refine Z0 ?_;refine CT (xn b1) ?_;refine DQ ?_;obtain⟨l,b3,H4⟩:=AP H2;obtain⟨h5,h6,h7⟩:=w9 b3;have h8:List.replicate l.length [D.v (.int .i64 0)]=List.map eI l:=h7 .i64
 try simp -implicitDefEqProofs only[go_sem,Nat.reduceLT,Nat.reduceAdd,Nat.reduceLeDiff, ↓reduceIte,(h5 .i64),h6,h8,Lc]
 refine AU (AU ?_);refine ZT 1 ?_;try simp -implicitDefEqProofs only[go_sem,Nat.reduceAdd]
 refine zi H4 (fun _ _ _=>⟨AJ,AK,0⟩) (fun e_ E9 H10=> ?_) fun _ H10=> ?_;rotate_left
 ·refine AQ ?_;cases H10;exact As
 refine D9 E9 (fun f _ (m,F)=>⟨kp [0,5] f (upd 6 (.so 0 0 0 (m.length)) (upd 7 (.v (.int .i64 F)) AJ)),upd 0 (some (.rw (List.map eI m) 1 0 false false)) AK,1⟩) (ZR [(0,8)]) fun c ⟨m,F⟩ L11=> ?_
 refine Ax ?_;obtain⟨e,H529⟩ |⟨e,H529⟩:=Ah L11;rotate_left
 ·refine Z1 e ?_;cases H529;exact⟨_,rfl,ZR []⟩
 refine MX e ?_;refine AU (AU ?_);refine ES e ?_;refine zi H529 (fun f _ (p,G)=>⟨kp [0,5,7] f (upd 6 (.so 0 0 0 (p.length)) (upd 8 (.v (.bool G)) AJ)),upd 0 (some (.rw (List.map eI p) 1 0 false false)) AK,1⟩) (fun a5 E530 H531=> ?_) fun⟨p,G⟩ H531=> ?_;rotate_left
 ·refine ZT 3 ?_;refine Z0 ?_;obtain⟨g,H1042⟩ |⟨g,H1042⟩:=Ah H531
  ·refine Z1 g ?_;cases H1042;cases H10;exact Rb g
  refine Z1 g ?_;exact⟨_,H1042,ZR [(0,0)]⟩
 refine D9 E530 (fun f _ (q,I,b)=>⟨kp [0,5,7] f (upd 6 (.so 0 0 0 (q.length)) (upd 8 (.v (.bool I)) (upd 9 (.v (.int .i64 b)) AJ))),upd 0 (some (.rw (List.map eI q) 1 0 false false)) AK,1⟩) (ZR [(0,0)]) fun c ⟨q,I,b⟩ L532=> ?_
 refine Ax ?_;obtain⟨i,H788⟩ |⟨i,H788⟩:=Ah L532;rotate_left
 ·refine Z1 i ?_;cases H788;exact⟨_,rfl,ZR [(0,0)]⟩
 refine J8 i ?_;obtain⟨a6,a9,ba,Y,H790⟩:=zI CK H788;obtain⟨bb,Z,H796⟩:=AP H790;have J:=Y2 i Y;refine Z1 J ?_;refine Ds (xp Z) ?_;refine nu J ?_;refine zi H796 (fun f _ (s,K)=>⟨kp [0,5,7,9] f (upd 6 (.so 0 0 0 (s.length)) (upd 8 (.v (.bool K)) AJ)),upd 0 (some (.rw (List.map eI s) 1 0 false false)) AK,1⟩) (fun bd E797 H798=> ?_) fun⟨s,K⟩ H798=> ?_;rotate_left
 ·refine FN ?_;exact⟨_,H798,ZR [(0,0)]⟩
 refine D9 E797 (fun f _ (t,L,M)=>⟨kp [0,5,7,9,10] f (upd 6 (.so 0 0 0 (t.length)) (upd 8 (.v (.bool L)) (upd 11 (.v (.int .i64 M)) AJ))),upd 0 (some (.rw (List.map eI t) 1 0 false false)) AK,1⟩) (ZR [(0,0)]) fun c ⟨t,L,M⟩ L799=> ?_
 refine Ax ?_;obtain⟨u,H921⟩ |⟨u,H921⟩:=Ah L799;rotate_left
 ·refine Z1 u ?_;cases H921;exact⟨_,rfl,ZR [(0,0)]⟩
 refine MX u ?_;refine zi H921 (fun f _ (v,N)=>⟨kp [0,5,7,9,10,11] f (upd 6 (.so 0 0 0 (v.length)) (upd 8 (.v (.bool N)) AJ)),upd 0 (some (.rw (List.map eI v) 1 0 false false)) AK,1⟩) (fun be E922 H923=> ?_) fun⟨v,N⟩ H923=> ?_;rotate_left
 ·refine FN ?_;exact⟨_,H923,ZR [(0,0)]⟩
 refine D9 E922 (fun f _ (a,O,P)=>⟨kp [0,5,7,9,10,11] f (upd 6 (.so 0 0 0 (a.length)) (upd 8 (.v (.bool O)) (upd 12 (.v (.int .i64 P)) AJ))),upd 0 (some (.rw (List.map eI a) 1 0 false false)) AK,1⟩) (ZR [(0,0)]) fun c ⟨a,O,P⟩ L924=> ?_
 refine Ax ?_;obtain⟨x,H983⟩ |⟨x,H983⟩:=Ah L924;rotate_left
 ·refine Z1 x ?_;cases H983;exact⟨_,rfl,ZR [(0,0)]⟩
 refine Z1 x ?_;refine AU (CV ?_);refine AU (AU ?_);refine zj H983 (fun f h Q=>⟨kp [0,5,6,7,8,9,10,11,12] f (upd 82 (.v (.bool Q)) AJ),kh [0] h AK,1⟩) (fun bg E984 H985=> ?_) fun Q H985=> ?_
 ·refine ZT 1 ?_;obtain⟨bl,bo,br,aa,H987⟩:=zI CK E984;obtain⟨bs,bx,b0,ab,H993⟩:=zI Ao H987;have R:=Y2 aa ab;refine Z1 R ?_;obtain⟨y,H999⟩ |⟨y,H999⟩:=Cb R H993
  ·refine Dj y ?_;cases H999;exact ZR [(0,0)]
  refine Dj y ?_;cases H999;exact ZR [(0,0)]
 refine AQ ?_;obtain⟨j,H1001⟩ |⟨j,H1001⟩:=Ah H985
 ·refine WV j ?_;exact⟨_,H1001,ZR [(0,0)]⟩
 refine Ct j ?_;obtain⟨b2,b4,ad,ag,H1003⟩:=zI eI H1001;have ak:=EN ad;have S:=Y3 j ag ak;refine Z1 S ?_;refine AU (AU ?_);refine ZT 1 ?_;obtain⟨b5,b6,b7,ao,H1009⟩:=zI Ao H1003;refine Z1 (Y2 S ao) ?_;refine zj H1009 (fun f h k=>⟨kp [0,5,6,7,8,9,10,11,12] f (upd 13 (.v (.int .i64 k)) AJ),kh [0] h AK,1⟩) (fun b8 E1014 H1015=> ?_) fun k H1015=> ?_
 ·refine AQ ?_;obtain⟨z,H1017⟩ |⟨z,H1017⟩:=Ah E1014
  ·refine Z1 z ?_;cases H1017;exact ZR [(0,0)]
  refine Z1 z ?_;cases H1017;exact ZR [(0,0)]
 refine ZT 3 ?_;obtain⟨b9,cb,aq,av,H1019⟩:=zI eI H1015;have aE:=EN aq;have A:=Y2 av aE;refine Z1 A ?_;obtain⟨B,H1025⟩ |⟨B,H1025⟩:=Ah H1019
 ·obtain⟨d,a0,H1027⟩:=AP H1025;have T:List.set a (Int.toNat b) k=d:=LI a0;have U:List.set (List.map eI a) (Int.toNat b) [.v (.int .i64 k)]=List.map eI d:=by rw[<-T,NF]
  try simp only[Lh,Lu] at U
  have a1:a.length=d.length:=by rw[<-T,NS]
  have a2:∀w,AV.so 0 w 0 a.length=AV.so 0 w 0 d.length:=fun w=>by rw[a1]
  have a3:(Int.toNat b)<d.length:=by omega
  have V:=Y5 A B U a2 a3;refine Z1 V ?_;obtain⟨C,H1034⟩ |⟨C,H1034⟩:=Cb V H1027
  ·refine Z1 C ?_;cases H1034;cases H923;cases H798;cases H531;cases H10;exact As
  refine Z1 C ?_;exact⟨_,H1034,ZR [(0,0)]⟩
 have X:=Y2 A B;refine Z1 X ?_;obtain⟨E,H1036⟩ |⟨E,H1036⟩:=Cb X H1025
 ·refine Z1 E ?_;cases H1036;cases H923;cases H798;cases H531;cases H10;exact As
 refine Z1 E ?_;exact⟨_,H1036,ZR [(0,0)]⟩
def xh_ (n:Nat)(l:List AG):Nat->Int->Option ((Unit) ⊕ Int)
 |0,_=>none
 |c+1,i=>(if decide (i<(l.length:Int)) then (Fd l 0 (i64.wrap (i+1))).bind fun a=>(V6 n a).bind fun b=>(if b then some (.inr 11) else xh_ n l c (i64.wrap (i+1))) else some (.inl ()))
def Tb (n:Nat)(l:List AG)(d:Int):Nat->Int->Option ((Unit) ⊕ Int)
 |0,_=>none
 |c+1,a=>(idx l d).bind fun b=>(if decide (a<(b.rels.length:Int)) then (idx b.rels a).bind fun f=>(WA n l b.name f).bind fun e=>(if (e != 0) then some (.inr e) else Tb n l d c (i64.wrap (a+1))) else some (.inl ()))
def xT_ (n:Nat)(l:List AG):Nat->Int->Option ((Unit) ⊕ Int)
 |0,_=>none
 |c+1,a=>(if decide (a<(l.length:Int)) then (Tb n l a n 0:Option ((Unit) ⊕ Int)).bind fun | .inl _=>xT_ n l c (i64.wrap (a+1)) | .inr r=>some (.inr r) else some (.inl ()))
def WC (n:Nat)(l:List AG):Option Int:=
 (
  xh_ n l n 0:Option ((Unit) ⊕ Int)).bind fun
  | .inl _=>
   (
    xT_ n l n 0:Option ((Unit) ⊕ Int)).bind fun
    | .inl _=>
     (RP n l).bind fun a=>
     (if a.2.2 then
      some 0
     else
      some 14)
    | .inr r=>some r
  | .inr r=>some r
theorem xq {l:List AG}{r:Int}(H:WC n l=some r):AM Tryz.prog 16 [D.sl (List.map AS l)] (D.v (.int .i64 r)) true:=by
 unfold WC at H;refine zP #[.tmp 2] Tryz.func16 ?_;refine JA ?_;refine zi H (fun f _ _=>⟨kp [0] f AJ,AK,0⟩) (fun J w a=> ?_) fun _ a=> ?_
 ·refine D9 w (fun f _ i=>⟨kp [0] f (upd 3 (.v (.int .i64 i)) AJ),AK,0⟩) (ZR []) fun c i x=> ?_
  refine AQ ?_;obtain⟨b,H20⟩ |⟨b,H20⟩:=Ah x
  ·obtain⟨y,z,H22⟩:=AP H20;obtain⟨A,B,K,C⟩:=KO z;have q:0<=Int.toNat (i64.wrap (i+1)):=(by omega);have s:Int.toNat (i64.wrap (i+1))<=(List.length l):=(by omega);have t:List.take (Int.toNat (i64.wrap (i+1))) (List.map AS l)=List.map AS y:=by rw[C];simp[NZ]
   try simp only[Li] at q s t
   obtain⟨L,E,H31⟩:=AP H22;have d:=Y6 b (CC .i64 (NC A B)) q s t (Fm (n:=2) (f:=AS) (fun _=>rfl) l);refine Z1 d ?_;refine CT (xi E) ?_;refine Z1 d ?_;obtain⟨e,H33⟩ |⟨e,H33⟩:=Cb d H31
   ·refine Z1 e ?_;cases H33;cases a;exact As
   refine Z1 e ?_;exact⟨_,H33,ZR []⟩
  refine Z1 b ?_;cases H20;exact⟨_,rfl,ZR []⟩
 refine Dy ?_;refine zi a (fun f _ _=>⟨kp [0] f AJ,AK,0⟩) (fun M E34 H35=> ?_) fun _ H35=> ?_;rotate_left
 ·refine ZT 1 ?_;obtain⟨N,F,H122⟩:=AP H35;refine Z0 ?_;refine CT (na F) ?_;refine Z0 ?_;obtain⟨g,H124⟩ |⟨g,H124⟩:=Ah H122
  ·refine Z1 g ?_;cases H124;exact As
  refine Z1 g ?_;cases H124;exact As
 refine D9 E34 (fun f _ u=>⟨kp [0] f (upd 4 (.v (.int .i64 u)) AJ),AK,0⟩) (ZR []) fun c u L36=> ?_
 refine Ax ?_;obtain⟨h,H80⟩ |⟨h,H80⟩:=Ah L36
 ·refine MX h ?_;refine zi H80 (fun f _ _=>⟨kp [0,4] f AJ,AK,0⟩) (fun O E81 H82=> ?_) fun _ H82=> ?_
  ·refine D9 E81 (fun f _ v=>⟨kp [0,4] f (upd 5 (.v (.int .i64 v)) AJ),AK,0⟩) (ZR []) fun c v L83=> ?_
   refine ZT 1 ?_;obtain⟨P,Q,R,j,H103⟩:=zI AS L83;refine Z1 j ?_;obtain⟨k,H109⟩ |⟨k,H109⟩:=Ah H103
   ·obtain⟨S,T,U,G,H111⟩:=zI Al H109;obtain⟨V,I,H117⟩:=AP H111;have m:=Y3 j k G;refine Z1 m ?_;refine Ds (xm I) ?_;refine Dj m ?_;obtain⟨p,H119⟩ |⟨p,H119⟩:=Cb m H117
    ·refine Z1 p ?_;cases H119;cases H82;cases H35;exact As
    refine Z1 p ?_;exact⟨_,H119,ZR []⟩
   refine Z1 (Y2 j k) ?_;cases H109;exact⟨_,rfl,ZR []⟩
  refine FN ?_;exact⟨_,H82,ZR []⟩
 refine Z1 h ?_;cases H80;exact⟨_,rfl,ZR []⟩
def RQ (n:Nat)(w:CU)(o:Ae)(rel:ByteArray):Nat->Int->Option ((Unit) ⊕ Bool)
 |0,_=>none
 |c+1,i=>(if decide (i<(w.refs.length:Int)) then (idx w.refs i).bind fun a=>(if (a.rel.toList==rel.toList) then (if ((a.obj.type_==o.type_)&&(a.obj.id_==o.id_)) then (idx w.is i).bind fun b=>some (.inr b) else RQ n w o rel c (i64.wrap (i+1))) else RQ n w o rel c (i64.wrap (i+1))) else some (.inl ()))
def MU (n:Nat)(w:CU)(o:Ae)(rel:ByteArray):Option Bool:=(RQ n w o rel n 0:Option ((Unit) ⊕ Bool)).bind fun
  | .inl _=>some false
  | .inr r=>some r
theorem Yv {w:CU}{r:Bool}(H:MU n w o rel=some r):AM Tryz.prog 52 [D.pt (EG w) 0,D.ag (DF o),D.v (.string rel)] (D.v (.bool r)) true:=by
 unfold MU at H;refine zP #[.tmp 6] Tryz.func52 ?_;refine JA ?_;refine zi H (fun _ _ _=>⟨AJ,AK,0⟩) (fun p j b=> ?_) fun _ b=> ?_
 ·refine D9 j (fun f h i=>⟨kp [2,4] f (upd 0 (.d (.pt [.sl (List.map AS w.l),.sl (List.map AE w.rows_),.sl (List.map AF w.refs),.sl (List.map eB w.is),.v (.string w.s.type_),.v (.string w.s.id_),.v (.string w.s.rel)] 0) true) (upd 7 (.v (.int .i64 i)) AJ)),kh [0] h AK,1⟩) (ZR [(0,0)]) fun c i k=> ?_
  refine AQ ?_;obtain⟨d,H23⟩ |⟨d,H23⟩:=Ah k
  ·obtain⟨q,s,t,l,H25⟩:=zI AF H23;have g:=Y2 d l;refine Z1 g ?_;obtain⟨a,H31⟩ |⟨a,H31⟩:=Cb g H25
   ·refine Dj a ?_;obtain⟨e,H33⟩ |⟨e,H33⟩:=Ah H31
    ·obtain⟨u,v,x,m,H35⟩:=zI eB H33;refine Z1 (Y3 a e m) ?_;cases H35;cases b;exact As
    refine Z1 (Y2 a e) ?_;exact⟨_,H33,ZR [(0,0)]⟩
   refine Dj a ?_;exact⟨_,H31,ZR [(0,0)]⟩
  refine Z1 d ?_;cases H23;exact⟨_,rfl,ZR []⟩
 refine AQ ?_;cases b;exact As
def RR (n:Nat)(l:List AC)(t:AC):Nat->(Int × Int)->Option (Int)
 |0,_=>none
 |c+1,(a,b)=>(if decide (a<b) then (idx l (i64.wrap (Int.tdiv (i64.wrap (a+b)) 2))).bind fun d=>(WP n d t).bind fun e=>(if e then RR n l t c ((i64.wrap ((i64.wrap (Int.tdiv (i64.wrap (a+b)) 2))+1)),b) else RR n l t c (a,(i64.wrap (Int.tdiv (i64.wrap (a+b)) 2)))) else some a)
def Yw (n:Nat)(l:List AC)(t:AC):Option Int:=(RR n l t n (0,(l.length:Int)):Option (Int)).bind fun a=>some a
theorem xr {l:List AC}{t:AC}{r:Int}(H:Yw n l t=some r):AM Tryz.prog 42 [D.sl (List.map AE l),D.ag (AE t)] (D.v (.int .i64 r)) true:=by
 unfold Yw at H;refine zP #[.tmp 4] Tryz.func42 ?_;refine Dg ?_;refine AU ?_;refine zj H (fun _ _ e=>⟨upd 5 (.v (.int .i64 e)) AJ,AK,0⟩) (fun s k g=> ?_) fun e g=> ?_
 ·refine D9 k (fun f h (i,j)=>⟨kp [0,3] f (upd 5 (.v (.int .i64 i)) (upd 6 (.v (.int .i64 j)) AJ)),kh [0] h AK,1⟩) (ZR [(0,0)]) fun c ⟨i,j⟩ m=> ?_
  refine AQ ?_;obtain⟨a,H17⟩ |⟨a,H17⟩:=Ah m
  ·obtain⟨u,v,w,p,H19⟩:=zI AE H17;obtain⟨x,q,H25⟩:=AP H19;have b:=Y2 a p;refine Z1 b ?_;refine Ds (dK q) ?_;refine Dj b ?_;obtain⟨d,H27⟩ |⟨d,H27⟩:=Cb b H25
   ·refine Z1 d ?_;exact⟨_,H27,ZR [(0,0)]⟩
   refine Z1 d ?_;exact⟨_,H27,ZR [(0,0)]⟩
  refine Z1 a ?_;cases H17;exact ZR []
 refine AQ ?_;cases g;exact As
def WE (n:Nat)(l:List AC)(o:Ae)(rel:ByteArray):Nat->(List AL × Int)->Option (List AL)
 |0,_=>none
 |c+1,(a,i)=>(if decide (i<(l.length:Int)) then (idx l i).bind fun b=>(if ((b.obj.type_==o.type_)&&(b.obj.id_==o.id_)) then (if (b.rel.toList==rel.toList) then (Cu a [b.sub_]).bind fun d=>WE n l o rel c (d,(i64.wrap (i+1))) else some a) else some a) else some a)
def Yx (_:Nat)(_:List AC)(o:Ae)(rel:ByteArray)(a:List AL)(x2:AC)(k:List AL->Option (List AL)):Option (List AL):=
 match a with
 |out=>
  (if ((x2.obj.type_==o.type_)&&(x2.obj.id_==o.id_)) then
   (if (x2.rel.toList==rel.toList) then
    (Cu out [x2.sub_]).bind fun b=>
    k b
   else
    some out)
  else
   some out)
def WF (_:Nat)(_:List AC)(_:Ae)(_:ByteArray)(a:List AL):Option (List AL):=
 match a with
 |out=>some out
theorem xt (n:Nat)(l:List AC)(o:Ae)(rel:ByteArray)(d:l.length<4611686018427387904)(c:Nat)(b:List AL)(a:Nat)(e:a<=l.length)(f:l.length-a<c):WE n l o rel c (match b,(a:Int) with |out,a=>(out,a))=DP (Yx n l o rel) (WF n l o rel) (l.drop a) b:=
 Gl (fun c b a=>WE n l o rel c (match b,a with |out,a=>(out,a))) l (Yx n l o rel) (WF n l o rel) (fun _ _ _=>rfl) d c b a e f
def WG (n:Nat)(l:List AC)(o:Ae)(rel:ByteArray):Option (List AL):=(Yw n l (⟨o,rel,(⟨ByteArray.empty,ByteArray.empty,ByteArray.empty⟩:AL)⟩:AC)).bind fun a=>(WE n l o rel n ([],a):Option (List AL)).bind fun b=>some b
theorem xu {l:List AC}{r:List AL}(H:WG n l o rel=some r):AM Tryz.prog 19 [D.sl (List.map AE l),D.ag (DF o),D.v (.string rel)] (D.sl (List.map AR r)) true:=by
 unfold WG at H;refine zP #[.tmp 6] Tryz.func19 ?_;refine Dg ?_;refine AU (AU ?_);refine ZT 1 ?_;obtain⟨F,v,w⟩:=AP H;refine Z0 ?_;refine CT (xr v) ?_;refine Z0 ?_;refine EJ w (fun _ _ e j=>⟨upd 7 (AW 0 j (List.map AR e)) AJ,upd 0 (Am 3 j false (List.map AR e)) AK,1⟩) (fun G x s=> ?_) fun e j s=> ?_;rotate_left
 ·refine AQ ?_;cases s;exact As
 refine DL x (fun f h (a,i) g=>⟨kp [0,2,4] f (upd 7 (AW 1 g (List.map AR a)) (upd 8 (.v (.int .i64 i)) AJ)),kh [0] h (upd 1 (Am 3 g false (List.map AR a)) AK),2⟩) 0 (ZR [(0,0)]) fun c ⟨a,i⟩ g y=> ?_
 refine AQ ?_;obtain⟨k,H19⟩ |⟨k,H19⟩:=Ah y;rotate_left
 ·refine Dj k ?_;cases H19;exact⟨g,ZR [(0,1)]⟩
 obtain⟨m,I,J,z,H21⟩:=zI AE H19;have t:=Y2 k z;refine Z1 t ?_;obtain⟨b,H27⟩ |⟨b,H27⟩:=Cb t H21
 ·refine Dj b ?_;obtain⟨p,H29⟩ |⟨p,H29⟩:=Ah H27
  ·obtain⟨d,A,H31⟩:=AP H29;obtain⟨q,u⟩:=Dp A;have q:a.length+1<=4294967296:=q;have B:List.map AR a++[[.v (.string m.sub_.type_),.v (.string m.sub_.id_),.v (.string m.sub_.rel)]]=List.map AR d:=D6 AR u;have C:a.length+1=d.length:=D7 u;have E:d.length<=4294967296:=(by omega);have K:0<d.length:=(by omega);refine Z1 (Y6 b p q B C E) ?_;rcases a with _ |⟨L,M⟩
   ·try simp only[Lu,CF,CG]
    exact⟨_,0,H31,ZR [(0,0),(1,31)]⟩
   try simp only[Lh,CF,CG]
   exact⟨_,(g+1),H31,ZR [(0,0),(1,1)]⟩
  refine Z1 (Y2 b p) ?_;cases H29;exact⟨g,ZR [(0,1)]⟩
 refine Dj b ?_;cases H27;exact⟨g,ZR [(0,1)]⟩
def Tc (n:Nat)(l:List AG)(o:Ae)(rel:ByteArray)(a:List AL):Nat->(List AL × Int)->Option (List AL)
 |0,_=>none
 |c+1,(b,i)=>(if decide (i<(a.length:Int)) then (idx a i).bind fun d=>(KX n l (⟨o,rel,d⟩:AC)).bind fun e=>(if e then (Cu b [d]).bind fun f=>Tc n l o rel a c (f,(i64.wrap (i+1))) else Tc n l o rel a c (b,(i64.wrap (i+1)))) else some b)
def dD (n:Nat)(l:List AG)(o:Ae)(rel:ByteArray)(_:List AL)(a:List AL)(x2:AL)(k:List AL->Option (List AL)):Option (List AL):=
 match a with
 |out=>
  (KX n l (⟨o,rel,x2⟩:AC)).bind fun b=>
  (if b then
   (Cu out [x2]).bind fun c=>
   k c
  else
   k out)
def dE (_:Nat)(_:List AG)(_:Ae)(_:ByteArray)(_:List AL)(a:List AL):Option (List AL):=
 match a with
 |out=>some out
theorem xv (n:Nat)(l:List AG)(o:Ae)(rel:ByteArray)(a:List AL)(e:a.length<4611686018427387904)(c:Nat)(d:List AL)(b:Nat)(f:b<=a.length)(g:a.length-b<c):Tc n l o rel a c (match d,(b:Int) with |out,b=>(out,b))=DP (dD n l o rel a) (dE n l o rel a) (a.drop b) d:=
 Gl (fun c d b=>Tc n l o rel a c (match d,b with |out,b=>(out,b))) a (dD n l o rel a) (dE n l o rel a) (fun _ _ _=>rfl) e c d b f g
def Pj (n:Nat)(l:List AG)(a:List AC)(o:Ae)(rel:ByteArray):Option (List AL):=(WG n a o rel).bind fun b=>(Tc n l o rel b n ([],0):Option (List AL)).bind fun c=>some c
theorem Yy {l:List AG}{s:List AC}{r:List AL}(H:Pj n l s o rel=some r):AM Tryz.prog 110 [D.sl (List.map AS l),D.sl (List.map AE s),D.ag (DF o),D.v (.string rel)] (D.sl (List.map AR r)) true:=by
 unfold Pj at H;refine zP #[.tmp 8] Tryz.func110 ?_;refine Ax ?_;refine AU (ZT 1 ?_);obtain⟨G,v,w⟩:=AP H;refine Z0 ?_;refine CT (xu v) ?_;refine DQ ?_;refine Z0 ?_;refine Dy ?_;refine EJ w (fun _ _ e j=>⟨upd 10 (AW 0 j (List.map AR e)) AJ,upd 0 (Am 3 j false (List.map AR e)) AK,1⟩) (fun I x t=> ?_) fun e j t=> ?_;rotate_left
 ·refine AQ ?_;cases t;exact As
 refine DL x (fun f h (a,i) g=>⟨kp [0,3,6,9] f (upd 10 (AW 1 g (List.map AR a)) (upd 11 (.v (.int .i64 i)) AJ)),kh [0] h (upd 1 (Am 3 g false (List.map AR a)) AK),2⟩) 0 (ZR [(0,0)]) fun c ⟨a,i⟩ g y=> ?_
 refine AQ ?_;obtain⟨k,H19⟩ |⟨k,H19⟩:=Ah y
 ·obtain⟨m,J,K,z,H21⟩:=zI AR H19;obtain⟨L,A,H27⟩:=AP H21;have b:=Y2 k z;refine Z1 b ?_;refine Ds (mM A) ?_;refine Dj b ?_;obtain⟨p,H29⟩ |⟨p,H29⟩:=Ah H27
  ·obtain⟨d,B,H31⟩:=AP H29;obtain⟨q,u⟩:=Dp B;have q:a.length+1<=4294967296:=q;have C:List.map AR a++[[.v (.string m.type_),.v (.string m.id_),.v (.string m.rel)]]=List.map AR d:=D6 AR u;have E:a.length+1=d.length:=D7 u;have F:d.length<=4294967296:=(by omega);have M:0<d.length:=(by omega);refine Z1 (Y6 b p q C E F) ?_;rcases a with _ |⟨N,O⟩
   ·try simp only[Lu,CF,CG]
    exact⟨_,0,H31,ZR [(0,0),(1,21)]⟩
   try simp only[Lh,CF,CG]
   exact⟨_,(g+1),H31,ZR [(0,0),(1,1)]⟩
  refine Z1 (Y2 b p) ?_;exact⟨_,g,H29,ZR [(0,0),(1,1)]⟩
 refine Z1 k ?_;cases H19;exact⟨g,ZR [(0,1)]⟩
def ji_ (n:Nat)(b:CU)(d:List AL):Nat->Int->Option ((Unit) ⊕ Bool)
 |0,_=>none
 |c+1,e=>(if decide (e<(d.length:Int)) then (idx d e).bind fun a=>(if ((a.type_==b.s.type_)&&((a.id_==b.s.id_)&&(a.rel==b.s.rel))) then some (.inr true) else (if (a.rel.toList==({ data:= #[] }:ByteArray).toList) then ji_ n b d c (i64.wrap (e+1)) else (MU n b (⟨a.type_,a.id_⟩:Ae) a.rel).bind fun f=>(if f then some (.inr true) else ji_ n b d c (i64.wrap (e+1))))) else some (.inl ()))
def WI (n:Nat)(a:CU)(_:List AL)(b:Unit)(x2:AL)(k:Unit->Option ((Unit) ⊕ Bool)):Option ((Unit) ⊕ Bool):=
 match b with
 |_=>
  (if ((x2.type_==a.s.type_)&&((x2.id_==a.s.id_)&&(x2.rel==a.s.rel))) then
   some (.inr true)
  else
   (if (x2.rel.toList==({ data:= #[] }:ByteArray).toList) then
    k ()
   else
    (MU n a (⟨x2.type_,x2.id_⟩:Ae) x2.rel).bind fun c=>
    (if c then
     some (.inr true)
    else
     k ())))
def Yz (_:Nat)(_:CU)(_:List AL)(a:Unit):Option ((Unit) ⊕ Bool):=
 match a with
 |_=>some (.inl ())
theorem xw (n:Nat)(d:CU)(a:List AL)(f:a.length<4611686018427387904)(c:Nat)(e:Unit)(b:Nat)(g:b<=a.length)(h:a.length-b<c):ji_ n d a c (match e,(b:Int) with |_,b=>b)=DP (WI n d a) (Yz n d a) (a.drop b) e:=
 Gl (fun c e b=>ji_ n d a c (match e,b with |_,b=>b)) a (WI n d a) (Yz n d a) (fun _ _ _=>rfl) f c e b g h
def RT (n:Nat)(d:CU)(e:AX)(a:List AL):Nat->(Bool × Int)->Option (Bool)
 |0,_=>none
 |c+1,(f,b)=>(if decide (b<(a.length:Int)) then (if f then RT n d e a c (true,(i64.wrap (b+1))) else (idx a b).bind fun g=>(MU n d (⟨g.type_,g.id_⟩:Ae) e.b).bind fun h=>RT n d e a c (h,(i64.wrap (b+1)))) else some f)
def J7 (n:Nat)(b:CU)(d:AB)(e:AZ × Bool):Nat->(List Bool × Int)->Option ((List Bool) ⊕ Bool)
 |0,_=>none
 |c+1,(a,f)=>(if decide (f<(e.1.expr.length:Int)) then (idx e.1.expr f).bind fun g=>(if (g.kind==1) then (Cu [] a).bind fun _=>(MU n b d.obj g.a).bind fun l=>(Cu a [l]).bind fun m=>J7 n b d e c (m,(i64.wrap (f+1))) else (if (g.kind==2) then (Pj n b.l b.rows_ d.obj g.a).bind fun p=>(RT n b g p n (false,0):Option (Bool)).bind fun q=>(Cu [] a).bind fun _=>(Cu a [q]).bind fun r=>J7 n b d e c (r,(i64.wrap (f+1))) else (if decide ((a.length:Int)<2) then some (.inr false) else ((idx a (i64.wrap ((a.length:Int)-2))).bind fun s=>(if s then some true else (idx a (i64.wrap ((a.length:Int)-1))).bind fun t=>some t):Option (Bool)).bind fun u=>((if (g.kind==5) then (idx a (i64.wrap ((a.length:Int)-2))).bind fun v=>(if v then (idx a (i64.wrap ((a.length:Int)-1))).bind fun w=>some w else some false) else some u):Option (Bool)).bind fun h=>(if (g.kind==4) then (idx a (i64.wrap ((a.length:Int)-2))).bind fun x=>(if x then (idx a (i64.wrap ((a.length:Int)-1))).bind fun y=>(Fd a 0 (i64.wrap ((a.length:Int)-2))).bind fun i=>(Cu [] i).bind fun _=>(Cu i [(!y)]).bind fun z=>J7 n b d e c (z,(i64.wrap (f+1))) else (Fd a 0 (i64.wrap ((a.length:Int)-2))).bind fun j=>(Cu [] j).bind fun _=>(Cu j [false]).bind fun A=>J7 n b d e c (A,(i64.wrap (f+1)))) else (if decide (a.length=0) then (Fd ([]:List Bool) 0 (i64.wrap ((([]:List Bool).length:Int)-2))).bind fun _=>J7 n b d e c ([h],(i64.wrap (f+1))) else (Fd a 0 (i64.wrap ((a.length:Int)-2))).bind fun k=>(Cu [] k).bind fun _=>(Cu k [h]).bind fun B=>J7 n b d e c (B,(i64.wrap (f+1)))))))) else some (.inl a))
def WJ (n:Nat)(a:CU)(b:AB):Option Bool:=
 (G4 n a.l b.obj.type_ b.rel).bind fun c=>
 (if ((c.1.expr.length:Int)==0) then
  (Pj n a.l a.rows_ b.obj b.rel).bind fun e=>
  (
   ji_ n a e n 0:Option ((Unit) ⊕ Bool)).bind fun
   | .inl _=>
    some false
   | .inr r=>some r
 else
  (
   J7 n a b c n ([],0):Option ((List Bool) ⊕ Bool)).bind fun
   | .inl d=>
    (if ((d.length:Int)==1) then
     (idx d 0).bind fun f=>
     some f
    else
     some false)
   | .inr r=>some r)
set_option maxHeartbeats 8000000 in
theorem xx {e:CU}{t1:AB}{r:Bool}(H:WJ n e t1=some r):AM Tryz.prog 80 [D.pt (EG e) 0,D.ag (AF t1)] (D.v (.bool r)) true:=by
 unfold WJ at H;refine zP #[.tmp 4] Tryz.func80 ?_;refine Ax ?_;refine AU (ZT 1 ?_);obtain⟨O,b1,H2⟩:=AP H;refine Z0 ?_;refine Ds (KW b1) ?_;refine Ki ?_;refine Dy ?_;obtain⟨j,P⟩ |⟨j,P⟩:=Ah H2
 ·refine ED (by rfl) j ?_;refine Ct j ?_;obtain⟨f6,b5,H6⟩:=AP P;refine Z1 j ?_;refine Ds (Yy b5) ?_;refine Dj j ?_;refine AU (AU ?_);refine ES j ?_;refine zi H6 (fun _ _ _=>⟨AJ,AK,0⟩) (fun e_ E7 B=> ?_) fun _ B=> ?_;rotate_left
  ·refine AQ ?_;cases B;exact As
  refine D9 E7 (fun f _ t8=>⟨kp [7] f (upd 0 (.d (.pt [.sl (List.map AS e.l),.sl (List.map AE e.rows_),.sl (List.map AF e.refs),.sl (List.map eB e.is),.v (.string e.s.type_),.v (.string e.s.id_),.v (.string e.s.rel)] 0) true) (upd 8 (.v (.int .i64 t8)) AJ)),AK,0⟩) (ZR []) fun c t8 L9=> ?_
  refine AQ ?_;obtain⟨Q,H27⟩ |⟨Q,H27⟩:=Ah L9
  ·obtain⟨x2,f7,f8,dp,H29⟩:=zI AR H27;have br:=Y2 Q dp;refine Z1 br ?_;obtain⟨w,H35⟩ |⟨w,H35⟩:=Cb br H29
   ·refine Z1 w ?_;refine DD (by kernel_rfl) ?_;refine Z1 w ?_;cases H35;cases B;exact As
   refine Z1 w ?_;obtain⟨q,H37⟩ |⟨q,H37⟩:=Cb w H35
   ·refine Z1 q ?_;refine DD (by kernel_rfl) ?_;refine Z1 q ?_;exact⟨_,H37,ZR []⟩
   obtain⟨gb,dq,H39⟩:=AP H37;refine Z1 q ?_;refine Ds (Yv dq) ?_;refine Z1 q ?_;refine DD (by kernel_rfl) ?_;refine Z1 q ?_;obtain⟨R,H41⟩ |⟨R,H41⟩:=Cb q H39
   ·refine Z1 R ?_;cases H41;cases B;exact As
   refine Z1 R ?_;exact⟨_,H41,ZR []⟩
  refine Z1 Q ?_;cases H27;exact⟨_,rfl,ZR []⟩
 refine DI (by rfl) j ?_;refine WV j ?_;refine AU (ZT 1 ?_);refine HK j ?_;refine WU P (fun _ _ C S=>⟨upd 9 (AW 0 S (List.map eB C)) AJ,upd 0 (Am 1 S false (List.map eB C)) AK,1⟩) (fun ge E43 H44=> ?_) fun C S H44=> ?_;rotate_left
 ·refine AQ ?_;obtain⟨T,H302⟩ |⟨T,H302⟩:=Ah H44
  ·obtain⟨gh,dr,U,H304⟩:=HJ H302
   try simp only[Int.reduceToNat] at U
   have ds:=Cz eB U;have dt:=EN U;have bs:0<C.length:=(by omega);refine Z1 (Y6 T (CC .i64 dr) ds dt (YV (f:=eB) bs) (YO (f:=eB) bs)) ?_;cases H304;exact As
  refine Z1 T ?_;cases H302;exact As
 refine DL E43 (fun f h (d,bx) g=>⟨kp [3] f (upd 0 (.d (.pt [.sl (List.map AS e.l),.sl (List.map AE e.rows_),.sl (List.map AF e.refs),.sl (List.map eB e.is),.v (.string e.s.type_),.v (.string e.s.id_),.v (.string e.s.rel)] 0) true) (upd 5 (.pt 1 0) (upd 9 (AW 2 g (List.map eB d)) (upd 10 (.v (.int .i64 bx)) AJ)))),kh [0] h (upd 1 (some (.bx [.v (.string O.1.name),.d (.sl (List.map AR O.1.subs)) true,.d (.sl (List.map AY O.1.expr)) true])) (upd 2 (Am 1 g false (List.map eB d)) AK)),3⟩) 0 (ZR [(0,0),(1,15)]) fun c ⟨d,bx⟩ g L45=> ?_
 refine Ax ?_;obtain⟨E,H89⟩ |⟨E,H89⟩:=Ah L45;rotate_left
 ·refine Z1 E ?_;cases H89;exact⟨_,g,rfl,ZR [(0,2)]⟩
 refine J8 E ?_;obtain⟨t,gi,gn,dw,H91⟩:=zI AY H89;have x:=Y2 E dw;refine Gt x ?_;refine AU (ZT 1 ?_);refine Z1 x ?_;refine CV ?_;refine AU (ZT 1 ?_);refine Z1 x ?_;obtain⟨y,H97⟩ |⟨y,H97⟩:=Ah H91
 ·refine ED (by rfl) y ?_;have b0:=Y2 x y;refine Z1 b0 ?_;refine ZT 4 ?_;obtain⟨l,dy,H99⟩:=AP H97;obtain⟨V,X⟩:=Dp dy;have X:d=l:=X;subst X;have V:d.length<=4294967296:=by have:=V;simpa using this
  obtain⟨dS,d0,H105⟩:=AP H99;have b2:=Y3 b0 (Fm (n:=1) (f:=eB) (fun _=>rfl) d) V;refine Z1 b2 ?_;refine Ds (Yv d0) ?_;obtain⟨F,d1,H107⟩:=AP H105;obtain⟨Y,b3⟩:=Dp d1;have Y:d.length+1<=4294967296:=Y;have d2:List.map eB d++[[.v (.bool dS)]]=List.map eB F:=D6 eB b3;have d3:d.length+1=F.length:=D7 b3;have d4:F.length<=4294967296:=by omega
  have go:0<F.length:=by omega
  have b4:=Y5 b2 Y d2 d3 d4;refine Z1 b4 ?_;refine DD (by (cases d<;>rfl)) ?_;refine Z1 b4 ?_;exact⟨_,2,H107,ZR [(0,0),(1,1),(2,22)]⟩
 refine DI (by rfl) y ?_;have Z:=Y2 x y;refine Gt Z ?_;obtain⟨z,H115⟩ |⟨z,H115⟩:=Ah H97
 ·refine ED (by rfl) z ?_;have G:=Y2 Z z;refine Ct G ?_;obtain⟨gs,ea,H117⟩:=AP H115;refine Z1 G ?_;refine Ds (Yy ea) ?_;refine nu G ?_;refine AU (AU ?_);refine ES G ?_;refine EJ H117 (fun f h aa ab=>⟨kp [3,5,10] f (upd 0 (.d (.pt [.sl (List.map AS e.l),.sl (List.map AE e.rows_),.sl (List.map AF e.refs),.sl (List.map eB e.is),.v (.string e.s.type_),.v (.string e.s.id_),.v (.string e.s.rel)] 0) true) (upd 9 (AW 2 ab (List.map eB d)) (upd 14 (.v (.bool aa)) AJ))),kh [0,1] h (upd 2 (Am 1 ab false (List.map eB d)) AK),3⟩) (fun gL E118 H119=> ?_) fun aa ab H119=> ?_
  ·refine DL E118 (fun f h (b6,b7) u=>⟨kp [3,5,10,13] f (upd 0 (.d (.pt [.sl (List.map AS e.l),.sl (List.map AE e.rows_),.sl (List.map AF e.refs),.sl (List.map eB e.is),.v (.string e.s.type_),.v (.string e.s.id_),.v (.string e.s.rel)] 0) true) (upd 9 (AW 2 u (List.map eB d)) (upd 11 (.pt 3 0) (upd 14 (.v (.bool b6)) (upd 15 (.v (.int .i64 b7)) AJ))))),kh [0,1] h (upd 2 (Am 1 u false (List.map eB d)) (upd 3 (some (.bx [.v (.int .i64 t.kind),.v (.string t.a),.v (.string t.b)])) AK)),4⟩) g (ZR [(0,0),(1,1),(2,2),(3,13)]) fun c ⟨b6,b7⟩ u L120=> ?_
   refine AQ ?_;obtain⟨A,H132⟩ |⟨A,H132⟩:=Ah L120
   ·refine Z1 A ?_;obtain⟨ad,H134⟩ |⟨ad,H134⟩:=Ah H132
    ·have eb:=Y2 A ad;refine Dj eb ?_;exact⟨_,u,H134,ZR [(0,0),(1,1),(2,2),(3,3)]⟩
    obtain⟨x8,gR,g0,ed,H136⟩:=zI AR H134;obtain⟨g1,ee,H142⟩:=AP H136;have b8:=Y3 A ad ed;refine Z1 b8 ?_;refine Ds (Yv ee) ?_;refine Dj b8 ?_;exact⟨_,u,H142,ZR [(0,0),(1,1),(2,2),(3,3)]⟩
   refine Z1 A ?_;cases H132;exact⟨u,ZR [(0,0),(1,1),(2,2)]⟩
  refine ZT 4 ?_;obtain⟨l3,ef,H144⟩:=AP H119;obtain⟨ag,ak⟩:=Dp ef;have ak:d=l3:=ak;subst ak;have ag:d.length<=4294967296:=by have:=ag;simpa using this
  obtain⟨I,eg,H150⟩:=AP H144;obtain⟨ao,b9⟩:=Dp eg;have ao:d.length+1<=4294967296:=ao;have eh:List.map eB d++[[.v (.bool aa)]]=List.map eB I:=D6 eB b9;have ek:d.length+1=I.length:=D7 b9;have el:I.length<=4294967296:=by omega
  have g2:0<I.length:=by omega
  refine Z1 (Y6 (Fm (n:=1) (f:=eB) (fun _=>rfl) d) ag ao eh ek el) ?_;exact⟨_,2,H150,ZR [(0,0),(1,1),(2,3)]⟩
 refine DI (by rfl) z ?_;have cb:=Y2 Z z;refine Gt cb ?_;obtain⟨aq,H159⟩ |⟨aq,H159⟩:=Cb cb H115
 ·refine Z1 aq ?_;cases H159;cases H44;exact As
 refine Z1 aq ?_;refine AU ?_;refine EJ H159 (fun f h cf v=>⟨kp [3,5,10,12] f (upd 0 (.d (.pt [.sl (List.map AS e.l),.sl (List.map AE e.rows_),.sl (List.map AF e.refs),.sl (List.map eB e.is),.v (.string e.s.type_),.v (.string e.s.id_),.v (.string e.s.rel)] 0) true) (upd 9 (AW 2 v (List.map eB d)) (upd 11 (.pt 3 0) (upd 16 (.v (.bool cf)) AJ)))),kh [0,1] h (upd 2 (Am 1 v false (List.map eB d)) (upd 3 (some (.bx [.v (.int .i64 t.kind),.v (.string t.a),.v (.string t.b)])) AK)),4⟩) (fun g3 E160 H161=> ?_) fun cf v H161=> ?_
 ·refine ZT 1 ?_;obtain⟨x9,g4,em,en,H163⟩:=zI eB E160;have eo:=EN em;have ch:0<d.length:=by omega
  have av:=Y4 en eo (YV (f:=eB) ch) (YO (f:=eB) ch);refine Z1 av ?_;obtain⟨aE,H170⟩ |⟨aE,H170⟩:=Ah H163
  ·refine Z1 (Y2 av aE) ?_;cases H170;exact⟨g,ZR [(0,0),(1,1),(2,2),(3,13)]⟩
  obtain⟨g5,g6,eq,er,H172⟩:=zI eB H170;have es:=EN eq;refine Z1 (Y4 av aE er es) ?_;cases H172;exact⟨g,ZR [(0,0),(1,1),(2,2),(3,13)]⟩
 refine Dy ?_;refine EJ H161 (fun f h a0 g7=>⟨kp [3,5,10,11,12] f (upd 0 (.d (.pt [.sl (List.map AS e.l),.sl (List.map AE e.rows_),.sl (List.map AF e.refs),.sl (List.map eB e.is),.v (.string e.s.type_),.v (.string e.s.id_),.v (.string e.s.rel)] 0) true) (upd 9 (AW 2 g7 (List.map eB d)) (upd 16 (.v (.bool a0)) AJ))),kh [0,1,3] h (upd 2 (Am 1 g7 false (List.map eB d)) AK),4⟩) (fun g8 E177 H178=> ?_) fun a0 g7 H178=> ?_
 ·refine AQ ?_;obtain⟨a1,H180⟩ |⟨a1,H180⟩:=Ah E177
  ·obtain⟨g9,ha,et,ew,H182⟩:=zI eB H180;have ex:=EN et;have cp:0<d.length:=(by omega);have a2:=Y5 a1 ew ex (YV (f:=eB) cp) (YO (f:=eB) cp);refine Z1 a2 ?_;obtain⟨a3,H189⟩ |⟨a3,H189⟩:=Ah H182
   ·obtain⟨hb,hc,ey,ez,H191⟩:=zI eB H189;have eA:=EN ey;refine Z1 (Y4 a2 a3 ez eA) ?_;cases H191;exact⟨v,ZR [(0,0),(1,1),(2,2),(3,3)]⟩
   refine Z1 (Y2 a2 a3) ?_;cases H189;exact⟨v,ZR [(0,0),(1,1),(2,2),(3,3)]⟩
  refine Z1 a1 ?_;cases H180;exact⟨v,ZR [(0,0),(1,1),(2,2),(3,3)]⟩
 refine ZT 4 ?_;refine Z0 ?_;obtain⟨J,H197⟩ |⟨J,H197⟩:=Ah H178
 ·obtain⟨hd,he,eD,eF,H199⟩:=zI eB H197;have eH:=EN eD;have cs:0<d.length:=by omega
  have a4:=Y5 J eF eH (YV (f:=eB) cs) (YO (f:=eB) cs);refine Z1 a4 ?_;obtain⟨a5,H206⟩ |⟨a5,H206⟩:=Ah H199
  ·obtain⟨eK,hf,eN,eP,H208⟩:=zI eB H206;have eR:=EN eN;obtain⟨k,eU,H214⟩:=AP H208;obtain⟨eV,e0,hg,cx⟩:=KO eU;have cN:0<=Int.toNat (i64.wrap ((d.length:Int)-2)):=(by omega);have c0:Int.toNat (i64.wrap ((d.length:Int)-2))<=d.length:=(by omega);have c1:Int.toNat (i64.wrap ((d.length:Int)-2))-0=k.length:=(by rw[cx];simp;try omega);have c2:List.take k.length (List.map eB d)=List.map eB k:=VJ eB cx;try simp only[Li] at cN c0 c2 c1
   obtain⟨l6,e1,H224⟩:=AP H214;obtain⟨a6,a9⟩:=Dp e1;have a9:k=l6:=a9;subst a9;have a6:k.length<=4294967296:=(by have:=a6;simpa using this);obtain⟨K,e2,H230⟩:=AP H224;obtain⟨ba,c3⟩:=Dp e2;have ba:k.length+1<=4294967296:=ba;have e3:List.map eB k++[[.v (.bool (!eK))]]=List.map eB K:=D6 eB c3;have e4:k.length+1=K.length:=D7 c3;have e5:K.length<=4294967296:=(by omega);have hh:0<K.length:=(by omega);refine Z1 (Y3 (Y6 a4 a5 eP eR (CC .i64 (NC eV e0)) cN) (Y6 c0 c1 c2 (Fm (n:=1) (f:=eB) (fun _=>rfl) k) a6 ba) (Y3 e3 e4 e5)) ?_;exact⟨_,2,H230,ZR [(0,0),(1,1),(2,21)]⟩
  obtain⟨m,e6,H238⟩:=AP H206;obtain⟨e7,e8,hi,c4⟩:=KO e6;have c5:0<=Int.toNat (i64.wrap ((d.length:Int)-2)):=by omega
  have c6:Int.toNat (i64.wrap ((d.length:Int)-2))<=d.length:=by omega
  have c7:Int.toNat (i64.wrap ((d.length:Int)-2))-0=m.length:=by rw[c4];simp;try omega
  have c9:List.take m.length (List.map eB d)=List.map eB m:=VJ eB c4;try simp only[Li] at c5 c6 c9 c7
  obtain⟨l9,e9,H248⟩:=AP H238;obtain⟨bb,bd⟩:=Dp e9;have bd:m=l9:=bd;subst bd;have bb:m.length<=4294967296:=by have:=bb;simpa using this
  obtain⟨L,fa,H254⟩:=AP H248;obtain⟨be,da⟩:=Dp fa;have be:m.length+1<=4294967296:=be;have fb:List.map eB m++[[.v (.bool false)]]=List.map eB L:=D6 eB da;have fd:m.length+1=L.length:=D7 da;have fi:L.length<=4294967296:=by omega
  have hj:0<L.length:=by omega
  refine Z1 (Y3 (Y6 a4 a5 (CC .i64 (NC e7 e8)) c5 c6 c7) (Y6 c9 (Fm (n:=1) (f:=eB) (fun _=>rfl) m) bb be fb fd) fi) ?_;exact⟨_,2,H254,ZR [(0,0),(1,1),(2,21)]⟩
 refine Z1 J ?_;obtain⟨M,H262⟩ |⟨M,H262⟩:=Ah H197
 ·have fn:d= []:=LV (of_decide_eq_true M);subst fn;simp only[Lu,Ut,Xo];try simp only[GO,GN]
  obtain⟨hk,fo,H265⟩:=AP H262;obtain⟨hl,fq,hm,hn⟩:=KO fo;exact absurd fq (by decide)
 have s:0<d.length:=by have:=of_decide_eq_false M;omega
 have fr:∀i,GO i (List.map eB d)= [i]:=fun i=>by cases hx:d with |nil=>(rw[hx] at s;simp at s) |cons a r=>rfl
 have fs:∀b,GN b (List.map eB d)=b:=fun b=>by cases hx:d with |nil=>(rw[hx] at s;simp at s) |cons a r=>rfl
 obtain⟨p,ft,H276⟩:=AP H262;obtain⟨fu,fv,ho,dd⟩:=KO ft;have df:0<=Int.toNat (i64.wrap ((d.length:Int)-2)):=by omega
 have dk:Int.toNat (i64.wrap ((d.length:Int)-2))<=d.length:=by omega
 have dl:Int.toNat (i64.wrap ((d.length:Int)-2))-0=p.length:=by rw[dd];simp;try omega
 have dm:List.take p.length (List.map eB d)=List.map eB p:=VJ eB dd;try simp only[Li] at df dk dm dl
 obtain⟨fz,f1,H286⟩:=AP H276;obtain⟨bg,bl⟩:=Dp f1;have bl:p=fz:=bl;subst bl;have bg:p.length<=4294967296:=by have:=bg;simpa using this
 obtain⟨N,f2,H292⟩:=AP H286;obtain⟨bo,dn⟩:=Dp f2;have bo:p.length+1<=4294967296:=bo;have f3:List.map eB p++[[.v (.bool a0)]]=List.map eB N:=D6 eB dn;have f4:p.length+1=N.length:=D7 dn;have f5:N.length<=4294967296:=by omega
 have hp:0<N.length:=by omega
 refine Z1 (Y3 (Y6 J M fr fs s (YV (f:=eB) s)) (Y6 (YO (f:=eB) s) (CC .i64 (NC fu fv)) df dk dl dm) (Y6 (Fm (n:=1) (f:=eB) (fun _=>rfl) p) bg bo f3 f4 f5)) ?_;exact⟨_,2,H292,ZR [(0,0),(1,1),(2,7)]⟩
end Go.Proofs.YtnmkbmefohakmaaGreat.Ab
