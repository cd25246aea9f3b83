/-
 Functions, read off the code.
-/
import Derived.Test.YtnmkbmefohakmaaGreatSog
import Derived.Test.YtnmkbmefohakmaaGreatMkz
set_option linter.all false
namespace Go.Proofs.YtnmkbmefohakmaaGreat.Ab
open Go.RowKit IntKind
def ac (_:Nat)(a:Int):Option Bool:=(if decide (97<=a) then (if decide (a<=122) then some true else (if decide (48<=a) then some (decide (a<=57)) else some false)) else (if decide (48<=a) then some (decide (a<=57)) else some false))
variable {n:Nat}{r:Bool}
theorem qt {i:Int}(H:ac n i=some r):AI Tryz.prog 142 [D.v (.int .u8 i)] (D.v (.bool r)) true:=by
 unfold ac at H;refine zP #[.tmp 2] Tryz.func142 ?_;refine AP ?_;obtain⟨a,b⟩ |⟨a,b⟩:=As H
 ·refine Z1 a ?_;obtain⟨c,d⟩ |⟨c,d⟩:=As b
  ·refine Z1 (Y2 a c) ?_;cases d;exact Ax
  have j:=Y2 a c;refine Z1 j ?_;obtain⟨e,f⟩ |⟨e,f⟩:=Cg j d
  ·refine Z1 e ?_;cases f;exact Ax
  refine Z1 e ?_;cases f;exact Ax
 refine Z1 a ?_;obtain⟨g,h⟩ |⟨g,h⟩:=As b
 ·refine Z1 (Y2 a g) ?_;cases h;exact Ax
 refine Z1 (Y2 a g) ?_;cases h;exact Ax
def ae (n:Nat)(a:Int):Option Bool:=(ac n a).bind fun b=>(if b then some true else (if (a==95) then some true else (if (a==45) then some true else some (a==46))))
theorem qu {g:Int}(H:ae n g=some r):AI Tryz.prog 143 [D.v (.int .u8 g)] (D.v (.bool r)) true:=by
 unfold ae at H;refine zP #[.tmp 2] Tryz.func143 ?_;refine ZT 1 ?_;have⟨k,i,j⟩:=AL H;refine Z0 ?_;refine Cn (qt i) ?_;refine Z0 ?_;obtain⟨a,b⟩ |⟨a,b⟩:=As j
 ·refine Z1 a ?_;cases b;exact Ax
 refine Z1 a ?_;obtain⟨c,d⟩ |⟨c,d⟩:=As b
 ·refine Z1 (Y2 a c) ?_;cases d;exact Ax
 have h:=Y2 a c;refine Z1 h ?_;obtain⟨e,f⟩ |⟨e,f⟩:=Cg h d
 ·refine Z1 e ?_;cases f;exact Ax
 refine Z1 e ?_;cases f;exact Ax
def qv (n:Nat)(s:ByteArray):Nat->Int->Option ((Unit) ⊕ Bool)
 |0,_=>none
 |c+1,a=>(if decide (a<(s.size:Int)) then (D6 s a).bind fun b=>(ae n b).bind fun d=>(if d then qv n s c (i64.wrap (a+1)) else some (.inr false)) else some (.inl ()))
def S4 (n:Nat)(s:ByteArray):Option Bool:=((if (s.toList==({ data:= #[] }:ByteArray).toList) then some true else (if decide (30<(s.size:Int)) then some true else (D6 s 0).bind fun a=>(ac n a).bind fun b=>some (!b))):Option (Bool)).bind fun c=>(if c then some false else (qv n s n 0:Option ((Unit) ⊕ Bool)).bind fun
   | .inl _=>some true
   | .inr r=>some r)
theorem af {s:ByteArray}(H:S4 n s=some r):AI Tryz.prog 115 [D.v (.string s)] (D.v (.bool r)) true:=by
 unfold S4 at H;refine zP #[.tmp 2] Tryz.func115 ?_;refine Ay ?_;refine AT (AT ?_);refine zj H (fun f _ k=>⟨kp [0] f (upd 16 (.v (.bool k)) AK),AM,0⟩) (fun E t l=> ?_) fun k l=> ?_
 ·refine AP ?_;obtain⟨a,b⟩ |⟨a,b⟩:=As t
  ·refine Z1 a ?_;cases b;exact ZR []
  refine Z1 a ?_;obtain⟨d,e⟩ |⟨d,e⟩:=As b
  ·refine Z1 (Y2 a d) ?_;cases e;exact ZR []
  have⟨F,u,v⟩:=AL e;have⟨w,G,m,x⟩:=IV u;try simp only[Int.reduceToNat] at m
  have⟨I,y,H13⟩:=AL v;have o:=Y5 a d (A8 .i64 w) m x.symm;refine Z1 o ?_;refine Cn (qt y) ?_;refine Z1 o ?_;cases H13;exact ZR []
 refine AP ?_;obtain⟨g,H15⟩ |⟨g,H15⟩:=As l
 ·refine Z1 g ?_;cases H15;exact Ax
 refine KG g ?_;refine zi H15 (fun _ _ _=>⟨AK,AM,0⟩) (fun J E16 H17=> ?_) fun _ H17=> ?_
 ·refine EG E16 (fun f _ p=>⟨kp [0,18] f (upd 19 (.v (.int .i64 p)) AK),AM,0⟩) (ZR []) fun c p L18=> ?_
  refine AP ?_;obtain⟨h,H31⟩ |⟨h,H31⟩:=As L18
  ·have⟨K,z,H33⟩:=AL H31;have⟨A,L,q,B⟩:=IV z;try simp only[Int.reduceToNat,Lk] at q
   have⟨M,C,H38⟩:=AL H33;have i:=Y4 h (A8 .i64 A) q B.symm;refine Z1 i ?_;refine Cn (qu C) ?_;refine Z1 i ?_;obtain⟨j,H40⟩ |⟨j,H40⟩:=Cg i H38
   ·refine Z1 j ?_;exact⟨_,H40,ZR []⟩
   refine Z1 j ?_;cases H40;cases H17;exact Ax
  refine Z1 h ?_;cases H31;exact⟨_,rfl,ZR []⟩
 refine AP ?_;cases H17;exact Ax
def Xj (n:Nat)(s:ByteArray):Nat->Int->Option ((Unit) ⊕ Bool)
 |0,_=>none
 |c+1,a=>(if decide (a<(s.size:Int)) then (D6 s a).bind fun b=>(ae n b).bind fun d=>(if d then Xj n s c (i64.wrap (a+1)) else (if (b != 47) then (if (b != 124) then (if (b != 42) then some (.inr false) else Xj n s c (i64.wrap (a+1))) else Xj n s c (i64.wrap (a+1))) else Xj n s c (i64.wrap (a+1)))) else some (.inl ()))
def Xk (n:Nat)(s:ByteArray):Option Bool:=(Xj n s n 0:Option ((Unit) ⊕ Bool)).bind fun
  | .inl _=>(if (s.toList==({ data:= #[] }:ByteArray).toList) then some false else some (decide ((s.size:Int)<=250)))
  | .inr r=>some r
theorem qw {s:ByteArray}(H:Xk n s=some r):AI Tryz.prog 116 [D.v (.string s)] (D.v (.bool r)) true:=by
 unfold Xk at H;refine zP #[.tmp 2] Tryz.func116 ?_;refine KF ?_;refine zi H (fun f _ _=>⟨kp [0] f AK,AM,0⟩) (fun v m e=> ?_) fun _ e=> ?_;rotate_left
 ·refine AP ?_;obtain⟨g,H39⟩ |⟨g,H39⟩:=As e
  ·refine Z1 g ?_;cases H39;exact Ax
  refine Z1 g ?_;cases H39;exact Ax
 refine EG m (fun f _ k=>⟨kp [0,6] f (upd 7 (.v (.int .i64 k)) AK),AM,0⟩) (ZR []) fun c k o=> ?_
 refine AP ?_;obtain⟨h,H22⟩ |⟨h,H22⟩:=As o;rotate_left
 ·refine Z1 h ?_;cases H22;exact⟨_,rfl,ZR []⟩
 have⟨w,p,H24⟩:=AL H22;have⟨q,x,l,t⟩:=IV p;try simp only[Int.reduceToNat,Lk] at l
 have⟨y,u,H29⟩:=AL H24;have i:=Y4 h (A8 .i64 q) l t.symm;refine Z1 i ?_;refine Cn (qu u) ?_;refine Z1 i ?_;obtain⟨a,H31⟩ |⟨a,H31⟩:=Cg i H29
 ·refine Z1 a ?_;exact⟨_,H31,ZR []⟩
 refine Z1 a ?_;obtain⟨b,H33⟩ |⟨b,H33⟩:=Cg a H31
 ·refine Z1 b ?_;obtain⟨d,H35⟩ |⟨d,H35⟩:=Cg b H33
  ·refine Z1 d ?_;obtain⟨j,H37⟩ |⟨j,H37⟩:=Cg d H35
   ·refine Z1 j ?_;cases H37;cases e;exact Ax
   refine Z1 j ?_;exact⟨_,H37,ZR []⟩
  refine Z1 d ?_;exact⟨_,H35,ZR []⟩
 refine Z1 b ?_;exact⟨_,H33,ZR []⟩
def MB (n:Nat)(t:AD):Option Bool:=(S4 n t.obj.type_).bind fun a=>(if a then (Xk n t.obj.id_).bind fun b=>(if b then (S4 n t.rel).bind fun c=>(if c then (S4 n t.sub_.type_).bind fun d=>(if d then (Xk n t.sub_.id_).bind fun e=>(if e then (if (t.sub_.rel.toList==({ data:= #[] }:ByteArray).toList) then some true else (S4 n t.sub_.rel).bind fun f=>some f) else some false) else some false) else some false) else some false) else some false)
theorem rd_ {t:AD}(H:MB n t=some r):AI Tryz.prog 92 [D.ag (AE t)] (D.v (.bool r)) true:=by
 unfold MB at H;refine zP #[.tmp 2] Tryz.func92 ?_;refine ZT 1 ?_;have⟨u,j,k⟩:=AL H;refine Z0 ?_;refine Cn (af j) ?_;refine Z0 ?_;obtain⟨a,f⟩ |⟨a,f⟩:=As k;rotate_left
 ·refine Z1 a ?_;cases f;exact Ax
 have⟨v,l,m⟩:=AL f;refine Z1 a ?_;refine Cn (qw l) ?_;refine Z1 a ?_;obtain⟨g,h⟩ |⟨g,h⟩:=As m;rotate_left
 ·refine Z1 (Y2 a g) ?_;cases h;exact Ax
 have⟨w,o,H10⟩:=AL h;have i:=Y2 a g;refine Z1 i ?_;refine Cn (af o) ?_;refine Z1 i ?_;obtain⟨b,H12⟩ |⟨b,H12⟩:=Cg i H10
 ·have⟨x,p,H14⟩:=AL H12;refine Z1 b ?_;refine Cn (af p) ?_;refine Z1 b ?_;obtain⟨c,H16⟩ |⟨c,H16⟩:=Cg b H14
  ·have⟨y,q,H18⟩:=AL H16;refine Z1 c ?_;refine Cn (qw q) ?_;refine Z1 c ?_;obtain⟨d,H20⟩ |⟨d,H20⟩:=Cg c H18
   ·refine Z1 d ?_;obtain⟨e,H22⟩ |⟨e,H22⟩:=Cg d H20
    ·refine Z1 e ?_;cases H22;exact Ax
    have⟨z,s,H24⟩:=AL H22;refine Z1 e ?_;refine Cn (af s) ?_;refine Z1 e ?_;cases H24;exact Ax
   refine Z1 d ?_;cases H20;exact Ax
  refine Z1 c ?_;cases H16;exact Ax
 refine Z1 b ?_;cases H12;exact Ax
def S5 (n:Nat)(s:AC)(t:AD):Option Bool:=(HK n s t.obj.type_ t.rel).bind fun a=>(MB n t).bind fun b=>(if b then (Si n a.1.subs (⟨t.sub_.type_,ByteArray.empty,t.sub_.rel⟩:AN)).bind fun c=>some c else some false)
theorem kP_ {s:AC}{t:AD}(H:S5 n s t=some r):AI Tryz.prog 63 [D.pt (Az s) 0,D.ag (AE t)] (D.v (.bool r)) true:=by
 unfold S5 at H;refine zP #[.tmp 4] Tryz.func63 ?_;refine ZT 1 ?_;have⟨i,c,d⟩:=AL H;refine Z0 ?_;refine Cn (Ma c) ?_;have⟨j,e,f⟩:=AL d;refine Z0 ?_;refine Cn (rd_ e) ?_;refine Z0 ?_;obtain⟨a,b⟩ |⟨a,b⟩:=As f
 ·have⟨k,g,h⟩:=AL b;refine Z1 a ?_;refine Cn (pE g) ?_;refine Z1 a ?_;cases h;exact Ax
 refine Z1 a ?_;cases b;exact Ax
def Uw (n:Nat)(g:List AD):Nat->(List (AB × (List AN)) × List (ByteArray × (List ByteArray)) × List (AN × (List AB)) × List (ByteArray × (List ByteArray)) × Int)->Option (List (AB × (List AN)) × List (ByteArray × (List ByteArray)) × List (AN × (List AB)) × List (ByteArray × (List ByteArray)))
 |0,_=>none
 |c+1,(d,b,e,f,h)=>(if decide (h<(g.length:Int)) then (CD g h).bind fun a=>DM (decide (d.length<=4294967296))<| DM (decide (b.length<=4294967296))<| DM (decide (e.length<=4294967296))<| DM (decide (f.length<=4294967296))<| (DM (Fj (⟨a.obj,a.rel⟩:AB) d)<| some ():Option (Unit)).bind fun _=>DM (decide ((Aw (⟨a.obj,a.rel⟩:AB) [a.sub_] d).length<=4294967296))<| (DM (Fj a.sub_ e)<| some ():Option (Unit)).bind fun _=>DM (decide ((Aw a.sub_ [(⟨a.obj,a.rel⟩:AB)] e).length<=4294967296))<| (DM (Fj a.obj.type_ b)<| some ():Option (Unit)).bind fun _=>(if (a.sub_.rel.toList==({ data:= #[] }:ByteArray).toList) then DM (decide ((Aw a.obj.type_ [a.obj.id_] b).length<=4294967296))<| (DM (Fj a.sub_.type_ f)<| some ():Option (Unit)).bind fun _=>DM (decide ((Aw a.sub_.type_ [a.sub_.id_] f).length<=4294967296))<| Uw n g c ((Aw (⟨a.obj,a.rel⟩:AB) [a.sub_] d),(Aw a.obj.type_ [a.obj.id_] b),(Aw a.sub_ [(⟨a.obj,a.rel⟩:AB)] e),(Aw a.sub_.type_ [a.sub_.id_] f),(i64.wrap (h+1))) else DM (decide ((Aw a.obj.type_ [a.obj.id_] b).length<=4294967296))<| Uw n g c ((Aw (⟨a.obj,a.rel⟩:AB) [a.sub_] d),(Aw a.obj.type_ [a.obj.id_] b),(Aw a.sub_ [(⟨a.obj,a.rel⟩:AB)] e),f,(i64.wrap (h+1)))) else DM (decide (d.length<=4294967296))<| DM (decide (b.length<=4294967296))<| DM (decide (e.length<=4294967296))<| DM (decide (f.length<=4294967296))<| some (d,b,e,f))
def Xl (_:Nat)(_:List AD)(e:List (AB × (List AN)) × List (ByteArray × (List ByteArray)) × List (AN × (List AB)) × List (ByteArray × (List ByteArray)))(x2:AD)(k:(List (AB × (List AN)) × List (ByteArray × (List ByteArray)) × List (AN × (List AB)) × List (ByteArray × (List ByteArray)))->Option (List (AB × (List AN)) × List (ByteArray × (List ByteArray)) × List (AN × (List AB)) × List (ByteArray × (List ByteArray)))):Option (List (AB × (List AN)) × List (ByteArray × (List ByteArray)) × List (AN × (List AB)) × List (ByteArray × (List ByteArray))):=
 match e with
 |(b,a,c,d)=>
  DM (decide (b.length<=4294967296))<|
  DM (decide (a.length<=4294967296))<|
  DM (decide (c.length<=4294967296))<|
  DM (decide (d.length<=4294967296))<|
  (
   DM (Fj (⟨x2.obj,x2.rel⟩:AB) b)<|
   some ():Option (Unit)).bind fun _=>
  DM (decide ((Aw (⟨x2.obj,x2.rel⟩:AB) [x2.sub_] b).length<=4294967296))<|
  (
   DM (Fj x2.sub_ c)<|
   some ():Option (Unit)).bind fun _=>
  DM (decide ((Aw x2.sub_ [(⟨x2.obj,x2.rel⟩:AB)] c).length<=4294967296))<|
  (
   DM (Fj x2.obj.type_ a)<|
   some ():Option (Unit)).bind fun _=>
  (if (x2.sub_.rel.toList==({ data:= #[] }:ByteArray).toList) then
   DM (decide ((Aw x2.obj.type_ [x2.obj.id_] a).length<=4294967296))<|
   (
    DM (Fj x2.sub_.type_ d)<|
    some ():Option (Unit)).bind fun _=>
   DM (decide ((Aw x2.sub_.type_ [x2.sub_.id_] d).length<=4294967296))<|
   k ((Aw (⟨x2.obj,x2.rel⟩:AB) [x2.sub_] b),(Aw x2.obj.type_ [x2.obj.id_] a),(Aw x2.sub_ [(⟨x2.obj,x2.rel⟩:AB)] c),(Aw x2.sub_.type_ [x2.sub_.id_] d))
  else
   DM (decide ((Aw x2.obj.type_ [x2.obj.id_] a).length<=4294967296))<|
   k ((Aw (⟨x2.obj,x2.rel⟩:AB) [x2.sub_] b),(Aw x2.obj.type_ [x2.obj.id_] a),(Aw x2.sub_ [(⟨x2.obj,x2.rel⟩:AB)] c),d))
def Xm (_:Nat)(_:List AD)(e:List (AB × (List AN)) × List (ByteArray × (List ByteArray)) × List (AN × (List AB)) × List (ByteArray × (List ByteArray))):Option (List (AB × (List AN)) × List (ByteArray × (List ByteArray)) × List (AN × (List AB)) × List (ByteArray × (List ByteArray))):=
 match e with
 |(a,b,c,d)=>DM (decide (a.length<=4294967296))<|
 DM (decide (b.length<=4294967296))<|
 DM (decide (c.length<=4294967296))<|
 DM (decide (d.length<=4294967296))<|
 some (a,b,c,d)
theorem g4_ (n:Nat)(a:List AD)(e:a.length<4611686018427387904)(c:Nat)(d:List (AB × (List AN)) × List (ByteArray × (List ByteArray)) × List (AN × (List AB)) × List (ByteArray × (List ByteArray)))(b:Nat)(f:b<=a.length)(g:a.length-b<c):Uw n a c (match d,(b:Int) with |(t302,t312,t322,t332),b=>(t302,t312,t322,t332,b))=Dl (Xl n a) (Xm n a) (a.drop b) d:=
 Ka (fun c d b=>Uw n a c (match d,b with |(t302,t312,t322,t332),b=>(t302,t312,t322,t332,b))) a (Xl n a) (Xm n a) (fun _ _ _=>rfl) e c d b f g
def Xn (n:Nat)(t0:List AD):Option C8:=(aF n t0).bind fun e=>(Uw n e n (([]:List (AB × (List AN))),([]:List (ByteArray × (List ByteArray))),([]:List (AN × (List AB))),([]:List (ByteArray × (List ByteArray))),0):Option (List (AB × (List AN)) × List (ByteArray × (List ByteArray)) × List (AN × (List AB)) × List (ByteArray × (List ByteArray)))).bind fun(a,b,c,d)=>DM (decide (a.length<=4294967296))<| DM (decide (b.length<=4294967296))<| DM (decide (c.length<=4294967296))<| DM (decide (d.length<=4294967296))<| some (⟨(⟨a,b⟩:Dh),(⟨c,d⟩:D0)⟩:C8)
set_option maxHeartbeats 8000000 in
theorem FO {B j:Nat}(l:j<4294967296):(∀ {K b:Type} (f:b->List D) (e a:Nat) (i:Nat->Nat) (k:List (K × List b)) (d:Hp),(a+4294967296<=B\/B+4294967296<=a)->CK f e a i k d (Cs B j)=d (Cs B j))/\
  (∀ {K b:Type} (f:b->List D) (e a:Nat) (i:Nat->Nat) (k:List (K × List b)) (x:Option AO) (d:Hp),(a+4294967296<=B\/B+4294967296<=a)->upd (Cs B j) x (CK f e a i k d)=CK f e a i k (upd (Cs B j) x d))/\
  (∀(c:Nat) (x y:Option AO) (g:Hp),(c<B\/B+4294967296<=c)->upd (Cs B j) x (upd c y g)=upd c y (upd (Cs B j) x g))/\(∀c:Nat,B+4294967296<=c->(Cs B j=c)=False)/\∀c:Nat,B+4294967296<=c->(c=Cs B j)=False:=
 ⟨fun _ _ _ _ _ _ h=>ct (by rw[D4];omega),fun _ _ _ _ _ _ _ h=>vz (by rw[D4];omega),fun _ _ _ _ h=>wA (by rw[D4];omega),fun _ h=>Rj l h,fun _ h=>vv l h⟩
theorem Zf {p q:Prop}{F:Prop}(w:F)(k:q)(e:F->p=q:=by intro w;conv=>lhs;try simp -implicitDefEqProofs only[go_sem,LT,Int.reduceToNat,Int.reduceLT,Int.reduceLE,Int.reduceBEq,Int.reduceBNe,Nat.reduceLT,Nat.reduceBEq,Int.reduceEq,Nat.reduceEqDiff,Nat.reduceAdd,Nat.reduceSub,Nat.reduceMul,Nat.reduceLeDiff,reduceCtorEq, ↓reduceIte,Ah,C3,AR,AX,AH,AE,AQ,Az,Ag,CA,or_true,true_or,lN,lO,List.set_set,Ri,WA,w]):p:=(e w).mpr k
theorem ZF {N nx:Nat}{b fr:Fr}{hp' hp:Hp}{F:Prop}(w:F)(R:Nat)(JR:Option (Nat × Nat))(rs:List Nat)(L:List (Nat × Nat))(e:∀J c,JR=some (J,c)->c=R:=by first |(intro _ _ h;cases h;done) |(intro _ _ h;cases h;rfl))(f:cu n N R rs L=true:=by rfl)(g:∀t,b t= .un\/CY (Ez n JR rs L) (b t)=some (fr t):=by repeat' (first |exact Pq _ |refine Yq (by rfl) ?_))(k:F->∀i o,hp' i=some o->∃j d,Ez n JR rs L i=some j/\Cc (Ez n JR rs L) o=some d/\hp j=some d:=by intro w;repeat' (first |exact Pr _ |refine Mx (T7 (by rfl) (by rfl) (by rfl)) ?_ |refine Mx (T7 (by rfl) (lQ (by rfl) (by simp) (by first |(intro _ _ h;cases h;done) |(intro J R h;cases h;rw[D4];omega)) ?_ rfl) (by rfl)) ?_ |refine Mx (T7 (by rfl) (lQ (by rfl) (by simp) (by first |(intro _ _ h;cases h;done) |(intro J R h;cases h;rw[D4];omega)) ?_ (by assumption)) (by rfl)) ?_ |refine Mx (T7 (by rfl) (wE (by rfl) (by simp) ?_ (w _)) (by rfl)) ?_ |refine lP (by rfl) (by simp) (by first |(intro _ _ h;cases h;done) |(intro J R h;cases h;rw[D4];omega)) (by assumption) (fun j p h a=>by first |(cases h;done) |(simp at h;done) |((try dsimp only);repeat (first |with_reducible exact KD h a |(with_reducible refine Rk ?_ ?_;rw[D4];omega) |(with_reducible refine Rl ?_ ?_;rw[D4];omega)))) ?_ |refine lP (by rfl) (by simp) (by first |(intro _ _ h;cases h;done) |(intro J R h;cases h;rw[D4];omega)) rfl (fun j p h a=>by first |(cases h;done) |(simp at h;done) |((try dsimp only);repeat (first |with_reducible exact KD h a |(with_reducible refine Rk ?_ ?_;rw[D4];omega) |(with_reducible refine Rl ?_ ?_;rw[D4];omega)))) ?_ |refine wD (by rfl) (by simp) ?_ (w _) (fun j p h a=>by first |(cases h;done) |(simp at h;done) |((try dsimp only);repeat (first |with_reducible exact KD h a |(with_reducible refine Rk ?_ ?_;rw[D4];omega) |(with_reducible refine Rl ?_ ?_;rw[D4];omega)))) (by rfl) ?_ |assumption |decide)):CH n ⟨b,hp',N⟩ ⟨fr,hp,nx⟩:=wC JR e rs L f g (k w)
theorem re_ {t0:List AD}{r:C8}(H:Xn n t0=some r):CO Tryz.prog 64 [.d (D.sl (List.map AE t0))] (D.pt (CA r) 0) true:=by
 unfold Xn at H;refine fg Ep EN (rs:= #[.tmp 2]) Tryz.func64 ?_;refine EE ?_;refine AT (AT ?_);refine ZT 1 ?_;obtain⟨e6,b1,H2⟩:=AL H;refine Z0 ?_;refine Cn (yo b1) ?_;refine Z0 ?_;refine F7 H2 (fun _ _ (ad,ag,ak,ao) ((a9,ba,bb,bd):(Nat->Nat) × (Nat->Nat) × (Nat->Nat) × (Nat->Nat))=>⟨upd 3 (.pt 0 0) AK,upd 0 (some (.bx [.mo 1,.mo 2,.mo 3,.mo 4])) (upd 1 (some (.mo (CF GU 4294967296 a9 ad) false)) (upd 2 (some (.mo (CF Value.string 8589934592 ba ag) false)) (upd 3 (some (.mo (CF G8 12884901888 bb ak) false)) (upd 4 (some (.mo (CF Value.string 17179869184 bd ao) false)) (CK AR 3 4294967296 a9 ad (CK eS 1 8589934592 ba ag (CK AH 3 12884901888 bb ak (CK eS 1 17179869184 bd ao (AM))))))))),21474836480⟩) (fun e_ E3 H4=> ?_) fun⟨ad,ag,ak,ao⟩ ⟨a9,ba,bb,bd⟩ H4=> ?_;rotate_left
 ·refine AP ?_;obtain⟨dm,H457⟩:=FC H4;have dn:ad.length<=4294967296:=of_decide_eq_true dm;obtain⟨dp,H460⟩:=FC H457;have dq:ag.length<=4294967296:=of_decide_eq_true dp;obtain⟨dr,H463⟩:=FC H460;have ds:ak.length<=4294967296:=of_decide_eq_true dr;obtain⟨dt,H466⟩:=FC H463;have dw:ao.length<=4294967296:=of_decide_eq_true dt;cases H466;exact Pw (b:=false) (v:=.pt 0 0) (by first |(simp -implicitDefEqProofs only[go_sem, ↓reduceIte]<;>rfl) |rfl) (Gq.val (Ck.one (Cy.place (by rfl) (PW.cons (Cy.fam (by rfl) dn (fun j p h P=>by repeat (first |with_reducible exact KD h P |(with_reducible refine Rk ?_ ?_;rw[D4];omega) |(with_reducible refine Rl ?_ ?_;rw[D4];omega)))) (PW.cons (Cy.fam (by rfl) dq (fun j p h P=>by repeat (first |with_reducible exact KD h P |(with_reducible refine Rk ?_ ?_;rw[D4];omega) |(with_reducible refine Rl ?_ ?_;rw[D4];omega)))) (PW.cons (Cy.fam (by rfl) ds (fun j p h P=>by repeat (first |with_reducible exact KD h P |(with_reducible refine Rk ?_ ?_;rw[D4];omega) |(with_reducible refine Rl ?_ ?_;rw[D4];omega)))) (PW.cons (Cy.fam (by rfl) dw (fun j p h P=>by repeat (first |with_reducible exact KD h P |(with_reducible refine Rk ?_ ?_;rw[D4];omega) |(with_reducible refine Rl ?_ ?_;rw[D4];omega)))) PW.nil))))) rfl)) (by intro h;first |rfl |cases h)
 refine Ej E3 (fun f _ (g,e,i,k,br) ((w,l,m,d):(Nat->Nat) × (Nat->Nat) × (Nat->Nat) × (Nat->Nat))=>⟨kp [16,17] f (upd 3 (.pt 0 0) (upd 18 (.v (.int .i64 br)) AK)),upd 0 (some (.bx [.mo 1,.mo 2,.mo 3,.mo 4])) (upd 1 (some (.mo (CF GU 4294967296 w g) false)) (upd 2 (some (.mo (CF Value.string 8589934592 l e) false)) (upd 3 (some (.mo (CF G8 12884901888 m i) false)) (upd 4 (some (.mo (CF Value.string 17179869184 d k) false)) (CK AR 3 4294967296 w g (CK eS 1 8589934592 l e (CK AH 3 12884901888 m i (CK eS 1 17179869184 d k (AM))))))))),21474836480⟩) (((fun _=>0),(fun _=>0),(fun _=>0),(fun _=>0)):(Nat->Nat) × (Nat->Nat) × (Nat->Nat) × (Nat->Nat)) (ZF trivial 340282366920938463463374607431768211457 none [4294967296,8589934592,12884901888,17179869184] [(0,8),(1,1),(2,2),(3,4),(4,5)]) fun c ⟨g,e,i,k,br⟩ ⟨w,l,m,d⟩ L5=> ?_
 refine EE ?_;obtain⟨ap,H232⟩ |⟨ap,H232⟩:=As L5;rotate_left
 ·refine Z1 ap ?_;obtain⟨dy,H445⟩:=FC H232;have e7:g.length<=4294967296:=of_decide_eq_true dy;obtain⟨dS,H448⟩:=FC H445;have e8:e.length<=4294967296:=of_decide_eq_true dS;obtain⟨d0,H451⟩:=FC H448;have e9:i.length<=4294967296:=of_decide_eq_true d0;obtain⟨d1,H454⟩:=FC H451;have fa:k.length<=4294967296:=of_decide_eq_true d1;cases H454;exact⟨(w,l,m,d),ZF trivial 340282366920938463463374607431768211457 none [4294967296,8589934592,12884901888,17179869184] [(0,0),(1,1),(2,2),(3,3),(4,4)]⟩
 refine PM ap ?_;obtain⟨a,fb,fi,d2,H234⟩:=zI AE H232;have d3:=Y2 ap d2;refine HL d3 ?_;refine AT ?_;obtain⟨d4,H240⟩:=FC H234;have fn:g.length<=4294967296:=of_decide_eq_true d4;obtain⟨ea,H243⟩:=FC H240;have fq:e.length<=4294967296:=of_decide_eq_true ea;obtain⟨eb,H246⟩:=FC H243;have fr:i.length<=4294967296:=of_decide_eq_true eb;obtain⟨ed,H249⟩:=FC H246;have fs:k.length<=4294967296:=of_decide_eq_true ed;refine F7 H249 (fun f _ _ (y:(Nat->Nat))=>⟨kp [16,17,18] f (upd 3 (.pt 0 0) (upd 5 (.pt 5 0) (upd 6 (.pt 6 0) AK))),upd 0 (some (.bx [.mo 1,.mo 2,.mo 3,.mo 4])) (upd 1 (some (.mo (CF GU 4294967296 y (Aw (⟨a.obj,a.rel⟩:AB) [a.sub_] g)) false)) (upd 2 (some (.mo (CF Value.string 8589934592 l e) false)) (upd 3 (some (.mo (CF G8 12884901888 m i) false)) (upd 4 (some (.mo (CF Value.string 17179869184 d k) false)) (upd 5 (some (.bx [.v (.string a.obj.type_),.v (.string a.obj.id_),.v (.string a.rel),.v (.string a.sub_.type_),.v (.string a.sub_.id_),.v (.string a.sub_.rel)])) (upd 6 (some (.bx [.v (.string a.obj.type_),.v (.string a.obj.id_),.v (.string a.rel)])) (CK AR 3 4294967296 y (Aw (⟨a.obj,a.rel⟩:AB) [a.sub_] g) (CK eS 1 8589934592 l e (CK AH 3 12884901888 m i (CK eS 1 17179869184 d k (AM))))))))))),21474836480⟩) (fun ft E251 H252=> ?_) fun _ y H252=> ?_
 ·refine ZT 1 ?_;obtain⟨ee,H254⟩:=FC E251;obtain⟨bs,ef⟩:=Y7 ee;refine Z0 ?_;rcases ZA (kv:=GU) (B:=4294967296) (vs:=w) Sj (⟨a.obj,a.rel⟩:AB) g with⟨fv,eg,eh⟩ |⟨o,Q,Y,ek,el,em⟩
  ·have G:D5 (true,[.string,.string,.string]) (.agg #[.string a.obj.type_,.string a.obj.id_,.string a.rel]) (CF GU 4294967296 w g)=some none:=eg;refine Zf (Y4 G (Px G) (Pz G) (M3 G)) ?_;refine DF (by kernel_rfl) ?_;refine Zf (Y4 G (Px G) (Pz G) (M3 G)) ?_;cases H254;exact⟨(C4 (List.length g) 0 w),ZF eh 21474836503 (some (Cs 4294967296 (List.length g),21474836503)) [4294967296,8589934592,12884901888,17179869184] [(0,0),(1,1),(2,2),(3,3),(4,4),(5,21474836483),(6,21474836490)]⟩
  have I:D5 (true,[.string,.string,.string]) (.agg #[.string a.obj.type_,.string a.obj.id_,.string a.rel]) (CF GU 4294967296 w g)=some (some (o,.so (Cs 4294967296 o) (w o) 0 Q.length)):=el;have aq:o<4294967296:=OM (Lb.1 Y).1 bs;have bx:∀x:Hp,CK AR 3 4294967296 w g x (Cs 4294967296 o)=some (.rw (List.map AR Q) 3 (w o) false false):=fun _=>KD Y aq
  have ar:(CF GU 4294967296 w g)[o]? =some ((.agg #[.string a.obj.type_,.string a.obj.id_,.string a.rel]),.so (Cs 4294967296 o) (w o) 0 Q.length):=(WB _ _).trans (by rw[Y];rfl);have b0:Q.length+1<=4294967296:=by have:=ef;simp only[qf_,ek,Nw] at this;omega
  have av:=FO (B:=4294967296) aq;obtain⟨z,be⟩:∃R,Q++[a.sub_]=R:=⟨_,rfl⟩;have b2:List.map AR Q++[[.v (.string a.sub_.type_),.v (.string a.sub_.id_),.v (.string a.sub_.rel)]]=List.map AR z:=ER AR be;have b3:Q.length+1=z.length:=ES be;have b4:z.length<=4294967296:=by omega
  have fz:Aw (⟨a.obj,a.rel⟩:AB) [a.sub_] g=List.set g o ((⟨a.obj,a.rel⟩:AB),z):=by rw[<-be];exact em _
  have b5:∀x:Hp,upd (Cs 4294967296 o) (some (.rw (List.map AR z) 3 (w o+1) false false)) (CK AR 3 4294967296 w g x)=CK AR 3 4294967296 (C4 o (w o+1) w) (List.set g o ((⟨a.obj,a.rel⟩:AB),z)) x:=fun _=>Y8 (q:=((⟨a.obj,a.rel⟩:AB),z)) Y aq;have b6:List.set (CF GU 4294967296 w g) o ((.agg #[.string a.obj.type_,.string a.obj.id_,.string a.rel]),.so (Cs 4294967296 o) (w o+1) 0 z.length)=CF GU 4294967296 (C4 o (w o+1) w) (List.set g o ((⟨a.obj,a.rel⟩:AB),z)):=Y9 (q:=((⟨a.obj,a.rel⟩:AB),z)) (Lb.1 Y).1;have f1:(List.set g o ((⟨a.obj,a.rel⟩:AB),z)).length<=4294967296:=by rw[NZ];exact BR bs
  refine Zf (Y3 (Y6 I (Py I) (P0 I) (M4 I) bx ar) (Y6 (M2 ar) b0 av b2 b3 b4) (Y2 b5 b6)) ?_;refine ZG (Cs 4294967296 o) 340282366920938463463374607431768211458 (by have:=aq;rw[D4];unfold Df;omega) (by decide) (by simp[av]) (by simp only[Nl,Np,LA,LL,Li,Lw,M5,sw,Nat.reduceLeDiff,Nat.reduceLT,Nat.reduceAdd, ↓reduceIte,WA,av];kernel_rfl) ?_;refine Zf (Y3 (Y6 I (Py I) (P0 I) (M4 I) bx ar) (Y6 (M2 ar) b0 av b2 b3 b4) (Y2 b5 b6)) ?_;cases H254;exact⟨(C4 o (w o+1) w),ZF trivial 340282366920938463463374607431768211457 none [4294967296,8589934592,12884901888,17179869184] [(0,0),(1,1),(2,2),(3,3),(4,4),(5,21474836483),(6,21474836490)]⟩
 refine AT ?_;obtain⟨en,H296⟩:=FC H252;have f2:(Aw (⟨a.obj,a.rel⟩:AB) [a.sub_] g).length<=4294967296:=of_decide_eq_true en;refine F7 H296 (fun f _ _ (F:(Nat->Nat))=>⟨kp [16,17,18] f (upd 3 (.pt 0 0) (upd 5 (.pt 5 0) AK)),upd 0 (some (.bx [.mo 1,.mo 2,.mo 3,.mo 4])) (upd 1 (some (.mo (CF GU 4294967296 y (Aw (⟨a.obj,a.rel⟩:AB) [a.sub_] g)) false)) (upd 2 (some (.mo (CF Value.string 8589934592 l e) false)) (upd 3 (some (.mo (CF G8 12884901888 F (Aw a.sub_ [(⟨a.obj,a.rel⟩:AB)] i)) false)) (upd 4 (some (.mo (CF Value.string 17179869184 d k) false)) (upd 5 (some (.bx [.v (.string a.obj.type_),.v (.string a.obj.id_),.v (.string a.rel),.v (.string a.sub_.type_),.v (.string a.sub_.id_),.v (.string a.sub_.rel)])) (CK AR 3 4294967296 y (Aw (⟨a.obj,a.rel⟩:AB) [a.sub_] g) (CK eS 1 8589934592 l e (CK AH 3 12884901888 F (Aw a.sub_ [(⟨a.obj,a.rel⟩:AB)] i) (CK eS 1 17179869184 d k (AM)))))))))),21474836480⟩) (fun f3 E298 H299=> ?_) fun _ F H299=> ?_
 ·refine ZT 1 ?_;obtain⟨eo,H301⟩:=FC E298;obtain⟨b7,eq⟩:=Y7 eo;refine Z0 ?_;rcases ZA (kv:=G8) (B:=12884901888) (vs:=m) y5 a.sub_ i with⟨f4,er,es⟩ |⟨s,S,Z,et,ew,ex⟩
  ·have J:D5 (true,[.string,.string,.string]) (.agg #[.string a.sub_.type_,.string a.sub_.id_,.string a.sub_.rel]) (CF G8 12884901888 m i)=some none:=er;refine Zf (Y4 J (Px J) (Pz J) (M3 J)) ?_;refine DF (by kernel_rfl) ?_;refine Zf (Y4 J (Px J) (Pz J) (M3 J)) ?_;cases H301;exact⟨(C4 (List.length i) 0 m),ZF es 21474836491 (some (Cs 12884901888 (List.length i),21474836491)) [4294967296,8589934592,12884901888,17179869184] [(0,0),(1,1),(2,2),(3,3),(4,4),(5,5)]⟩
  have K:D5 (true,[.string,.string,.string]) (.agg #[.string a.sub_.type_,.string a.sub_.id_,.string a.sub_.rel]) (CF G8 12884901888 m i)=some (some (s,.so (Cs 12884901888 s) (m s) 0 S.length)):=ew;have aE:s<4294967296:=OM (Lb.1 Z).1 b7;have b8:∀x:Hp,CK AH 3 12884901888 m i x (Cs 12884901888 s)=some (.rw (List.map AH S) 3 (m s) false false):=fun _=>KD Z aE
  have a0:(CF G8 12884901888 m i)[s]? =some ((.agg #[.string a.sub_.type_,.string a.sub_.id_,.string a.sub_.rel]),.so (Cs 12884901888 s) (m s) 0 S.length):=(WB _ _).trans (by rw[Z];rfl);have b9:S.length+1<=4294967296:=by have:=eq;simp only[qf_,et,Nw] at this;omega
  have a1:=FO (B:=12884901888) aE;obtain⟨A,bg⟩:∃R,S++[(⟨a.obj,a.rel⟩:AB)]=R:=⟨_,rfl⟩;have cb:List.map AH S++[[.v (.string a.obj.type_),.v (.string a.obj.id_),.v (.string a.rel)]]=List.map AH A:=ER AH bg;have cf:S.length+1=A.length:=ES bg;have ch:A.length<=4294967296:=by omega
  have f5:Aw a.sub_ [(⟨a.obj,a.rel⟩:AB)] i=List.set i s (a.sub_,A):=by rw[<-bg];exact ex _
  have cp:∀x:Hp,upd (Cs 12884901888 s) (some (.rw (List.map AH A) 3 (m s+1) false false)) (CK AH 3 12884901888 m i x)=CK AH 3 12884901888 (C4 s (m s+1) m) (List.set i s (a.sub_,A)) x:=fun _=>Y8 (q:=(a.sub_,A)) Z aE;have cs:List.set (CF G8 12884901888 m i) s ((.agg #[.string a.sub_.type_,.string a.sub_.id_,.string a.sub_.rel]),.so (Cs 12884901888 s) (m s+1) 0 A.length)=CF G8 12884901888 (C4 s (m s+1) m) (List.set i s (a.sub_,A)):=Y9 (q:=(a.sub_,A)) (Lb.1 Z).1;have f6:(List.set i s (a.sub_,A)).length<=4294967296:=by rw[NZ];exact BR b7
  refine Zf (Y3 (Y6 K (Py K) (P0 K) (M4 K) b8 a0) (Y6 (M2 a0) b9 a1 cb cf ch) (Y2 cp cs)) ?_;refine ZG (Cs 12884901888 s) 340282366920938463463374607431768211458 (by have:=aE;rw[D4];unfold Df;omega) (by decide) (by simp[a1]) (by simp only[Nl,Np,LA,LL,Li,Lw,M5,sw,Nat.reduceLeDiff,Nat.reduceLT,Nat.reduceAdd, ↓reduceIte,WA,a1];kernel_rfl) ?_;refine Zf (Y3 (Y6 K (Py K) (P0 K) (M4 K) b8 a0) (Y6 (M2 a0) b9 a1 cb cf ch) (Y2 cp cs)) ?_;cases H301;exact⟨(C4 s (m s+1) m),ZF trivial 340282366920938463463374607431768211457 none [4294967296,8589934592,12884901888,17179869184] [(0,0),(1,1),(2,2),(3,3),(4,4),(5,5)]⟩
 refine AT ?_;obtain⟨ey,H343⟩:=FC H299;have f7:(Aw a.sub_ [(⟨a.obj,a.rel⟩:AB)] i).length<=4294967296:=of_decide_eq_true ey;refine F7 H343 (fun f _ _ (T:(Nat->Nat))=>⟨kp [16,17,18] f (upd 3 (.pt 0 0) (upd 5 (.pt 5 0) AK)),upd 0 (some (.bx [.mo 1,.mo 2,.mo 3,.mo 4])) (upd 1 (some (.mo (CF GU 4294967296 y (Aw (⟨a.obj,a.rel⟩:AB) [a.sub_] g)) false)) (upd 2 (some (.mo (CF Value.string 8589934592 T (Aw a.obj.type_ [a.obj.id_] e)) false)) (upd 3 (some (.mo (CF G8 12884901888 F (Aw a.sub_ [(⟨a.obj,a.rel⟩:AB)] i)) false)) (upd 4 (some (.mo (CF Value.string 17179869184 d k) false)) (upd 5 (some (.bx [.v (.string a.obj.type_),.v (.string a.obj.id_),.v (.string a.rel),.v (.string a.sub_.type_),.v (.string a.sub_.id_),.v (.string a.sub_.rel)])) (CK AR 3 4294967296 y (Aw (⟨a.obj,a.rel⟩:AB) [a.sub_] g) (CK eS 1 8589934592 T (Aw a.obj.type_ [a.obj.id_] e) (CK AH 3 12884901888 F (Aw a.sub_ [(⟨a.obj,a.rel⟩:AB)] i) (CK eS 1 17179869184 d k (AM)))))))))),21474836480⟩) (fun f8 E345 H346=> ?_) fun _ T H346=> ?_
 ·refine ZT 1 ?_;obtain⟨ez,H348⟩:=FC E345;obtain⟨cx,eA⟩:=Y7 ez;refine Z0 ?_;rcases ZA (kv:=Value.string) (B:=8589934592) (vs:=l) V5 a.obj.type_ e with⟨gb,eD,eF⟩ |⟨t,U,aa,eH,eK,eN⟩
  ·have L:D5 (false,[.string]) (.string a.obj.type_) (CF Value.string 8589934592 l e)=some none:=eD;refine Zf (Y4 L (Px L) (Pz L) (M3 L)) ?_;refine DF (by kernel_rfl) ?_;refine Zf (Y4 L (Px L) (Pz L) (M3 L)) ?_;cases H348;exact⟨(C4 (List.length e) 0 l),ZF eF 21474836501 (some (Cs 8589934592 (List.length e),21474836501)) [4294967296,8589934592,12884901888,17179869184] [(0,0),(1,1),(2,2),(3,3),(4,4),(5,5)]⟩
  have M:D5 (false,[.string]) (.string a.obj.type_) (CF Value.string 8589934592 l e)=some (some (t,.so (Cs 8589934592 t) (l t) 0 U.length)):=eK;have a2:t<4294967296:=OM (Lb.1 aa).1 cx;have cN:∀x:Hp,CK eS 1 8589934592 l e x (Cs 8589934592 t)=some (.rw (List.map eS U) 1 (l t) false false):=fun _=>KD aa a2
  have a3:(CF Value.string 8589934592 l e)[t]? =some ((.string a.obj.type_),.so (Cs 8589934592 t) (l t) 0 U.length):=(WB _ _).trans (by rw[aa];rfl);have c0:U.length+1<=4294967296:=by have:=eA;simp only[qf_,eH,Nw] at this;omega
  have a4:=FO (B:=8589934592) a2;obtain⟨C,bl⟩:∃R,U++[a.obj.id_]=R:=⟨_,rfl⟩;have c1:List.map eS U++[[.v (.string a.obj.id_)]]=List.map eS C:=ER eS bl;have c2:U.length+1=C.length:=ES bl;have c3:C.length<=4294967296:=by omega
  have ge:Aw a.obj.type_ [a.obj.id_] e=List.set e t (a.obj.type_,C):=by rw[<-bl];exact eN _
  have c4:∀x:Hp,upd (Cs 8589934592 t) (some (.rw (List.map eS C) 1 (l t+1) false false)) (CK eS 1 8589934592 l e x)=CK eS 1 8589934592 (C4 t (l t+1) l) (List.set e t (a.obj.type_,C)) x:=fun _=>Y8 (q:=(a.obj.type_,C)) aa a2;have c5:List.set (CF Value.string 8589934592 l e) t ((.string a.obj.type_),.so (Cs 8589934592 t) (l t+1) 0 C.length)=CF Value.string 8589934592 (C4 t (l t+1) l) (List.set e t (a.obj.type_,C)):=Y9 (q:=(a.obj.type_,C)) (Lb.1 aa).1;have gh:(List.set e t (a.obj.type_,C)).length<=4294967296:=by rw[NZ];exact BR cx
  refine Zf (Y3 (Y6 M (Py M) (P0 M) (M4 M) cN a3) (Y6 (M2 a3) c0 a4 c1 c2 c3) (Y2 c4 c5)) ?_;refine ZG (Cs 8589934592 t) 340282366920938463463374607431768211458 (by have:=a2;rw[D4];unfold Df;omega) (by decide) (by simp[a4]) (by simp only[Nl,Np,LA,LL,Li,Lw,M5,sw,Nat.reduceLeDiff,Nat.reduceLT,Nat.reduceAdd, ↓reduceIte,WA,a4];kernel_rfl) ?_;refine Zf (Y3 (Y6 M (Py M) (P0 M) (M4 M) cN a3) (Y6 (M2 a3) c0 a4 c1 c2 c3) (Y2 c4 c5)) ?_;cases H348;exact⟨(C4 t (l t+1) l),ZF trivial 340282366920938463463374607431768211457 none [4294967296,8589934592,12884901888,17179869184] [(0,0),(1,1),(2,2),(3,3),(4,4),(5,5)]⟩
 refine Ay ?_;obtain⟨X,H388⟩ |⟨X,H388⟩:=As H346;rotate_left
 ·refine DN (by rfl) X ?_;refine Z1 X ?_;refine ZT 3 ?_;refine Z1 X ?_;obtain⟨eP,H439⟩:=FC H388;have gi:(Aw a.obj.type_ [a.obj.id_] e).length<=4294967296:=of_decide_eq_true eP;exact⟨_,(y,T,F,d),H439,ZF trivial 340282366920938463463374607431768211457 none [4294967296,8589934592,12884901888,17179869184] [(0,0),(1,1),(2,2),(3,3),(4,4)]⟩
 refine ET (by rfl) X ?_;refine Z1 X ?_;obtain⟨eR,H390⟩:=FC H388;have gn:(Aw a.obj.type_ [a.obj.id_] e).length<=4294967296:=of_decide_eq_true eR;refine F7 H390 (fun f _ _ (a5:(Nat->Nat))=>⟨kp [16,17,18] f (upd 3 (.pt 0 0) AK),upd 0 (some (.bx [.mo 1,.mo 2,.mo 3,.mo 4])) (upd 1 (some (.mo (CF GU 4294967296 y (Aw (⟨a.obj,a.rel⟩:AB) [a.sub_] g)) false)) (upd 2 (some (.mo (CF Value.string 8589934592 T (Aw a.obj.type_ [a.obj.id_] e)) false)) (upd 3 (some (.mo (CF G8 12884901888 F (Aw a.sub_ [(⟨a.obj,a.rel⟩:AB)] i)) false)) (upd 4 (some (.mo (CF Value.string 17179869184 a5 (Aw a.sub_.type_ [a.sub_.id_] k)) false)) (CK AR 3 4294967296 y (Aw (⟨a.obj,a.rel⟩:AB) [a.sub_] g) (CK eS 1 8589934592 T (Aw a.obj.type_ [a.obj.id_] e) (CK AH 3 12884901888 F (Aw a.sub_ [(⟨a.obj,a.rel⟩:AB)] i) (CK eS 1 17179869184 a5 (Aw a.sub_.type_ [a.sub_.id_] k) (AM))))))))),21474836480⟩) (fun go E392 H393=> ?_) fun _ a5 H393=> ?_;rotate_left
 ·refine Fc ?_;obtain⟨eU,H435⟩:=FC H393;have gs:(Aw a.sub_.type_ [a.sub_.id_] k).length<=4294967296:=of_decide_eq_true eU;exact⟨_,(y,T,F,a5),H435,ZF trivial 340282366920938463463374607431768211457 none [4294967296,8589934592,12884901888,17179869184] [(0,0),(1,1),(2,2),(3,3),(4,4)]⟩
 refine ZT 1 ?_;obtain⟨eV,H395⟩:=FC E392;obtain⟨c6,e0⟩:=Y7 eV;refine Z0 ?_;rcases ZA (kv:=Value.string) (B:=17179869184) (vs:=d) V5 a.sub_.type_ k with⟨gL,e1,e2⟩ |⟨u,V,ab,e3,e4,e5⟩
 ·have N:D5 (false,[.string]) (.string a.sub_.type_) (CF Value.string 17179869184 d k)=some none:=e1;refine Zf (Y4 N (Px N) (Pz N) (M3 N)) ?_;refine DF (by kernel_rfl) ?_;refine Zf (Y4 N (Px N) (Pz N) (M3 N)) ?_;cases H395;exact⟨(C4 (List.length k) 0 d),ZF e2 21474836505 (some (Cs 17179869184 (List.length k),21474836505)) [4294967296,8589934592,12884901888,17179869184] [(0,0),(1,1),(2,2),(3,3),(4,4)]⟩
 have O:D5 (false,[.string]) (.string a.sub_.type_) (CF Value.string 17179869184 d k)=some (some (u,.so (Cs 17179869184 u) (d u) 0 V.length)):=e4;have a6:u<4294967296:=OM (Lb.1 ab).1 c6;have c7:∀x:Hp,CK eS 1 17179869184 d k x (Cs 17179869184 u)=some (.rw (List.map eS V) 1 (d u) false false):=fun _=>KD ab a6
 have a7:(CF Value.string 17179869184 d k)[u]? =some ((.string a.sub_.type_),.so (Cs 17179869184 u) (d u) 0 V.length):=(WB _ _).trans (by rw[ab];rfl);have c9:V.length+1<=4294967296:=by have:=e0;simp only[qf_,e3,Nw] at this;omega
 have a8:=FO (B:=17179869184) a6;obtain⟨E,bo⟩:∃R,V++[a.sub_.id_]=R:=⟨_,rfl⟩;have da:List.map eS V++[[.v (.string a.sub_.id_)]]=List.map eS E:=ER eS bo;have dd:V.length+1=E.length:=ES bo;have df:E.length<=4294967296:=by omega
 have gR:Aw a.sub_.type_ [a.sub_.id_] k=List.set k u (a.sub_.type_,E):=by rw[<-bo];exact e5 _
 have dk:∀x:Hp,upd (Cs 17179869184 u) (some (.rw (List.map eS E) 1 (d u+1) false false)) (CK eS 1 17179869184 d k x)=CK eS 1 17179869184 (C4 u (d u+1) d) (List.set k u (a.sub_.type_,E)) x:=fun _=>Y8 (q:=(a.sub_.type_,E)) ab a6;have dl:List.set (CF Value.string 17179869184 d k) u ((.string a.sub_.type_),.so (Cs 17179869184 u) (d u+1) 0 E.length)=CF Value.string 17179869184 (C4 u (d u+1) d) (List.set k u (a.sub_.type_,E)):=Y9 (q:=(a.sub_.type_,E)) (Lb.1 ab).1;have g0:(List.set k u (a.sub_.type_,E)).length<=4294967296:=by rw[NZ];exact BR c6
 refine Zf (Y3 (Y6 O (Py O) (P0 O) (M4 O) c7 a7) (Y6 (M2 a7) c9 a8 da dd df) (Y2 dk dl)) ?_;refine ZG (Cs 17179869184 u) 340282366920938463463374607431768211458 (by have:=a6;rw[D4];unfold Df;omega) (by decide) (by simp[a8]) (by simp only[Nl,Np,LA,LL,Li,Lw,M5,sw,Nat.reduceLeDiff,Nat.reduceLT,Nat.reduceAdd, ↓reduceIte,WA,a8];kernel_rfl) ?_;refine Zf (Y3 (Y6 O (Py O) (P0 O) (M4 O) c7 a7) (Y6 (M2 a7) c9 a8 da dd df) (Y2 dk dl)) ?_;cases H395;exact⟨(C4 u (d u+1) d),ZF trivial 340282366920938463463374607431768211457 none [4294967296,8589934592,12884901888,17179869184] [(0,0),(1,1),(2,2),(3,3),(4,4)]⟩
end Go.Proofs.YtnmkbmefohakmaaGreat.Ab
