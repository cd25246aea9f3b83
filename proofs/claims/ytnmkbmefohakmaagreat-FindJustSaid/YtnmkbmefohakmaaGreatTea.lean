/-
 Functions, read off the code.
-/
import Derived.Test.YtnmkbmefohakmaaGreatRo
set_option linter.all false
namespace Go.Proofs.YtnmkbmefohakmaaGreat.Ab
open Go.RowKit IntKind
def ZX (_:Nat)(a:Int):Option Bool:=(if decide (97<=a) then (if decide (a<=122) then some true else (if decide (48<=a) then some (decide (a<=57)) else some false)) else (if decide (48<=a) then some (decide (a<=57)) else some false))
variable {n:Nat}{r:Bool}
theorem pX {i:Int}(H:ZX n i=some r):AM Tryz.prog 142 [D.v (.int .u8 i)] (D.v (.bool r)) true:=by
 unfold ZX at H;refine zP #[.tmp 2] Tryz.func142 ?_;refine AQ ?_;obtain⟨a,b⟩ |⟨a,b⟩:=Ah H
 ·refine Z1 a ?_;obtain⟨c,d⟩ |⟨c,d⟩:=Ah b
  ·refine Z1 (Y2 a c) ?_;cases d;exact As
  have j:=Y2 a c;refine Z1 j ?_;obtain⟨e,f⟩ |⟨e,f⟩:=Cb j d
  ·refine Z1 e ?_;cases f;exact As
  refine Z1 e ?_;cases f;exact As
 refine Z1 a ?_;obtain⟨g,h⟩ |⟨g,h⟩:=Ah b
 ·refine Z1 (Y2 a g) ?_;cases h;exact As
 refine Z1 (Y2 a g) ?_;cases h;exact As
def ZY (n:Nat)(a:Int):Option Bool:=(ZX n a).bind fun b=>(if b then some true else (if (a==95) then some true else (if (a==45) then some true else some (a==46))))
theorem pY {g:Int}(H:ZY n g=some r):AM Tryz.prog 143 [D.v (.int .u8 g)] (D.v (.bool r)) true:=by
 unfold ZY at H;refine zP #[.tmp 2] Tryz.func143 ?_;refine ZT 1 ?_;have⟨k,i,j⟩:=AP H;refine Z0 ?_;refine CT (pX i) ?_;refine Z0 ?_;obtain⟨a,b⟩ |⟨a,b⟩:=Ah j
 ·refine Z1 a ?_;cases b;exact As
 refine Z1 a ?_;obtain⟨c,d⟩ |⟨c,d⟩:=Ah b
 ·refine Z1 (Y2 a c) ?_;cases d;exact As
 have h:=Y2 a c;refine Z1 h ?_;obtain⟨e,f⟩ |⟨e,f⟩:=Cb h d
 ·refine Z1 e ?_;cases f;exact As
 refine Z1 e ?_;cases f;exact As
def pZ (n:Nat)(s:ByteArray):Nat->Int->Option ((Unit) ⊕ Bool)
 |0,_=>none
 |c+1,a=>(if decide (a<(s.size:Int)) then (EL s a).bind fun b=>(ZY n b).bind fun d=>(if d then pZ n s c (i64.wrap (a+1)) else some (.inr false)) else some (.inl ()))
def Rw (n:Nat)(s:ByteArray):Option Bool:=((if (s.toList==({ data:= #[] }:ByteArray).toList) then some true else (if decide (30<(s.size:Int)) then some true else (EL s 0).bind fun a=>(ZX n a).bind fun b=>some (!b))):Option (Bool)).bind fun c=>(if c then some false else (pZ n s n 0:Option ((Unit) ⊕ Bool)).bind fun
   | .inl _=>some true
   | .inr r=>some r)
theorem ZZ {s:ByteArray}(H:Rw n s=some r):AM Tryz.prog 115 [D.v (.string s)] (D.v (.bool r)) true:=by
 unfold Rw at H;refine zP #[.tmp 2] Tryz.func115 ?_;refine Ax ?_;refine AU (AU ?_);refine zj H (fun f _ k=>⟨kp [0] f (upd 16 (.v (.bool k)) AJ),AK,0⟩) (fun E t l=> ?_) fun k l=> ?_
 ·refine AQ ?_;obtain⟨a,b⟩ |⟨a,b⟩:=Ah t
  ·refine Z1 a ?_;cases b;exact ZR []
  refine Z1 a ?_;obtain⟨d,e⟩ |⟨d,e⟩:=Ah b
  ·refine Z1 (Y2 a d) ?_;cases e;exact ZR []
  have⟨F,u,v⟩:=AP e;have⟨w,G,m,x⟩:=HY u;try simp only[Int.reduceToNat] at m
  have⟨I,y,H13⟩:=AP v;have o:=Y5 a d (CC .i64 w) m x.symm;refine Z1 o ?_;refine CT (pX y) ?_;refine Z1 o ?_;cases H13;exact ZR []
 refine AQ ?_;obtain⟨g,H15⟩ |⟨g,H15⟩:=Ah l
 ·refine Z1 g ?_;cases H15;exact As
 refine HK g ?_;refine zi H15 (fun _ _ _=>⟨AJ,AK,0⟩) (fun J E16 H17=> ?_) fun _ H17=> ?_
 ·refine D9 E16 (fun f _ p=>⟨kp [0,18] f (upd 19 (.v (.int .i64 p)) AJ),AK,0⟩) (ZR []) fun c p L18=> ?_
  refine AQ ?_;obtain⟨h,H31⟩ |⟨h,H31⟩:=Ah L18
  ·have⟨K,z,H33⟩:=AP H31;have⟨A,L,q,B⟩:=HY z;try simp only[Int.reduceToNat,Li] at q
   have⟨M,C,H38⟩:=AP H33;have i:=Y4 h (CC .i64 A) q B.symm;refine Z1 i ?_;refine CT (pY C) ?_;refine Z1 i ?_;obtain⟨j,H40⟩ |⟨j,H40⟩:=Cb i H38
   ·refine Z1 j ?_;exact⟨_,H40,ZR []⟩
   refine Z1 j ?_;cases H40;cases H17;exact As
  refine Z1 h ?_;cases H31;exact⟨_,rfl,ZR []⟩
 refine AQ ?_;cases H17;exact As
def Wi (n:Nat)(s:ByteArray):Nat->Int->Option ((Unit) ⊕ Bool)
 |0,_=>none
 |c+1,a=>(if decide (a<(s.size:Int)) then (EL s a).bind fun b=>(ZY n b).bind fun d=>(if d then Wi n s c (i64.wrap (a+1)) else (if (b != 47) then (if (b != 124) then (if (b != 42) then some (.inr false) else Wi n s c (i64.wrap (a+1))) else Wi n s c (i64.wrap (a+1))) else Wi n s c (i64.wrap (a+1)))) else some (.inl ()))
def Wj (n:Nat)(s:ByteArray):Option Bool:=(Wi n s n 0:Option ((Unit) ⊕ Bool)).bind fun
  | .inl _=>(if (s.toList==({ data:= #[] }:ByteArray).toList) then some false else some (decide ((s.size:Int)<=250)))
  | .inr r=>some r
theorem pc {s:ByteArray}(H:Wj n s=some r):AM Tryz.prog 116 [D.v (.string s)] (D.v (.bool r)) true:=by
 unfold Wj at H;refine zP #[.tmp 2] Tryz.func116 ?_;refine JA ?_;refine zi H (fun f _ _=>⟨kp [0] f AJ,AK,0⟩) (fun v m e=> ?_) fun _ e=> ?_;rotate_left
 ·refine AQ ?_;obtain⟨g,H39⟩ |⟨g,H39⟩:=Ah e
  ·refine Z1 g ?_;cases H39;exact As
  refine Z1 g ?_;cases H39;exact As
 refine D9 m (fun f _ k=>⟨kp [0,6] f (upd 7 (.v (.int .i64 k)) AJ),AK,0⟩) (ZR []) fun c k o=> ?_
 refine AQ ?_;obtain⟨h,H22⟩ |⟨h,H22⟩:=Ah o;rotate_left
 ·refine Z1 h ?_;cases H22;exact⟨_,rfl,ZR []⟩
 have⟨w,p,H24⟩:=AP H22;have⟨q,x,l,t⟩:=HY p;try simp only[Int.reduceToNat,Li] at l
 have⟨y,u,H29⟩:=AP H24;have i:=Y4 h (CC .i64 q) l t.symm;refine Z1 i ?_;refine CT (pY u) ?_;refine Z1 i ?_;obtain⟨a,H31⟩ |⟨a,H31⟩:=Cb i H29
 ·refine Z1 a ?_;exact⟨_,H31,ZR []⟩
 refine Z1 a ?_;obtain⟨b,H33⟩ |⟨b,H33⟩:=Cb a H31
 ·refine Z1 b ?_;obtain⟨d,H35⟩ |⟨d,H35⟩:=Cb b H33
  ·refine Z1 d ?_;obtain⟨j,H37⟩ |⟨j,H37⟩:=Cb d H35
   ·refine Z1 j ?_;cases H37;cases e;exact As
   refine Z1 j ?_;exact⟨_,H37,ZR []⟩
  refine Z1 d ?_;exact⟨_,H35,ZR []⟩
 refine Z1 b ?_;exact⟨_,H33,ZR []⟩
def JZ (n:Nat)(t:AC):Option Bool:=(Rw n t.obj.type_).bind fun a=>(if a then (Wj n t.obj.id_).bind fun b=>(if b then (Rw n t.rel).bind fun c=>(if c then (Rw n t.sub_.type_).bind fun d=>(if d then (Wj n t.sub_.id_).bind fun e=>(if e then (if (t.sub_.rel.toList==({ data:= #[] }:ByteArray).toList) then some true else (Rw n t.sub_.rel).bind fun f=>some f) else some false) else some false) else some false) else some false) else some false)
theorem zJ {t:AC}(H:JZ n t=some r):AM Tryz.prog 92 [D.ag (AE t)] (D.v (.bool r)) true:=by
 unfold JZ at H;refine zP #[.tmp 2] Tryz.func92 ?_;refine ZT 1 ?_;have⟨u,j,k⟩:=AP H;refine Z0 ?_;refine CT (ZZ j) ?_;refine Z0 ?_;obtain⟨a,f⟩ |⟨a,f⟩:=Ah k;rotate_left
 ·refine Z1 a ?_;cases f;exact As
 have⟨v,l,m⟩:=AP f;refine Z1 a ?_;refine CT (pc l) ?_;refine Z1 a ?_;obtain⟨g,h⟩ |⟨g,h⟩:=Ah m;rotate_left
 ·refine Z1 (Y2 a g) ?_;cases h;exact As
 have⟨w,o,H10⟩:=AP h;have i:=Y2 a g;refine Z1 i ?_;refine CT (ZZ o) ?_;refine Z1 i ?_;obtain⟨b,H12⟩ |⟨b,H12⟩:=Cb i H10
 ·have⟨x,p,H14⟩:=AP H12;refine Z1 b ?_;refine CT (ZZ p) ?_;refine Z1 b ?_;obtain⟨c,H16⟩ |⟨c,H16⟩:=Cb b H14
  ·have⟨y,q,H18⟩:=AP H16;refine Z1 c ?_;refine CT (pc q) ?_;refine Z1 c ?_;obtain⟨d,H20⟩ |⟨d,H20⟩:=Cb c H18
   ·refine Z1 d ?_;obtain⟨e,H22⟩ |⟨e,H22⟩:=Cb d H20
    ·refine Z1 e ?_;cases H22;exact As
    have⟨z,s,H24⟩:=AP H22;refine Z1 e ?_;refine CT (ZZ s) ?_;refine Z1 e ?_;cases H24;exact As
   refine Z1 d ?_;cases H20;exact As
  refine Z1 c ?_;cases H16;exact As
 refine Z1 b ?_;cases H12;exact As
def Rx (n:Nat)(s:AD)(t:AC):Option Bool:=(Gs n s t.obj.type_ t.rel).bind fun a=>(JZ n t).bind fun b=>(if b then (RZ n a.1.subs (⟨t.sub_.type_,ByteArray.empty,t.sub_.rel⟩:AL)).bind fun c=>some c else some false)
theorem zK {s:AD}{t:AC}(H:Rx n s t=some r):AM Tryz.prog 63 [D.pt (Av s) 0,D.ag (AE t)] (D.v (.bool r)) true:=by
 unfold Rx at H;refine zP #[.tmp 4] Tryz.func63 ?_;refine ZT 1 ?_;have⟨i,c,d⟩:=AP H;refine Z0 ?_;refine CT (Kf c) ?_;have⟨j,e,f⟩:=AP d;refine Z0 ?_;refine CT (zJ e) ?_;refine Z0 ?_;obtain⟨a,b⟩ |⟨a,b⟩:=Ah f
 ·have⟨k,g,h⟩:=AP b;refine Z1 a ?_;refine CT (np g) ?_;refine Z1 a ?_;cases h;exact As
 refine Z1 a ?_;cases b;exact As
def Tv (n:Nat)(g:List AC):Nat->(List (AB × (List AL)) × List (ByteArray × (List ByteArray)) × List (AL × (List AB)) × List (ByteArray × (List ByteArray)) × Int)->Option (List (AB × (List AL)) × List (ByteArray × (List ByteArray)) × List (AL × (List AB)) × List (ByteArray × (List ByteArray)))
 |0,_=>none
 |c+1,(d,b,e,f,h)=>(if decide (h<(g.length:Int)) then (idx g h).bind fun a=>Cy (decide (d.length<=4294967296))<| Cy (decide (b.length<=4294967296))<| Cy (decide (e.length<=4294967296))<| Cy (decide (f.length<=4294967296))<| (Cy (FT (⟨a.obj,a.rel⟩:AB) d)<| some ():Option (Unit)).bind fun _=>Cy (decide ((Az (⟨a.obj,a.rel⟩:AB) [a.sub_] d).length<=4294967296))<| (Cy (FT a.sub_ e)<| some ():Option (Unit)).bind fun _=>Cy (decide ((Az a.sub_ [(⟨a.obj,a.rel⟩:AB)] e).length<=4294967296))<| (Cy (FT a.obj.type_ b)<| some ():Option (Unit)).bind fun _=>(if (a.sub_.rel.toList==({ data:= #[] }:ByteArray).toList) then Cy (decide ((Az a.obj.type_ [a.obj.id_] b).length<=4294967296))<| (Cy (FT a.sub_.type_ f)<| some ():Option (Unit)).bind fun _=>Cy (decide ((Az a.sub_.type_ [a.sub_.id_] f).length<=4294967296))<| Tv n g c ((Az (⟨a.obj,a.rel⟩:AB) [a.sub_] d),(Az a.obj.type_ [a.obj.id_] b),(Az a.sub_ [(⟨a.obj,a.rel⟩:AB)] e),(Az a.sub_.type_ [a.sub_.id_] f),(i64.wrap (h+1))) else Cy (decide ((Az a.obj.type_ [a.obj.id_] b).length<=4294967296))<| Tv n g c ((Az (⟨a.obj,a.rel⟩:AB) [a.sub_] d),(Az a.obj.type_ [a.obj.id_] b),(Az a.sub_ [(⟨a.obj,a.rel⟩:AB)] e),f,(i64.wrap (h+1)))) else Cy (decide (d.length<=4294967296))<| Cy (decide (b.length<=4294967296))<| Cy (decide (e.length<=4294967296))<| Cy (decide (f.length<=4294967296))<| some (d,b,e,f))
def Wk (_:Nat)(_:List AC)(e:List (AB × (List AL)) × List (ByteArray × (List ByteArray)) × List (AL × (List AB)) × List (ByteArray × (List ByteArray)))(x2:AC)(k:(List (AB × (List AL)) × List (ByteArray × (List ByteArray)) × List (AL × (List AB)) × List (ByteArray × (List ByteArray)))->Option (List (AB × (List AL)) × List (ByteArray × (List ByteArray)) × List (AL × (List AB)) × List (ByteArray × (List ByteArray)))):Option (List (AB × (List AL)) × List (ByteArray × (List ByteArray)) × List (AL × (List AB)) × List (ByteArray × (List ByteArray))):=
 match e with
 |(b,a,c,d)=>
  Cy (decide (b.length<=4294967296))<|
  Cy (decide (a.length<=4294967296))<|
  Cy (decide (c.length<=4294967296))<|
  Cy (decide (d.length<=4294967296))<|
  (
   Cy (FT (⟨x2.obj,x2.rel⟩:AB) b)<|
   some ():Option (Unit)).bind fun _=>
  Cy (decide ((Az (⟨x2.obj,x2.rel⟩:AB) [x2.sub_] b).length<=4294967296))<|
  (
   Cy (FT x2.sub_ c)<|
   some ():Option (Unit)).bind fun _=>
  Cy (decide ((Az x2.sub_ [(⟨x2.obj,x2.rel⟩:AB)] c).length<=4294967296))<|
  (
   Cy (FT x2.obj.type_ a)<|
   some ():Option (Unit)).bind fun _=>
  (if (x2.sub_.rel.toList==({ data:= #[] }:ByteArray).toList) then
   Cy (decide ((Az x2.obj.type_ [x2.obj.id_] a).length<=4294967296))<|
   (
    Cy (FT x2.sub_.type_ d)<|
    some ():Option (Unit)).bind fun _=>
   Cy (decide ((Az x2.sub_.type_ [x2.sub_.id_] d).length<=4294967296))<|
   k ((Az (⟨x2.obj,x2.rel⟩:AB) [x2.sub_] b),(Az x2.obj.type_ [x2.obj.id_] a),(Az x2.sub_ [(⟨x2.obj,x2.rel⟩:AB)] c),(Az x2.sub_.type_ [x2.sub_.id_] d))
  else
   Cy (decide ((Az x2.obj.type_ [x2.obj.id_] a).length<=4294967296))<|
   k ((Az (⟨x2.obj,x2.rel⟩:AB) [x2.sub_] b),(Az x2.obj.type_ [x2.obj.id_] a),(Az x2.sub_ [(⟨x2.obj,x2.rel⟩:AB)] c),d))
def Wl (_:Nat)(_:List AC)(e:List (AB × (List AL)) × List (ByteArray × (List ByteArray)) × List (AL × (List AB)) × List (ByteArray × (List ByteArray))):Option (List (AB × (List AL)) × List (ByteArray × (List ByteArray)) × List (AL × (List AB)) × List (ByteArray × (List ByteArray))):=
 match e with
 |(a,b,c,d)=>Cy (decide (a.length<=4294967296))<|
 Cy (decide (b.length<=4294967296))<|
 Cy (decide (c.length<=4294967296))<|
 Cy (decide (d.length<=4294967296))<|
 some (a,b,c,d)
theorem zL (n:Nat)(a:List AC)(e:a.length<4611686018427387904)(c:Nat)(d:List (AB × (List AL)) × List (ByteArray × (List ByteArray)) × List (AL × (List AB)) × List (ByteArray × (List ByteArray)))(b:Nat)(f:b<=a.length)(g:a.length-b<c):Tv n a c (match d,(b:Int) with |(t302,t312,t322,t332),b=>(t302,t312,t322,t332,b))=DP (Wk n a) (Wl n a) (a.drop b) d:=
 Gl (fun c d b=>Tv n a c (match d,b with |(t302,t312,t322,t332),b=>(t302,t312,t322,t332,b))) a (Wk n a) (Wl n a) (fun _ _ _=>rfl) e c d b f g
def Wm (n:Nat)(t0:List AC):Option A9:=(Y8 n t0).bind fun e=>(Tv n e n (([]:List (AB × (List AL))),([]:List (ByteArray × (List ByteArray))),([]:List (AL × (List AB))),([]:List (ByteArray × (List ByteArray))),0):Option (List (AB × (List AL)) × List (ByteArray × (List ByteArray)) × List (AL × (List AB)) × List (ByteArray × (List ByteArray)))).bind fun(a,b,c,d)=>Cy (decide (a.length<=4294967296))<| Cy (decide (b.length<=4294967296))<| Cy (decide (c.length<=4294967296))<| Cy (decide (d.length<=4294967296))<| some (⟨(⟨a,b⟩:Cj),(⟨c,d⟩:Ck)⟩:A9)
set_option maxHeartbeats 8000000 in
theorem FO {B j:Nat}(l:j<4294967296):(∀ {K b:Type} (f:b->List D) (e a:Nat) (i:Nat->Nat) (k:List (K × List b)) (d:Hp),(a+4294967296<=B\/B+4294967296<=a)->CN f e a i k d (Cx B j)=d (Cx B j))/\
  (∀ {K b:Type} (f:b->List D) (e a:Nat) (i:Nat->Nat) (k:List (K × List b)) (x:Option AO) (d:Hp),(a+4294967296<=B\/B+4294967296<=a)->upd (Cx B j) x (CN f e a i k d)=CN f e a i k (upd (Cx B j) x d))/\
  (∀(c:Nat) (x y:Option AO) (g:Hp),(c<B\/B+4294967296<=c)->upd (Cx B j) x (upd c y g)=upd c y (upd (Cx B j) x g))/\(∀c:Nat,B+4294967296<=c->(Cx B j=c)=False)/\∀c:Nat,B+4294967296<=c->(c=Cx B j)=False:=
 ⟨fun _ _ _ _ _ _ h=>bL (by rw[D8];omega),fun _ _ _ _ _ _ _ h=>uw (by rw[D8];omega),fun _ _ _ _ h=>ux (by rw[D8];omega),fun _ h=>QY l h,fun _ h=>ut l h⟩
theorem Zf {p q:Prop}{F:Prop}(w:F)(k:q)(e:F->p=q:=by intro w;conv=>lhs;try simp -implicitDefEqProofs only[go_sem,Ng,Int.reduceToNat,Int.reduceLT,Int.reduceLE,Int.reduceBEq,Int.reduceBNe,Nat.reduceLT,Nat.reduceBEq,Int.reduceEq,Nat.reduceEqDiff,Nat.reduceAdd,Nat.reduceSub,Nat.reduceMul,Nat.reduceLeDiff,reduceCtorEq, ↓reduceIte,Al,DF,AR,AY,AF,AE,AS,Av,Ag,A8,or_true,true_or,jh,ji,List.set_set,QX,VC,w]):p:=(e w).mpr k
theorem ZF {N nx:Nat}{b c:Fr}{hp' hp:Hp}{F:Prop}(w:F)(R:Nat)(JR:Option (Nat × Nat))(rs:List Nat)(L:List (Nat × Nat))(f:∀J d,JR=some (J,d)->d=R:=by first |(intro _ _ h;cases h;done) |(intro _ _ h;cases h;rfl))(g:bM n N R rs L=true:=by rfl)(k:∀t,b t= .un\/CZ (Ey n JR rs L) (b t)=some (c t):=by repeat' (first |exact Mt _ |refine Xq (by rfl) ?_))(l:F->∀i o,hp' i=some o->∃j e,Ey n JR rs L i=some j/\Ce (Ey n JR rs L) o=some e/\hp j=some e:=by intro w;repeat' (first |exact Mu _ |refine K5 (Sw (by rfl) (by rfl) (by rfl)) ?_ |refine K5 (Sw (by rfl) (jk (by rfl) (by simp) (by first |(intro _ _ h;cases h;done) |(intro J R h;cases h;rw[D8];omega)) ?_ rfl) (by rfl)) ?_ |refine K5 (Sw (by rfl) (jk (by rfl) (by simp) (by first |(intro _ _ h;cases h;done) |(intro J R h;cases h;rw[D8];omega)) ?_ (by assumption)) (by rfl)) ?_ |refine K5 (Sw (by rfl) (vA (by rfl) (by simp) ?_ (w _)) (by rfl)) ?_ |refine jj (by rfl) (by simp) (by first |(intro _ _ h;cases h;done) |(intro J R h;cases h;rw[D8];omega)) (by assumption) (fun j p h a=>by first |(cases h;done) |(simp at h;done) |((try dsimp only);repeat (first |with_reducible exact JP h a |(with_reducible refine QZ ?_ ?_;rw[D8];omega) |(with_reducible refine Qa ?_ ?_;rw[D8];omega)))) ?_ |refine jj (by rfl) (by simp) (by first |(intro _ _ h;cases h;done) |(intro J R h;cases h;rw[D8];omega)) rfl (fun j p h a=>by first |(cases h;done) |(simp at h;done) |((try dsimp only);repeat (first |with_reducible exact JP h a |(with_reducible refine QZ ?_ ?_;rw[D8];omega) |(with_reducible refine Qa ?_ ?_;rw[D8];omega)))) ?_ |refine u9 (by rfl) (by simp) ?_ (w _) (fun j p h a=>by first |(cases h;done) |(simp at h;done) |((try dsimp only);repeat (first |with_reducible exact JP h a |(with_reducible refine QZ ?_ ?_;rw[D8];omega) |(with_reducible refine Qa ?_ ?_;rw[D8];omega)))) (by rfl) ?_ |assumption |decide)):CE n ⟨b,hp',N⟩ ⟨c,hp,nx⟩:=u7 JR f rs L g k (l w)
theorem zM {t0:List AC}{r:A9}(H:Wm n t0=some r):CP Tryz.prog 64 [.d (D.sl (List.map AE t0))] (D.pt (A8 r) 0) true:=by
 unfold Wm at H;refine ZC Ev FI (rs:= #[.tmp 2]) Tryz.func64 ?_;refine Dg ?_;refine AU (AU ?_);refine ZT 1 ?_;obtain⟨fa,b1,H2⟩:=AP H;refine Z0 ?_;refine CT (yM b1) ?_;refine Z0 ?_;refine EJ H2 (fun _ _ (ad,ag,ak,ao) ((be,bg,bl,bo):(Nat->Nat) × (Nat->Nat) × (Nat->Nat) × (Nat->Nat))=>⟨upd 3 (.pt 0 0) AJ,upd 0 (some (.bx [.mo 1,.mo 2,.mo 3,.mo 4])) (upd 1 (some (.mo (CJ Em 4294967296 be ad) false)) (upd 2 (some (.mo (CJ Value.string 8589934592 bg ag) false)) (upd 3 (some (.mo (CJ FD 12884901888 bl ak) false)) (upd 4 (some (.mo (CJ Value.string 17179869184 bo ao) false)) (CN AR 3 4294967296 be ad (CN eS 1 8589934592 bg ag (CN AF 3 12884901888 bl ak (CN eS 1 17179869184 bo ao (AK))))))))),21474836480⟩) (fun e_ E3 H4=> ?_) fun⟨ad,ag,ak,ao⟩ ⟨be,bg,bl,bo⟩ H4=> ?_;rotate_left
 ·refine AQ ?_;obtain⟨dr,H457⟩:=Dv H4;have ds:ad.length<=4294967296:=of_decide_eq_true dr;obtain⟨dt,H460⟩:=Dv H457;have dw:ag.length<=4294967296:=of_decide_eq_true dt;obtain⟨dy,H463⟩:=Dv H460;have dS:ak.length<=4294967296:=of_decide_eq_true dy;obtain⟨d0,H466⟩:=Dv H463;have d1:ao.length<=4294967296:=of_decide_eq_true d0;cases H466;exact KQ (b:=false) (v:=.pt 0 0) (by first |(simp -implicitDefEqProofs only[go_sem, ↓reduceIte]<;>rfl) |rfl) (Fq.val (Cg.one (C3.place (by rfl) (PW.cons (C3.fam (by rfl) ds (fun j p h P=>by repeat (first |with_reducible exact JP h P |(with_reducible refine QZ ?_ ?_;rw[D8];omega) |(with_reducible refine Qa ?_ ?_;rw[D8];omega)))) (PW.cons (C3.fam (by rfl) dw (fun j p h P=>by repeat (first |with_reducible exact JP h P |(with_reducible refine QZ ?_ ?_;rw[D8];omega) |(with_reducible refine Qa ?_ ?_;rw[D8];omega)))) (PW.cons (C3.fam (by rfl) dS (fun j p h P=>by repeat (first |with_reducible exact JP h P |(with_reducible refine QZ ?_ ?_;rw[D8];omega) |(with_reducible refine Qa ?_ ?_;rw[D8];omega)))) (PW.cons (C3.fam (by rfl) d1 (fun j p h P=>by repeat (first |with_reducible exact JP h P |(with_reducible refine QZ ?_ ?_;rw[D8];omega) |(with_reducible refine Qa ?_ ?_;rw[D8];omega)))) PW.nil))))) rfl)) (by intro h;first |rfl |cases h)
 refine DL E3 (fun f _ (g,e,i,k,b2) ((w,l,m,d):(Nat->Nat) × (Nat->Nat) × (Nat->Nat) × (Nat->Nat))=>⟨kp [16,17] f (upd 3 (.pt 0 0) (upd 18 (.v (.int .i64 b2)) AJ)),upd 0 (some (.bx [.mo 1,.mo 2,.mo 3,.mo 4])) (upd 1 (some (.mo (CJ Em 4294967296 w g) false)) (upd 2 (some (.mo (CJ Value.string 8589934592 l e) false)) (upd 3 (some (.mo (CJ FD 12884901888 m i) false)) (upd 4 (some (.mo (CJ Value.string 17179869184 d k) false)) (CN AR 3 4294967296 w g (CN eS 1 8589934592 l e (CN AF 3 12884901888 m i (CN eS 1 17179869184 d k (AK))))))))),21474836480⟩) (((fun _=>0),(fun _=>0),(fun _=>0),(fun _=>0)):(Nat->Nat) × (Nat->Nat) × (Nat->Nat) × (Nat->Nat)) (ZF trivial 340282366920938463463374607431768211457 none [4294967296,8589934592,12884901888,17179869184] [(0,8),(1,1),(2,2),(3,4),(4,5)]) fun c ⟨g,e,i,k,b2⟩ ⟨w,l,m,d⟩ L5=> ?_
 refine Dg ?_;obtain⟨aq,H232⟩ |⟨aq,H232⟩:=Ah L5;rotate_left
 ·refine Z1 aq ?_;obtain⟨d2,H445⟩:=Dv H232;have fb:g.length<=4294967296:=of_decide_eq_true d2;obtain⟨d3,H448⟩:=Dv H445;have fd:e.length<=4294967296:=of_decide_eq_true d3;obtain⟨d4,H451⟩:=Dv H448;have fi:i.length<=4294967296:=of_decide_eq_true d4;obtain⟨ea,H454⟩:=Dv H451;have fn:k.length<=4294967296:=of_decide_eq_true ea;cases H454;exact⟨(w,l,m,d),ZF trivial 340282366920938463463374607431768211457 none [4294967296,8589934592,12884901888,17179869184] [(0,0),(1,1),(2,2),(3,3),(4,4)]⟩
 refine J8 aq ?_;obtain⟨a,fo,fq,eb,H234⟩:=zI AE H232;have ed:=Y2 aq eb;refine Gt ed ?_;refine AU ?_;obtain⟨ee,H240⟩:=Dv H234;have fr:g.length<=4294967296:=of_decide_eq_true ee;obtain⟨ef,H243⟩:=Dv H240;have fs:e.length<=4294967296:=of_decide_eq_true ef;obtain⟨eg,H246⟩:=Dv H243;have ft:i.length<=4294967296:=of_decide_eq_true eg;obtain⟨eh,H249⟩:=Dv H246;have fu:k.length<=4294967296:=of_decide_eq_true eh;refine EJ H249 (fun f _ _ (y:(Nat->Nat))=>⟨kp [16,17,18] f (upd 3 (.pt 0 0) (upd 5 (.pt 5 0) (upd 6 (.pt 6 0) AJ))),upd 0 (some (.bx [.mo 1,.mo 2,.mo 3,.mo 4])) (upd 1 (some (.mo (CJ Em 4294967296 y (Az (⟨a.obj,a.rel⟩:AB) [a.sub_] g)) false)) (upd 2 (some (.mo (CJ Value.string 8589934592 l e) false)) (upd 3 (some (.mo (CJ FD 12884901888 m i) false)) (upd 4 (some (.mo (CJ Value.string 17179869184 d k) false)) (upd 5 (some (.bx [.v (.string a.obj.type_),.v (.string a.obj.id_),.v (.string a.rel),.v (.string a.sub_.type_),.v (.string a.sub_.id_),.v (.string a.sub_.rel)])) (upd 6 (some (.bx [.v (.string a.obj.type_),.v (.string a.obj.id_),.v (.string a.rel)])) (CN AR 3 4294967296 y (Az (⟨a.obj,a.rel⟩:AB) [a.sub_] g) (CN eS 1 8589934592 l e (CN AF 3 12884901888 m i (CN eS 1 17179869184 d k (AK))))))))))),21474836480⟩) (fun fv E251 H252=> ?_) fun _ y H252=> ?_
 ·refine ZT 1 ?_;obtain⟨ek,H254⟩:=Dv E251;obtain⟨b3,el⟩:=X6 ek;refine Z0 ?_;rcases X9 (kv:=Em) (B:=4294967296) (vs:=w) Ra (⟨a.obj,a.rel⟩:AB) g with⟨fz,em,en⟩ |⟨o,Q,Y,eo,eq,er⟩
  ·have G:EC (true,[.string,.string,.string]) (.agg #[.string a.obj.type_,.string a.obj.id_,.string a.rel]) (CJ Em 4294967296 w g)=some none:=em;refine Zf (Y4 G (My G) (M1 G) (MB G)) ?_;refine DD (by kernel_rfl) ?_;refine Zf (Y4 G (My G) (M1 G) (MB G)) ?_;cases H254;exact⟨(C9 (List.length g) 0 w),ZF en 21474836503 (some (Cx 4294967296 (List.length g),21474836503)) [4294967296,8589934592,12884901888,17179869184] [(0,0),(1,1),(2,2),(3,3),(4,4),(5,21474836483),(6,21474836490)]⟩
  have I:EC (true,[.string,.string,.string]) (.agg #[.string a.obj.type_,.string a.obj.id_,.string a.rel]) (CJ Em 4294967296 w g)=some (some (o,.so (Cx 4294967296 o) (w o) 0 Q.length)):=eq;have av:o<4294967296:=OI (Lb.1 Y).1 b3;have b4:∀x:Hp,CN AR 3 4294967296 w g x (Cx 4294967296 o)=some (.rw (List.map AR Q) 3 (w o) false false):=fun _=>JP Y av
  have aE:(CJ Em 4294967296 w g)[o]? =some ((.agg #[.string a.obj.type_,.string a.obj.id_,.string a.rel]),.so (Cx 4294967296 o) (w o) 0 Q.length):=(VD _ _).trans (by rw[Y];rfl);have b5:Q.length+1<=4294967296:=by have:=el;simp only[qf_,eo,Nw] at this;omega
  have a0:=FO (B:=4294967296) av;obtain⟨z,br⟩:∃R,Q++[a.sub_]=R:=⟨_,rfl⟩;have b6:List.map AR Q++[[.v (.string a.sub_.type_),.v (.string a.sub_.id_),.v (.string a.sub_.rel)]]=List.map AR z:=D6 AR br;have b7:Q.length+1=z.length:=D7 br;have b8:z.length<=4294967296:=by omega
  have f1:Az (⟨a.obj,a.rel⟩:AB) [a.sub_] g=List.set g o ((⟨a.obj,a.rel⟩:AB),z):=by rw[<-br];exact er _
  have b9:∀x:Hp,upd (Cx 4294967296 o) (some (.rw (List.map AR z) 3 (w o+1) false false)) (CN AR 3 4294967296 w g x)=CN AR 3 4294967296 (C9 o (w o+1) w) (List.set g o ((⟨a.obj,a.rel⟩:AB),z)) x:=fun _=>X7 (q:=((⟨a.obj,a.rel⟩:AB),z)) Y av;have cb:List.set (CJ Em 4294967296 w g) o ((.agg #[.string a.obj.type_,.string a.obj.id_,.string a.rel]),.so (Cx 4294967296 o) (w o+1) 0 z.length)=CJ Em 4294967296 (C9 o (w o+1) w) (List.set g o ((⟨a.obj,a.rel⟩:AB),z)):=X8 (q:=((⟨a.obj,a.rel⟩:AB),z)) (Lb.1 Y).1;have f2:(List.set g o ((⟨a.obj,a.rel⟩:AB),z)).length<=4294967296:=by rw[NS];exact BL b3
  refine Zf (Y3 (Y6 I (Mz I) (M2 I) (MC I) b4 aE) (Y6 (MA aE) b5 a0 b6 b7 b8) (Y2 b9 cb)) ?_;refine YD (Cx 4294967296 o) 340282366920938463463374607431768211458 (by have:=av;rw[D8];unfold Df;omega) (by decide) (by simp[a0]) (by simp only[Nm,Nr,LA,LU,Lh,Lu,MD,sw,Nat.reduceLeDiff,Nat.reduceLT,Nat.reduceAdd, ↓reduceIte,VC,a0];kernel_rfl) ?_;refine Zf (Y3 (Y6 I (Mz I) (M2 I) (MC I) b4 aE) (Y6 (MA aE) b5 a0 b6 b7 b8) (Y2 b9 cb)) ?_;cases H254;exact⟨(C9 o (w o+1) w),ZF trivial 340282366920938463463374607431768211457 none [4294967296,8589934592,12884901888,17179869184] [(0,0),(1,1),(2,2),(3,3),(4,4),(5,21474836483),(6,21474836490)]⟩
 refine AU ?_;obtain⟨es,H296⟩:=Dv H252;have f3:(Az (⟨a.obj,a.rel⟩:AB) [a.sub_] g).length<=4294967296:=of_decide_eq_true es;refine EJ H296 (fun f _ _ (F:(Nat->Nat))=>⟨kp [16,17,18] f (upd 3 (.pt 0 0) (upd 5 (.pt 5 0) AJ)),upd 0 (some (.bx [.mo 1,.mo 2,.mo 3,.mo 4])) (upd 1 (some (.mo (CJ Em 4294967296 y (Az (⟨a.obj,a.rel⟩:AB) [a.sub_] g)) false)) (upd 2 (some (.mo (CJ Value.string 8589934592 l e) false)) (upd 3 (some (.mo (CJ FD 12884901888 F (Az a.sub_ [(⟨a.obj,a.rel⟩:AB)] i)) false)) (upd 4 (some (.mo (CJ Value.string 17179869184 d k) false)) (upd 5 (some (.bx [.v (.string a.obj.type_),.v (.string a.obj.id_),.v (.string a.rel),.v (.string a.sub_.type_),.v (.string a.sub_.id_),.v (.string a.sub_.rel)])) (CN AR 3 4294967296 y (Az (⟨a.obj,a.rel⟩:AB) [a.sub_] g) (CN eS 1 8589934592 l e (CN AF 3 12884901888 F (Az a.sub_ [(⟨a.obj,a.rel⟩:AB)] i) (CN eS 1 17179869184 d k (AK)))))))))),21474836480⟩) (fun f4 E298 H299=> ?_) fun _ F H299=> ?_
 ·refine ZT 1 ?_;obtain⟨et,H301⟩:=Dv E298;obtain⟨cf,ew⟩:=X6 et;refine Z0 ?_;rcases X9 (kv:=FD) (B:=12884901888) (vs:=m) yV a.sub_ i with⟨f5,ex,ey⟩ |⟨s,S,Z,ez,eA,eD⟩
  ·have J:EC (true,[.string,.string,.string]) (.agg #[.string a.sub_.type_,.string a.sub_.id_,.string a.sub_.rel]) (CJ FD 12884901888 m i)=some none:=ex;refine Zf (Y4 J (My J) (M1 J) (MB J)) ?_;refine DD (by kernel_rfl) ?_;refine Zf (Y4 J (My J) (M1 J) (MB J)) ?_;cases H301;exact⟨(C9 (List.length i) 0 m),ZF ey 21474836491 (some (Cx 12884901888 (List.length i),21474836491)) [4294967296,8589934592,12884901888,17179869184] [(0,0),(1,1),(2,2),(3,3),(4,4),(5,5)]⟩
  have K:EC (true,[.string,.string,.string]) (.agg #[.string a.sub_.type_,.string a.sub_.id_,.string a.sub_.rel]) (CJ FD 12884901888 m i)=some (some (s,.so (Cx 12884901888 s) (m s) 0 S.length)):=eA;have a1:s<4294967296:=OI (Lb.1 Z).1 cf;have ch:∀x:Hp,CN AF 3 12884901888 m i x (Cx 12884901888 s)=some (.rw (List.map AF S) 3 (m s) false false):=fun _=>JP Z a1
  have a2:(CJ FD 12884901888 m i)[s]? =some ((.agg #[.string a.sub_.type_,.string a.sub_.id_,.string a.sub_.rel]),.so (Cx 12884901888 s) (m s) 0 S.length):=(VD _ _).trans (by rw[Z];rfl);have cp:S.length+1<=4294967296:=by have:=ew;simp only[qf_,ez,Nw] at this;omega
  have a3:=FO (B:=12884901888) a1;obtain⟨A,bs⟩:∃R,S++[(⟨a.obj,a.rel⟩:AB)]=R:=⟨_,rfl⟩;have cs:List.map AF S++[[.v (.string a.obj.type_),.v (.string a.obj.id_),.v (.string a.rel)]]=List.map AF A:=D6 AF bs;have cx:S.length+1=A.length:=D7 bs;have cN:A.length<=4294967296:=by omega
  have f6:Az a.sub_ [(⟨a.obj,a.rel⟩:AB)] i=List.set i s (a.sub_,A):=by rw[<-bs];exact eD _
  have c0:∀x:Hp,upd (Cx 12884901888 s) (some (.rw (List.map AF A) 3 (m s+1) false false)) (CN AF 3 12884901888 m i x)=CN AF 3 12884901888 (C9 s (m s+1) m) (List.set i s (a.sub_,A)) x:=fun _=>X7 (q:=(a.sub_,A)) Z a1;have c1:List.set (CJ FD 12884901888 m i) s ((.agg #[.string a.sub_.type_,.string a.sub_.id_,.string a.sub_.rel]),.so (Cx 12884901888 s) (m s+1) 0 A.length)=CJ FD 12884901888 (C9 s (m s+1) m) (List.set i s (a.sub_,A)):=X8 (q:=(a.sub_,A)) (Lb.1 Z).1;have f7:(List.set i s (a.sub_,A)).length<=4294967296:=by rw[NS];exact BL cf
  refine Zf (Y3 (Y6 K (Mz K) (M2 K) (MC K) ch a2) (Y6 (MA a2) cp a3 cs cx cN) (Y2 c0 c1)) ?_;refine YD (Cx 12884901888 s) 340282366920938463463374607431768211458 (by have:=a1;rw[D8];unfold Df;omega) (by decide) (by simp[a3]) (by simp only[Nm,Nr,LA,LU,Lh,Lu,MD,sw,Nat.reduceLeDiff,Nat.reduceLT,Nat.reduceAdd, ↓reduceIte,VC,a3];kernel_rfl) ?_;refine Zf (Y3 (Y6 K (Mz K) (M2 K) (MC K) ch a2) (Y6 (MA a2) cp a3 cs cx cN) (Y2 c0 c1)) ?_;cases H301;exact⟨(C9 s (m s+1) m),ZF trivial 340282366920938463463374607431768211457 none [4294967296,8589934592,12884901888,17179869184] [(0,0),(1,1),(2,2),(3,3),(4,4),(5,5)]⟩
 refine AU ?_;obtain⟨eF,H343⟩:=Dv H299;have f8:(Az a.sub_ [(⟨a.obj,a.rel⟩:AB)] i).length<=4294967296:=of_decide_eq_true eF;refine EJ H343 (fun f _ _ (T:(Nat->Nat))=>⟨kp [16,17,18] f (upd 3 (.pt 0 0) (upd 5 (.pt 5 0) AJ)),upd 0 (some (.bx [.mo 1,.mo 2,.mo 3,.mo 4])) (upd 1 (some (.mo (CJ Em 4294967296 y (Az (⟨a.obj,a.rel⟩:AB) [a.sub_] g)) false)) (upd 2 (some (.mo (CJ Value.string 8589934592 T (Az a.obj.type_ [a.obj.id_] e)) false)) (upd 3 (some (.mo (CJ FD 12884901888 F (Az a.sub_ [(⟨a.obj,a.rel⟩:AB)] i)) false)) (upd 4 (some (.mo (CJ Value.string 17179869184 d k) false)) (upd 5 (some (.bx [.v (.string a.obj.type_),.v (.string a.obj.id_),.v (.string a.rel),.v (.string a.sub_.type_),.v (.string a.sub_.id_),.v (.string a.sub_.rel)])) (CN AR 3 4294967296 y (Az (⟨a.obj,a.rel⟩:AB) [a.sub_] g) (CN eS 1 8589934592 T (Az a.obj.type_ [a.obj.id_] e) (CN AF 3 12884901888 F (Az a.sub_ [(⟨a.obj,a.rel⟩:AB)] i) (CN eS 1 17179869184 d k (AK)))))))))),21474836480⟩) (fun gb E345 H346=> ?_) fun _ T H346=> ?_
 ·refine ZT 1 ?_;obtain⟨eH,H348⟩:=Dv E345;obtain⟨c2,eK⟩:=X6 eH;refine Z0 ?_;rcases X9 (kv:=Value.string) (B:=8589934592) (vs:=l) K6 a.obj.type_ e with⟨ge,eN,eP⟩ |⟨t,U,aa,eR,eU,eV⟩
  ·have L:EC (false,[.string]) (.string a.obj.type_) (CJ Value.string 8589934592 l e)=some none:=eN;refine Zf (Y4 L (My L) (M1 L) (MB L)) ?_;refine DD (by kernel_rfl) ?_;refine Zf (Y4 L (My L) (M1 L) (MB L)) ?_;cases H348;exact⟨(C9 (List.length e) 0 l),ZF eP 21474836501 (some (Cx 8589934592 (List.length e),21474836501)) [4294967296,8589934592,12884901888,17179869184] [(0,0),(1,1),(2,2),(3,3),(4,4),(5,5)]⟩
  have M:EC (false,[.string]) (.string a.obj.type_) (CJ Value.string 8589934592 l e)=some (some (t,.so (Cx 8589934592 t) (l t) 0 U.length)):=eU;have a4:t<4294967296:=OI (Lb.1 aa).1 c2;have c3:∀x:Hp,CN eS 1 8589934592 l e x (Cx 8589934592 t)=some (.rw (List.map eS U) 1 (l t) false false):=fun _=>JP aa a4
  have a5:(CJ Value.string 8589934592 l e)[t]? =some ((.string a.obj.type_),.so (Cx 8589934592 t) (l t) 0 U.length):=(VD _ _).trans (by rw[aa];rfl);have c4:U.length+1<=4294967296:=by have:=eK;simp only[qf_,eR,Nw] at this;omega
  have a6:=FO (B:=8589934592) a4;obtain⟨C,bx⟩:∃R,U++[a.obj.id_]=R:=⟨_,rfl⟩;have c5:List.map eS U++[[.v (.string a.obj.id_)]]=List.map eS C:=D6 eS bx;have c6:U.length+1=C.length:=D7 bx;have c7:C.length<=4294967296:=by omega
  have gh:Az a.obj.type_ [a.obj.id_] e=List.set e t (a.obj.type_,C):=by rw[<-bx];exact eV _
  have c9:∀x:Hp,upd (Cx 8589934592 t) (some (.rw (List.map eS C) 1 (l t+1) false false)) (CN eS 1 8589934592 l e x)=CN eS 1 8589934592 (C9 t (l t+1) l) (List.set e t (a.obj.type_,C)) x:=fun _=>X7 (q:=(a.obj.type_,C)) aa a4;have da:List.set (CJ Value.string 8589934592 l e) t ((.string a.obj.type_),.so (Cx 8589934592 t) (l t+1) 0 C.length)=CJ Value.string 8589934592 (C9 t (l t+1) l) (List.set e t (a.obj.type_,C)):=X8 (q:=(a.obj.type_,C)) (Lb.1 aa).1;have gi:(List.set e t (a.obj.type_,C)).length<=4294967296:=by rw[NS];exact BL c2
  refine Zf (Y3 (Y6 M (Mz M) (M2 M) (MC M) c3 a5) (Y6 (MA a5) c4 a6 c5 c6 c7) (Y2 c9 da)) ?_;refine YD (Cx 8589934592 t) 340282366920938463463374607431768211458 (by have:=a4;rw[D8];unfold Df;omega) (by decide) (by simp[a6]) (by simp only[Nm,Nr,LA,LU,Lh,Lu,MD,sw,Nat.reduceLeDiff,Nat.reduceLT,Nat.reduceAdd, ↓reduceIte,VC,a6];kernel_rfl) ?_;refine Zf (Y3 (Y6 M (Mz M) (M2 M) (MC M) c3 a5) (Y6 (MA a5) c4 a6 c5 c6 c7) (Y2 c9 da)) ?_;cases H348;exact⟨(C9 t (l t+1) l),ZF trivial 340282366920938463463374607431768211457 none [4294967296,8589934592,12884901888,17179869184] [(0,0),(1,1),(2,2),(3,3),(4,4),(5,5)]⟩
 refine Ax ?_;obtain⟨X,H388⟩ |⟨X,H388⟩:=Ah H346;rotate_left
 ·refine DI (by rfl) X ?_;refine Z1 X ?_;refine ZT 3 ?_;refine Z1 X ?_;obtain⟨e0,H439⟩:=Dv H388;have gn:(Az a.obj.type_ [a.obj.id_] e).length<=4294967296:=of_decide_eq_true e0;exact⟨_,(y,T,F,d),H439,ZF trivial 340282366920938463463374607431768211457 none [4294967296,8589934592,12884901888,17179869184] [(0,0),(1,1),(2,2),(3,3),(4,4)]⟩
 refine ED (by rfl) X ?_;refine Z1 X ?_;obtain⟨e1,H390⟩:=Dv H388;have go:(Az a.obj.type_ [a.obj.id_] e).length<=4294967296:=of_decide_eq_true e1;refine EJ H390 (fun f _ _ (a9:(Nat->Nat))=>⟨kp [16,17,18] f (upd 3 (.pt 0 0) AJ),upd 0 (some (.bx [.mo 1,.mo 2,.mo 3,.mo 4])) (upd 1 (some (.mo (CJ Em 4294967296 y (Az (⟨a.obj,a.rel⟩:AB) [a.sub_] g)) false)) (upd 2 (some (.mo (CJ Value.string 8589934592 T (Az a.obj.type_ [a.obj.id_] e)) false)) (upd 3 (some (.mo (CJ FD 12884901888 F (Az a.sub_ [(⟨a.obj,a.rel⟩:AB)] i)) false)) (upd 4 (some (.mo (CJ Value.string 17179869184 a9 (Az a.sub_.type_ [a.sub_.id_] k)) false)) (CN AR 3 4294967296 y (Az (⟨a.obj,a.rel⟩:AB) [a.sub_] g) (CN eS 1 8589934592 T (Az a.obj.type_ [a.obj.id_] e) (CN AF 3 12884901888 F (Az a.sub_ [(⟨a.obj,a.rel⟩:AB)] i) (CN eS 1 17179869184 a9 (Az a.sub_.type_ [a.sub_.id_] k) (AK))))))))),21474836480⟩) (fun gs E392 H393=> ?_) fun _ a9 H393=> ?_;rotate_left
 ·refine FN ?_;obtain⟨e2,H435⟩:=Dv H393;have gL:(Az a.sub_.type_ [a.sub_.id_] k).length<=4294967296:=of_decide_eq_true e2;exact⟨_,(y,T,F,a9),H435,ZF trivial 340282366920938463463374607431768211457 none [4294967296,8589934592,12884901888,17179869184] [(0,0),(1,1),(2,2),(3,3),(4,4)]⟩
 refine ZT 1 ?_;obtain⟨e3,H395⟩:=Dv E392;obtain⟨dd,e4⟩:=X6 e3;refine Z0 ?_;rcases X9 (kv:=Value.string) (B:=17179869184) (vs:=d) K6 a.sub_.type_ k with⟨gR,e5,e6⟩ |⟨u,V,ab,e7,e8,e9⟩
 ·have N:EC (false,[.string]) (.string a.sub_.type_) (CJ Value.string 17179869184 d k)=some none:=e5;refine Zf (Y4 N (My N) (M1 N) (MB N)) ?_;refine DD (by kernel_rfl) ?_;refine Zf (Y4 N (My N) (M1 N) (MB N)) ?_;cases H395;exact⟨(C9 (List.length k) 0 d),ZF e6 21474836505 (some (Cx 17179869184 (List.length k),21474836505)) [4294967296,8589934592,12884901888,17179869184] [(0,0),(1,1),(2,2),(3,3),(4,4)]⟩
 have O:EC (false,[.string]) (.string a.sub_.type_) (CJ Value.string 17179869184 d k)=some (some (u,.so (Cx 17179869184 u) (d u) 0 V.length)):=e8;have ba:u<4294967296:=OI (Lb.1 ab).1 dd;have df:∀x:Hp,CN eS 1 17179869184 d k x (Cx 17179869184 u)=some (.rw (List.map eS V) 1 (d u) false false):=fun _=>JP ab ba
 have bb:(CJ Value.string 17179869184 d k)[u]? =some ((.string a.sub_.type_),.so (Cx 17179869184 u) (d u) 0 V.length):=(VD _ _).trans (by rw[ab];rfl);have dk:V.length+1<=4294967296:=by have:=e4;simp only[qf_,e7,Nw] at this;omega
 have bd:=FO (B:=17179869184) ba;obtain⟨E,b0⟩:∃R,V++[a.sub_.id_]=R:=⟨_,rfl⟩;have dl:List.map eS V++[[.v (.string a.sub_.id_)]]=List.map eS E:=D6 eS b0;have dm:V.length+1=E.length:=D7 b0;have dn:E.length<=4294967296:=by omega
 have g0:Az a.sub_.type_ [a.sub_.id_] k=List.set k u (a.sub_.type_,E):=by rw[<-b0];exact e9 _
 have dp:∀x:Hp,upd (Cx 17179869184 u) (some (.rw (List.map eS E) 1 (d u+1) false false)) (CN eS 1 17179869184 d k x)=CN eS 1 17179869184 (C9 u (d u+1) d) (List.set k u (a.sub_.type_,E)) x:=fun _=>X7 (q:=(a.sub_.type_,E)) ab ba;have dq:List.set (CJ Value.string 17179869184 d k) u ((.string a.sub_.type_),.so (Cx 17179869184 u) (d u+1) 0 E.length)=CJ Value.string 17179869184 (C9 u (d u+1) d) (List.set k u (a.sub_.type_,E)):=X8 (q:=(a.sub_.type_,E)) (Lb.1 ab).1;have g1:(List.set k u (a.sub_.type_,E)).length<=4294967296:=by rw[NS];exact BL dd
 refine Zf (Y3 (Y6 O (Mz O) (M2 O) (MC O) df bb) (Y6 (MA bb) dk bd dl dm dn) (Y2 dp dq)) ?_;refine YD (Cx 17179869184 u) 340282366920938463463374607431768211458 (by have:=ba;rw[D8];unfold Df;omega) (by decide) (by simp[bd]) (by simp only[Nm,Nr,LA,LU,Lh,Lu,MD,sw,Nat.reduceLeDiff,Nat.reduceLT,Nat.reduceAdd, ↓reduceIte,VC,bd];kernel_rfl) ?_;refine Zf (Y3 (Y6 O (Mz O) (M2 O) (MC O) df bb) (Y6 (MA bb) dk bd dl dm dn) (Y2 dp dq)) ?_;cases H395;exact⟨(C9 u (d u+1) d),ZF trivial 340282366920938463463374607431768211457 none [4294967296,8589934592,12884901888,17179869184] [(0,0),(1,1),(2,2),(3,3),(4,4)]⟩
end Go.Proofs.YtnmkbmefohakmaaGreat.Ab
