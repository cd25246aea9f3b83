/-
 Sorts.
-/
import Derived.Test.YtnmkbmefohakmaaGreatLtx
import Derived.Shelf.SlSortCmp.NoneTotal
set_option linter.all false
namespace Go.Proofs.YtnmkbmefohakmaaGreat.Ab
open Go.RowKit IntKind
theorem wr {x:Int}(b: -9223372036854775808<=x)(c:x<9223372036854775808):i64.wrap x=x:=IntWalk.i64_in _ (by omega)
variable {a k:Nat}{α:Type}{xs:List α}
theorem MR (h:k<9223372036854775807:=by omega):i64.wrap ((k:Int)+1)=((k+1:Nat):Int):=T3 (by omega)
theorem EO {b:Nat}(h:a<b:=by omega):decide ((a:Int)<(b:Int))=true:=by simp;omega
theorem DC {b:Nat}(h:b<=a:=by omega):decide ((a:Int)<(b:Int))=false:=by simp;omega
theorem x5 (t:Int):i64.wrap (an t 255:Int)=(an t 255:Nat):=T5 _ _ (by decide)
theorem CL (h:k<xs.length):CD xs (k:Int)=some xs[k]:=by rw[Pt,Le h]
theorem DV {b:List α}(h:xs.length+b.length<=4294967296):DG xs b=some (xs++b):=if_pos h
theorem Jn {b:Nat}(c:a<=b)(d:b<=xs.length):FV xs (a:Int) (b:Int)=some ((xs.take b).drop a):=by
 unfold FV;rw[if_pos ⟨by omega,by omega,by omega⟩];rfl
theorem fH (s:ByteArray)(i:Nat):s[i]? =s.data.toList[i]? :=by
 simp[getElem?_def,ByteArray.getElem_eq_getElem_data,ByteArray.size_data]
theorem v6_ (s:ByteArray):s.data.toList.length=s.size:=by simp
theorem HI {s:ByteArray}(h:k<s.size):D6 s (k:Int)=some ((s.data.toList[k]'(by rw[v6_];exact h)).toNat:Int):=by
 unfold D6;rw[ifp,Lk,fH,Le (by rw[v6_];exact h)];rfl
theorem I7 {s:ByteArray}{b:Nat}(c:a<=b)(d:b<=s.size):KZ s (a:Int) (b:Int)=some (s.extract a b):=by
 unfold KZ;rw[if_pos ⟨by omega,by omega,by omega⟩];rfl
theorem fI {a b:ByteArray}(h:a.size+b.size<=maxLen):Ed a b=some (a++b):=if_pos h
theorem oA {α:Type}{L:Nat->Int->Option (Unit ⊕ Int)}{xs:List α}{P:α->Option Bool}(p:α->Bool)(e:∀c i,L (c+1) i=if decide (i<(xs.length:Int)) then(CD xs i).bind fun x=>(P x).bind fun b=>if b then some (.inr i) else L c (i64.wrap (i+1)) else some (.inl ()))
  (f:∀x∈xs,P x=some (p x)) (l:xs.length<4611686018427387904):∀(c j:Nat),j<=xs.length->xs.length-j<c->∃r,L c (j:Int)=some r/\(((xs.drop j).any p=true/\∃k:Nat,r= .inr (k:Int))\/((xs.drop j).any p=false/\r= .inl ()))
 |0,_,_,h=>by omega
 |c+1,j,s,t=>by
  rw[e];by_cases d:j<xs.length
  ·rw[EO d,if_pos rfl,CL d,LU,f _ (LZ d),LU,Lm d];cases g:p xs[j] with
   |true=>exact⟨_,if_pos rfl,.inl ⟨by rw[BZ,g,Oq],j,rfl⟩⟩
   |false=>
    rw[if_neg (by decide),MR];have⟨r,o,q⟩:=oA p e f l c (j+1) (by omega) (by omega);exact⟨r,o,by rw[BZ,g,Be];exact q⟩
  rw[DC,if_neg (by decide),Nt (by omega)];exact⟨_,rfl,.inr ⟨rfl,rfl⟩⟩
theorem oB {α:Type}(O:Lin α){L:Nat->List α × Int × Int->Option (List α)}{a b:List α}
  (v:∀c t i k,L (c+1) (t,i,k)=
   (((if decide (i<(a.length:Int)) then some (t,true) else some (t,decide (k<(b.length:Int)))):Option (List α × Bool)).bind fun q=>
   (if q.2 then
    (((if k==(b.length:Int) then some (q.1,true) else(if decide (i<(a.length:Int)) then(CD a i).bind fun x=>(CD b k).bind fun y=>some (q.1,O.lt x y) else some (q.1,false))):Option (List α × Bool)).bind fun w=>
    (if w.2 then(CD a i).bind fun x=>(DG w.1 [x]).bind fun l=>L c (l,i64.wrap (i+1),k)
    else(if i==(a.length:Int) then(CD b k).bind fun y=>(DG w.1 [y]).bind fun l=>L c (l,i,i64.wrap (k+1))
     else(CD b k).bind fun y=>(CD a i).bind fun x=>(if O.lt y x then(DG w.1 [y]).bind fun l=>L c (l,i,i64.wrap (k+1)) else L c (w.1,i64.wrap (i+1),k)))))
   else some q.1)))
  :∀(c:Nat) (t:List α) (i k:Nat),i<=a.length->k<=b.length->(a.length-i)+(b.length-k)<c->t.length+(a.length-i)+(b.length-k)<=4294967296->a.length<4611686018427387904->b.length<4611686018427387904->
   L c (t,(i:Int),(k:Int))=some (t++O.mg (a.drop i) (b.drop k))
 |0,_,_,_,_,_,h,_,_,_=>by omega
 |c+1,t,i,k,z,p,B,C,f,g=>by
  have j:=oB O v c;rw[v];by_cases e:i<a.length
  ·rw[EO e,if_pos rfl,LU,if_pos rfl];by_cases d:k<b.length
   ·have o:((k:Int)==(b.length:Int))=false:=(by simp;omega);rw[o,if_neg (by decide),if_pos rfl,CL e,LU,CL d,LU,LU];cases s:O.lt a[i] b[k] with
    |true=>
     dsimp only;rw[if_pos rfl,LU,DV (by simp;omega),LU,MR,j _ _ _ (by omega) p (by omega) (by simp;omega) f g,O.step_left (Le e) (.inr ⟨_,Le d,s⟩)];simp
    |false=>
     have u:((i:Int)==(a.length:Int))=false:=(by simp;omega);dsimp only;rw[if_neg (by decide),u,if_neg (by decide),LU,LU];cases A:O.lt b[k] a[i] with
     |true=>
      rw[if_pos rfl,DV (by simp;omega),LU,MR,j _ _ _ z (by omega) (by omega) (by simp;omega) f g,O.step_right (Le d) (.inr ⟨_,Le e,s,A⟩)];simp
     |false=>
      rw[if_neg (by decide),MR,j _ _ _ (by omega) p (by omega) (by omega) f g,O.step_both (Le e) (Le d) s A]
   have o:((k:Int)==(b.length:Int))=true:=(by simp;omega);rw[o,if_pos rfl,LU,if_pos rfl,CL e,LU,DV (by simp;omega),LU,MR,j _ _ _ (by omega) p (by omega) (by simp;omega) f g,O.step_left (Le e) (.inl (by omega))];simp
  rw[DC,if_neg (by decide),LU];by_cases d:k<b.length
  ·have o:((k:Int)==(b.length:Int))=false:=(by simp;omega);have u:((i:Int)==(a.length:Int))=true:=(by simp;omega);dsimp only;rw[EO d,if_pos rfl,o,if_neg (by decide),if_neg (by decide),LU];dsimp only;rw[if_neg (by decide),u,if_pos rfl,CL d,LU,DV (by simp;omega),LU,MR,j _ _ _ z (by omega) (by omega) (by simp;omega) f g,O.step_right (Le d) (.inl (by omega))];simp
  dsimp only;rw[DC,if_neg (by decide),Nt (by omega),Nt (by omega),O.nil_mg,LX]
theorem SR (O:Lin α)(l:List α):(O.ofL l).length<=l.length:=by
 have b:∀(x:α) (l:List α),(O.ins x l).length<=l.length+1:=fun x l=>by
  induction l with
  |nil=>simp[Lin.ins]
  |cons y r c=>
   simp only[Lin.ins];split
   ·simp
   split
   ·simp;omega
   simp
 induction l with
 |nil=>simp[Lin.ofL]
 |cons x r c=>
  have:=b x (O.ofL r);have e:O.ofL (x::r)=O.ins x (O.ofL r):=rfl;rw[e,Lh];omega
theorem yA (O:Lin α){l:List α}(h:l.length<2):O.ofL l=l:=by
 match l,h with
 |[],_=>rfl
 |[x],_=>rfl
end Go.Proofs.YtnmkbmefohakmaaGreat.Ab
namespace Go.Proofs.YtnmkbmefohakmaaGreat.Ab
open Go.Shelf Go.RowKit
def G5 (a b:ByteArray):Int:=Lib.compareBytes a.data.toList b.data.toList
def bytealg_CompareString (c:Nat)(a b:ByteArray):Option Int:=some (G5 a b)
variable {a:ByteArray}
theorem xZ {w:World}{I:Nat->Prop}{c:Array Value}{b:ByteArray}(e:c.size=2)(h:∀(j:Nat) (x:D),[D.v (.string a),D.v (.string b)][j]? =some x->∃u,c[j]? =some u/\Dj w I x u):c= #[.string a,.string b]:=by
 have⟨f,g,i⟩:=h 0 _ rfl;have⟨l,o,p⟩:=h 1 _ rfl;cases(show RC w I (.v (.string a)) f from i);cases(show RC w I (.v (.string b)) l from p);apply Ih
 ·simpa using e
 intro j d q
 have:j=0\/j=1:=by
  have:j<2:=by simpa using q
  omega
 rcases this with rfl |rfl
 ·simpa [d] using g
 simpa [d] using o
theorem xa {n:Nat}{b:ByteArray}{r:Int}(h:bytealg_CompareString n a b=some r):AI Tryz.prog 138 [D.v (.string a),D.v (.string b)] (D.v (.int .i64 r)) true:=by
 obtain rfl:=LM h;refine⟨⟨_,Tryz.func138,by kernel_rfl,by kernel_rfl⟩,fun w f g _ c h=> ?_⟩;obtain rfl:=xZ c h;refine(Any.bytealg_CompareString mB a b w).mono ?_;rintro e d ⟨rfl,rfl⟩;exact⟨_,rfl,⟨Below.refl _ _,Lc _⟩,(.v _ rfl:RC d _ _ _)⟩
theorem SC (a b:ByteArray):decide (G5 a b<0)=tx.lt a b:=by
 have h:∀a b:List UInt8,Op.bytesLess a b=decide (Lib.compareBytes a b<0):=by
  intro a;induction a with
  |nil=>intro b;cases b<;>simp[Op.bytesLess,Lib.compareBytes]
  |cons a j c=>
   intro b;cases b with
   |nil=>simp[Op.bytesLess,Lib.compareBytes]
   |cons b i=>
    have c:=c i;simp only[Op.bytesLess,Lib.compareBytes];by_cases d:a<b
    ·simp[d]
    by_cases g:b<a
    ·have f:a≠b:=(by intro e;subst e;exact d g);simp[d,g,f]
    have f:a=b:=by
     rw[OY] at *;exact Ot.1 (by omega)
    subst f;simp[c]
 show _=Op.bytesLess a.toList b.toList;rw[Lib.toList_data,Lib.toList_data,h];rfl
theorem nD:∀a b:List UInt8,Lib.compareBytes a b= -Lib.compareBytes b a
 |[],[]=>rfl
 |[],_::_=>rfl
 |_::_,[]=>rfl
 |a::e,b::f=>by
  have g:=nD e f;simp only[Lib.compareBytes];by_cases d:a<b
  ·have c:¬b<a:=(by rw[OY] at *;omega);simp[d,c]
  by_cases c:b<a
  ·simp[d,c]
  simp[d,c,g]
theorem eZ (a b:ByteArray):G5 a b= -G5 b a:=nD _ _
theorem US (a b:ByteArray):G5 a b=0↔a=b:=by
 constructor
 ·intro h;have c:=SC a b;have d:=SC b a;have e:=eZ a b;exact tx.total (c.symm.trans C6) (d.symm.trans C6)
 rintro rfl;have c:=SC a a;rw[tx.irrefl] at c;have d:=eZ a a;have e:=of_decide_eq_false c;omega
theorem xb {b c:ByteArray}(g:G5 a b<0)(h:G5 b c<0):G5 a c<0:=by
 have d:=SC a b;have e:=SC b c;have f:=SC a c;rw[decide_eq_true g] at d;rw[decide_eq_true h] at e;rw[tx.trans d.symm e.symm] at f;exact of_decide_eq_true f
def HF:List Int->Int
 |[]=>0
 |x::r=>if x=0 then HF r else x
def Ev (x y:List ByteArray):Int:=HF (List.zipWith G5 x y)
theorem ec:∀x y,Ev x y= -Ev y x
 |[],[]=>rfl
 |[],_::_=>rfl
 |_::_,[]=>rfl
 |a::x,b::y=>by
  have d:=ec x y;have h:=eZ a b;unfold Ev at *;simp only[Bd,HF];by_cases c:G5 b a=0
  ·simp[h,c,d]
  simp[h,c]
theorem Wi:∀x y:List ByteArray,x.length=y.length->(Ev x y=0↔x=y)
 |[],[],_=>by simp[Ev,HF]
 |[],_::_,h=>by simp at h
 |_::_,[],h=>by simp at h
 |a::x,b::y,h=>by
  have d:=Wi x y (by simpa using h);unfold Ev at *;simp only[Bd,HF,List.cons.injEq];by_cases c:G5 a b=0
  ·rw[if_pos c,d]
   have:=(US a b).1 c;simp[this]
  have:a≠b:=fun e=>c ((US a b).2 e)
  simp[c,this]
theorem nE:∀x y z:List ByteArray,x.length=y.length->y.length=z.length->Ev x y<0->Ev y z<0->Ev x z<0
 |[],[],[],_,_,h,_=>by simp[Ev,HF] at h
 |[],_::_,_,h,_,_,_=>by simp at h
 |_::_,[],_,h,_,_,_=>by simp at h
 |_,[],_::_,_,h,_,_=>by simp at h
 |_,_::_,[],_,h,_,_=>by simp at h
 |a::x,b::y,c::z,j,l,f,d=>by
  have o:=nE x y z (by simpa using j) (by simpa using l);unfold Ev at *;simp only[Bd,HF] at *;by_cases i:G5 a b=0
  ·have e:=(US a b).1 i;subst e;rw[if_pos i] at f;by_cases g:G5 a c=0
   ·rw[if_pos g] at d⊢;exact o f d
   rw[if_neg g] at d⊢;exact d
  rw[if_neg i] at f;by_cases g:G5 b c=0
  ·have e:=(US b c).1 g;subst e;rw[if_neg i];exact f
  rw[if_neg g] at d;have p:=xb f d;rw[ifn];exact p
def ei {α:Type}(f:α->List ByteArray)(b:∀x y,(f x).length=(f y).length)(c:∀x y,f x=f y->x=y):Lin α where
 lt x y:=decide (Ev (f x) (f y)<0)
 irrefl x:=decide_eq_false (by have:=(Wi (f x) (f x) rfl).2 rfl;omega)
 trans h1 h2:=decide_eq_true (nE _ _ _ (b _ _) (b _ _) (of_decide_eq_true h1) (of_decide_eq_true h2))
 total {x y} h1 h2:=c _ _ ((Wi _ _ (b _ _)).1 (by
  have d:=of_decide_eq_false h1;have e:=of_decide_eq_false h2;have g:=ec (f x) (f y);omega))
end Go.Proofs.YtnmkbmefohakmaaGreat.Ab
namespace Go.Proofs.YtnmkbmefohakmaaGreat.Ab
open Go.RowKit
def Xh (n:Nat)(b:List Int):Nat->Int->Option ((Unit) ⊕ Int)
 |0,_=>none
 |c+1,d=>(if decide (d<(b.length:Int)) then (CD b d).bind fun e=>(if (e != 0) then some (.inr e) else Xh n b c (IntKind.i64.wrap (d+1))) else some (.inl ()))
def Xi (n:Nat)(b:List Int):Option Int:=(Xh n b n 0:Option ((Unit) ⊕ Int)).bind fun
  | .inl _=>some 0
  | .inr r=>some r
variable {n:Nat}{r:Int}
theorem cc_ {g:List Int}(H:Xi n g=some r):AI Tryz.prog 105 [D.sl (List.map eI g)] (D.v (.int .i64 r)) true:=by
 unfold Xi at H;refine zP #[.tmp 2] Tryz.func105 ?_;refine EE ?_;refine EZ ?_;refine zi H (fun f _ _=>⟨kp [3] f AK,AM,0⟩) (fun p j b=> ?_) fun _ b=> ?_
 ·refine EG j (fun f _ h=>⟨kp [3,6,7] f (upd 8 (.v (.int .i64 h)) AK),AM,0⟩) (ZR []) fun c h l=> ?_
  refine AP ?_;obtain⟨d,H15⟩ |⟨d,H15⟩:=As l
  ·obtain⟨q,s,t,o,H17⟩:=zI eI H15;have i:=Y2 d o;refine Z1 i ?_;obtain⟨e,H23⟩ |⟨e,H23⟩:=Cg i H17
   ·refine Z1 e ?_;cases H23;cases b;exact Ax
   refine Z1 e ?_;exact⟨_,H23,ZR []⟩
  refine Z1 d ?_;cases H15;exact⟨_,rfl,ZR []⟩
 refine AP ?_;cases b;exact Ax
def PU (n:Nat)(a:ByteArray)(b:ByteArray):Option Int:=(bytealg_CompareString n a b).bind fun c=>some c
theorem Uu {a:ByteArray}{b:ByteArray}(H:PU n a b=some r):AI Tryz.prog 106 [D.v (.string a),D.v (.string b)] (D.v (.int .i64 r)) true:=by
 unfold PU at H;refine zP #[.tmp 4] Tryz.func106 ?_;refine ZT 1 ?_;have⟨e,c,d⟩:=AL H;refine Z0 ?_;refine Cn (xa c) ?_;refine Z0 ?_;cases d;exact Ax
def aZ (n:Nat)(a:AD)(b:AD):Option Int:=(PU n a.obj.type_ b.obj.type_).bind fun c=>(PU n a.obj.id_ b.obj.id_).bind fun d=>(PU n a.rel b.rel).bind fun e=>(PU n a.sub_.type_ b.sub_.type_).bind fun f=>(PU n a.sub_.id_ b.sub_.id_).bind fun g=>(PU n a.sub_.rel b.sub_.rel).bind fun h=>(Xi n [c,d,e,f,g,h]).bind fun i=>some i
theorem g2_ {a:AD}{b:AD}(H:aZ n a b=some r):AI Tryz.prog 120 [D.ag (AE a),D.ag (AE b)] (D.v (.int .i64 r)) true:=by
 unfold aZ at H;refine zP #[.tmp 4] Tryz.func120 ?_;refine ZT 1 ?_;have⟨q,c,d⟩:=AL H;refine Z0 ?_;refine EB (Uu c) ?_;have⟨s,e,f⟩:=AL d;refine Z0 ?_;refine EB (Uu e) ?_;have⟨t,g,h⟩:=AL f;refine Z0 ?_;refine EB (Uu g) ?_;have⟨u,i,j⟩:=AL h;refine Z0 ?_;refine EB (Uu i) ?_;have⟨v,l,H10⟩:=AL j;refine Z0 ?_;refine EB (Uu l) ?_;have⟨w,o,H12⟩:=AL H10;refine Z0 ?_;refine EB (Uu o) ?_;have⟨x,p,H14⟩:=AL H12;refine Z0 ?_;refine EB (cc_ p) ?_;refine Z0 ?_;refine DF (by kernel_rfl) ?_;refine Z0 ?_;cases H14;exact Ax
end Go.Proofs.YtnmkbmefohakmaaGreat.Ab

namespace Go.Proofs.YtnmkbmefohakmaaGreat.Ab
open Go.RowKit Lib IntKind
variable {m:Nat}
section
variable {α:Type}[Inhabited α][DecidableEq α]
def cq (xs:List α)(m:Nat):List α:=compactUpTo xs.toArray m
def yq (xs:List α)(m:Nat):List α:=cq xs m++xs.drop (cq xs m).length
theorem l9 {xs:List α}(h:0<xs.length):cq xs 1=xs.take 1:=by
 obtain⟨x,r,rfl⟩:∃x r,xs=x::r:=by cases xs with |nil=>simp at h |cons x r=>exact⟨x,r,rfl⟩
 simp[cq,compactUpTo,keeps,OO]
omit [DecidableEq α] in
theorem Kj {xs:List α}{k:Nat}(h:k<xs.length):xs.toArray[k]! =xs[k]:=by simp[h]
theorem Kk {xs:List α}(h:m+1<xs.length)(b:xs[m+1]=xs[m]):cq xs (m+2)=cq xs (m+1):=by
 unfold cq;rw[compactUpTo_succ,keeps_neg (by omega) (by rw[Ip,Kj h,Kj (by omega),b]),if_neg (by decide),LX]
theorem Kl {xs:List α}(h:m+1<xs.length)(b:xs[m+1]≠xs[m]):cq xs (m+2)=cq xs (m+1)++[xs[m+1]]:=by
 unfold cq;rw[compactUpTo_succ,keeps_pos (by rw[Ip,Kj h,Kj (by omega)];exact b),if_pos rfl,Kj h]
theorem Km (xs:List α):∀m,(cq xs m).length<=m
 |0=>by simp[cq,compactUpTo]
 |m+1=>by
  have:=Km xs m;unfold cq at *;rw[compactUpTo_succ,Ld];split<;>simp <;>omega
theorem Ry {xs:List α}(h:m<=xs.length):(yq xs m).length=xs.length:=by
 have:=Km xs m;unfold yq;rw[Ld,Nv];omega
theorem Kn {xs:List α}{j:Nat}(b:(cq xs m).length<=j)(c:j<xs.length):(yq xs m)[j]? =some xs[j]:=by
 unfold yq;rw[Nm b,NV,show(cq xs m).length+(j-(cq xs m).length)=j by omega,Le c]
theorem wm {xs:List α}{k:Nat}(h:cq xs k=xs.take k)(b:k<=xs.length):yq xs k=xs:=by
 unfold yq;rw[h,LC,B8 b,LK]
theorem mA {xs:List α}(h:cq xs (m+2)=cq xs (m+1)):yq xs (m+2)=yq xs (m+1):=by
 unfold yq;rw[h]
theorem Rz {xs:List α}(h:m+1<xs.length)(b:(cq xs (m+1)).length<xs.length)(c:xs[m+1]≠xs[m]):(yq xs (m+1)).set (cq xs (m+1)).length xs[m+1]=yq xs (m+2):=by
 unfold yq;rw[Kl h c,Om _ _ (Lc _),BS,Lm b,OC,Lq,Ld,Ll];rfl
theorem WX (xs:List α):cq xs xs.length=compact xs:=rfl
end
theorem bq (a b:ByteArray):(a==b)=decide (a=b):=by
 rw[beq_toListBytes,Ni,beq_iff_eq,decide_eq_true_eq];exact⟨fun h=>Zk (by simpa [Lib.toList_data] using h),fun h=>by rw[h]⟩
theorem ZW (x y:AD):(x.obj.type_==y.obj.type_&&(x.obj.id_==y.obj.id_&&(x.rel==y.rel&&(x.sub_.type_==y.sub_.type_&&(x.sub_.id_==y.sub_.id_&&(x.sub_.rel==y.sub_.rel))))))=decide (x=y):=by
 have⟨⟨_,_⟩,_,⟨_,_,_⟩⟩:=x;have⟨⟨_,_⟩,_,⟨_,_,_⟩⟩:=y;simp only[bq,AD.mk.injEq,Ak.mk.injEq,AN.mk.injEq,Bool.decide_and,Oz]
theorem wk {i ver:Nat}{br:Bool}(xs:List AD)(x:0<xs.length)(hn:xs.length<=4294967296){hp:Hp}(nx:Nat):
  AU Tryz.prog 121 [.so i ver 0 xs.length] (upd i (some (.rw (xs.map AE) 6 ver br false)) hp) nx fun v K _=>∃y,(compact xs).length<=y.length/\y.take (compact xs).length=(compact xs).map AE/\v= .so i ver 0 (compact xs).length/\K=upd i (some (.rw y 6 ver br false)) hp:=by
 refine zr Tryz.func121 ?_;by_cases h1:xs.length<2
 ·have z:decide ((xs.length:Int)<2)=true:=by simp;omega
  refine Z1 z ?_;have d:compact xs=xs:=by
   have:xs.length=1:=(by omega);rw[<-WX,this,l9 x,<-this,BD]
  refine KY (v:=.so i ver 0 xs.length) (by simp -implicitDefEqProofs only[go_sem, ↓reduceIte,Tryz.f121]<;>rfl) ⟨xs.map AE,?_⟩;rw[d];exact⟨by simp,ND (by simp),rfl,rfl⟩
 have z:decide ((xs.length:Int)<2)=false:=by simp;omega
 refine Z1 z ?_;refine YQ (fun p:{ p:Nat × Nat // 1<=p.1/\p.1<=xs.length/\cq xs p.1=xs.take p.1 }=>⟨upd 0 (.so i ver 0 xs.length) (upd 3 (.v (.int .i64 (p.1.1:Int))) AK),upd i (some (.rw (xs.map AE) 6 ver br false)) (hp),p.1.2⟩) (fun p=>xs.length+1-p.1.1) ⟨(1,_),Lc _,x,l9 x⟩ ⟨DE rfl (DE rfl (MH _)),(WH.upd (by simp[IT]<;>rfl) (WH.base fun t o=>by simp_all [IT])).all,Lc _⟩ ?_;rintro⟨⟨k,m⟩,f⟩;simp only at f;have⟨k1,L,s⟩:=f;by_cases b:k<xs.length;rotate_left
 ·have d:k=xs.length:=by omega
  have A:decide ((k:Int)<(xs.length:Int))=false:=by simp;omega
  refine Z1 A ?_;have M:compact xs=xs:=by
   rw[<-WX,<-d,s,d,BD]
  refine KY (v:=.so i ver 0 xs.length) (by simp -implicitDefEqProofs only[go_sem, ↓reduceIte,Tryz.f121]<;>rfl) ⟨xs.map AE,?_⟩;rw[M];exact⟨by simp,ND (by simp),rfl,rfl⟩
 obtain⟨q,rfl⟩:∃q,k=q+1:=⟨k-1,by omega⟩;have A:=Yp b;have N:i64.wrap (((q+1:Nat):Int)-1)=(q:Int):=by rw[IntWalk.i64_in _ (by omega)];omega
 have O:i64.wrap (((q+1:Nat):Int)+1)=((q+1+1:Nat):Int):=T3 (by omega);have Q:(xs.map AE)[q+1]? =some (AE xs[q+1]):=by rw[Lp,Le b];rfl
 have R:(xs.map AE)[q]? =some (AE xs[q]):=by rw[Lp,Le (by omega)];rfl
 have S:q<xs.length:=by omega
 refine Z1 (Y6 A N Q R b S) ?_;refine DF (by rfl) ?_;refine Z0 ?_;refine YP (fun h=> ?_) (fun h=> ?_);rotate_left
 ·have u:xs[q+1]≠xs[q]:=of_decide_eq_false ((ZW _ _).symm.trans h);refine Z1 O ?_;exact⟨⟨(q+1+1,_),by omega,by omega,by rw[Kl b u,s,List.take_append_getElem]⟩,⟨DE rfl (DE rfl (MH _)),(WH.upd (by simp[IT]<;>rfl) (WH.base fun t o=>by simp_all [IT])).all,Lc _⟩,by simp only;omega⟩
 have u:xs[q+1]=xs[q]:=of_decide_eq_true ((ZW _ _).symm.trans h);have d:cq xs (q+1+(0+1))=xs.take (q+1):=(Kk b u).trans s;have T:=BR b;refine Z1 (Y2 T b) ?_;refine YQ (fun p:{ p:Nat × Nat × List AD × Nat // q+1+(p.1+1)<=xs.length/\p.2.1=(cq xs (q+1+(p.1+1))).length/\p.2.2.1=yq xs (q+1+(p.1+1))/\p.2.1<=q+1+p.1 }=>⟨upd 0 (.so i ver 0 xs.length) (upd 3 (.v (.int .i64 (p.1.2.1:Int))) (upd 4 (.so i ver (q+1) (xs.length-(q+1))) (upd 5 (.v (.int .i64 ((p.1.1+1:Nat):Int))) AK))),upd i (some (.rw (p.1.2.2.1.map AE) 6 ver br false)) (hp),p.1.2.2.2⟩) (fun p=>xs.length-p.1.1) ⟨(0,q+1,xs,_),by omega,by show q+1=_;rw[d,LC];omega,((mA (Kk b u)).trans (wm s L)).symm,Lc _⟩ ⟨DE rfl DS,(WH.upd (by simp[IT]<;>rfl) (WH.base fun t o=>by simp_all [IT])).all,Lc _⟩ ?_;rintro⟨⟨t,l,e,m⟩,f⟩;simp only at f;have⟨t1,g,c,t4⟩:=f;have B:e.length=xs.length:=by rw[c];exact Ry t1
 have j:l<xs.length:=by omega
 by_cases w:q+1+(t+1)<xs.length
 ·have C:decide (((t+1:Nat):Int)<((xs.length-(q+1):Nat):Int))=true:=Yp (by omega);have w3:i64.wrap (((t+1:Nat):Int)-1)=(t:Int):=by rw[IntWalk.i64_in _ (by omega)];omega
  have E:t+1<xs.length-(q+1):=by omega
  have n2:t<xs.length-(q+1):=by omega
  have U:q+1+t<xs.length:=by omega
  have F:(e.map AE)[q+1+(t+1)]? =some (AE xs[q+1+(t+1)]):=by rw[Lp,c,Kn (by omega) w];rfl
  have r4:(e.map AE)[q+1+t]? =some (AE xs[q+1+t]):=by rw[Lp,c,Kn (by omega) U];rfl
  refine Z1 (Y6 C w3 F r4 E n2) ?_;refine DF (by rfl) ?_;refine Z0 ?_;have G:i64.wrap (((t+1:Nat):Int)+1)=((t+1+1:Nat):Int):=T3 (by omega);refine YP (fun h=> ?_) (fun h=> ?_)
  ·have H:xs[q+1+(t+1)]≠xs[q+1+t]:=by
    rw[ZW] at h;simpa using h
   have w4:i64.wrap ((l:Int)+1)=((l+1:Nat):Int):=T3 (by omega);have r5:(e.map AE)[l]? =some (AE xs[l]):=(by rw[Lp,c,Kn (by omega) j];rfl);have r6:(e.map AE).set l (AE xs[q+1+(t+1)])=(yq xs (q+1+(t+1+1))).map AE:=by
    rw[<-NK,c,g];exact congrArg _ (Rz (m:=q+1+t) w (by rw[<-show l=(cq xs (q+1+t+1)).length from g];exact j) H)
   simp -implicitDefEqProofs only[go_sem,Nat.reduceEqDiff,Nat.reduceAdd,reduceCtorEq, ↓reduceIte,F,r5,E,j,r6,w4,G,DD,OW,LA,Lh,Lu,Ie,LJ,List.drop_nil,LX];have e6:(cq xs (q+1+(t+1+1))).length=l+1:=(by rw[show cq xs (q+1+(t+1+1))=_ from Kl (m:=q+1+t) w H,Ld,Ll,g];rfl);exact⟨⟨(t+1,l+1,yq xs (q+1+(t+1+1)),_),by simp only;omega,by simp only;omega,rfl,by simp only;omega⟩,⟨DE rfl DS,(WH.upd (by simp[IT]<;>rfl) (WH.base fun t o=>by simp_all [IT])).all,Lc _⟩,by simp only;omega⟩
  have V:xs[q+1+(t+1)]=xs[q+1+t]:=by
   rw[ZW] at h;simpa using h
  have I:cq xs (q+1+(t+1+1))=cq xs (q+1+(t+1)):=Kk (m:=q+1+t) w V;refine Z1 G ?_;exact⟨⟨(t+1,l,e,_),by simp only;omega,by simp only;rw[I];exact g,by simp only;rw[c];exact(mA (m:=q+1+t) I).symm,by simp only;omega⟩,⟨DE rfl DS,(WH.upd (by simp[IT]<;>rfl) (WH.base fun t o=>by simp_all [IT])).all,Lc _⟩,by simp only;omega⟩
 have J:q+1+(t+1)=xs.length:=by omega
 have hl:l=(compact xs).length:=by rw[g,J,WX]
 subst hl;have C:decide (((t+1:Nat):Int)<((xs.length-(q+1):Nat):Int))=false:=cZ (by omega);have n4:=BR j;have n5:¬(xs.length-(compact xs).length=0):=by omega
 have n6:(compact xs).length+(xs.length-(compact xs).length)<=xs.length:=by omega
 simp -implicitDefEqProofs only[go_sem,Nat.reduceLT,Nat.reduceEqDiff,Nat.reduceAdd,reduceCtorEq, ↓reduceIte,C,or_true,true_or,j,n4,n5,n6,B,Ob];have X:=Km xs xs.length;rw[WX] at X;refine KY (v:=.so i ver 0 (compact xs).length) (by simp -implicitDefEqProofs only[go_sem, ↓reduceIte,Tryz.f121]<;>rfl) ⟨_,?_,?_,rfl,Em _ _ _ _⟩
 ·simp only[Ld,LC,LE,NL,B];omega
 rw[Lq,List.take_append_of_le_length (by rw[LC,LE,B];omega),List.take_take,Nat.min_self,<-N8,c,J];unfold yq;rw[WX,List.take_left]
  
end Go.Proofs.YtnmkbmefohakmaaGreat.Ab
namespace Go.Proofs.YtnmkbmefohakmaaGreat.Ab
open Go.RowKit Go.Sort Go.Proofs
theorem vV {w w':World}(h:Below w.heap.size w w')(j:w.drawn<=w'.drawn):∃q b,w'=grow (w.drewN q) b:=by
 refine⟨w'.drawn-w.drawn,w'.heap.extract w.heap.size w'.heap.size,?_⟩;have c:=h.os;have d:=h.tape;have e:=h.output;have l:=h.size;have f:=h.block;have⟨g,o,p,b,s⟩:=w;have⟨t,u,v,x,y⟩:=w';simp only at c d e l f j;subst c;subst d;subst e;simp only[grow,World.drewN,World.mk.injEq,true_and,and_true];refine⟨?_,by omega⟩;apply Array.ext_getElem?;intro k;rw[Array.getElem?_append];split
 ·rename_i i;exact f k i
 rename_i i;rw[OR];split
 ·rw[show g.size+(k-g.size)=k by omega]
 rw[Bc (by omega)]
theorem vX {α:Type}[Inhabited α]{d b:Array α}(h:PermIn 0 d.size d b):b.toList.Perm d.toList:=by
 have⟨c,_,e⟩:=h;have f:b.extract 0 d.size=b:=by rw[<-c];exact Iq
 have g:d.extract 0 d.size=d:=Iq;rwa [f,g] at e
theorem vY {α:Type}[Inhabited α]{c:α->α->Bool}{d:Array α}(h:SortedIn c 0 d.size d):d.toList.Pairwise fun a b=>c b a=false:=by
 rw[Bi];intro i j f e g
 have:=h i j (Lg _) g (by simpa using e);simpa [getElem!_pos,show i<d.size by simpa using f,show j<d.size by simpa using e] using this
section
variable {P:Program}{ρ:Go.Shelf.Ren}
def El (b:Type)(encD:b->List D)(k:Nat)(w:World)(I:Nat->Prop):Type:={ p:b × List Value // p.2.length=k/\∀(j:Nat) (d:D),(encD p.1)[j]? =some d->∃u,p.2[j]? =some u/\RC w I d u }
theorem vZ (L:Go.Proofs.SlLaysF0.n6 P ρ){k:Nat}(aE:∀w,(isAgg (ρ.t 24)).run P w= .ok true w)(zE:∀w,(Go.sizeOf (ρ.t 24)).run P w= .ok k w){Q:Type}(encD:Q->List D)(R:∀x,(encD x).length=k)(V:Q->Q->Int)(hO:SWO (ltOf V))
  {f:FuncId} (hf:ρ.f 6=f) (hE:Mp P f) {g:FuncId} {fr:Bool} (eg:∀aa w,(callFunc g aa).run P w= .ok (.enter g aa) w) (hc:∀x y,AI P g [.ag (encD x),.ag (encD y)] (.v (.int .i64 (V x y))) fr)
  (xs:List Q) (hx:xs≠[]) (hn:xs.length<4611686018427387904) {id ver:Nat} {br:Bool} {hp:Hp} {nx:Nat} (K:hp id=some (.rw (xs.map encD) k ver br false)):
  AU P f [.so id ver 0 xs.length,.fn g []] hp nx fun v bs bx=>v= .tu []/\bx=nx/\∃G:List Q,G.Perm xs/\(G.Pairwise fun a b=>ltOf V b a=false)/\bs=upd id (some (.rw (G.map encD) k ver br false)) hp:=by
 subst hf;refine⟨hE,fun gh c aa a3 df hr b2 a4=> ?_⟩;rw[<-a3] at K;have⟨ag,hz,T,N,C,h3,h4,h5,h6,h7⟩:=hr.obj id _ K;rw[LE] at h5;have⟨dk,dl,ab⟩:=hr.dom id _ K;have⟨u0,a0,b0⟩:=a4 0 _ rfl;have⟨u1,a1,b1⟩:=a4 1 _ rfl;have b3:∃X,u0= .slice (some ⟨c.φ id,0,none⟩) xs.length X:=by
  cases(show RA gh c (.so id ver 0 xs.length) u0 from b0) with
  |so _ _ _ _ _ _ _ h=>
   have⟨_,b4,T0,X,_,_,e⟩:=(h _ _ _ _ _ K).2 rfl;exact⟨X,by simpa using e⟩
 obtain⟨X,rfl⟩:=b3;have b5:u1= .func (.func g) #[] #[]:=by
  cases(show RA gh c (.fn g []) u1 from b1) with
  |fn _ _ Y n a5 _=>
   simp only[Lu] at a5;subst a5;rfl
 subst b5;have b6:aa= #[.slice (some ⟨c.φ id,0,none⟩) xs.length X,.func (.func g) #[] #[]]:=by
  have b7:aa.size=2:=by simpa using b2
  apply Ih
  ·simpa using b7
  intro j h1 h2;have q:j=0\/j=1:=by omega
  rcases q with rfl |rfl
  ·simpa [h1] using a0
  simpa [h1] using a1
 subst b6;let I:Nat->Prop:=Im gh c br;have ak:∀b,I b->b≠c.φ id/\b<c.w.heap.size:=fun b E=>⟨fun e=>E.2.2.1 id _ K rfl e.symm,E.1⟩;let α:=El Q encD k c.w I
 have a6:∀i:Fin xs.length,∃x:α,x.1.1=xs[i]/\∀j,j<k->N[i.1*k+j]? =x.1.2[j]? :=by
  intro i;have b8:(xs.map encD)[i.1]? =some (encD xs[i]):=by simp
  have ao:=R xs[i];have a7:∀j:Fin k,∃u,N[i.1*k+j.1]? =some u/\∀d,(encD xs[i])[j.1]? =some d->RC c.w I d u:=fun j=>by
   have⟨u,s,F⟩:=h7 i.1 j.1 _ ((encD xs[i])[j.1]'(by rw[ao];exact j.2)) b8 (Le _);refine⟨u,s,fun d B=> ?_⟩;rw[Le (by rw[ao];exact j.2)] at B;cases B;exact F
  have b9:∃Y:Fin k->Value,∀j:Fin k,N[i.1*k+j.1]? =some (Y j)/\∀d,(encD xs[i])[j.1]? =some d->RC c.w I d (Y j):=⟨fun j=>(a7 j).choose,fun j=>(a7 j).choose_spec⟩;have⟨Y,a8⟩:=b9;refine⟨⟨(xs[i],List.ofFn Y),by simp,fun j d B=> ?_⟩,rfl,fun j q=> ?_⟩
  ·have q:j<k:=(by have:=(Lb.1 B).1;simp only[ao] at this;exact this);exact⟨Y ⟨j,q⟩,by simp[q],(a8 ⟨j,q⟩).2 d B⟩
  simp[q,(a8 ⟨j,q⟩).1]
 have cb:∃H:Fin xs.length->α,∀i,(H i).1.1=xs[i]/\∀j,j<k->N[i.1*k+j]? =(H i).1.2[j]? :=⟨fun i=>(a6 i).choose,fun i=>(a6 i).choose_spec⟩;have⟨H,a9⟩:=cb;have cf:0<xs.length:=by cases xs with |nil=>exact absurd rfl hx |cons _ _=>simp
 haveI:Inhabited α:=⟨H ⟨0,cf⟩⟩
 let d:Array α:=Array.ofFn H;have Z:d.size=xs.length:=by simp[d]
 have ch:d.toList.map (fun p=>p.1.1)=xs:=by
  apply List.ext_getElem
  ·simp[Z]
  intro i h1 h2;simp[d,(a9 ⟨i,h2⟩).1]
 let l:α->List Value:=fun p=>p.1.2
 have cp:∀x:α,(l x).length=k:=fun x=>x.2.1;have cx:∀x:α,∀v∈l x,v.oneCell'=true:=fun x v hv=>by
  obtain⟨j,q,rfl⟩:=Ox hv;have ad:j<(encD x.1.1).length:=by rw[R,<-x.2.1];exact q
  have⟨u,s,F⟩:=x.2.2 j _ (Le ad);rw[Le q] at s;cases s;exact F.one
 let ap:α->α->Int:=fun x y=>V x.1.1 y.1.1
 have cN:SWO (ltOf ap):=⟨fun x=>hO.irrefl x.1.1,fun x y z=>hO.trans x.1.1 y.1.1 z.1.1,fun x y z=>hO.ntrans x.1.1 y.1.1 z.1.1⟩;have hH:HoldsK l k c.w (c.φ id) 0 d:=by
  intro t ht;have ba:t<d.size*k:=by simpa using ht
  have S:t / k<xs.length:=by rw[<-Z];exact O4 (by rwa [BC] at ba)
  have hm:t%k<k:=On _ ag;have e0:t / k*k+t%k=t:=Nat.div_add_mod' t k;have s:=(a9 ⟨t / k,S⟩).2 (t%k) hm;simp only[e0] at s;have F:d[t / k]! =H ⟨t / k,S⟩:=by simp[d,S]
  rw[get_flatK l k d t ba,F];have hl:t%k<(H ⟨t / k,S⟩).1.2.length:=by rw[(H ⟨t / k,S⟩).2.1];exact hm
  rw[Le hl] at s;refine⟨?_,by simp[World.frozen?,h3]⟩;rw[NE];simp only[World.cell?,h3];rw[s];show some _=some (_root_.id ((H ⟨t / k,S⟩).1.2[t%k]!));rw[getElem!_pos ((H ⟨t / k,S⟩).1.2) (t%k) hl];rfl
 have c0:∀(m:Nat) (J:Array α) (A:Array Obj) (b:Nat),I b->(Go.Proofs.sortWorldK l k c.w (c.φ id) 0 m J A).heap[b]? =c.w.heap[b]? :=fun m J A b E=>by
  have⟨n1,n2⟩:=ak b E;unfold sortWorldK putRowK;rw[Sort.heap_grow_old _ _ (by simpa [putRow,mapBlock,Sort.ahead] using n2)];simp[putRow,mapBlock,Sort.ahead,Bh,Ne.symm n1]
 have aq:∀(m:Nat) (J:Array α) (A:Array Obj),c.w.heap.size<=(Go.Proofs.sortWorldK l k c.w (c.φ id) 0 m J A).heap.size:=fun m J A=>Go.Proofs.size_sortWorldK_c l k c.w (c.φ id) 0 m J A;have c1:CmpLays P g #[] l k ap (c.φ id) 0 d.size c.w:=by
  intro m A J dm x y;have hS:=aq m J A;have hB:=c0 m J A;generalize sortWorldK l k c.w (c.φ id) 0 m J A=W at hS hB;have bb:∀z:α,Dj W (fun b=>b<W.heap.size/\¬(b=c.φ id)) (.ag (encD z.1.1)) (.agg z.1.2.toArray):=fun z=>by
   refine⟨_,rfl,by simp[z.2.1,R],fun j M B=> ?_⟩;have⟨u,s,F⟩:=z.2.2 j M B;exact⟨u,by simpa using s,F.mono hB fun b E=>⟨LF (ak b E).2 hS,(ak b E).1⟩⟩
  have hP:Calls P g (#[.agg (l x).toArray,.agg (l y).toArray]++ #[]) W fun e U=>∃u,e= .returned u/\(Below W.heap.size W U/\W.drawn<=U.drawn)/\RV U (fun k=>k<U.heap.size/\¬(k=c.φ id)/\(fr=true->W.heap.size<=k)) (.v (.int .i64 (V x.1.1 y.1.1))) u:=by
   have c2:∀k,(fun b=>b=c.φ id) k->k<W.heap.size:=fun k R=>by
    have:k=c.φ id:=R;rw[this];exact LF ab hS
   have c3:(#[Value.agg (l x).toArray,Value.agg (l y).toArray]++ #[]).size= [D.ag (encD x.1.1),D.ag (encD y.1.1)].length:=(by simp);have c4:∀(j:Nat) (M:D),[D.ag (encD x.1.1),D.ag (encD y.1.1)][j]? =some M->∃u,(#[Value.agg (l x).toArray,Value.agg (l y).toArray]++ #[])[j]? =some u/\Dj W (fun k=>k<W.heap.size/\¬(fun b=>b=c.φ id) k) M u:=fun j M B=>by
    match j,B with
    |0,B=>
     have e:M= .ag (encD x.1.1):=(by simpa using B.symm);rw[e];exact⟨.agg (l x).toArray,by simp,bb x⟩
    |1,B=>
     have e:M= .ag (encD y.1.1):=(by simpa using B.symm);rw[e];exact⟨.agg (l y).toArray,by simp,bb y⟩
    |j+2,B=>simp at B
   exact(hc x.1.1 y.1.1).2 W (fun b=>b=c.φ id) _ c2 c3 c4
  refine hP.mono ?_;rintro e U ⟨u,he,⟨E,c5⟩,hv⟩;cases(show RC U _ (.v (.int .i64 (V x.1.1 y.1.1))) u from hv);exact⟨he,vV E c5⟩
 have bd:=AnyQ.slices_SortFunc L k aE zE l cp cx ap cN g #[] (c.φ id) 0 X d c.w eg c1 hH ab (by rw[Z];exact hn);rw[Z] at bd;refine bd.mono ?_;rintro e U ⟨he,o,n,A,ar,av,rfl⟩;rw[<-Z] at ar av;have be:o.size=d.size:=ar.1;let G:List Q:=o.toList.map fun p=>p.1.1
 have c6:G.length=xs.length:=by simp[G,be,Z]
 have bg:(sortWorldK l k c.w (c.φ id) 0 n o A).heap[c.φ id]? =some (.cells (putCells _root_.id 0 (Go.Sort.flatK l k o) N) T (0,0)):=by
  unfold sortWorldK putRowK;rw[Sort.heap_grow_old _ _ (by simpa [putRow,mapBlock,Sort.ahead] using ab)];simp[putRow,mapBlock,Sort.ahead,Bh,h3,onCells]
 have bl:∀b,b<c.w.heap.size->b≠c.φ id->(sortWorldK l k c.w (c.φ id) 0 n o A).heap[b]? =c.w.heap[b]? :=fun b E c7=>by
  unfold sortWorldK putRowK;rw[Sort.heap_grow_old _ _ (by simpa [putRow,mapBlock,Sort.ahead] using E)];simp[putRow,mapBlock,Sort.ahead,Bh,Ne.symm c7]
 have c9:∀(i j:Nat) (x:α),o[i]? =some x->j<k->(putCells _root_.id 0 (Go.Sort.flatK l k o) N)[i*k+j]? =x.1.2[j]? :=by
  intro i j x bo q;have O:i<o.size:=(LW.1 bo).1;have ad:i*k+j<o.size*k:=by
   have:(i+1)*k<=o.size*k:=LS k O;rw[Nj,Bo] at this;omega
  have da:i*k+j<N.size:=by
   have:o.size*k<=C*k:=LS k (by omega);omega
  simp only[putCells,Array.getElem?_mapIdx,LD da,LQ];rw[if_pos (by simp;exact ad),Ob,get_flatK l k o _ ad];have s:(i*k+j) / k=i:=by rw[BC,Nat.mul_add_div ag,ID q,NW]
  have F:(i*k+j)%k=j:=by rw[BC,Nat.mul_add_mod,BV q]
  have e3:o[i]! =x:=by rw[getElem!_pos o i O];exact(LW.1 bo).2
  rw[s,F,e3];have hl:j<x.1.2.length:=by rw[x.2.1];exact q
  show some (_root_.id (x.1.2[j]!))=_;rw[getElem!_pos x.1.2 j hl,Le hl];rfl
 have a2:CP c ⟨upd id (some (.rw (G.map encD) k ver br false)) c.hp,upd id (c.φ id) c.φ,sortWorldK l k c.w (c.φ id) 0 n o A,c.kn⟩:=by
  refine CP.chg hr K rfl rfl rfl rfl (aq n o A) bl (.inl rfl) (fun _ h=>h) (fun h=>by cases h) (fun dn dp v' dq dr e=> ?_) (N6 _ _);cases e;refine⟨_,ver,br,false,rfl,Lc _,fun _=>⟨rfl,by simp[c6],fun b4 T0 e0=> ?_⟩⟩;rw[h3] at e0;cases e0;exact⟨_,bg,by simp[putCells]⟩
 refine⟨.tuple #[],.tu [],⟨upd id (some (.rw (G.map encD) k ver br false)) c.hp,upd id (c.φ id) c.φ,sortWorldK l k c.w (c.φ id) 0 n o A,c.kn⟩,nx,he,⟨rfl,rfl,G,?_,?_,by simp only[a3]⟩,rfl,a2,?_,⟨#[],rfl,rfl,fun j x h=>by simp at h⟩,Lc _,fun i K=>.inl K⟩
 ·have:=(vX ar).map (fun p:α=>p.1.1);rwa [ch] at this
 ·rw[<-be] at av;exact Iy.2 (vY av)
 refine HR.chg hr K a2 bl (.inl rfl) (LF ab (aq n o A)) ⟨ag,fun i cs O=> ?_,T,putCells _root_.id 0 (Go.Sort.flatK l k o) N,C,?_,by simp only[putCells,Array.size_mapIdx];exact h4,by simp only[LE];omega,h6,fun i j cs M O q=> ?_⟩
 ·rw[Lp,La] at O;obtain⟨x,_,rfl⟩:=O;exact R x
 ·simp only[Ap];exact bg
 rw[Lp,La] at O;obtain⟨y,s,rfl⟩:=O;have dd:j<k:=by have:=(Lb.1 q).1;rwa [R] at this
 simp only[G,Lp,La] at s;obtain⟨p,s,rfl⟩:=s;have⟨u,F,e3⟩:=p.2.2 j M q;refine⟨u,?_,e3.ext a2⟩;rw[c9 i j p (by simpa using s) dd];exact F
end
end Go.Proofs.YtnmkbmefohakmaaGreat.Ab
