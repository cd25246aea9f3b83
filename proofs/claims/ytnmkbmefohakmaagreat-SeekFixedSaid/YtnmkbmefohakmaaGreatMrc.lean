/-
 The reader of schemas on tokens that are told: relations, types, all of them.
-/
import Derived.Test.YtnmkbmefohakmaaGreatDft
set_option linter.all false
namespace Go.Proofs.YtnmkbmefohakmaaGreat.Ab
open Go.RowKit
theorem zp (o:Ak)(a b:ByteArray):((o.type_==a)&&(o.id_==b))=decide (o=⟨a,b⟩):=by
 have⟨c,d⟩:=o;rw[Ni];simp
theorem zt (s:AN)(a b c:ByteArray):((s.type_==a)&&((s.id_==b)&&(s.rel==c)))=decide (s=⟨a,b,c⟩):=by
 have⟨x,y,z⟩:=s;rw[Ni];simp
theorem qO {α:Type}{xs:List α}{j:Nat}{x:α}{r:List α}(h:xs.drop j=x::r):CD xs (j:Int)=some x/\j<xs.length/\xs.drop (j+1)=r:=by
 have a:j<xs.length:=by
  rcases LY j xs.length with b |b
  ·exact b
  rw[LG b] at h;cases h
 have d:=Lm a;rw[h] at d;cases d;exact⟨CL a,a,rfl⟩
def IK (A:AB->Bool)(sub:AN)(t:AD):Bool:=decide (t.sub_=sub)||(!decide (t.sub_.rel={ data:= #[] })&&A ⟨⟨t.sub_.type_,t.sub_.id_⟩,t.sub_.rel⟩)
def GY (A:AB->Bool)(ts:List AG)(o:Ak)(sub:AN)(nm:ByteArray)(t:AD):Bool:=(decide (t.obj=o)&&Eg ts t)&&(decide (t.rel=nm)&&IK A sub t)
section
variable {n:Nat}{ts:List AG}{rows:List AD}{ak:Ak × ByteArray × AN}{x30 x31:ByteArray}{A:AB->Bool}
variable (hc:∀(o:Ak) (rel:ByteArray),IZ n o rel ts rows (⟨ak.2.2.type_,ak.2.2.id_,ak.2.2.rel⟩:AN)=some (A ⟨o,rel⟩))
include hc in
theorem Qp (b:∀t∈rows,Kt n ts t=some (Eg ts t))(g:rows.length<=100):∀(d i c:Nat) (r s:Bool),d=rows.length-i->i<=rows.length->d<c->
  Hn n ts rows ak x30 x31 c (r,s,(i:Int))=some (r||(rows.drop i).any (GY A ts ⟨x30,x31⟩ ak.2.2 { data:= #[114] }),s||(rows.drop i).any (GY A ts ⟨x30,x31⟩ ak.2.2 { data:= #[115] }))
 |0,i,c,r,s,h,j,m=>by
  obtain⟨c,rfl⟩:=sx c;unfold Hn;rw[DC,if_neg (by decide),LG (by omega)];simp
 |d+1,i,c,r,s,h,j,m=>by
  obtain⟨c,rfl⟩:=sx c;have a:i<rows.length:=by omega
  have e:=fun r s=>Qp b g d (i+1) c r s (by omega) (by omega) (by omega);have u:((if ((rows[i].obj.type_==x30)&&(rows[i].obj.id_==x31)) then(Kt n ts rows[i]).bind fun w=>some (!w) else some true):Option Bool)=some (!(decide (rows[i].obj=⟨x30,x31⟩)&&Eg ts rows[i])):=by
   rw[zp,b _ (LZ a)];cases decide (rows[i].obj=⟨x30,x31⟩)<;>rfl
  have B:((if ((rows[i].sub_.type_==ak.2.2.type_)&&((rows[i].sub_.id_==ak.2.2.id_)&&(rows[i].sub_.rel==ak.2.2.rel))) then some true else(if (rows[i].sub_.rel.toList==({ data:= #[] }:ByteArray).toList) then some false else(IZ n (⟨rows[i].sub_.type_,rows[i].sub_.id_⟩:Ak) rows[i].sub_.rel ts rows (⟨ak.2.2.type_,ak.2.2.id_,ak.2.2.rel⟩:AN)).bind fun C=>some C)):Option Bool)=some (IK A ak.2.2 rows[i]):=by
   rw[zt,DZ,hc];unfold IK;show(if decide (rows[i].sub_=ak.2.2)=true then _ else _)=_;cases decide (rows[i].sub_=ak.2.2) with
   |true=>rfl
   |false=>
    cases decide (rows[i].sub_.rel={ data:= #[] })<;>rfl
  unfold Hn;rw[EO a,if_pos rfl,CL a,Zo,Al,Lm a,BZ,BZ];rw[u,Zo,B];unfold GY;cases(decide (rows[i].obj=⟨x30,x31⟩)&&Eg ts rows[i]) with
  |false=>
   rw[Oy,if_pos rfl,e];unfold GY;simp
  |true=>
   rw[BI,if_neg (by decide),Zo];simp only[e,DZ];unfold GY;generalize IK A ak.2.2 rows[i]=v;generalize decide (rows[i].rel={ data:= #[114] })=p;generalize decide (rows[i].rel={ data:= #[115] })=q;cases r<;>cases s<;>cases p<;>cases q<;>simp
include hc in
theorem Qq {x:AS}{subs:List AN}(e:∀u∈subs,Kt n ts (⟨(⟨x30,x31⟩:Ak),x.a,u⟩:AD)=some (Eg ts ⟨⟨x30,x31⟩,x.a,u⟩))(g:subs.length<=100):∀(d i c:Nat) (b:Bool),d=subs.length-i->i<=subs.length->d<c->
  ML n ts rows ak x30 x31 x subs c (b,(i:Int))=some (b||(subs.drop i).any fun u=>Eg ts ⟨⟨x30,x31⟩,x.a,u⟩&&A ⟨⟨u.type_,u.id_⟩,x.b⟩)
 |0,i,c,b,h,j,m=>by
  obtain⟨c,rfl⟩:=sx c;unfold ML;rw[DC,if_neg (by decide),LG (by omega)];simp
 |d+1,i,c,b,h,j,m=>by
  obtain⟨c,rfl⟩:=sx c;have a:i<subs.length:=by omega
  have p:=fun b=>Qq e g d (i+1) c b (by omega) (by omega) (by omega);unfold ML;rw[EO a,if_pos rfl,CL a,Zo,Al,Lm a,BZ,e _ (LZ a),hc];simp only[Zo,p];cases b with
  |true=>rfl
  |false=>
   cases Eg ts ⟨⟨x30,x31⟩,x.a,subs[i]⟩ with |false=>rfl |true=>rw[if_neg (by decide),if_pos rfl];simp
variable {l:List AD}{sb:ByteArray->List AN}
include hc in
theorem MA {E:List AS}{b:Bool}{nm:ByteArray}{us:List AN}(H:E.length<=1000)(C:∀a,Sf n rows (⟨x30,x31⟩:Ak) a=some (sb a))(F:∀x:AS,x.kind=2->ML n ts rows ak x30 x31 x (sb x.a) n (false,0)=some ((EY l ⟨x30,x31⟩ x).any A)):
  ∀(t:FZ) (j c:Nat) (d:List Bool) (i:List AS),GI t->E.drop j=post t++i->d.length<=j->
   Gt n ts rows ak x30 x31 (⟨nm,us,E⟩,b) (c+(post t).length) (d,(j:Int))=Gt n ts rows ak x30 x31 (⟨nm,us,E⟩,b) c (d++[IJ A l ⟨x30,x31⟩ t],((j+(post t).length:Nat):Int))
 | .leaf x,j,c,d,i,G,m,I=>by
  have m:E.drop j=x::i:=m;have⟨r,B,_⟩:=qO m;show Gt n ts rows ak x30 x31 (⟨nm,us,E⟩,b) (c+1) (d,(j:Int))=Gt n ts rows ak x30 x31 (⟨nm,us,E⟩,b) c (d++[(EY l ⟨x30,x31⟩ x).any A],((j+1:Nat):Int));conv=>lhs;unfold Gt
  dsimp only;rw[EO B,if_pos rfl,r,Zo,Al];rcases G with g |g
  ·rw[g,if_pos (by rfl),hc,Zo,DV (by simp only[Ll];omega),Zo];have e:(EY l ⟨x30,x31⟩ x).any A=A ⟨⟨x30,x31⟩,x.a⟩:=by
    unfold EY;rw[g,if_pos (by rfl)];simp
   rw[e]
  ·rw[g,if_neg (by decide),if_pos (by rfl),C,Zo,F x g,Zo,DV (by simp only[Ll];omega),Zo]
 | .op x p q,j,c,d,i,G,m,I=>by
  have⟨g,N,O⟩:=G;have e:post (.op x p q)++i=post p++(post q++(x::i)):=by
   show post p++post q++[x]++i=_;simp
  have P:(post (.op x p q)).length=1+(post q).length+(post p).length:=by
   show(post p++post q++[x]).length=_;simp only[Ld,Ll];omega
  rw[e] at m;have J:E.drop (j+(post p).length)=post q++(x::i):=by rw[<-BU,m,O2]
  have K:E.drop (j+(post p).length+(post q).length)=x::i:=by rw[<-BU,J,O2]
  have⟨r,B,_⟩:=qO K;have lp:=QK p;have lq:=QK q;rw[P,show c+(1+(post q).length+(post p).length)=(c+1+(post q).length)+(post p).length by omega,MA H C F p j _ d _ N m I,MA H C F q (j+(post p).length) (c+1) _ (x::i) O J (by rw[Ld,Ll];omega)];rw[show j+(1+(post q).length+(post p).length)=j+(post p).length+(post q).length+1 by omega];generalize j+(post p).length+(post q).length=z at r B K⊢;have U:d.length<=1000:=by
   have:j<E.length:=by
    rcases LY j E.length with h |h
    ·exact h
    rw[LG h] at m
    have:=congrArg List.length m;simp at this
   omega
  show _=Gt n ts rows ak x30 x31 (⟨nm,us,E⟩,b) c (d++[We x.kind (IJ A l ⟨x30,x31⟩ p) (IJ A l ⟨x30,x31⟩ q)],((z+1:Nat):Int));generalize IJ A l ⟨x30,x31⟩ p=u;generalize IJ A l ⟨x30,x31⟩ q=v;have M:(d++[u]++[v]).length=d.length+2:=by simp
  have Q:IntKind.i64.wrap (((d++[u]++[v]).length:Int)-2)=(d.length:Int):=by
   rw[M,IntWalk.i64_in _ (by omega)];omega
  have S:IntKind.i64.wrap (((d++[u]++[v]).length:Int)-1)=((d.length+1:Nat):Int):=by
   rw[M,IntWalk.i64_in _ (by omega)];omega
  have T:FV (d++[u]++[v]) 0 (d.length:Int)=some d:=by
   have:=Jn (xs:=d++[u]++[v]) (a:=0) (b:=d.length) (Lg _) (by omega);rw[LJ,Lq,List.take_left] at this;rw[Lq];exact this
  have i1:CD (d++[u]++[v]) (d.length:Int)=some u:=by
   rw[CL (by omega)];simp
  have i2:CD (d++[u]++[v]) ((d.length+1:Nat):Int)=some v:=by
   rw[CL (by omega)];simp
  have ap:∀w:Bool,DG d [w]=some (d++[w]):=fun w=>DV (by simp only[Ll];omega);have ne:decide ((d++[u]++[v]).length=0)=false:=C6;conv=>lhs;unfold Gt
  dsimp only;rw[EO B,if_pos rfl,r,Zo,Al,ne,Q,S,T,i1,i2];simp only[Zo,ap];unfold We;rcases g with g |g |g<;>rw[g]<;>cases u<;>cases v<;>rfl
end
variable {ex:Aj->Option Aj}{n:Nat}{s:ByteArray}
theorem xP {ts:List AG}(b:Ew ts)(u:PK ts)(F:2000000000<n):∃e,XO n ts=some e/\(e=0->∃S,Pa n ts=some (.inl S)/\EC ts S):=by
 have⟨r,d,G⟩:=rj_ b F;have j:=rS b;have ad:=b.1;have T:=mC (n:=n) b.1 (fun t H=>(b.2 t H).1) (by omega) _ 0 n rfl (Lg _) (by omega);unfold XO;by_cases v:QE ts;rotate_left
 ·have I:jD_ n ts n 0=_:=T.2 v (by
   cases ts with
   |nil=>exact absurd ⟨NX,fun _ h=>nomatch h⟩ v
   |cons _ _=>exact Nat.succ_pos _)
  rw[I,Zo];exact⟨11,rfl,fun h=>by cases h⟩
 have I:jD_ n ts n 0=_:=T.1 v;have U:xs_ n ts n 0=_:=mh (n:=n) b (by omega) _ 0 n rfl (Lg _) (by omega);rw[LJ] at U;have hc:=xB v;have i:=R7 hc [];rw[I,Zo];dsimp only;rw[U,Zo];by_cases B:Cz (Fl ts) ts=0;rotate_left
 ·have J:(Cz (Fl ts) ts != 0)=true:=by simpa using B
  rw[if_pos J];exact⟨_,rfl,fun h=>absurd h B⟩
 rw[B,if_neg (show ¬(((0:Int) != 0)=true) by decide)];dsimp only;have K:=me i b u (n:=n) (by omega) ts [] b.2 (by simp only[Lu];omega);rw[B,if_neg (show ¬(((0:Int) != 0)=true) by decide)] at K;have M:∀t∈ts,∀g∈t.rels,IM ⟨(jf_ ts [] []).1,(jf_ ts [] []).2.1,[]⟩ t.name g:=by
  have⟨r,C,N⟩:=iO (n:=n) (Wd i b) (by omega) ts [] b.2 (by simp only[Lu];omega);rw[K] at C;exact(N _ (LM C).symm).2
 have hD:∀m∈DY ts,∃l,Hz n ts m.typ m.rel=some l/\Ko ts m.typ (qf_ m CX (jf_ ts [] []).2.1) l:=fun m E=>by
  have:=mV (n:=n) (a:=m.typ) (rel:=m.rel) b (by omega) (by rw[UK i];exact .inl (ZZ i u M E).1);rwa [UK i] at this
 have V:=dZ ts;have ag:(DT ts).length=(DY ts).length:=by rw[<-V,LE]
 have mN:∀x∈DT ts,nm x∈DY ts:=fun x O=>by rw[<-V];exact LH O
 have aa:∀x∈DT ts,Hz n ts x.t x.rel=some ((fun m:AA=>(Hz n ts m.typ m.rel).getD []) (nm x))/\((fun m:AA=>(Hz n ts m.typ m.rel).getD []) (nm x)).length<=20000:=fun x O=>by
  have⟨l,d,G⟩:=hD _ (mN x O);have X:=JS (Wd i b) (nm x);dsimp only;rw[d];refine⟨d,?_⟩;show l.length<=20000;rcases G with⟨_,rfl⟩ |⟨t,_,_,J,rfl⟩
  ·have:=di (qf_ (nm x) CX (jf_ ts [] []).2.1).subs
   have:=X.1;dsimp only at this;omega
  have:=dY b (a:=(nm x).typ) t false
  have:=X.2.1;dsimp only at this;rw[J] at this;omega
 rcases xD (Wf:=fun m:AA=>(Hz n ts m.typ m.rel).getD []) (by omega) aa F (xJ b (by omega)) with P |⟨R,P,r2,r3⟩
 ·rw[P,Zo];exact⟨14,rfl,fun h=>by cases h⟩
 rw[P,Zo];refine⟨0,rfl,fun _=> ?_⟩;cases r with
 |inl S=>exact⟨S,d,G S rfl⟩
 |inr e=>
  exfalso;unfold Pa at d;rw[if_pos ⟨by omega,fun t H=>by have:=(b.2 t H).1;omega⟩,hc,if_pos (by rfl),K,Zo] at d;have⟨Y,q1,q2⟩:=xI i u M b F r2 r3;cases p:DY ts with
  |nil=>rw[p] at d;cases d
  |cons m r=>
   rw[p,LA,JQ] at d;have⟨q,y1,y2⟩:=iP n (m::r) 0 r.length (fun _=>by rw[Lh];omega) (by rw[p,Lh] at j;omega);rw[y1,Zo] at d;have Z:∀k,k∈q↔k∈DY ts:=fun k=>(by rw[p];exact y2.mem_iff);have ab:q.length=(DY ts).length:=(by rw[y2.length_eq,p]);have hW:∀k∈q,Qv n ⟨(jf_ ts [] []).1,(jf_ ts [] []).2.1,[]⟩ k=some (Er ⟨(jf_ ts [] []).1,(jf_ ts [] []).2.1,[]⟩ k)/\(Er ⟨(jf_ ts [] []).1,(jf_ ts [] []).2.1,[]⟩ k).length<=60000:=fun k j=>rI (Wd i b) (by omega) (ZZ i u M ((Z k).1 j)).2.2
   have⟨W,w1,w2,w3⟩:=iQ (n:=n) (S:=⟨(jf_ ts [] []).1,(jf_ ts [] []).2.1,[]⟩) q [] fun k j=>(hW k j).1;rw[w1,Zo] at d;split at d
   ·have⟨y,C,d⟩:=AL d;have⟨K',N,_⟩:=iK (os:=q) (W:=W) (rk':=Y) (by omega) (fun k=>by rw[ab];exact(q1 k).2) (fun m E w Q=>by
     have e3:qf_ m [] W=Er ⟨(jf_ ts [] []).1,(jf_ ts [] []).2.1,[]⟩ m:=(by unfold qf_;rw[w2,if_pos E];rfl);rw[e3] at Q;exact⟨ai _ m w Q,q2 m ((Z m).1 E) w Q⟩) n [] y (fun k=>⟨Bp _,(q1 k).1⟩) C
    rw[N] at d;cases d
   cases d
abbrev Tk:=Int × ByteArray
def PF (t:CN):Tk:=(t.kind,t.text)
def Gv (b:UInt8):Bool:=(KE 0 (b.toNat:Int)).getD false
theorem Wv (n:Nat)(b:UInt8):KE n (b.toNat:Int)=some (Gv b):=by
 have⟨x,a⟩:=Z5 0 (b.toNat:Int)
 have:KE n (b.toNat:Int)=KE 0 (b.toNat:Int):=rfl;rw[this,Gv,a];rfl
def I4:List UInt8:=[123,125,58,59,124,35,61,43,45,38,40,41]
def PG:ByteArray:={ data:= #[45,62] }
inductive Lx:List UInt8->List Tk->Prop
 |nil:Lx [] []
 |sp (b:UInt8) {w:List UInt8} {T:List Tk} (hb:b=32\/b=10) (h:Lx w T):Lx (b::w) T
 |wd (u:UInt8) (us:List UInt8) {w:List UInt8} {T:List Tk} (hu:Gv u=true) (hs:∀x∈us,Gv x=true) (hw:∀x,w.head? =some x->Gv x=false) (h:Lx w T):Lx (u::(us++w)) ((1,⟨(u::us).toArray⟩)::T)
 |ar {w:List UInt8} {T:List Tk} (h:Lx w T):Lx (45::62::w) ((2,PG)::T)
 |sg (b:UInt8) {w:List UInt8} {T:List Tk} (hb:b∈I4) (hm:b=45->w.head?≠some 62) (h:Lx w T):Lx (b::w) ((2,⟨#[b]⟩)::T)
theorem nW {n:Nat}{s:ByteArray}{b:UInt8}(j:s.size<4611686018427387900)(a:b∈s.data.toList):∀(c i:Nat),s.size-i<c->(b∉s.data.toList.take i)->∃k:Nat,xO_ n s (b.toNat:Int) c (i:Int)=some (.inr (k:Int))
 |0,_,h,_=>absurd h (LN _)
 |c+1,i,hc,d=>by
  unfold xO_;have h:i<s.size:=by
   rcases LY i s.size with h |h
   ·exact h
   rw[ND (by rw[v6_];exact h)] at d;exact absurd a d
  rw[if_pos Cp,HI h,Zo];by_cases e:s.data.toList[i]'(by rw[v6_];exact h)=b
  ·grind
  have m:(((s.data.toList[i]'(by rw[v6_];exact h)).toNat:Int)==(b.toNat:Int))=false:=by
   rw[beq_eq_false_iff_ne];intro g;exact e (Ot.1 (Int.ofNat.inj g))
  rw[m,if_neg (by decide),Al];refine nW j a c (i+1) (by omega) fun g=> ?_;grind [List.take_add_one,List.getElem?_eq_getElem,v6_,Option.toList_some,List.mem_singleton]
theorem nY {n:Nat}{s:ByteArray}(j:s.size<4611686018427387900):∀(a w:List UInt8) (c i:Nat),s.data.toList.drop i=a++w->(∀x∈a,Gv x=true)->(∀x,w.head? =some x->Gv x=false)->a.length<c->SP n s c (i:Int)=some ((i+a.length:Nat):Int)
 |[],w,0,i,_,_,_,h=>absurd h (LN _)
 |[],w,c+1,i,b,_,d,_=>by
  unfold SP;by_cases h:i<s.size
  ·rw[if_pos Cp,HI h,Zo,Wv,Zo];grind [v6_,List.head?_drop,List.getElem?_eq_getElem]
  grind
 |u::a,w,0,i,_,_,_,h=>absurd h (LN _)
 |u::a,w,c+1,i,b,e,d,hc=>by
  have h:i<s.size:=by
   rcases LY i s.size with h |h
   ·exact h
   rw[LG (by rw[v6_];exact h)] at b;cases b
  have g:s.data.toList[i]'(by rw[v6_];exact h)=u/\s.data.toList.drop (i+1)=a++w:=by
   rw[Lm (by rw[v6_];exact h)] at b;exact Ib b
  unfold SP;rw[if_pos Cp,HI h,Zo,Wv,Zo,g.1,e u Lo,if_pos rfl,Al,nY j a w c (i+1) g.2 (fun x m=>e x (Lj _ m)) d (by simp only[Lh] at hc;omega)];grind
theorem eu {i:Nat}{v w:List UInt8}(a:s.data.toList.drop i=v++w):s.extract i (i+v.length)=⟨v.toArray⟩:=by
 apply Zk;simp_all
theorem xn {b:UInt8}(h:Gv b=true):((b.toNat:Int)==32)=false/\((b.toNat:Int)==9)=false/\((b.toNat:Int)==10)=false/\((b.toNat:Int)==13)=false/\((b.toNat:Int)==47)=false:=by
 have:∀k:Int,(k=32\/k=9\/k=10\/k=13\/k=47)->KE 0 k=some false:=by
  rintro k (rfl |rfl |rfl |rfl |rfl)<;>rfl
 have a:∀k:Int,(k=32\/k=9\/k=10\/k=13\/k=47)->((b.toNat:Int)==k)=false:=fun k d=>by
  rw[beq_eq_false_iff_ne];rintro e;rw[Gv,e,this k d] at h;cases h
 exact⟨a _ (.inl rfl),a _ (.inr (.inl rfl)),a _ (.inr (.inr (.inl rfl))),a _ (.inr (.inr (.inr (.inl rfl)))),a _ (.inr (.inr (.inr (.inr rfl))))⟩
theorem Ww {i:Nat}{b:UInt8}{w:List UInt8}(a:s.data.toList.drop i=b::w):∃h:i<s.size,(s.data.toList[i]'(by rw[v6_];exact h))=b/\s.data.toList.drop (i+1)=w:=by
 grind [Nat.lt_or_ge,List.drop_of_length_le,v6_,List.drop_eq_getElem_cons,List.cons.inj]
theorem SJ (hs:s.size<=100000)(hn:s.size+20<n){w:List UInt8}{T:List Tk}(r:Lx w T):∀(c i:Nat) (l:List CN),s.data.toList.drop i=w->l.length<=i->s.size-i<c->∃d,Kx n s c (l,(i:Int))=some (.inl (l++d))/\d.map PF=T:=by
 induction r with
 |nil=>
  intro c i l a B hc;have h:s.size<=i:=by
   rcases LY i s.size with h |h
   ·have:=congrArg List.length a;rw[Nv,v6_,Lu] at this;omega
   exact h
  cases c with
  |zero=>omega
  |succ c=>
   unfold Kx;rw[if_neg (by rw[decide_eq_true_eq];omega)];exact⟨[],by rw[LX],rfl⟩
 |sp b C r j=>
  intro c i l a B hc;have⟨h,m,e⟩:=Ww a;cases c with
  |zero=>omega
  |succ c=>
   have⟨d,p,q⟩:=j c (i+1) l e (by omega) (by omega);refine⟨d,?_,q⟩;unfold Kx;rw[if_pos Cp,HI h,Zo,m];rw[<-p];rcases C with rfl |rfl
   ·rw[if_pos (by decide),Zo,if_pos rfl,Zo];dsimp only;rw[if_neg (by decide),Al]
   ·rw[if_neg (by decide),if_neg (by decide),if_pos (by decide),Zo,if_pos rfl,Zo];dsimp only;rw[if_neg (by decide),Al]
 |wd u g N P Q r j=>
  rename_i w T;intro c i l a B hc;have⟨h,m,e⟩:=Ww a;have ag:g.length+1<=s.size-i:=by
   have:=congrArg List.length a;rw[Nv,v6_,Lh,Ld] at this;omega
  have E:s.data.toList.drop (i+1+g.length)=w:=by
   rw[<-BU,e];exact O2
  cases c with
  |zero=>omega
  |succ c=>
   have⟨d,p,q⟩:=j c (i+1+g.length) (l++[⟨1,(i:Int),⟨(u::g).toArray⟩⟩]) E (by rw[Ld,Ll];omega) (by omega);refine⟨⟨1,(i:Int),⟨(u::g).toArray⟩⟩::d,?_,by rw[Li,q];rfl⟩;unfold Kx;have⟨F,G,H,I,J⟩:=xn N;rw[if_pos Cp,HI h,Zo,m,F,if_neg (by decide),G,if_neg (by decide),H,if_neg (by decide),I,Zo,if_neg (by decide),J,if_neg (by decide),Zo,if_neg (by decide),Wv,Zo,N,if_pos rfl,Al,nY (n:=n) (s:=s) (by omega) g w n (i+1) e P Q (by omega),Zo,Zo];dsimp only;rw[if_pos (by decide),I7 (by omega) (by omega),Zo,DG,if_pos (by rw[Ll];omega),Zo];have K:s.extract i (i+1+g.length)=⟨(u::g).toArray⟩:=by
    have:=eu (s:=s) (i:=i) (v:=u::g) (w:=w) a;rw[<-this,Lh];congr 1;omega
   rw[K,p,Lq];rfl
 |ar r j=>
  rename_i w T;intro c i l a B hc;have⟨h,m,e⟩:=Ww a;have⟨S,E,K⟩:=Ww e;cases c with
  |zero=>omega
  |succ c=>
   have⟨d,p,q⟩:=j c (i+1+1) (l++[⟨2,(i:Int),PG⟩]) K (by rw[Ld,Ll];omega) (by omega);refine⟨⟨2,(i:Int),PG⟩::d,?_,by rw[Li,q];rfl⟩;unfold Kx;rw[if_pos Cp,HI h,Zo,m,if_neg (by decide),if_neg (by decide),if_neg (by decide)];rw[show(some ((((45:UInt8).toNat:Int))==13))=some false from rfl,Zo,if_neg (by decide),if_neg (by decide),Zo,if_neg (by decide),Wv,Zo,show Gv 45=false from rfl,if_neg (by decide),if_pos (by decide),Al,if_pos Cp,HI S,Zo,E];rw[show(some ((((62:UInt8).toNat:Int))==62))=some true from rfl,Zo,if_pos rfl,Al,Zo];dsimp only;rw[if_pos (by decide),I7 (by omega) (by omega),Zo,DG,if_pos (by rw[Ll];omega),Zo];have M:s.extract i (i+1+1)=PG:=eu (s:=s) (i:=i) (v:=[45,62]) (w:=w) a;rw[M,p,Lq];rfl
 |sg b C U r j=>
  rename_i w T;intro c i l a B hc;have⟨h,m,e⟩:=Ww a;cases c with
  |zero=>omega
  |succ c=>
   have⟨d,p,q⟩:=j c (i+1) (l++[⟨2,(i:Int),⟨#[b]⟩⟩]) e (by rw[Ld,Ll];omega) (by omega);refine⟨⟨2,(i:Int),⟨#[b]⟩⟩::d,?_,by rw[Li,q];rfl⟩;have V:∀x∈I4,((x.toNat:Int)==32)=false/\((x.toNat:Int)==9)=false/\((x.toNat:Int)==10)=false/\((x.toNat:Int)==13)=false/\((x.toNat:Int)==47)=false/\Gv x=false:=(by decide);have⟨F,G,H,I,J,X⟩:=V b C;have⟨k,hk⟩:=nW (n:=n) (s:={ data:= #[123,125,58,59,124,35,61,43,45,38,40,41] }) (b:=b) (by decide) C n 0 (by show 12-0<n;omega) (by simp);have M:s.extract i (i+1)=⟨#[b]⟩:=eu (s:=s) (i:=i) (v:=[b]) (w:=w) a;unfold Kx;rw[if_pos Cp,HI h,Zo,m,F,if_neg (by decide),G,if_neg (by decide),H,if_neg (by decide),I,Zo,if_neg (by decide),J,if_neg (by decide),Zo,if_neg (by decide),Wv,Zo,X,if_neg (by decide),Al];have Y:(if ((b.toNat:Int)==45)=true then if decide (((i+1:Nat):Int)<(s.size:Int))=true then(D6 s ((i+1:Nat):Int)).bind fun Z=>some (Z==62) else some false else some false)=some false:=by
    split
    ·rename_i aa;have ab:b=45:=Ot.1 (by have:=eq_of_beq aa;show b.toNat=45;omega);split
     ·rename_i t;have t:i+1<s.size:=(by rw[decide_eq_true_eq] at t;omega);rw[HI t,Zo];have ad:s.data.toList[i+1]'(by rw[v6_];exact t)≠62:=fun O=>U ab (by
       rw[<-e,OQ,Le (by rw[v6_];exact t),O])
      congr 1;rw[beq_eq_false_iff_ne];intro O;exact ad (Ot.1 (by show _=62;omega))
     rfl
    rfl
   rw[Y,Zo,if_neg (by decide)];unfold W8;rw[show(0:Int)=((0:Nat):Int) from rfl,hk,Zo];dsimp only;rw[Zo,if_neg (by rw[decide_eq_true_eq];omega),Zo];dsimp only;rw[if_pos (by decide),I7 (by omega) (by omega),Zo,DG,if_pos (by rw[Ll];omega),Zo,M,p,Lq];rfl
theorem nZ (a:s.size<=100000)(b:s.size+20<n){T:List Tk}(d:Lx s.data.toList T):∃l,SQ n s=some (l,0,0)/\l.map PF=T:=by
 have⟨l,g,e⟩:=SJ a b d n 0 [] rfl (Lc _) (by omega);refine⟨l,?_,e⟩;unfold SQ;grind
structure At (L:List CN) (R:List Tk) (x:Aj):Prop where
 l:x.l=L
 e:x.e=0
 p:x.p<=L.length
 r:(L.drop x.p).map PF=R
 b:L.length<1152921504606846976
def C5 (R:List Tk)(t:ByteArray):Bool:=match R with
 |(k,s)::_=>k==2&&s.toList==t.toList
 |[]=>false
section
variable {L:List CN}{R:List Tk}{x y:Aj}{n:Nat}{k:Int}{s:ByteArray}
theorem At.of (h:At L R x)(b:y.l=x.l)(d:y.e=x.e)(a:y.p=x.p):At L R y:=
 ⟨b.trans h.l,d.trans h.e,by rw[a];exact h.p,by rw[a];exact h.r,h.b⟩
theorem At.get (h:At L R x):x.l[x.p]?.map PF=R.head?:=by
 rw[h.l,<-h.r,List.head?_map,OQ]
theorem At.is (h:At L R x)(t:ByteArray):isM x t=C5 R t:=by
 have b:=h.get;unfold isM C5;cases d:x.l[x.p]? with
 |none=>grind
 |some u=>rw[d] at b;cases R with |nil=>cases b |cons a R=>cases b;rfl
theorem At.next (h:At L ((k,s)::R) x):At L R { x with p:=x.p+1 }/\x.p<x.l.length/\∃t,x.l[x.p]? =some t/\t.kind=k/\t.text=s:=by
 have a:=h.get;have b:x.p<L.length:=by
  rcases LY x.p L.length with d |d
  ·exact d
  have:=h.r;rw[LG d] at this;cases this
 refine⟨⟨h.l,h.e,b,?_,h.b⟩,by rw[h.l];exact b,?_⟩
 ·have:=h.r;rw[Lm b,Li] at this;exact(Ib this).2
 cases e:x.l[x.p]? with
 |none=>rw[e] at a;cases a
 |some u=>rw[e] at a;cases a;exact⟨u,rfl,rfl,rfl⟩
theorem At.w (h:At L R x)(a:x.out.length<=200)(b:x.deep<=20):D8 x:=⟨by rw[h.l];exact h.b,by rw[h.l];exact h.p,a,b⟩
theorem At.e0 (h:At L R x):(x.e==0)=true:=by rw[h.e];rfl
theorem At.name (h:At L ((1,s)::R) x)(b:Gc n s=some true):zI_ n x=some ({ x with p:=x.p+1 },s):=by
 have⟨_,_,t,a,d,e⟩:=h.next;unfold zI_;rw[if_pos h.e0,a];grind
theorem At.want (h:At L ((2,s)::R) x):Do x s={ x with p:=x.p+1 }:=by
 unfold Do;rw[if_pos h.e0,h.is,show C5 ((2,s)::R) s=true by simp[C5],if_pos rfl]
end
def Gs (L:List CN)(R:List Tk)(mn:Bool)(k:Nat)(x y:Aj):Prop:=At L R y/\y.deep=x.deep/\∃o,y.out=x.out++o/\o.length<=k/\(mn=false->∀s∈o,s.kind≠4)
section
variable {L:List CN}{R R2:List Tk}{x y z:Aj}{n:Nat}{mn:Bool}{k k2:Nat}
theorem Gs.trans (h:Gs L R mn k x y)(g:Gs L R2 mn k2 y z):Gs L R2 mn (k+k2) x z:=by
 have⟨_,a,o,b,j,m⟩:=h;have⟨d,e,p,i,q,r⟩:=g;refine⟨d,e.trans a,o++p,by rw[i,b,Lq],by rw[Ld];omega,fun t s u=> ?_⟩;grind
theorem Gs.same (h:At L R y)(a:y.deep=x.deep)(b:y.out=x.out):Gs L R mn 0 x y:=⟨h,a,[],by rw[b,LX],Lc _,fun _ _ h=>by cases h⟩
theorem Gs.len (h:Gs L R mn k x y):y.out.length<=x.out.length+k:=by
 have⟨_,_,o,a,b,_⟩:=h;rw[a,Ld];omega
theorem Gs.mono (h:Gs L R mn k x y)(a:k<=k2):Gs L R mn k2 x y:=by
 have⟨b,d,o,e,g,i⟩:=h;exact⟨b,d,o,e,Lv g a,i⟩
theorem Gs.put (h:At L R x)(b:x.out.length<200){s:AS}{a:Int}(d:mn=false->s.kind≠4):Gs L R mn 1 x (DO x s a):=by
 unfold DO;rw[if_pos h.e0,ifn];exact⟨h.of rfl rfl rfl,rfl,[s],rfl,Lc _,fun e t g=>by grind⟩
def GQ (n:Nat)(ex:Aj->Option Aj)(T:List Tk)(mn:Bool)(k d:Nat):Prop:=∀L R x,At L (T++R) x->C5 R Jo=false->x.deep=d->x.out.length+k<=200->∃y,EU n ex x=some y/\Gs L R mn k x y
def Ku (R:List Tk):Prop:=C5 R Jo=false/\C5 R EM=false/\C5 R Ky=false/\C5 R DW=false
def Wx (ex:Aj->Option Aj)(T:List Tk)(mn:Bool)(k d:Nat):Prop:=∀L R x,At L (T++R) x->Ku R->x.deep=d->x.out.length+k<=200->∃y,ex x=some y/\Gs L R mn k x y
theorem UW {a:ByteArray}{d:Nat}(i:d<=20)(e:Gc n a=some true):GQ n ex [(1,a)] mn 1 d:=by
 intro L R x h g j m;have h:At L ((1,a)::R) x:=h;unfold EU;have b:=h.next.1;rw[if_pos (h.w (by omega) (by omega)),h.is,show C5 ((1,a)::R) MV=false from rfl,NH,if_neg (by decide),h.name e,Zo];dsimp only;rw[b.is,g,NH,if_neg (by decide)];exact⟨_,rfl,((Gs.same b rfl rfl:Gs L R mn 0 x _).trans (Gs.put b (by show x.out.length<200;omega) fun _=>by show(1:Int)≠4;decide)).mono (Lc _)⟩
theorem nf {a b:ByteArray}{d:Nat}(p:d<=20)(j:Gc n a=some true)(m:Gc n b=some true):GQ n ex [(1,a),(2,Jo),(1,b)] mn 1 d:=by
 intro L R x h q r t;have h:At L ((1,a)::(2,Jo)::(1,b)::R) x:=h;unfold EU;have e:=h.next.1;have g:=e.next.1;have i:=g.next.1;rw[if_pos (h.w (by omega) (by omega)),h.is,show C5 ((1,a)::(2,Jo)::(1,b)::R) MV=false from rfl,NH,if_neg (by decide),h.name j,Zo];dsimp only;rw[e.is,show C5 ((2,Jo)::(1,b)::R) Jo=true by simp[C5],h.e0,if_pos (by decide),g.name m,Zo];exact⟨_,rfl,((Gs.same i rfl rfl:Gs L R mn 0 x _).trans (Gs.put i (by show x.out.length<200;omega) fun _=>by show(2:Int)≠4;decide)).mono (Lc _)⟩
theorem xo {T:List Tk}{d:Nat}(w:d<20)(g:Wx ex T mn k (d+1)):GQ n ex ((2,MV)::(T++[(2,Ha)])) mn k d:=by
 intro L R x h B C i;rw[LL,Lq] at h;have j:=h.next.1;have⟨y,m,b⟩:=g L ((2,Ha)::R) { x with deep:=x.deep+1,p:=x.p+1 } (j.of rfl rfl rfl) ⟨by kernel_rfl,by kernel_rfl,by kernel_rfl,by kernel_rfl⟩ (by show x.deep+1=d+1;omega) i;have q:=b.len;have⟨a,e,o,r,t,u⟩:=b;have e:y.deep=x.deep+1:=e;have v:=a.next.1;refine⟨{ Do y Ha with deep:=y.deep-1 },?_,?_⟩
 ·unfold EU;rw[if_pos (h.w (by omega) (by omega)),h.is,show C5 ((2,MV)::(T++([(2,Ha)]++R))) MV=true by simp[C5],h.e0,if_pos (by decide),ifn,m,Zo,if_pos ⟨a.w (by have:y.out.length<=x.out.length+k:=q;omega) (by omega),by omega⟩]
 rw[a.want];exact⟨v.of rfl rfl rfl,by show y.deep-1=x.deep;omega,o,r,t,u⟩
structure Fa where
 op:ByteArray
 T:List Tk
 k:Nat
def E6 (S:List Fa):List Tk:=S.flatMap fun f=>(2,f.op)::f.T
def Dr:List Fa->Nat
 |[]=>0
 |f::S=>f.k+1+Dr S
def xp (b:Aj->Option Aj)(d:Option (AS × Int))(c:Nat)(y:Aj):Option Aj:=match d with
 |none=>GH b c y
 |some (s,a)=>if y.out.length<=200 then GH b c (DO y s a) else none
def UX:Option (AS × Int)->Nat
 |none=>0
 |some _=>1
theorem ng {S:List Fa}(a:∀f∈S,f.op=EM\/f.op=Ky\/f.op=DW)(b:Ku R):C5 (E6 S++R) Jo=false:=by
 cases S with
 |nil=>exact b.1
 |cons f S=>
  show C5 ((2,f.op)::_) Jo=false;rcases a f Lo with e |e |e<;>rw[e]<;>kernel_rfl
theorem fA {ex:Aj->Option Aj}{c0 d:Nat}(N:d<=20):∀(S:List Fa) (_:∀f∈S,GQ n ex f.T mn f.k d/\(f.op=EM\/f.op=Ky\/f.op=DW)/\(f.op=DW->mn=true)) (c r:Nat) (j:Option (AS × Int)) (_:∀s a,j=some (s,a)->mn=false->s.kind≠4) (L:List CN) (R:List Tk) (x:Aj),S.length<c->S.length<r->S.length<=c0->At L (E6 S++R) x->Ku R->x.deep=d->x.out.length+(Dr S+UX j)<=200->∃y,(G6 n ex c x).bind (xp (F6 n ex c0) j r)=some y/\Gs L R mn (Dr S+UX j) x y
 |[],_,0,_,_,_,_,_,_,h,_,_,_,_,_,_=>absurd h (LN _)
 |[],_,_+1,0,_,_,_,_,_,_,h,_,_,_,_,_=>absurd h (LN _)
 |[],_,c+1,r+1,j,F,L,R,x,_,_,_,h,t,B,u=>by
  have h:At L R x:=h;have G:G6 n ex (c+1) x=some x:=by
   unfold G6;rw[if_pos (h.w (by omega) (by omega)),h.is,t.2.1,NH,if_neg (by decide)]
  have O:∀z:Aj,At L R z->z.out.length<=200->z.deep<=20->GH (F6 n ex c0) (r+1) z=some z:=fun z v C E=>by
   unfold GH;rw[if_pos (v.w C E),v.is,v.is,t.2.2.1,t.2.2.2,Bool.or_false,NH,if_neg (by decide)]
  rw[G,Zo];cases j with
  |none=>exact⟨x,O x h (by omega) (by omega),(Gs.same h rfl rfl:Gs L R mn 0 x x).mono (Lg _)⟩
  |some q=>
   have⟨s,a⟩:=q;have u:x.out.length+(0+1)<=200:=u;have m:=Gs.put (mn:=mn) (s:=s) (a:=a) h (by omega) (F s a rfl);refine⟨DO x s a,?_,m.mono (by show 1<=0+1;omega)⟩;show(if x.out.length<=200 then GH (F6 n ex c0) (r+1) (DO x s a) else none)=_;rw[ifp];exact O _ m.1 (by have:=m.len;omega) (by rw[m.2.1];omega)
 |f::S,_,0,_,_,_,_,_,_,h,_,_,_,_,_,_=>absurd h (LN _)
 |f::S,_,_+1,0,_,_,_,_,_,_,h,_,_,_,_,_=>absurd h (LN _)
 |f::S,P,c+1,r+1,j,F,L,R,x,hc,Y,Z,h,t,B,u=>by
  have H:∀g∈S,GQ n ex g.T mn g.k d/\(g.op=EM\/g.op=Ky\/g.op=DW)/\(g.op=DW->mn=true):=fun g b=>P g (Lj _ b);have⟨Q,aa,ab⟩:=P f Lo;have hT:E6 (f::S)++R=(2,f.op)::(f.T++(E6 S++R)):=by
   show((2,f.op)::f.T++E6 S)++R=_;simp only[LL,Lq]
  rw[hT] at h;simp only[Lh] at hc Y Z;have u:x.out.length+(f.k+1+Dr S+UX j)<=200:=u;have T:=ng (S:=S) (fun g b=>(H g b).2.1) t;have ao:UX j<=1:=by cases j;exact Lg _;exact Lc _
  by_cases U:f.op=EM
  ·have⟨y,I,b⟩:=Q L (E6 S++R) { x with p:=x.p+1 } h.next.1 T B (by show x.out.length+f.k<=200;omega);have ad:y.out.length<=x.out.length+f.k:=b.len;have m:=Gs.put (mn:=mn) (s:=⟨5,ByteArray.empty,ByteArray.empty⟩) (a:=Hv x) b.1 (by omega) fun _=>(by decide);have ap:=m.len;have⟨z,v,J⟩:=fA (c0:=c0) N S H c (r+1) j F L R _ (by omega) (by omega) (by omega) m.1 t (by rw[m.2.1,b.2.1];exact B) (by omega);refine⟨z,?_,?_⟩
   ·unfold G6;rw[if_pos (h.w (by omega) (by omega)),h.is,show C5 ((2,f.op)::(f.T++(E6 S++R))) EM=true by rw[U];simp[C5],h.e0,if_pos (by decide),I,Zo,ifp];exact v
   have K:Gs L (E6 S++R) mn f.k x y:=⟨b.1,b.2.1,b.2.2⟩;exact((K.trans m).trans J).mono (by show f.k+1+(Dr S+UX j)<=f.k+1+Dr S+UX j;omega)
  have M:f.op=Ky\/f.op=DW:=aa.resolve_left U;have G:G6 n ex (c+1) x=some x:=by
   unfold G6;rw[if_pos (h.w (by omega) (by omega)),h.is,show C5 ((2,f.op)::(f.T++(E6 S++R))) EM=false by rcases M with e |e<;>rw[e]<;>kernel_rfl,NH,if_neg (by decide)]
  -- what GH does at an i that stands there
  have V:∀i:Aj,At L ((2,f.op)::(f.T++(E6 S++R))) i->i.deep=d->i.out.length+(f.k+1+Dr S)<=200->∃z,GH (F6 n ex c0) (r+1) i=some z/\Gs L R mn (f.k+1+Dr S) i z:=fun i w X aq=>by
   have⟨y,I,b⟩:=Q L (E6 S++R) { i with p:=i.p+1 } w.next.1 T X (by show i.out.length+f.k<=200;omega);have ad:y.out.length<=i.out.length+f.k:=b.len;have ag:mn=false->(⟨if isM i DW then 4 else 3,ByteArray.empty,ByteArray.empty⟩:AS).kind≠4:=fun hm=>by
    have:isM i DW=false:=by
     rw[w.is];rcases M with e |e
     ·rw[e];kernel_rfl
     rw[ab e] at hm;cases hm
    rw[this];decide
   have⟨z,v,J⟩:=fA (c0:=c0) N S H c0 r (some (⟨if isM i DW then 4 else 3,ByteArray.empty,ByteArray.empty⟩,Hv i)) (fun s a e=>by cases e;exact ag) L R y (by omega) (by omega) (by omega) b.1 t (by rw[b.2.1];exact X) (by show y.out.length+(Dr S+1)<=200;omega);refine⟨z,?_,?_⟩
   ·unfold GH;rw[if_pos (w.w (by omega) (by omega)),w.is,w.is,show(C5 ((2,f.op)::(f.T++(E6 S++R))) Ky||C5 ((2,f.op)::(f.T++(E6 S++R))) DW)=true by rcases M with e |e<;>rw[e]<;>kernel_rfl,w.e0,if_pos (by decide)];unfold F6;rw[I,Zo,<-w.is];exact v
   have K:Gs L (E6 S++R) mn f.k i y:=⟨b.1,b.2.1,b.2.2⟩;exact(K.trans J).mono (by show f.k+(Dr S+1)<=f.k+1+Dr S;omega)
  rw[G,Zo];cases j with
  |none=>
   have⟨z,C,E⟩:=V x h B (by omega);exact⟨z,C,E.mono (Lc _)⟩
  |some q=>
   have⟨s,a⟩:=q;have u:x.out.length+(f.k+1+Dr S+1)<=200:=u;have m:=Gs.put (mn:=mn) (s:=s) (a:=a) h (by omega) (F s a rfl);have ar:=m.len;have⟨z,C,E⟩:=V (DO x s a) m.1 (by rw[m.2.1];exact B) (by omega);refine⟨z,?_,(m.trans E).mono (by show 1+(f.k+1+Dr S)<=f.k+1+Dr S+1;omega)⟩;show(if x.out.length<=200 then GH (F6 n ex c0) (r+1) (DO x s a) else none)=_;rw[ifp];exact C
theorem nh {c f d:Nat}(p:d<=20){T:List Tk}{S:List Fa}(q:GQ n (E8 n c f) T mn k d)(i:∀g∈S,GQ n (E8 n c f) g.T mn g.k d/\(g.op=EM\/g.op=Ky\/g.op=DW)/\(g.op=DW->mn=true))(hc:S.length<c):Wx (E8 n c (f+1)) (T++E6 S) mn (k+Dr S) d:=by
 intro L R x h j m v;rw[Lq] at h;have⟨y,r,b⟩:=q L (E6 S++R) x h (ng (fun g b=>(i g b).2.1) j) m (by omega);have w:=b.len;have⟨z,t,u⟩:=fA (c0:=c) p S i c c none (fun s a e=>by cases e) L R y hc hc (by omega) b.1 j (by rw[b.2.1];exact m) (by show y.out.length+(Dr S+0)<=200;omega);refine⟨z,?_,(b.trans u).mono (by show k+(Dr S+0)<=k+Dr S;omega)⟩;show(F6 n (E8 n c f) c x).bind (GH (F6 n (E8 n c f) c) c)=some z;unfold F6;rw[r,Zo];exact t
end
structure Sb where
 a:ByteArray
 r:Option ByteArray
def Sb.T (s:Sb):List Tk:=(1,s.a)::(match s.r with |none=>[] |some r=>[(2,dY_),(1,r)])
def Sb.ok (n:Nat)(s:Sb):Prop:=Gc n s.a=some true/\∀r,s.r=some r->Gc n r=some true
def HZ:Sb->List Sb->List Tk
 |s,[]=>s.T++[(2,Eo)]
 |s,t::l=>s.T++(2,Fm)::HZ t l
section
variable {n c f:Nat}{L:List CN}{R:List Tk}{x y:Aj}{mn:Bool}
def C0 (L:List CN)(R:List Tk)(x:Aj):Prop:=At L R x/\x.deep=0/\x.out.length<=200
theorem C0.w (h:C0 L R x):D8 x:=h.1.w h.2.2 (by rw[h.2.1];exact Lg _)
theorem C0.next {k:Int}(h:C0 L ((k,s)::R) x):C0 L R { x with p:=x.p+1 }:=⟨h.1.next.1,h.2⟩
theorem ni (s:Sb)(d:s.ok n)(h:C0 L (s.T++R) x)(j:C5 R dY_=false){ss:List AN}(m:ss.length<50)(hc:D8 x):∃z g,C0 L R z/\G7 n (c+1) x ss=(if C5 R Fm then G7 n c { z with p:=z.p+1 } (ss++[g]) else some (Do z Eo,ss++[g])):=by
 have⟨a,r⟩:=s;cases r with
 |none=>
  have h:C0 L ((1,a)::R) x:=h;have b:=h.next;refine⟨_,⟨a,ByteArray.empty,ByteArray.empty⟩,b,?_⟩;conv=>lhs;unfold G7
  rw[if_pos ⟨hc,by omega⟩,if_pos h.1.e0,ifn,h.1.name d.1,Zo];dsimp only;rw[b.1.is,j,NH,if_neg (by decide),Zo];dsimp only;rw[b.1.is,h.1.e0,NC]
 |some r=>
  have h:C0 L ((1,a)::(2,dY_)::(1,r)::R) x:=h;have b:=h.next;have e:=b.next;have i:=e.next;refine⟨_,⟨a,ByteArray.empty,r⟩,i,?_⟩;conv=>lhs;unfold G7
  rw[if_pos ⟨hc,by omega⟩,if_pos h.1.e0,ifn,h.1.name d.1,Zo];dsimp only;rw[b.1.is,show C5 ((2,dY_)::(1,r)::R) dY_=true by kernel_rfl,h.1.e0,if_pos (by decide),e.1.name (d.2 r rfl),Zo];dsimp only;rw[i.1.is,h.1.e0,NC]
theorem nj:∀(l:List Sb) (s:Sb) (c:Nat) (x:Aj) (a:List AN),s.ok n->(∀t∈l,t.ok n)->C0 L (HZ s l++R) x->a.length+l.length<50->l.length<c->∃y r,G7 n c x a=some (y,r)/\C0 L R y
 |_,_,0,_,_,_,_,_,_,h=>absurd h (LN _)
 |[],s,c+1,x,a,d,_,h,i,_=>by
  have h:C0 L ((s.T++[(2,Eo)])++R) x:=h;rw[Lq] at h;have⟨z,g,b,e⟩:=ni (c:=c) s d h (by kernel_rfl) (ss:=a) (by omega) h.w;have b:C0 L ((2,Eo)::R) z:=b;rw[e,show C5 ([(2,Eo)]++R) Fm=false by kernel_rfl,if_neg (by decide),b.1.want];exact⟨_,_,rfl,b.next⟩
 |t::l,s,c+1,x,a,d,j,h,i,hc=>by
  have h:C0 L ((s.T++(2,Fm)::HZ t l)++R) x:=h;rw[Lq] at h;simp only[Lh] at i hc;have⟨z,g,b,e⟩:=ni (c:=c) s d h (by kernel_rfl) (ss:=a) (by omega) h.w;have b:C0 L ((2,Fm)::(HZ t l++R)) z:=b;rw[e,show C5 ((2,Fm)::HZ t l++R) Fm=true by kernel_rfl,if_pos rfl];exact nj l t c _ _ (j t Lo) (fun u m=>j u (Lj _ m)) b.next (by grind) (by omega)
structure Gw where
 nm:ByteArray
 T:List Tk
 dir:Bool
def I6 (n c f:Nat)(mn:Bool)(q:Gw):Prop:=∀L R x,C0 L ((1,q.nm)::(q.T++R)) x->∃y g,Eh n c f x=some (y,g)/\C0 L R y/\g.name=q.nm/\(q.dir=true->g.expr= [])/\(q.dir=false->g.subs= [])/\(mn=false->∀s∈g.expr,s.kind≠4)
theorem nk {nm:ByteArray}{s:Sb}{l:List Sb}(d:Gc n nm=some true)(a:s.ok n)(g:∀t∈l,t.ok n)(i:l.length<50)(hc:l.length<c):I6 n c f mn ⟨nm,(2,FN)::HZ s l,true⟩:=by
 intro L R x h;have h:C0 L ((1,nm)::(2,FN)::(HZ s l++R)) x:=h;have b:=h.next;have j:=b.next;have m:Do { x with p:=x.p+1 } FN={ x with p:=x.p+1+1 }:=b.1.want;have⟨y,r,q,u⟩:=nj l s c { x with p:=x.p+1+1 } [] a g j (by simpa using i) hc;refine⟨y,⟨nm,r,[]⟩,?_,u,rfl,fun _=>rfl,(fun e=>by cases e),fun _ s a=>by cases a⟩;unfold Eh;rw[if_pos h.w,h.1.name d,Zo];dsimp only;rw[b.1.is,show C5 ((2,FN)::(HZ s l++R)) MW=false by kernel_rfl,NH,if_neg (by decide),m,q];rfl
theorem np {nm:ByteArray}{T:List Tk}{k:Nat}(m:Gc n nm=some true)(q:Wx (E8 n c f) T mn k 0)(C:k<=200):I6 n c f mn ⟨nm,(2,MW)::(T++[(2,Eo)]),false⟩:=by
 intro L R x h;have h:C0 L ((1,nm)::(2,MW)::((T++[(2,Eo)])++R)) x:=h;rw[Lq] at h;have g:=h.next;have r:=g.next;have⟨y,t,i⟩:=q L ((2,Eo)::R) { x with p:=x.p+1+1,out:=[] } (r.1.of rfl rfl rfl) ⟨by kernel_rfl,by kernel_rfl,by kernel_rfl,by kernel_rfl⟩ h.2.1 (by show 0+k<=200;omega);have j:=i.len;have j:y.out.length<=0+k:=j;have⟨u,a,o,b,E,v⟩:=i;have a:y.deep=x.deep:=a;have b:y.out=o:=b;have d:C0 L ((2,Eo)::R) y:=⟨u,a.trans h.2.1,by omega⟩;refine⟨{ y with p:=y.p+1 },⟨nm,[],y.out⟩,?_,d.next,rfl,(fun e=>by cases e),fun _=>rfl,fun w s B=>v w s (b▸B)⟩;unfold Eh;rw[if_pos h.w,h.1.name m,Zo];dsimp only;rw[g.1.is,show C5 ((2,MW)::(T++([(2,Eo)]++R))) MW=true by kernel_rfl,h.1.e0,if_pos (by decide),t,Zo,if_pos d.w,d.1.want]
def xq (mn:Bool)(q:Gw)(g:AW):Prop:=g.name=q.nm/\(q.dir=true->g.expr= [])/\(q.dir=false->g.subs= [])/\(mn=false->∀s∈g.expr,s.kind≠4)
inductive Jk (mn:Bool):List Gw->List AW->Prop
 |nil:Jk mn [] []
 |cons {q:Gw} {g:AW} {Q:List Gw} {G:List AW} (h:xq mn q g) (hs:Jk mn Q G):Jk mn (q::Q) (g::G)
def QS (Q:List Gw):List Tk:=Q.flatMap fun q=>(1,q.nm)::q.T
theorem nq:∀(Q:List Gw) (k:Nat) (x:Aj) (a:List AW),(∀q∈Q,I6 n c f mn q)->C0 L (QS Q++(2,GS)::R) x->a.length+Q.length<200->Q.length<k->∃y b,Hb n c f k x a=some (y,a++b)/\C0 L ((2,GS)::R) y/\Jk mn Q b
 |_,0,_,_,_,_,_,h=>absurd h (LN _)
 |[],k+1,x,a,_,h,d,_=>by
  have h:C0 L ((2,GS)::R) x:=h;refine⟨x,[],?_,h,.nil⟩;unfold Hb;rw[if_pos ⟨h.w,h.2.1,by simp only[Lu] at d;omega⟩,h.1.is,show C5 ((2,GS)::R) GS=true by kernel_rfl,BI,NH,if_neg (by decide),LX]
 |q::Q,k+1,x,a,e,h,d,i=>by
  simp only[Lh] at d i;have h:C0 L (((1,q.nm)::q.T++QS Q)++(2,GS)::R) x:=h;have h:C0 L ((1,q.nm)::(q.T++(QS Q++(2,GS)::R))) x:=by
   rw[<-Lq];exact h
  have⟨y,g,j,m,p⟩:=e q Lo L _ x h;have⟨z,b,r,t,u⟩:=nq Q k y (a++[g]) (fun q v=>e q (Lj _ v)) m (by grind) (by omega);refine⟨z,g::b,?_,t,.cons p u⟩;unfold Hb;rw[if_pos ⟨h.w,h.2.1,by omega⟩,h.1.is,show C5 ((1,q.nm)::(q.T++(QS Q++(2,GS)::R))) GS=false from rfl,h.1.e0,Oy,OF,if_pos rfl,ifn,j,Zo,r,Lq];rfl
structure Hs where
 nm:ByteArray
 Q:Option (List Gw)
def Hs.T (t:Hs):List Tk:=(1,bType)::(1,t.nm)::(match t.Q with |none=>[] |some Q=>(2,SY)::(QS Q++[(2,GS)]))
def fB (mn:Bool)(t:Hs)(g:AG):Prop:=g.name=t.nm/\match t.Q with |none=>g.rels= [] |some Q=>Jk mn Q g.rels
inductive Jl (mn:Bool):List Hs->List AG->Prop
 |nil:Jl mn [] []
 |cons {q:Hs} {g:AG} {Q:List Hs} {G:List AG} (h:fB mn q g) (hs:Jl mn Q G):Jl mn (q::Q) (g::G)
def PH (n c f:Nat)(mn:Bool)(t:Hs):Prop:=Gc n t.nm=some true/\∀Q,t.Q=some Q->Q.length<200/\Q.length<c/\∀q∈Q,I6 n c f mn q
theorem xr {t:Hs}(d:PH n c f mn t)(h:C0 L (t.T++R) x)(m:C5 R SY=false):∃y g,Kz n c f x=some (y,g)/\C0 L R y/\fB mn t g:=by
 have⟨nm,Q⟩:=t;have e:∀R2:List Tk,C0 L ((1,bType)::R2) x->tyM x=x:=fun R2 h=>by
  have⟨_,_,u,a,b,i⟩:=h.1.next;simp_all [tyM,if_pos]
 cases Q with
 |none=>
  have h:C0 L ((1,bType)::(1,nm)::R) x:=h;have a:=h.next;have b:=a.next;refine⟨_,⟨nm,[]⟩,?_,b,rfl,rfl⟩;unfold Kz;rw[e _ h,a.1.name d.1,Zo];dsimp only;rw[b.1.is,m,NH,if_neg (by decide),Zo]
 |some Q=>
  have⟨p,q,r⟩:=d.2 Q rfl;have h:C0 L ((1,bType)::(1,nm)::(2,SY)::((QS Q++[(2,GS)])++R)) x:=h;rw[Lq] at h;have a:=h.next;have b:=a.next;have i:=b.next;have⟨y,v,w,j,B⟩:=nq Q c _ [] r i (by simpa using p) q;refine⟨_,⟨nm,v⟩,?_,j.next,rfl,B⟩;unfold Kz;rw[e _ h,a.1.name d.1,Zo];dsimp only;rw[b.1.is,show C5 ((2,SY)::(QS Q++([(2,GS)]++R))) SY=true by kernel_rfl,h.1.e0,if_pos (by decide)];rw[show Hb n c f c _ []=_ from w];rw[LQ,Zo];dsimp only;rw[j.1.want];rfl
def Wy (Q:List Hs):List Tk:=Q.flatMap Hs.T
theorem nt:∀(Q:List Hs) (k:Nat) (x:Aj) (ts:List AG),(∀q∈Q,PH n c f mn q)->C0 L (Wy Q) x->ts.length+Q.length<200->Q.length<k->∃y a,JC n c f k x ts=some (y,ts++a)/\y.e=0/\Jl mn Q a
 |_,0,_,_,_,_,_,h=>absurd h (LN _)
 |[],k+1,x,ts,_,h,d,_=>by
  have h:C0 L [] x:=h;refine⟨x,[],?_,h.1.e,.nil⟩;have b:¬x.p<x.l.length:=fun b=>by
   have:=h.1.r;rw[h.1.l] at b;rw[Lm b] at this;cases this
  unfold JC;rw[if_pos ⟨h.w,h.2.1,by simp only[Lu] at d;omega⟩,decide_eq_false b,NH,if_neg (by decide),LX]
 |q::Q,k+1,x,ts,e,h,d,i=>by
  simp only[Lh] at d i;have h:C0 L (q.T++Wy Q) x:=h;have j:x.p<x.l.length:=by
   have h:C0 L ((1,bType)::_) x:=h;exact h.1.next.2.1
  have⟨y,g,m,p,r⟩:=xr (e q Lo) h (by cases Q<;>rfl);have⟨z,a,t,u,v⟩:=nt Q k y (ts++[g]) (fun q w=>e q (Lj _ w)) p (by grind) (by omega);refine⟨z,g::a,?_,u,.cons r v⟩;unfold JC;rw[if_pos ⟨h.w,h.2.1,by omega⟩,h.1.e0,decide_eq_true j,OF,if_pos rfl,ifn,m,Zo,t,Lq];rfl
theorem xt (b:s.size<=100000)(h:s.size+20<n){Q:List Hs}(d:Lx s.data.toList (Wy Q))(i:∀q∈Q,PH n c f mn q)(j:Q.length<200)(hc:Q.length<c):∃a,K0 n c f s=some (a,0,0)/\Jl mn Q a:=by
 have⟨l,u,e⟩:=nZ b h d;have⟨r,m,p⟩:=oo s (s.size+100+n) (by omega);have v:l.length<=100000:=by
  have⟨w,g,t⟩:=nZ (n:=s.size+100+n) b (by omega) d;rw[m] at g
  have:=congrArg List.length (e.trans t.symm);rw[LE,LE] at this;cases g;rw[this];exact p.1
 have⟨y,a,B,C,E⟩:=nt (L:=l) (mn:=mn) Q c ⟨l,0,(s.size:Int),0,0,0,[],0⟩ [] i ⟨⟨rfl,rfl,Lg _,e,by omega⟩,rfl,Lg _⟩ (by simpa using j) hc;simp_all [K0,Zo,if_pos]
end
end Go.Proofs.YtnmkbmefohakmaaGreat.Ab
