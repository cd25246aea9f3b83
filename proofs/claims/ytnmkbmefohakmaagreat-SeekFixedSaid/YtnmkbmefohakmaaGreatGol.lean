/-
 The search answers the least answer, rank by rank, over any schema that holds together. No program in sight.
-/
import Derived.Test.YtnmkbmefohakmaaGreatDca
set_option linter.all false
namespace Go.Proofs.YtnmkbmefohakmaaGreat.Ab
open Go.RowKit IntKind
inductive FZ
 |leaf (x:AS)
 |op (x:AS) (a b:FZ)
def post:FZ->List AS
 | .leaf x=>[x]
 | .op x a b=>post a++post b++[x]
def GI:FZ->Prop
 | .leaf x=>x.kind=1\/x.kind=2
 | .op x a b=>(x.kind=3\/x.kind=4\/x.kind=5)/\GI a/\GI b
variable {A:AB->Bool}{K:List AB}{n:Nat}{o:Ak}{r:AB}{rel:ByteArray}{rk:AB->Int}{x:Aj}
theorem ou {c:Int}(a:(c==0)=false):((jS_ x c).e==0)=false:=by
 unfold jS_;grind
theorem Z6 {t:ByteArray}(h:((Do x t).e==0)=true):(x.e==0)=true:=by
 unfold Do at h;split at h
 ·assumption
 exact h
theorem XH {r:Aj × ByteArray}(h:zI_ n x=some r)(a:(r.1.e==0)=true):(x.e==0)=true:=by
 cases b:x.e==0 with
 |true=>rfl
 |false=>
  unfold zI_ at h;grind
theorem Z7 {s:AS}{a:Int}(h:((DO x s a).e==0)=true):(x.e==0)=true/\(DO x s a).out=x.out++[s]:=by
 unfold DO at h⊢;grind
def Ub (g:Aj->Option Aj):Prop:=∀x y,g x=some y->(y.e==0)=true->(x.e==0)=true/\∃t,GI t/\y.out=x.out++post t
theorem Qe {ex:Aj->Option Aj}(k:Ub ex):Ub (EU n ex):=by
 intro x y h d;unfold EU at h;split at h;rotate_left
 ·cases h
 split at h
 ·split at h
  ·cases h;rw[ou rfl] at d;cases d
  have⟨z,e,h⟩:=AL h;split at h
  ·cases h;have⟨a,t,b,c⟩:=k _ _ e (Z6 d);exact⟨a,t,b,by show(Do z Ha).out=_;rw[oT];exact c⟩
  cases h
 have⟨r,e,h⟩:=AL h;have i:=Z3 e;split at h
 ·have⟨s,j,h⟩:=AL h;have m:=Z3 j;cases h;have⟨f,g⟩:=Z7 d;exact⟨XH e (show(r.1.e==0)=true from XH (x:={ r.1 with p:=r.1.p+1 }) j f),.leaf ⟨2,r.2,s.2⟩,.inr rfl,by rw[g,m];show r.1.out++_=_;rw[i];rfl⟩
 cases h;have⟨f,g⟩:=Z7 d;exact⟨XH e f,.leaf ⟨1,r.2,{ data:= #[] }⟩,.inl rfl,by rw[g,i];rfl⟩
theorem ox {n:Nat}{ex:Aj->Option Aj}(b:Ub ex):∀(c:Nat) (x y:Aj),G6 n ex c x=some y->(y.e==0)=true->(x.e==0)=true/\∀(B:List AS) (t:FZ),GI t->x.out=B++post t->∃d,GI d/\y.out=B++post d
 |0,_,_,h,_=>by cases h
 |c+1,x,y,h,e=>by
  unfold G6 at h;split at h
  ·split at h
   ·have⟨z,f,h⟩:=AL h;split at h
    ·have⟨g,i⟩:=ox b c _ _ h e;have⟨j,k⟩:=Z7 g;have⟨m,a,p,q⟩:=Qe b _ _ f j;exact⟨m,fun B t s u=>i B (.op ⟨5,ByteArray.empty,ByteArray.empty⟩ t a) ⟨.inr (.inr rfl),s,p⟩ (by rw[k,q];show x.out++post a++_=B++(post t++post a++_);rw[u];simp)⟩
    cases h
   grind
  cases h
theorem oy {b:Aj->Option Aj}(d:Ub b):∀(c:Nat) (x y:Aj),GH b c x=some y->(y.e==0)=true->(x.e==0)=true/\∀(B:List AS) (t:FZ),GI t->x.out=B++post t->∃e,GI e/\y.out=B++post e
 |0,_,_,h,_=>by cases h
 |c+1,x,y,h,f=>by
  unfold GH at h;split at h
  ·split at h
   ·have⟨z,g,h⟩:=AL h;split at h
    ·have⟨i,j⟩:=oy d c _ _ h f;have⟨k,m⟩:=Z7 i;have⟨p,a,q,s⟩:=d _ _ g k;exact⟨p,fun B t u v=>j B (.op ⟨if isM x DW then 4 else 3,ByteArray.empty,ByteArray.empty⟩ t a) ⟨by dsimp only;split<;>simp,u,q⟩ (by rw[m,s];show x.out++post a++_=B++(post t++post a++_);rw[v];simp)⟩
    cases h
   grind
  cases h
theorem fS {n c:Nat}:∀f,Ub (E8 n c f)
 |0,_,_,h,_=>by cases h
 |f+1,x,y,h,p=>by
  have m:Ub (F6 n (E8 n c f) c):=fun a b e q=>by
   unfold F6 at e;have⟨z,s,e⟩:=AL e;have⟨d,g⟩:=ox (fS f) c _ _ e q;have⟨i,t,j,k⟩:=Qe (fS f) _ _ s d;exact⟨i,g a.out t j k⟩
  unfold E8 at h;have⟨z,u,h⟩:=AL h;have⟨d,g⟩:=oy m c _ _ h p;have⟨i,t,j,k⟩:=m _ _ u d;exact⟨i,g x.out t j k⟩
def GT (g:AW):Prop:=(g.expr= []/\g.subs≠[])\/(g.subs= []/\∃t,GI t/\g.expr=post t)
theorem oz {n:Nat}:∀(c:Nat) {x:Aj} {a:List AN} {y:Aj × List AN},G7 n c x a=some y->(y.1.e==0)=true->(x.e==0)=true/\y.2≠[]
 |0,_,_,_,h,_=>by cases h
 |c+1,x,a,y,h,b=>by
  unfold G7 at h;split at h
  ·split at h
   ·rename_i d;have⟨e,_,h⟩:=AL h;have⟨f,_,h⟩:=AL h;refine⟨d,?_⟩;split at h
    ·exact(oz c h b).2
    cases h;simp
   grind
  cases h
theorem o0 {c f:Nat}{y:Aj × AW}(h:Eh n c f x=some y)(g:(y.1.e==0)=true):(x.e==0)=true/\GT y.2:=by
 unfold Eh at h;split at h
 ·have⟨r,i,h⟩:=AL h;split at h
  ·have⟨z,e,h⟩:=AL h;split at h
   ·cases h;have⟨a,t,b,d⟩:=fS f _ _ e (Z6 g);exact⟨XH i a,.inr ⟨rfl,t,b,d⟩⟩
   cases h
  obtain⟨p,e,rfl⟩:=La.1 h;have⟨a,b⟩:=oz c e g;exact⟨XH i (Z6 a),.inl ⟨rfl,b⟩⟩
 cases h
theorem fT {n c f:Nat}:∀(k:Nat) {x:Aj} {b:List AW} {y:Aj × List AW},(∀g∈b,GT g)->Hb n c f k x b=some y->(y.1.e==0)=true->(x.e==0)=true/\∀g∈y.2,GT g
 |0,_,_,_,_,h,_=>by cases h
 |k+1,x,b,y,e,h,d=>by
  unfold Hb at h;split at h;rotate_left
  ·cases h
  split at h
  ·split at h
   ·have⟨a,_⟩:=fT k e h d;rw[ou rfl] at a;cases a
   have⟨p,j,h⟩:=AL h;have i:(p.1.e==0)=true/\∀g∈y.2,GT g:=by
    cases m:p.1.e==0 with
    |true=>
     refine⟨rfl,(fT k (fun g q=> ?_) h d).2⟩;grind [List.mem_singleton,o0]
    |false=>
     exfalso;cases k with
     |zero=>cases h
     |succ k=>
      unfold Hb at h;grind
   exact⟨(o0 j i.1).1,i.2⟩
  cases h;exact⟨d,e⟩
theorem yP {c f:Nat}{y:Aj × AG}(h:Kz n c f x=some y)(b:(y.1.e==0)=true):∀g∈y.2.rels,GT g:=by
 unfold Kz at h;have⟨r,e,h⟩:=AL h;have⟨q,a,h⟩:=AL h;cases h;split at a
 ·obtain⟨p,d,rfl⟩:=La.1 a;exact(fT c (by intro _ h;cases h) d (Z6 b)).2
 cases a;intro _ h;cases h
theorem o5 {n c f:Nat}:∀(k:Nat) {x:Aj} {ts:List AG} {y:Aj × List AG},(∀t∈ts,∀g∈t.rels,GT g)->JC n c f k x ts=some y->(y.1.e==0)=true->∀t∈y.2,∀g∈t.rels,GT g
 |0,_,_,_,_,h,_=>by cases h
 |k+1,x,ts,y,a,h,b=>by
  unfold JC at h;split at h
  ·split at h
   ·have⟨r,d,h⟩:=AL h;cases e:r.1.e==0 with
    |true=>
     refine o5 k (fun t i=> ?_) h b;grind [List.mem_singleton,yP]
    |false=>
     exfalso;cases k with
     |zero=>cases h
     |succ k=>
      unfold JC at h;grind
   cases h;exact a
  cases h
def PK (l:List AG):Prop:=∀t∈l,∀g∈t.rels,GT g
theorem o7 {s:ByteArray}{l:List AG}(h:MY n s=some l):PK l:=by
 unfold MY at h;obtain⟨y,a,rfl⟩:=La.1 h;unfold K0 at a;have⟨t,_,a⟩:=AL a;split at a
 ·have⟨r,b,a⟩:=AL a;split at a
  ·rename_i c;cases a;exact o5 n (by intro _ h;cases h) b c
  cases a;intro _ h;cases h
 cases a;intro _ h;cases h
theorem UL (x:AS)(a b:FZ):post (.op x a b)=post a++post b++[x]:=rfl
theorem Za (x:AS)(a b:FZ):(post (.op x a b)).length=(post a).length+(post b).length+1:=by rw[UL];grind
theorem QK:∀t:FZ,0<(post t).length
 | .leaf _=>Nat.zero_lt_one
 | .op x a b=>by rw[Za];omega
theorem mQ (x:AS)(a b:FZ)(A B:List AS):∃h:A.length+(post a).length+(post b).length<(A++post (.op x a b)++B).length,(A++post (.op x a b)++B)[A.length+(post a).length+(post b).length]=x:=by
 have e:A++post (.op x a b)++B=(A++post a++post b)++(x::B):=by simp[post]
 have h:A.length+(post a).length+(post b).length<(A++post (.op x a b)++B).length:=by rw[e];simp only[Ld,Lh];omega
 refine⟨h,?_⟩;simp only[e];rw[List.getElem_append_right (by simp only[Ld];omega)];simp[Ny]
theorem db:∀(t:FZ) (n:Nat) (A B:List AS),GI t->(post t).length<=n->A.length+(post t).length<4611686018427387904->Qg n (A++post t++B) ((A.length+(post t).length-1:Nat):Int)=some (A.length:Int)
 | .leaf x,n,A,B,c,hn,hl=>by
  obtain⟨n,rfl⟩:∃k,n=k+1:=⟨n-1,by have:(post (.leaf x)).length=1:=rfl;omega⟩;have d:A.length<(A++post (.leaf x)++B).length:=by simp[post]
  have e:(A++post (.leaf x)++B)[A.length]=x:=by simp[post]
  unfold Qg;rw[show A.length+(post (.leaf x)).length-1=A.length from rfl,CL d,Zo,e];rcases c with h |h<;>rw[h]<;>rfl
 | .op x a b,n,A,B,c,hn,hl=>by
  have m:=Za x a b;obtain⟨n,rfl⟩:=sx n;have⟨d,e⟩:=mQ x a b A B;have p:=QK a;have q:=QK b;have f:=db a n A (post b++[x]++B) c.2.1 (by omega) (by omega);have g:=db b n (A++post a) ([x]++B) c.2.2 (by omega) (by rw[Ld];omega);have i:A++post a++(post b++[x]++B)=A++post (.op x a b)++B:=by simp[post]
  have j:A++post a++post b++([x]++B)=A++post (.op x a b)++B:=by simp[post]
  rw[i] at f;rw[j,Ld] at g;have s:i64.wrap (((A.length+(post a).length+(post b).length:Nat):Int)-1)=((A.length+(post a).length+(post b).length-1:Nat):Int):=by
   have:=GV (n:=A.length+(post a).length+(post b).length-1) (by omega);grind
  have u:i64.wrap (((A.length+(post a).length:Nat):Int)-1)=((A.length+(post a).length-1:Nat):Int):=by
   have:=GV (n:=A.length+(post a).length-1) (by omega);grind
  unfold Qg;rw[show A.length+(post (.op x a b)).length-1=A.length+(post a).length+(post b).length by omega,CL d,Zo,e];have v:((x.kind==1)=false)/\((x.kind==2)=false):=by rcases c.1 with h |h |h<;>rw[h]<;>exact⟨rfl,rfl⟩
  grind
def HW:FZ->Bool->List Bool
 | .leaf _,f=>[f]
 | .op x a b,f=>HW a f++HW b (f||x.kind==4)++[f]
theorem Zb (x:AS)(a b:FZ)(f:Bool):HW (.op x a b) f=HW a f++HW b (f||x.kind==4)++[f]:=rfl
theorem M7:∀(t:FZ) (f:Bool),(HW t f).length=(post t).length
 | .leaf _,_=>rfl
 | .op x a b,f=>by rw[Zb,UL];simp only[Ld,Ll,M7 a,M7 b]
theorem dc:∀t:FZ,HW t true=List.replicate (post t).length true
 | .leaf _=>rfl
 | .op x a b=>by
  rw[Zb,UL,Oq,dc a,dc b];simp only[Ld,Ll,<-BF];rfl
theorem mR {n:Nat}:∀(Q P R:List Bool) (c:Nat),Q.length<c->P.length+Q.length<4611686018427387904->Sa n ((P.length+Q.length:Nat):Int) c (P++Q++R,(P.length:Int))=some (P++List.replicate Q.length true++R)
 |[],P,R,c,a,_=>by
  obtain⟨c,rfl⟩:=sx c;unfold Sa;simp
 |q::Q,P,R,c,a,hl=>by
  simp only[Lh] at a hl;obtain⟨c,rfl⟩:=sx c;have b:=mR (n:=n) Q (P++[true]) R c (by omega) (by grind);have d:P.length<(P++(q::Q)++R).length:=by simp only[Ld,Lh];omega
  have e:List.set (P++(q::Q)++R) P.length true=P++[true]++Q++R:=by
   rw[Lq,Om _ _ (Lc _),BS];simp
  rw[Ld,Ll,show P.length+1+Q.length=P.length+(Q.length+1) by omega] at b;unfold Sa;rw[Lh,EO,if_pos rfl,CL d,Zo,Zo,Lk,e,Al,b];grind
theorem de {n:Nat}{g:AW × Bool}(hn:100000<n)(p:g.1.expr.length<=200):∀(t:FZ) (A B:List AS) (P R:List Bool) (c:Nat),GI t->g.1.expr=A++post t++B->P.length=A.length->(post t).length<=c->
  JD n g c (P++List.replicate (post t).length false++R,(A.length:Int))=JD n g (c-(post t).length) (P++HW t false++R,((A.length+(post t).length:Nat):Int))
 | .leaf x,A,B,P,R,c,i,f,j,k=>by
  have k:1<=c:=k;obtain⟨c,rfl⟩:=sx c;have m:A.length<g.1.expr.length:=by rw[f];simp[post]
  have e:g.1.expr[A.length]=x:=by simp[f,post]
  conv=>lhs;unfold JD
  rw[EO m,if_pos rfl,CL m,Zo,e];have q:(x.kind==4)=false:=by rcases i with h |h<;>rw[h]<;>rfl
  rw[q,if_neg (by decide),Al];rfl
 | .op x a b,A,B,P,R,c,i,f,j,k=>by
  have z:=Za x a b;have L:g.1.expr.length=A.length+(post (.op x a b)).length+B.length:=by rw[f];simp only[Ld]
  have C:g.1.expr=A++post a++(post b++[x]++B):=by rw[f];simp[post]
  have s:g.1.expr=A++post a++post b++([x]++B):=by rw[f];simp[post]
  have E:=de hn p a A (post b++[x]++B) P (List.replicate (post b).length false++[false]++R) c i.2.1 C j (by omega);have u:=de hn p b (A++post a) ([x]++B) (P++HW a false) ([false]++R) (c-(post a).length) i.2.2 s (by simp only[Ld,M7];omega) (by omega);have F:P++List.replicate (post (.op x a b)).length false++R=P++List.replicate (post a).length false++(List.replicate (post b).length false++[false]++R):=by
   rw[z,<-BF,<-BF];simp only[Lq];rfl
  rw[F,E];have G:P++HW a false++(List.replicate (post b).length false++[false]++R)=P++HW a false++List.replicate (post b).length false++([false]++R):=by simp
  rw[Ld] at u;rw[G,u];have⟨m,e⟩:=mQ x a b A B;have v:A.length+(post a).length+(post b).length<g.1.expr.length:=by omega
  have H:g.1.expr[A.length+(post a).length+(post b).length]=x:=by simp only[f];exact e
  obtain⟨d,I⟩:∃d,c-(post a).length-(post b).length=d+1:=⟨c-(post a).length-(post b).length-1,by omega⟩;rw[I];conv=>lhs;unfold JD
  rw[EO v,if_pos rfl,CL v,Zo,H,Al,show c-(post (.op x a b)).length=d by omega,show A.length+(post a).length+(post b).length+1=A.length+(post (.op x a b)).length by omega];rw[Zb,Be];cases q:x.kind==4 with
  |false=>
   rw[if_neg (by decide)];simp only[Lq]
  |true=>
   have M:=QK b;have J:i64.wrap (((A.length+(post a).length+(post b).length:Nat):Int)-1)=((A.length+(post a).length+(post b).length-1:Nat):Int):=by
    have:=GV (n:=A.length+(post a).length+(post b).length-1) (by omega);rwa [show A.length+(post a).length+(post b).length-1+1=A.length+(post a).length+(post b).length by omega] at this
   have w:=db b n (A++post a) ([x]++B) i.2.2 (by omega) (by rw[Ld];omega);rw[<-s,Ld] at w;have y:=mR (n:=n) (HW b false) (P++HW a false) ([false]++R) n (by rw[M7];omega) (by simp only[Ld,M7];omega);simp only[Ld,M7,j] at y;rw[if_pos rfl,J,w,Zo,y,Zo,dc];simp only[Lq]
def HX (ts:List AG)(a:ByteArray)(x:AS)(f:Bool):List Ao:=if x.kind==1 then[⟨a,x.a,f⟩] else if x.kind==2 then⟨a,x.a,f⟩::((CI ts a x.a).getD CX).subs.map fun s=>⟨s.type_,x.b,f⟩ else[]
def F5 (ts:List AG)(a:ByteArray):List AS->List Bool->List Ao
 |x::b,f::c=>HX ts a x f++F5 ts a b c
 |_,_=>[]
def Fk (ts:List AG)(a:ByteArray):FZ->Bool->List Ao
 | .leaf x,f=>HX ts a x f
 | .op x p q,f=>Fk ts a p f++Fk ts a q (f||x.kind==4)
theorem dg (ts:List AG)(a:ByteArray):∀(b:List AS) (c:List Bool) (d:List AS) (e:List Bool),b.length=c.length->F5 ts a (b++d) (c++e)=F5 ts a b c++F5 ts a d e
 |[],[],_,_,_=>rfl
 |x::b,f::c,d,e,h=>by
  show HX ts a x f++F5 ts a (b++d) (c++e)=HX ts a x f++F5 ts a b c++_;rw[dg ts a b c d e (Nat.succ.inj h),Lq]
theorem dh (ts:List AG)(a:ByteArray):∀(t:FZ) (f:Bool),GI t->F5 ts a (post t) (HW t f)=Fk ts a t f
 | .leaf x,f,_=>LX _
 | .op x p q,f,b=>by
  rw[UL,Zb];show _=Fk ts a p f++Fk ts a q (f||x.kind==4);rw[dg _ _ _ _ _ _ (by simp only[Ld,M7]),dg _ _ _ _ _ _ (M7 p f).symm,dh ts a p f b.2.1,dh ts a q _ b.2.2]
  have:HX ts a x f= []:=by
   unfold HX;rcases b.1 with h |h |h<;>rw[h]<;>rfl
  show _++(HX ts a x f++[])=_;grind
def Jh:List AN->List Ao
 |[]=>[]
 |s::r=>if s.rel={ data:= #[] } then Jh r else⟨s.type_,s.rel,false⟩::Jh r
theorem di:∀l:List AN,(Jh l).length<=l.length
 |[]=>Lc _
 |s::r=>by
  have:=di r;unfold Jh;grind
theorem dj {n:Nat}{g:AW × Bool}(f:g.1.subs.length<=51):∀(d i c:Nat) (a:List Ao),d=g.1.subs.length-i->i<=g.1.subs.length->d<c->a.length<=i->PL n g c (a,(i:Int))=some (a++Jh (g.1.subs.drop i))
 |0,i,c,a,h,j,k,m=>by
  obtain⟨c,rfl⟩:=sx c;unfold PL;rw[DC,if_neg (by decide),LG (by omega)];simp[Jh]
 |d+1,i,c,a,h,j,k,m=>by
  obtain⟨c,rfl⟩:=sx c;have b:i<g.1.subs.length:=by omega
  unfold PL;rw[EO b,if_pos rfl,CL b,Zo,DZ,Al,Lm b];unfold Jh;by_cases e:g.1.subs[i].rel={ data:= #[] }
  ·rw[decide_eq_true e,if_pos rfl,if_pos e,dj f d (i+1) c a (by omega) (by omega) (by omega) (by omega)]
  rw[decide_eq_false e,if_neg (by decide),if_neg e,DV (by simp only[Ll];omega),Zo,dj f d (i+1) c _ (by omega) (by omega) (by omega) (by simp only[Ld,Ll];omega)];simp
theorem mS {n:Nat}{fs:List Bool}{k:Nat}(e:k<fs.length){x:AS}{g:AW × Bool}(h:g.1.subs.length<=51):∀(d i c:Nat) (a:List Ao),d=g.1.subs.length-i->i<=g.1.subs.length->d<c->0<a.length->a.length+d<=4294967296->
  Qh n fs (k:Int) x g c (a,(i:Int))=some (a++(g.1.subs.drop i).map fun s=>⟨s.type_,x.b,fs[k]⟩)
 |0,i,c,a,j,m,p,f,q=>by
  obtain⟨c,rfl⟩:=sx c;unfold Qh;rw[DC,if_neg (by decide),LG (by omega),decide_eq_true f];simp[DM]
 |d+1,i,c,a,j,m,p,f,q=>by
  obtain⟨c,rfl⟩:=sx c;have b:i<g.1.subs.length:=by omega
  unfold Qh;rw[EO b,if_pos rfl,CL b,Zo,CL e,Zo,DV (by simp only[Ll];omega),Zo,Al,mS e h d (i+1) c _ (by omega) (by omega) (by omega) (by simp only[Ld,Ll];omega) (by simp only[Ld,Ll];omega),Lm b];grind
section
variable {n:Nat}{ts:List AG}(hB:Ew ts)(hn:100000<n)
include hB hn in
theorem mT {a:ByteArray}{g:AW × Bool}{fs:List Bool}(j:g.1.expr.length<=200)(k:fs.length=g.1.expr.length):∀(d i c:Nat) (b:List Ao),d=g.1.expr.length-i->i<=g.1.expr.length->d<c->b.length<=1000+52*i->MZ n ts a g fs c (b,(i:Int))=some (b++F5 ts a (g.1.expr.drop i) (fs.drop i))
 |0,i,c,b,m,p,q,s=>by
  obtain⟨c,rfl⟩:=sx c;unfold MZ;rw[DC,if_neg (by decide),LG (by omega)];simp[F5]
 |d+1,i,c,b,m,p,q,s=>by
  obtain⟨c,rfl⟩:=sx c;have f:i<g.1.expr.length:=by omega
  have e:i<fs.length:=by omega
  have u:=mT (a:=a) j k d (i+1) c;unfold MZ;rw[EO f,if_pos rfl,CL f,Zo,Al,Lm f,Lm e];show _=some (b++(HX ts a g.1.expr[i] fs[i]++_));unfold HX;cases g.1.expr[i].kind==1 with
  |true=>
   rw[if_pos rfl,if_pos rfl,CL e,Zo,DV (by grind),Zo,u _ (by omega) (by omega) (by omega) (by grind),Lq]
  |false=>
   rw[if_neg Ix,if_neg Ix];cases g.1.expr[i].kind==2 with
   |true=>
    have v:=(ZX hB a g.1.expr[i].a).1;have h:=mS (n:=n) e (x:=g.1.expr[i]) (g:=((CI ts a g.1.expr[i].a).getD CX,(CI ts a g.1.expr[i].a).isSome)) v _ 0 n (b++[⟨a,g.1.expr[i].a,fs[i]⟩]) rfl (Lg _) (by dsimp only;omega) (by simp) (by simp only[Ld,Ll];omega);have h:Qh n fs (i:Int) g.1.expr[i] ((CI ts a g.1.expr[i].a).getD CX,(CI ts a g.1.expr[i].a).isSome) n (b++[⟨a,g.1.expr[i].a,fs[i]⟩],0)=_:=h;rw[if_pos rfl,if_pos rfl,QM hB (by omega),Zo,CL e,Zo,DV (by grind),Zo,h,Zo,LJ];unfold DM;grind
   |false=>
    grind
def Ko (ts:List AG)(a:ByteArray)(g:AW):List Ao->Prop:=fun l=>(g.expr= []/\l=Jh g.subs)\/∃t,GI t/\g.subs= []/\g.expr=post t/\l=Fk ts a t false
include hB hn in
theorem mV {a:ByteArray}(p:GT ((CI ts a rel).getD CX)\/(CI ts a rel).getD CX=CX):∃l,Hz n ts a rel=some l/\Ko ts a ((CI ts a rel).getD CX) l:=by
 have c:=ZX hB a rel;have f:=dj (n:=n) (g:=((CI ts a rel).getD CX,(CI ts a rel).isSome)) c.1 _ 0 n [] rfl (Lg _) (by have:=c.1;dsimp only;omega) (Lg _);have f:PL n ((CI ts a rel).getD CX,(CI ts a rel).isSome) n (([]:List Ao),0)=_:=f;rw[LJ,LA] at f;have q:Wu ((((CI ts a rel).getD CX).expr.length:Nat):Int)=some (List.replicate ((CI ts a rel).getD CX).expr.length false):=by
  have:=c.2.1;unfold Wu;rw[ifp,Lk]
 unfold Hz;rw[QM hB (by omega),Zo,f,Zo];dsimp only;rw[q,Zo];have i:=fun d h=>mT (a:=a) (fs:=d) hB hn (g:=((CI ts a rel).getD CX,(CI ts a rel).isSome)) c.2.1 h _ 0 n (Jh ((CI ts a rel).getD CX).subs) rfl (Lg _) (by have:=c.2.1;dsimp only;omega) (by have:=di ((CI ts a rel).getD CX).subs;have:=c.1;omega)
 have i:∀d,d.length=((CI ts a rel).getD CX).expr.length->MZ n ts a ((CI ts a rel).getD CX,(CI ts a rel).isSome) d n (Jh ((CI ts a rel).getD CX).subs,0)=some (Jh ((CI ts a rel).getD CX).subs++F5 ts a (((CI ts a rel).getD CX).expr.drop 0) (d.drop 0)):=i;have b:((CI ts a rel).getD CX).expr= []\/(((CI ts a rel).getD CX).subs= []/\∃t,GI t/\((CI ts a rel).getD CX).expr=post t):=by
  rcases p with h |h
  ·rcases h with⟨h,_⟩ |h
   ·exact .inl h
   exact .inr h
  rw[h];exact .inl rfl
 generalize (CI ts a rel).getD CX=g at *;generalize (CI ts a rel).isSome=z at *;rcases b with b |⟨m,t,j,b⟩
 ·refine⟨_,?_,.inl ⟨b,rfl⟩⟩;have e:JD n (g,z) n (List.replicate g.expr.length false,0)=some []:=by
   obtain⟨n,rfl⟩:=sx n;unfold JD;dsimp only;rw[b];rfl
  rw[e,Zo,i [] (by rw[b];rfl),Zo,b];simp[F5]
 refine⟨_,?_,.inr ⟨t,j,m,b,rfl⟩⟩;have hl:=c.2.1;rw[b] at hl;have e:=de (n:=n) (g:=(g,z)) hn c.2.1 t [] [] [] [] n j (by simp[b]) rfl (by omega);have e:JD n (g,z) n ([]++List.replicate (post t).length false++[],0)=_:=e;rw[LA,LX,LA,LX,Lu,NE] at e;have s:JD n (g,z) (n-(post t).length) (HW t false,((post t).length:Int))=some (HW t false):=by
  obtain⟨k,u⟩:∃k,n-(post t).length=k+1:=⟨n-(post t).length-1,by omega⟩;rw[u];unfold JD;dsimp only;grind
 rw[b,e,s,Zo,i _ (by rw[M7,b]),Zo,m,b,LJ,LJ,dh ts a t false j];rfl
end
def DT (ts:List AG):List An:=ts.flatMap fun t=>t.rels.map fun g=>⟨t.name,g.name⟩
theorem mW {n:Nat}{ts:List AG}{i:Nat}(b:i<ts.length)(f:ts[i].rels.length<=200):∀(d k c:Nat) (a:List An),d=ts[i].rels.length-k->k<=ts[i].rels.length->d<c->a.length<=1000000+k->Uf n ts (i:Int) c (a,(k:Int))=some (a++(ts[i].rels.drop k).map fun g=>⟨ts[i].name,g.name⟩)
 |0,k,c,a,h,j,m,p=>by
  obtain⟨c,rfl⟩:=sx c;unfold Uf;rw[CL b,Zo,DC,if_neg (by decide),LG (by omega)];simp
 |d+1,k,c,a,h,j,m,p=>by
  obtain⟨c,rfl⟩:=sx c;have e:k<ts[i].rels.length:=by omega
  unfold Uf;rw[CL b,Zo,EO e,if_pos rfl,CL e,Zo,DV (by simp only[Ll];omega),Zo,Al,mW b f d (k+1) c _ (by omega) (by omega) (by omega) (by simp only[Ld,Ll];omega),Lm e];simp only[Li,Lq,LL,LA]
theorem mX {n:Nat}{ts:List AG}(hB:Ew ts)(hn:1000<n):∀(d i c:Nat) (a:List An),d=ts.length-i->i<=ts.length->d<c->a.length<=200*i->Ug n ts c (a,(i:Int))=some (a++DT (ts.drop i))
 |0,i,c,a,f,g,h,j=>by
  obtain⟨c,rfl⟩:=sx c;unfold Ug;rw[DC,if_neg (by decide),LG (by omega)];simp[DT]
 |d+1,i,c,a,f,g,h,j=>by
  obtain⟨c,rfl⟩:=sx c;have b:i<ts.length:=by omega
  have m:=hB.1;have k:=(hB.2 _ (LZ b)).1;have e:=mW (n:=n) b k _ 0 n a rfl (Lg _) (by omega) (by omega);have e:Uf n ts (i:Int) n (a,0)=_:=e;unfold Ug;rw[EO b,if_pos rfl,e,Zo,Al,mX hB hn d (i+1) c _ (by omega) (by omega) (by omega) (by grind),Lm b];unfold DT;grind
theorem xJ {ts:List AG}(hB:Ew ts)(hn:1000<n):Uh n ts=some (DT ts):=by
 have a:=mX (n:=n) hB hn _ 0 n [] rfl (Lg _) (by have:=hB.1;omega) (Lg _);have a:Ug n ts n (([]:List An),0)=_:=a;unfold Uh;rw[a];rfl
def nm (x:An):AA:=⟨x.t,x.rel⟩
def wn (w:Ao):AA:=⟨w.type_,w.rel⟩
def wl (w:Ao):Int:=if w.less then 1 else 0
theorem mL:∀(R:List Int) (i:Nat) (v:Int) (h:i<R.length),(R.set i v).sum=R.sum-R[i]+v
 |[],_,_,h=>absurd h (LN _)
 |x::R,0,v,_=>by
  grind
 |x::R,i+1,v,h=>by
  have:=mL R i v (Nat.lt_of_succ_lt_succ h);grind
theorem mM {L:Int}:∀(R:List Int),(∀x∈R,x<=L)->R.sum<=(R.length:Int)*L
 |[],_=>by simp
 |x::R,h=>by
  have b:=h x (Lo ..)
  have:=mM R fun y a=>h y (Lj _ a)
  rw[BJ,Lh,Int.natCast_add,Int.add_mul];omega
def dT (N:List An)(K:AA->Int)(R:List Int):Prop:=R.length=N.length/\∀(j:Nat) (a:j<R.length) (b:j<N.length),0<=R[j]/\R[j]<=K (nm N[j])
def FK (R:List Int)(b:Bool)(a:List Int)(c:Bool):Prop:=(c=true->b=true/\a=R)/\R.sum<=a.sum/\(c=false->b=true->R.sum<a.sum)
theorem FK.rfl' {R:List Int}{a:Bool}:FK R a R a:=⟨fun h=>⟨h,rfl⟩,Bp _,fun c b=>by rw[c] at b;cases b⟩
theorem FK.trans {R i j:List Int}{s g k:Bool}(e:FK R s i g)(f:FK i g j k):FK R s j k:=by
 refine⟨fun h=> ?_,NG e.2.1 f.2.1,fun a b=> ?_⟩
 ·have⟨a,b⟩:=f.1 h;have⟨c,d⟩:=e.1 a;exact⟨c,b.trans d⟩
 cases m:g with
 |true=>exact Int.lt_of_le_of_lt e.2.1 (f.2.2 a m)
 |false=>exact Int.lt_of_lt_of_le (e.2.2 m b) f.2.1
def Wa (N:List An)(R:List Int)(i:Nat)(w:Ao):Prop:=∀(z:Nat) (a:z<R.length) (b:z<N.length) (c:i<R.length),nm N[z]=wn w->R[z]+wl w<=R[i]
theorem zd {G:AY}{s:AN}{U:List AB}{D:AB->List AB}{nwB:(AB->Bool)->AB->Bool}(V:U.Nodup)(hl:U.length<=1000000)(c:(⟨o,rel⟩:AB)∈U)(X:∀r∈U,Jt n G r=some (rk r,D r))(hD:∀r∈U,∀d∈D r,d∈U)(ht:total D U<=1000000000)(hn:2000000000<n)
  (E:Fs U D rk nwB) (Y:∀r∈U,0<=rk r) (Z:∀(K:List AB) (S:AB->Bool) (N:List PN),(∀r∈K,r∈U)->N.map (·.k)=K->(∀p∈N,p.deps=D p.k/\p.is=S p.k)->(∀r∈K,∀d∈D r,d∈K)->∀r∈K,FT n G s N r=some (nwB S r)):
  ∃(K:List AB) (S:AB->Bool),JO n G o rel s=some (S ⟨o,rel⟩)/\(⟨o,rel⟩:AB)∈K/\(∀r∈K,r∈U)/\(∀r∈K,∀d∈D r,d∈K)/\Di K rk nwB S:=by
 have ag:PQ D U []<=total D U:=by
  unfold PQ total;rw[show(U.filter fun r=>decide (r∉([]:List PN).map (·.k)))=U from B7.2 fun _ _=>by simp];exact Lc _
 obtain⟨K,k1,z,i,_,v,j,_⟩:=aR (nd:=Jt n G) V (by omega) X hD n [] [⟨o,rel⟩] NX (fun _ h=>nomatch h) (fun r h=>by rw[Lt.1 h];exact c) (by simp only[Ll,Lw];omega) (by simp only[Ll,Lw];omega);have j:=j fun _ h=>nomatch h;have v:=v _ (Lt.2 rfl)
 have w:(K.map (mkP rk D)).map (·.k)=K:=by simp[mkP,NS]
 have aa:=Lv (gA (D:=D) z i) ht;have e2:Fq K (K.map (mkP rk D))=some (addL (vw_ D K) (K.map (mkP rk D))):=f9 D K _ (by rw[w];exact fun _ h=>h) (fun p e=>by
  obtain⟨r,c,rfl⟩:=LO.1 e;rw[w];exact⟨rfl,j r c⟩) fun p e=>by
  obtain⟨r,c,rfl⟩:=LO.1 e;simp only[mkP,Lu];omega
 obtain⟨P,H⟩:∃P,P=addL (vw_ D K) (K.map (mkP rk D)):=⟨_,rfl⟩;have g:P.map (·.k)=K:=by rw[H,aS,w]
 have y:∀p∈P,p.k∈K/\p=⟨p.k,rk p.k,D p.k,vw_ D K p.k,false⟩:=fun p e=>by
  rw[H] at e;obtain⟨q,I,rfl⟩:=LO.1 e;obtain⟨r,c,rfl⟩:=LO.1 I;exact⟨c,rfl⟩
 have ab:P=Fd (fun _=>false) P:=by
  unfold Fd;refine((Ns fun p e=> ?_).trans (List.map_id _)).symm
  have:=(y p e).2;rw[this];rfl
 have ak:K.length<=1000000:=Lv (aQ z i) hl;have M:∀r∈K,Qm P r=rk r:=fun r c=>by
  obtain⟨p,e⟩:=KJ (N:=P) (r:=r) (by rw[g];exact c);obtain⟨m,u⟩:=Jw e;unfold Qm;rw[e]
  have:=(y p m).2;rw[this];exact congrArg rk u
 obtain⟨J,o1,O,o3⟩:=qM (F:=n) (p7 (Qm P)) K (by omega) (by omega);have B:∀r∈J,r∈K:=fun r c=>O.mem_iff.1 c;have o4:J.Pairwise fun a b=>rk a<=rk b:=List.Pairwise.imp_of_mem (fun{a b} ha L h=>by rw[M a (B a ha),M b (B b L)] at h;exact h) o3;have ad:Fs (P.map (·.k)) D rk nwB:=by
  rw[g];exact⟨fun S T r c=>E.loc S T r (i r c),fun S T r c=>E.mono S T r (i r c),fun r c=>E.rkD r (i r c),j⟩
 have ao:D9 P (fun _=>false)<=1000000000:=by
  unfold D9;rw[show(P.filter fun p=> !(fun _=>false) p.k)=P from B7.2 fun p _=>rfl];have m:(P.map fun p=>p.above.length)=K.map fun x=>(vw_ D K x).length:=by
   rw[<-g,Bj];refine Ns fun p e=> ?_
   have:=(y p e).2;simp only[Function.comp];rw[g];exact congrArg (fun q:PN=>q.above.length) this
  rw[m];exact Lv (gB z) aa
 obtain⟨S,k,r1,C⟩:=pz (f:=n) ad (by rw[g];exact z) (fun p e=>by
  obtain⟨m,u⟩:=y p e;refine⟨by rw[u],fun x=> ?_⟩;rw[u,g];exact pp) (fun S r c=>by
  rw[g] at c;refine Z K S _ i (by rw[Fd,Bj];exact g) (fun p e=> ?_) j r c;obtain⟨q,I,rfl⟩:=LO.1 e;refine⟨?_,rfl⟩
  have:=(y q I).2;exact congrArg PN.deps this) J (fun _=>false) [] 0 (fun r c=>by rw[g];exact⟨B r c,Y r (i r (B r c))⟩) o4 (by omega) (by omega) ⟨fun _ _ h=>(by cases h),fun _ h=>(nomatch h),fun _ _ h=>(by cases h),fun _ _ _ _ _ _ _ h=>(by cases h),fun _ h=>(nomatch h)⟩
 rw[g,LA] at C;refine⟨K,S,?_,v,i,j,?_⟩
 ·unfold JO;rw[show([]:List PN)=([]:List AB).map (mkP rk D) from rfl,k1,Zo,w,e2,Zo,<-H];unfold JN;rw[LE,ifp,w,o1,Zo];rw[ab,r1,Zo,if_neg (by
   cases K with |nil=>cases v |cons _ _=>simp),Sv]
  obtain⟨p,e⟩:=KJ (N:=P) (r:=⟨o,rel⟩) (by rw[g];exact v);rw[e];show some (S p.k)=_;rw[(Jw e).2]
 refine⟨fun r c=> ?_,C.d⟩;have m:=C.a r c;have u:=C.b r (O.mem_iff.2 c);cases Q:S r with
 |true=>rw[m Q]
 |false=>
  cases L:nwB S r with
  |false=>rfl
  |true=>
   rcases u L with h |⟨h,_⟩
   ·rw[Q] at h;cases h
   cases h
def We (k:Int)(a b:Bool):Bool:=if k==3 then a||b else if k==5 then a&&b else a&& !b
def Gb (T:AB->Bool)(l:List AD)(o:Ak):List AS->List Bool->Bool
 |[],a=>a.length==1&&a.getD 0 false
 |x::b,a=>if x.kind==1||x.kind==2 then Gb T l o b (a++[(EY l o x).any T]) else if a.length<2 then false else Gb T l o b (a.take (a.length-2)++[We x.kind (a.getD (a.length-2) false) (a.getD (a.length-1) false)])
def nwB (sc:AC)(l:List AD)(s:AN)(T:AB->Bool)(r:AB):Bool:=if (qf_ (⟨r.obj.type_,r.rel⟩:AA) CX sc.rels).expr= [] then decide (s∈FA (tO.ofL l) r.obj r.rel)||(EL sc l r).any T else Gb T l r.obj (qf_ (⟨r.obj.type_,r.rel⟩:AA) CX sc.rels).expr []
theorem nC {N:List PN}{D:AB->List AB}{S:AB->Bool}(a:∀p∈N,p.deps=D p.k/\p.is=S p.k){l:List AB}(hl:∀d∈l,(C9 d N).isSome=true):(l.any fun d=>((C9 d N).map (·.is)).getD false)=l.any S:=by
 rw[Ni,Nh,Nh];grind [C9,Option.isSome_iff_exists,Jw]
section
variable {n:Nat}{sc:AC}{l r0:List AD}(hl:l.length<=10000)(hn:1000000<n)
include hl hn in
theorem eW {o:Ak}{N:List PN}{D:AB->List AB}{S:AB->Bool}(f:∀p∈N,p.deps=D p.k/\p.is=S p.k):∀(a:List AS) (b:List Bool),(∀d∈HE l o a,(C9 d N).isSome=true)->b.length+a.length<=1000->JM n ⟨sc,Ea l,r0⟩ o N a b=some (Gb S l o a b)
 |[],b,_,_=>rfl
 |x::a,b,g,j=>by
  simp only[Lh] at j;have k:∀d∈EY l o x,(C9 d N).isSome=true:=fun d h=>g d (Nu _ h);have i:∀d∈HE l o a,(C9 d N).isSome=true:=fun d h=>g d (Nn _ h);unfold JM Ur Gb;by_cases c:(x.kind==1||x.kind==2)=true
  ·rw[if_pos c,if_pos c,ml hl hn o x c,Zo,if_pos]
   ·rw[Zo,nC f k];exact eW f a _ i (by grind)
   have m:(EY l o x).length<=10001:=by
    have:=Zh l o x;unfold EY;split
    ·simp
    split
    ·omega
    simp
   grind
  rw[if_neg c,if_neg c];by_cases e:b.length<2
  ·rw[if_pos e,if_pos e];rfl
  rw[if_neg e,if_neg e,Zo];exact eW f a _ i (by grind)
include hl hn in
theorem SB (i:GZ sc){s:AN}{N:List PN}{S:AB->Bool}(e:∀p∈N,p.deps=EL sc l p.k/\p.is=S p.k)(j:(C9 r N).isSome=true)(f:∀d∈EL sc l r,(C9 d N).isSome=true):FT n ⟨sc,Ea l,r0⟩ s N r=some (nwB sc l s S r):=by
 have u:=(JS i ⟨r.obj.type_,r.rel⟩).2.1;have v:=Wc l r.obj r.rel;have⟨x,g⟩:=NJ.1 j;have⟨k,m⟩:=Jw g;have q:x.deps=EL sc l r:=by rw[(e x k).1,m]
 unfold FT nwB;rw[Hd,Zo];dsimp only;cases c:(qf_ (⟨r.obj.type_,r.rel⟩:AA) CX sc.rels).expr.isEmpty with
 |true=>
  have a:=Oj.1 c;have w:(EL sc l r).length<=10000:=by
   unfold EL;rw[if_pos a];unfold Ks;rw[LE];exact Lv (NU _ _) (by omega)
  rw[if_pos rfl,if_pos a];unfold K9;rw[Hd,Zo];dsimp only;rw[c,if_pos rfl,Zd (by omega),Zo,dx (by omega) (by omega),Zo,g,Zo,q,if_pos]
  ·exact congrArg (fun b=>some (_||b)) (nC e f)
  grind
 |false=>
  have a:(qf_ (⟨r.obj.type_,r.rel⟩:AA) CX sc.rels).expr≠[]:=fun h=>by rw[h] at c;cases c
  rw[if_neg (by decide),ifp,if_neg a];refine eW hl hn e _ [] (fun d h=>f d ?_) (by simp only[Lu];omega);unfold EL;rw[if_neg a];exact h
end
section
variable {sc:AC}{l:List AD}{o:Ak}{rk:AA->Int}{R:Int}
def FX (d:AB):AA:=⟨d.obj.type_,d.rel⟩
def QW (rk:AA->Int)(R:Int)(a:List AJ):Prop:=∀w∈a,rk w.to+w.taken<=R
def Q1 (rk:AA->Int)(R:Int)(a:List AJ):Prop:=∀w∈a,rk w.to<R
inductive UR (rk:AA->Int) (R:Int):List (List AJ)->List Bool->List Bool->Prop
 |nil:UR rk R [] [] []
 |snoc {W a b w x y}:UR rk R W a b->(∀v∈w,v.taken=0\/v.taken=1)->(QW rk R w->x=true->y=true)->(Q1 rk R w->x=y)->UR rk R (W++[w]) (a++[x]) (b++[y])
theorem UR.len {W:List (List AJ)}{a b:List Bool}(h:UR rk R W a b):W.length=a.length/\a.length=b.length:=by
 induction h with
 |nil=>exact⟨rfl,rfl⟩
 |snoc _ _ _ _ c=>grind
theorem I0 {α:Type}(A:List α)(x y d:α):(A++[x]++[y]).take ((A++[x]++[y]).length-2)=A/\(A++[x]++[y]).getD ((A++[x]++[y]).length-2) d=x/\(A++[x]++[y]).getD ((A++[x]++[y]).length-1) d=y:=by
 simp
theorem Wg {x:AS}{w:List AJ}(b:∀v∈w,v.taken=0\/v.taken=1)(h:QW rk R (w.map (DP x))):QW rk R w/\(x.kind=4->Q1 rk R w):=by
 constructor
 ·intro v a
  have:=h _ (LH a);grind [DP]
 intro c v a
 have:=h _ (LH a);unfold DP at this;grind
theorem Wh {x:AS}{w:List AJ}(h:Q1 rk R (w.map (DP x))):Q1 rk R w:=fun v a=>by
 have:=h _ (LH a);unfold DP at this;split at this<;>exact this
def eX (sc:AC)(l:List AD)(o:Ak)(x:AS):Prop:=∀d∈EY l o x,∃w∈GB sc o.type_ x,w.to=FX d
theorem eY {S T:AB->Bool}:∀(ex:List AS) {W:List (List AJ)} {a b:List Bool},PJ ex->(∀x∈ex,eX sc l o x)->UR rk R W a b->QW rk R (ex.foldl (Dc sc o.type_) W).flatten->
  (∀d∈HE l o ex,(rk (FX d)<R->S d=T d)/\(rk (FX d)<=R->S d=true->T d=true))->Gb S l o ex a=true->Gb T l o ex b=true
 |[],W,a,b,_,_,hs,hq,_,h=>by
  obtain⟨h1,h2⟩:=hs.len;unfold Gb at h⊢;rw[Ln,beq_iff_eq] at h⊢;obtain⟨h3,h4⟩:=h;refine⟨by omega,?_⟩;cases hs with
  |nil=>simp at h3
  | @snoc W' a' b' w x y hs _ hm he=>
   simp_all
 |x::ex,W,a,b,hk,hl,hs,hq,hd,h=>by
  have hk2:PJ ex:=fun y hy=>hk y (Lj _ hy);have hl2:∀y∈ex,eX sc l o y:=fun y hy=>hl y (Lj _ hy);have hd2:∀d∈HE l o ex,(rk (FX d)<R->S d=T d)/\(rk (FX d)<=R->S d=true->T d=true):=fun d h=>hd d (Nn _ h)
  have hd1:∀d∈EY l o x,(rk (FX d)<R->S d=T d)/\(rk (FX d)<=R->S d=true->T d=true):=fun d h=>hd d (Nu _ h);obtain⟨l1,l2⟩:=hs.len;rw[Bs] at hq;unfold Gb at h⊢;unfold Dc at hq;by_cases hx:(x.kind==1||x.kind==2)=true
  ·rw[if_pos hx] at h hq⊢;have hlf:=hl x (Lo ..);refine eY ex hk2 hl2 (hs.snoc (fun v hv=>.inl ?_) (fun q1 h1=> ?_) fun q1=> ?_) hq hd2 h
   ·unfold GB at hv;grind
   ·rw[Nh] at h1⊢;obtain⟨d,e1,e2⟩:=h1;obtain⟨w,w1,w2⟩:=hlf d e1;refine⟨d,e1,(hd1 d e1).2 ?_ e2⟩;have h3:=q1 w w1;have h4:w.taken=0:=by
     unfold GB at w1;split at w1
     ·rw[Lt.1 w1]
     grind
    rw[w2,h4] at h3;omega
   rw[Ni,Nh,Nh];have key:∀d∈EY l o x,S d=T d:=fun d e1=>by
    obtain⟨w,w1,w2⟩:=hlf d e1;exact(hd1 d e1).1 (by rw[<-w2];exact q1 w w1)
   grind
  rw[if_neg hx] at h hq⊢;by_cases h2:a.length<2
  ·rw[if_pos h2] at h;cases h
  rw[if_neg h2] at h;rw[ifn];rw[ifp] at hq;cases hs with
  |nil=>simp at h2
  | @snoc _ _ _ w2 x2 y2 hs k2 m2 e2=>
   cases hs with
   |nil=>simp at h2
   | @snoc W0 a0 b0 w1 x1 y1 hs k1 m1 e1=>
    rw[(I0 W0 w1 w2 []).1,(I0 W0 w1 w2 []).2.1,(I0 W0 w1 w2 []).2.2] at hq;rw[(I0 a0 x1 x2 false).1,(I0 a0 x1 x2 false).2.1,(I0 a0 x1 x2 false).2.2] at h;rw[(I0 b0 y1 y2 false).1,(I0 b0 y1 y2 false).2.1,(I0 b0 y1 y2 false).2.2];refine eY ex hk2 hl2 (hs.snoc (fun v hv=> ?_) (fun q1 h1=> ?_) fun q1=> ?_) hq hd2 h
    ·rcases Ly.1 hv with hv |hv
     ·exact k1 v hv
     obtain⟨u,hu,rfl⟩:=LO.1 hv;unfold DP;grind
    ·have qa:QW rk R w1:=fun v hv=>q1 v (Nu _ hv)
     obtain⟨qb,qc⟩:=Wg k2 fun v hv=>q1 v (Nn _ hv);have i1:=m1 qa;have i2:=m2 qb;unfold We at h1⊢;rcases hk x (Lo ..) with e |e |e |e |e
     ·rw[e] at hx;simp at hx
     ·rw[e] at hx;simp at hx
     ·grind
     ·grind
     grind
    rw[e1 fun v hv=>q1 v (Nu _ hv),e2 (Wh fun v hv=>q1 v (Nn _ hv))]
end
theorem eO {sc:AC}{a:ByteArray}:∀(c:List AS) (W:List (List AJ)) (w:AJ),w∈W.flatten\/(∃x∈c,(x.kind==1||x.kind==2)=true/\w∈GB sc a x)->∃v∈(c.foldl (Dc sc a) W).flatten,v.to=w.to
 |[],W,w,h=>by
  grind
 |x::c,W,w,h=>by
  rw[Bs];have j:(∃v∈(Dc sc a W x).flatten,v.to=w.to)\/∃y∈c,(y.kind==1||y.kind==2)=true/\w∈GB sc a y:=by
   rcases h with h |⟨y,g,d,i⟩
   ·refine .inl ?_;unfold Dc;split
    ·grind
    split
    ·rename_i hl;obtain⟨A,f,b,rfl⟩:∃A f b,W=A++[f]++[b]:=by
      obtain⟨B,b,rfl⟩:∃B b,W=B++[b]:=⟨W.dropLast,W.getLast (by intro e;rw[e] at hl;simp at hl),(Bn _).symm⟩;rw[Ld,Ll] at hl;exact⟨B.dropLast,B.getLast (by intro e;rw[e] at hl;simp at hl),b,by rw[Bn]⟩
     rw[(I0 A f b []).1,(I0 A f b []).2.1,(I0 A f b []).2.2];simp only[B6,List.flatten_cons,List.flatten_nil,LX,Ly] at h⊢;rcases h with(h |h) |h
     ·exact⟨w,.inl h,rfl⟩
     ·exact⟨w,.inr (.inl h),rfl⟩
     grind [DP,List.mem_map_of_mem]
    exact⟨w,h,rfl⟩
   rcases Lr.1 g with rfl |g
   ·refine .inl ⟨w,?_,rfl⟩;simp_all [Dc,if_pos,B6,Nn]
   exact .inr ⟨y,g,d,i⟩
  rcases j with⟨v,d,i⟩ |d
  ·obtain⟨u,k,m⟩:=eO c _ v (.inl d);exact⟨u,k,m.trans i⟩
  exact eO c _ w (.inr d)
theorem m5 {S T:AB->Bool}{l:List AD}{o:Ak}:∀(a:List AS) (b:List Bool),(∀d∈HE l o a,S d=T d)->Gb S l o a b=Gb T l o a b
 |[],_,_=>rfl
 |x::a,b,h=>by
  have j:(EY l o x).any S=(EY l o x).any T:=by
   rw[Ni,Nh,Nh];have g:∀d∈EY l o x,S d=T d:=fun d e=>h d (Nu _ e);exact⟨fun⟨d,c,f⟩=>⟨d,c,by rw[<-g d c];exact f⟩,fun⟨d,c,f⟩=>⟨d,c,by rw[g d c];exact f⟩⟩
  have i:=fun b=>m5 a b fun d e=>h d (Nn _ e);unfold Gb;rw[j,i,i]
section
variable {ts:List AG}{S:AC}(hW:EC ts S)(hB:Ew ts){l:List AD}(hfit:∀t∈l,FL S t)
def HY (S:AC)(r:AB):Int:=Cv S.ranks (FX r)
include hfit in
theorem m8 (o:Ak)(x:AS):eX S l o x:=by
 intro d a;unfold EY at a;unfold GB;split at a
 ·rename_i b;rw[Lt.1 a,if_pos b];exact⟨_,Lt.2 rfl,rfl⟩
 rename_i b;split at a
 ·unfold R8 at a;obtain⟨s,e,rfl⟩:=LO.1 a;have⟨u,f,g,h,i⟩:=Ze.1 e;have c:=hfit u f;unfold FL at c;rw[g,h,i] at c;rw[if_neg b];exact⟨_,LH c,rfl⟩
 cases a
include hW in
theorem m9 (a:Av (FX r) S.rels=true):QW (Cv S.ranks) (HY S r) (Er S (FX r)):=by
 rw[Mk,hW.rels,Ux] at a;exact fun w b=>hW.rk _ a w b
include hW hfit in
theorem nA {d:AB}(q:Av (FX r) S.rels=true)(b:d∈EL S l r):HY S d<=HY S r:=by
 have z:=m9 hW q;have B:∃v∈Er S (FX r),v.to=FX d:=by
  unfold Er EL at *;show ∃v∈(if (qf_ (FX r) CX S.rels).expr= [] then _ else _),_;by_cases c:(qf_ (FX r) CX S.rels).expr= []
  ·have i:(qf_ (⟨r.obj.type_,r.rel⟩:AA) CX S.rels).expr= []:=c;rw[if_pos i] at b;rw[if_pos c];obtain⟨s,C,E,rfl⟩:=Zg.1 b;have⟨u,F,G,H,I⟩:=Ze.1 C;have j:=hfit u F;unfold FL at j;rw[G,H,I] at j;have sub:∀(f:List AN) (g:AN),g∈f->g.rel≠{ data:= #[] }->(⟨⟨g.type_,g.rel⟩,0⟩:AJ)∈Ft f:=fun f=>by
    induction f with
    |nil=>intro g h _;cases h
    |cons y U m=>
     intro g h k;rw[TA];rcases Lr.1 h with rfl |h
     ·rw[DZ,decide_eq_false (show ¬g.rel=ByteArray.empty from k),if_neg (by decide)];exact Lo ..
     split
     ·exact m g h k
     exact Lj _ (m g h k)
   exact⟨_,sub _ _ j E,rfl⟩
  have i:¬(qf_ (⟨r.obj.type_,r.rel⟩:AA) CX S.rels).expr= []:=c;rw[if_neg i] at b;rw[if_neg c];unfold HE at b;have⟨x,J,b⟩:=Oh.1 b;have⟨w,L,M⟩:=m8 hfit r.obj x d b;have N:(x.kind==1||x.kind==2)=true:=by
   unfold EY at b;split at b
   ·rename_i h;rw[h];rfl
   split at b
   ·rename_i h;rw[h,Ik]
   cases b
  have⟨v,O,P⟩:=eO (sc:=S) (a:=r.obj.type_) _ [] w (.inr ⟨x,J,N,L⟩);exact⟨v,O,P.trans M⟩
 have⟨v,p,Q⟩:=B;have T:=z v p;rw[Q] at T;rcases ai S (FX r) v p with e |e<;>unfold HY at * <;>omega
include hW hB hfit in
theorem SA {U:List AB}(s:AN)(f:∀r∈U,Av (FX r) S.rels=true)(i:∀r∈U,∀d∈EL S l r,d∈U):Fs U (EL S l) (HY S) (nwB S l s):=by
 refine⟨fun A B r _ h=> ?_,fun A B r e j m c=> ?_,fun r e d a=>nA hW hfit (f r e) a,i⟩
 ·unfold nwB;split
  ·grind
  rename_i b;refine m5 _ _ fun d a=>h d ?_;unfold EL;rw[if_neg b];exact a
 have p:∀d∈EL S l r,HY S d<=HY S r:=fun d a=>nA hW hfit (f r e) a
 have k:∀d∈EL S l r,(HY S d<HY S r->A d=B d)/\(HY S d<=HY S r->A d=true->B d=true):=fun d a=>⟨j d a,fun _ q=>by
  grind⟩
 unfold nwB at c⊢;by_cases b:(qf_ (⟨r.obj.type_,r.rel⟩:AA) CX S.rels).expr= []
 ·rw[if_pos b] at c⊢;rw[LR] at c⊢;grind
 rw[if_neg b] at c⊢;have g:=m9 hW (f r e);unfold Er at g;rw[if_neg (show ¬(qf_ (FX r) CX S.rels).expr= [] from b)] at g;refine eY (sc:=S) (rk:=Cv S.ranks) (R:=HY S r) _ (JS (UP hW hB) ⟨r.obj.type_,r.rel⟩).2.2.2.2 (fun x _=>m8 hfit r.obj x) .nil g (fun d a=>k d ?_) c;unfold EL;rw[if_neg b];exact a
theorem eQ (hl:l.length<=100)(i:∀t∈l,FL S t)(b:EC ts S)(g:Ew ts)(j:Av (⟨o.type_,rel⟩:AA) S.rels=true):∃U:List AB,U.Nodup/\U.length<=20200/\(⟨o,rel⟩:AB)∈U/\(∀r∈U,Av (FX r) S.rels=true)/\(∀r∈U,∀d∈EL S l r,d∈U)/\total (EL S l) U<=1000000000:=by
 have⟨U,k,m,q⟩:=d8 (M8 ts l o);have h:U.length<=20200:=by
  refine Lv q (Lv (d9 _ 200 fun p _=> ?_) ?_)
  ·rw[LE];exact(d7 p.type_ b.tys fun t e=>(g.2 t e).1).1
  grind [UQ,List.length_cons,List.length_map,Nat.le_trans,Nat.mul_le_mul_right]
 have c:∀r,r∈U↔r.obj∈UQ l o/\Av (⟨r.obj.type_,r.rel⟩:AA) S.rels=true:=fun r=>by
  rw[m,mq,Mk,b.rels,Ux]
 refine⟨U,k,h,(c _).2 ⟨Lo ..,j⟩,fun r f=>((c r).1 f).2,fun r f d s=> ?_,?_⟩
 ·have⟨u,v⟩:=(c r).1 f;have⟨w,a⟩:=d6 b i v s;refine(c d).2 ⟨?_,w⟩;rcases a with a |⟨t,e,a⟩
  ·rw[a];exact u
  rw[a];exact Lj _ (LH e)
 unfold total;exact Lv (eC _ 20200 fun r _=>mu b g hl r) (Lv (LS _ h) (by decide))
include hW hB hfit in
theorem nB {r0:List AD}(s:AN)(hl:l.length<=100)(hn:2000000000<n)(f:Av (⟨o.type_,rel⟩:AA) S.rels=true):∃(K:List AB) (A:AB->Bool),JO n ⟨S,Ea l,r0⟩ o rel s=some (A ⟨o,rel⟩)/\(⟨o,rel⟩:AB)∈K/\(∀r∈K,Av (FX r) S.rels=true)/\(∀r∈K,∀d∈EL S l r,d∈K)/\Di K (HY S) (nwB S l s) A:=by
 have a:=UP hW hB;have⟨U,g,q,h,i,b,j⟩:=eQ hl hfit hW hB f;have⟨K,A,u,v,w,y,z⟩:=zd (n:=n) (G:=⟨S,Ea l,r0⟩) (s:=s) (D:=EL S l) (rk:=HY S) (nwB:=nwB S l s) g (by omega) h (fun r _=>yn_ (by omega) (by omega) a r) b j hn (SA hW hB hfit s i b) (fun r _=>hW.rk0 _) fun K St N B c k m r e=>SB (by omega) (by omega) a k (by rw[Xb,c];exact e) fun d p=>by
  rw[Xb,c];exact m r e d p
 grind
end
theorem Di.sub {a:List AB}{D:AB->List AB}{nw:(AB->Bool)->AB->Bool}(h:Di K rk nw A)(g:Fs K D rk nw)(i:∀r∈a,r∈K)(v:∀r∈a,∀d∈D r,d∈a):Di a rk nw A:=by
 refine⟨fun r f=>h.fix r (i r f),fun j T w p r f q s=> ?_⟩
 have:=h.low j (fun x=>if x∈a/\rk x=j then T x&&A x else A x) (fun x _ c=>if_neg fun e=>by omega) (fun x c k hn=> ?_) r (i r f) q s
 ·grind
 have u:A x=true:=by
  rw[h.fix x c];refine g.mono _ A x c (fun d _ b=>if_neg fun e=>by omega) (fun d _ _ b=> ?_) hn;split at b
  ·exact(Ln _ _▸b).2
  exact b
 by_cases m:x∈a
 ·rw[if_pos ⟨m,k⟩,u,OF];refine p x m k (g.mono _ T x c (fun d b y=> ?_) (fun d b z B=> ?_) hn)
  ·grind
  grind
 grind
theorem Di.one {nw:(AB->Bool)->AB->Bool}{c:AB->Bool}(h:Di K rk nw A)(f:Di K rk nw c)(g:∀r∈K,0<=rk r):∀r∈K,A r=c r:=by
 have i:∀(j:Nat) (r:AB),r∈K->rk r<(j:Int)->A r=c r:=by
  intro j;induction j with
  |zero=>intro r a k;have:=g r a;omega
  |succ j d=>
   intro r a k;by_cases m:rk r<(j:Int)
   ·exact d r a m
   rw[Ni];exact⟨h.low j c (fun x b e=>(d x b e).symm) (fun x b _ hn=>(f.fix x b).trans hn) r a (by omega),f.low j A (fun x b e=>d x b e) (fun x b _ hn=>(h.fix x b).trans hn) r a (by omega)⟩
 exact fun r a=>i ((rk r).toNat+1) r a (by have:=g r a;omega)
theorem Di.uniq {b:List AB}{D:AB->List AB}{nw:(AB->Bool)->AB->Bool}{c:AB->Bool}(h:Di K rk nw A)(j:Di b rk nw c)(e:Fs K D rk nw)(f:Fs b D rk nw)(k:∀r∈K,0<=rk r)(m:r∈K)(p:r∈b):A r=c r:=by
 have g:∀x∈K.filter (· ∈b),∀d∈D x,d∈K.filter (· ∈b):=fun x a d i=>by
  have⟨q,s⟩:=Nb.1 a;exact Nb.2 ⟨e.DK x q d i,decide_eq_true (f.DK x (of_decide_eq_true s) d i)⟩
 exact(h.sub e (fun x a=>(Nb.1 a).1) g).one (j.sub f (fun x a=>of_decide_eq_true (Nb.1 a).2) g) (fun x a=>k x (Nb.1 a).1) r (Nb.2 ⟨m,decide_eq_true p⟩)
end Go.Proofs.YtnmkbmefohakmaaGreat.Ab
