/-
 The search answers the least answer, rank by rank, over any schema that holds together. No program in sight.
-/
import Derived.Test.YtnmkbmefohakmaaGreatPrz
set_option linter.all false
namespace Go.Proofs.YtnmkbmefohakmaaGreat.Ab
open Go.RowKit IntKind
theorem Qm (x:AX)(a b:Fu):post (.op x a b)=post a++post b++[x]:=rfl
theorem YM (x:AX)(a b:Fu):(post (.op x a b)).length=(post a).length+(post b).length+1:=by rw[Qm];grind
theorem S6:∀t:Fu,0<(post t).length
 | .leaf _=>Nat.zero_lt_one
 | .op x a b=>by rw[YM];omega
theorem kG (x:AX)(a b:Fu)(A B:List AX):∃h:A.length+(post a).length+(post b).length<(A++post (.op x a b)++B).length,(A++post (.op x a b)++B)[A.length+(post a).length+(post b).length]=x:=by
 have e:A++post (.op x a b)++B=(A++post a++post b)++(x::B):=by simp[post]
 have h:A.length+(post a).length+(post b).length<(A++post (.op x a b)++B).length:=by rw[e];simp only[Ld,Ll];omega
 refine⟨h,?_⟩;simp only[e];rw[List.getElem_append_right (by simp only[Ld];omega)];simp[Nv]
theorem bi:∀(t:Fu) (n:Nat) (A B:List AX),Gi t->(post t).length<=n->A.length+(post t).length<4611686018427387904->Pg n (A++post t++B) ((A.length+(post t).length-1:Nat):Int)=some (A.length:Int)
 | .leaf x,n,A,B,c,hn,hl=>by
  obtain⟨n,rfl⟩:∃k,n=k+1:=⟨n-1,by have:(post (.leaf x)).length=1:=rfl;omega⟩;have d:A.length<(A++post (.leaf x)++B).length:=by simp[post]
  have e:(A++post (.leaf x)++B)[A.length]=x:=by simp[post]
  unfold Pg;rw[show A.length+(post (.leaf x)).length-1=A.length from rfl,CB d,Zo,e];rcases c with h |h<;>rw[h]<;>rfl
 | .op x a b,n,A,B,c,hn,hl=>by
  have p:=YM x a b;obtain⟨n,rfl⟩:=sx n;have⟨d,e⟩:=kG x a b A B;have q:=S6 a;have s:=S6 b;have f:=bi a n A (post b++[x]++B) c.2.1 (by omega) (by omega);have g:=bi b n (A++post a) ([x]++B) c.2.2 (by omega) (by rw[Ld];omega);have i:A++post a++(post b++[x]++B)=A++post (.op x a b)++B:=by simp[post]
  have j:A++post a++post b++([x]++B)=A++post (.op x a b)++B:=by simp[post]
  rw[i] at f;rw[j,Ld] at g;have u:i64.wrap (((A.length+(post a).length+(post b).length:Nat):Int)-1)=((A.length+(post a).length+(post b).length-1:Nat):Int):=by
   have:=GB (n:=A.length+(post a).length+(post b).length-1) (by omega);grind
  have v:i64.wrap (((A.length+(post a).length:Nat):Int)-1)=((A.length+(post a).length-1:Nat):Int):=by
   have:=GB (n:=A.length+(post a).length-1) (by omega);grind
  unfold Pg;rw[show A.length+(post (.op x a b)).length-1=A.length+(post a).length+(post b).length by omega,CB d,Zo,e];have z:((x.kind==1)=false)/\((x.kind==2)=false):=by rcases c.1 with h |h |h<;>rw[h]<;>exact⟨rfl,rfl⟩
  grind
def G1:Fu->Bool->List Bool
 | .leaf _,f=>[f]
 | .op x a b,f=>G1 a f++G1 b (f||x.kind==4)++[f]
theorem YN (x:AX)(a b:Fu)(f:Bool):G1 (.op x a b) f=G1 a f++G1 b (f||x.kind==4)++[f]:=rfl
theorem MF:∀(t:Fu) (f:Bool),(G1 t f).length=(post t).length
 | .leaf _,_=>rfl
 | .op x a b,f=>by rw[YN,Qm];simp only[Ld,Lo,MF a,MF b]
theorem bj:∀t:Fu,G1 t true=List.replicate (post t).length true
 | .leaf _=>rfl
 | .op x a b=>by
  rw[YN,Qm,BO,bj a,bj b];simp only[Ld,Lo,<-BA];rfl
theorem kH {n:Nat}:∀(Q P R:List Bool) (c:Nat),Q.length<c->P.length+Q.length<4611686018427387904->RO n ((P.length+Q.length:Nat):Int) c (P++Q++R,(P.length:Int))=some (P++List.replicate Q.length true++R)
 |[],P,R,c,a,_=>by
  obtain⟨c,rfl⟩:=sx c;unfold RO;simp
 |q::Q,P,R,c,a,hl=>by
  simp only[Ll] at a hl;obtain⟨c,rfl⟩:=sx c;have b:=kH (n:=n) Q (P++[true]) R c (by omega) (by grind);have d:P.length<(P++(q::Q)++R).length:=by simp only[Ld,Ll];omega
  have e:List.set (P++(q::Q)++R) P.length true=P++[true]++Q++R:=by
   rw[Lz,Ol _ _ (Lc _),BM];simp
  rw[Ld,Lo,show P.length+1+Q.length=P.length+(Q.length+1) by omega] at b;unfold RO;rw[Ll,Dx,if_pos rfl,CB d,Zo,Zo,Li,e,Ar,b];grind
theorem bk {n:Nat}{g:AZ × Bool}(hn:100000<n)(hg:g.1.expr.length<=200):∀(t:Fu) (A B:List AX) (P R:List Bool) (c:Nat),Gi t->g.1.expr=A++post t++B->P.length=A.length->(post t).length<=c->
  Hi n g c (P++List.replicate (post t).length false++R,(A.length:Int))=Hi n g (c-(post t).length) (P++G1 t false++R,((A.length+(post t).length:Nat):Int))
 | .leaf x,A,B,P,R,c,i,f,j,k=>by
  have k:1<=c:=k;obtain⟨c,rfl⟩:=sx c;have p:A.length<g.1.expr.length:=by rw[f];simp[post]
  have e:g.1.expr[A.length]=x:=by simp[f,post]
  conv=>lhs;unfold Hi
  rw[Dx p,if_pos rfl,CB p,Zo,e];have q:(x.kind==4)=false:=by rcases i with h |h<;>rw[h]<;>rfl
  rw[q,if_neg (by decide),Ar];rfl
 | .op x a b,A,B,P,R,c,i,f,j,k=>by
  have E:=YM x a b;have O:g.1.expr.length=A.length+(post (.op x a b)).length+B.length:=by rw[f];simp only[Ld]
  have F:g.1.expr=A++post a++(post b++[x]++B):=by rw[f];simp[post]
  have s:g.1.expr=A++post a++post b++([x]++B):=by rw[f];simp[post]
  have G:=bk hn hg a A (post b++[x]++B) P (List.replicate (post b).length false++[false]++R) c i.2.1 F j (by omega);have u:=bk hn hg b (A++post a) ([x]++B) (P++G1 a false) ([false]++R) (c-(post a).length) i.2.2 s (by simp only[Ld,MF];omega) (by omega);have H:P++List.replicate (post (.op x a b)).length false++R=P++List.replicate (post a).length false++(List.replicate (post b).length false++[false]++R):=by
   rw[E,<-BA,<-BA];simp only[Lz];rfl
  rw[H,G];have I:P++G1 a false++(List.replicate (post b).length false++[false]++R)=P++G1 a false++List.replicate (post b).length false++([false]++R):=by simp
  rw[Ld] at u;rw[I,u];have⟨p,e⟩:=kG x a b A B;have v:A.length+(post a).length+(post b).length<g.1.expr.length:=by omega
  have J:g.1.expr[A.length+(post a).length+(post b).length]=x:=by simp only[f];exact e
  obtain⟨d,L⟩:∃d,c-(post a).length-(post b).length=d+1:=⟨c-(post a).length-(post b).length-1,by omega⟩;rw[L];conv=>lhs;unfold Hi
  rw[Dx v,if_pos rfl,CB v,Zo,J,Ar,show c-(post (.op x a b)).length=d by omega,show A.length+(post a).length+(post b).length+1=A.length+(post (.op x a b)).length by omega];rw[YN,NE];cases q:x.kind==4 with
  |false=>
   rw[if_neg (by decide)];simp only[Lz]
  |true=>
   have Q:=S6 b;have M:i64.wrap (((A.length+(post a).length+(post b).length:Nat):Int)-1)=((A.length+(post a).length+(post b).length-1:Nat):Int):=by
    have:=GB (n:=A.length+(post a).length+(post b).length-1) (by omega);rwa [show A.length+(post a).length+(post b).length-1+1=A.length+(post a).length+(post b).length by omega] at this
   have z:=bi b n (A++post a) ([x]++B) i.2.2 (by omega) (by rw[Ld];omega);rw[<-s,Ld] at z;have C:=kH (n:=n) (G1 b false) (P++G1 a false) ([false]++R) n (by rw[MF];omega) (by simp only[Ld,MF];omega);simp only[Ld,MF,j] at C;rw[if_pos rfl,M,z,Zo,C,Zo,bj];simp only[Lz]
def Gn (ts:List AG)(a:ByteArray)(x:AX)(f:Bool):List An:=if x.kind==1 then[⟨a,x.a,f⟩] else if x.kind==2 then⟨a,x.a,f⟩::((CH ts a x.a).getD Ca).subs.map fun s=>⟨s.type_,x.b,f⟩ else[]
def Ft (ts:List AG)(a:ByteArray):List AX->List Bool->List An
 |x::b,f::c=>Gn ts a x f++Ft ts a b c
 |_,_=>[]
def Eg (ts:List AG)(a:ByteArray):Fu->Bool->List An
 | .leaf x,f=>Gn ts a x f
 | .op x p q,f=>Eg ts a p f++Eg ts a q (f||x.kind==4)
theorem bm (ts:List AG)(a:ByteArray):∀(b:List AX) (c:List Bool) (d:List AX) (e:List Bool),b.length=c.length->Ft ts a (b++d) (c++e)=Ft ts a b c++Ft ts a d e
 |[],[],_,_,_=>rfl
 |x::b,f::c,d,e,h=>by
  show Gn ts a x f++Ft ts a (b++d) (c++e)=Gn ts a x f++Ft ts a b c++_;rw[bm ts a b c d e (Nat.succ.inj h),Lz]
theorem bn (ts:List AG)(a:ByteArray):∀(t:Fu) (f:Bool),Gi t->Ft ts a (post t) (G1 t f)=Eg ts a t f
 | .leaf x,f,_=>Ns _
 | .op x p q,f,b=>by
  rw[Qm,YN];show _=Eg ts a p f++Eg ts a q (f||x.kind==4);rw[bm _ _ _ _ _ _ (by simp only[Ld,MF]),bm _ _ _ _ _ _ (MF p f).symm,bn ts a p f b.2.1,bn ts a q _ b.2.2]
  have:Gn ts a x f= []:=by
   unfold Gn;rcases b.1 with h |h |h<;>rw[h]<;>rfl
  show _++(Gn ts a x f++[])=_;grind
def HD:List AL->List An
 |[]=>[]
 |s::r=>if s.rel={ data:= #[] } then HD r else⟨s.type_,s.rel,false⟩::HD r
theorem bp:∀l:List AL,(HD l).length<=l.length
 |[]=>Lc _
 |s::r=>by
  have:=bp r;unfold HD;grind
theorem bt {n:Nat}{g:AZ × Bool}(hg:g.1.subs.length<=51):∀(d i c:Nat) (a:List An),d=g.1.subs.length-i->i<=g.1.subs.length->d<c->a.length<=i->MT n g c (a,(i:Int))=some (a++HD (g.1.subs.drop i))
 |0,i,c,a,f,h,j,k=>by
  obtain⟨c,rfl⟩:=sx c;unfold MT;rw[Cw,if_neg (by decide),LH (by omega)];simp[HD]
 |d+1,i,c,a,f,h,j,k=>by
  obtain⟨c,rfl⟩:=sx c;have b:i<g.1.subs.length:=by omega
  unfold MT;rw[Dx b,if_pos rfl,CB b,Zo,DH,Ar,Lj b];unfold HD;by_cases e:g.1.subs[i].rel={ data:= #[] }
  ·rw[decide_eq_true e,if_pos rfl,if_pos e,bt hg d (i+1) c a (by omega) (by omega) (by omega) (by omega)]
  rw[decide_eq_false e,if_neg (by decide),if_neg e,C6 (by simp only[Lo];omega),Zo,bt hg d (i+1) c _ (by omega) (by omega) (by omega) (by simp only[Ld,Lo];omega)];simp
theorem kI {n:Nat}{fs:List Bool}{k:Nat}(e:k<fs.length){x:AX}{g:AZ × Bool}(hg:g.1.subs.length<=51):∀(d i c:Nat) (a:List An),d=g.1.subs.length-i->i<=g.1.subs.length->d<c->0<a.length->a.length+d<=4294967296->
  Ph n fs (k:Int) x g c (a,(i:Int))=some (a++(g.1.subs.drop i).map fun s=>⟨s.type_,x.b,fs[k]⟩)
 |0,i,c,a,h,j,p,f,q=>by
  obtain⟨c,rfl⟩:=sx c;unfold Ph;rw[Cw,if_neg (by decide),LH (by omega),decide_eq_true f];simp[Cy]
 |d+1,i,c,a,h,j,p,f,q=>by
  obtain⟨c,rfl⟩:=sx c;have b:i<g.1.subs.length:=by omega
  unfold Ph;rw[Dx b,if_pos rfl,CB b,Zo,CB e,Zo,C6 (by simp only[Lo];omega),Zo,Ar,kI e hg d (i+1) c _ (by omega) (by omega) (by omega) (by simp only[Ld,Lo];omega) (by simp only[Ld,Lo];omega),Lj b];grind
variable {A:AB->Bool}{K:List AB}{n:Nat}{o:Ae}{r:AB}{rel:ByteArray}{rk:AB->Int}
section
variable {n:Nat}{ts:List AG}(hB:Ed ts)(hn:100000<n)
include hB hn in
theorem kJ {a:ByteArray}{g:AZ × Bool}{fs:List Bool}(hg:g.1.expr.length<=200)(j:fs.length=g.1.expr.length):∀(d i c:Nat) (b:List An),d=g.1.expr.length-i->i<=g.1.expr.length->d<c->b.length<=1000+52*i->Kd n ts a g fs c (b,(i:Int))=some (b++Ft ts a (g.1.expr.drop i) (fs.drop i))
 |0,i,c,b,k,p,q,s=>by
  obtain⟨c,rfl⟩:=sx c;unfold Kd;rw[Cw,if_neg (by decide),LH (by omega)];simp[Ft]
 |d+1,i,c,b,k,p,q,s=>by
  obtain⟨c,rfl⟩:=sx c;have f:i<g.1.expr.length:=by omega
  have e:i<fs.length:=by omega
  have u:=kJ (a:=a) hg j d (i+1) c;unfold Kd;rw[Dx f,if_pos rfl,CB f,Zo,Ar,Lj f,Lj e];show _=some (b++(Gn ts a g.1.expr[i] fs[i]++_));unfold Gn;cases g.1.expr[i].kind==1 with
  |true=>
   rw[if_pos rfl,if_pos rfl,CB e,Zo,C6 (by grind),Zo,u _ (by omega) (by omega) (by omega) (by grind),Lz]
  |false=>
   rw[if_neg NY,if_neg NY];cases g.1.expr[i].kind==2 with
   |true=>
    have v:=(YI hB a g.1.expr[i].a).1;have h:=kI (n:=n) e (x:=g.1.expr[i]) (g:=((CH ts a g.1.expr[i].a).getD Ca,(CH ts a g.1.expr[i].a).isSome)) v _ 0 n (b++[⟨a,g.1.expr[i].a,fs[i]⟩]) rfl (Lf _) (by dsimp only;omega) (by simp) (by simp only[Ld,Lo];omega);have h:Ph n fs (i:Int) g.1.expr[i] ((CH ts a g.1.expr[i].a).getD Ca,(CH ts a g.1.expr[i].a).isSome) n (b++[⟨a,g.1.expr[i].a,fs[i]⟩],0)=_:=h;rw[if_pos rfl,if_pos rfl,KU hB (by omega),Zo,CB e,Zo,C6 (by grind),Zo,h,Zo,LD];unfold Cy;grind
   |false=>
    grind
def PC (ts:List AG)(a:ByteArray)(g:AZ):List An->Prop:=fun l=>(g.expr= []/\l=HD g.subs)\/∃t,Gi t/\g.subs= []/\g.expr=post t/\l=Eg ts a t false
include hB hn in
theorem vY {a:ByteArray}(q:GA ((CH ts a rel).getD Ca)\/(CH ts a rel).getD Ca=Ca):∃l,G5 n ts a rel=some l/\PC ts a ((CH ts a rel).getD Ca) l:=by
 have c:=YI hB a rel;have f:=bt (n:=n) (g:=((CH ts a rel).getD Ca,(CH ts a rel).isSome)) c.1 _ 0 n [] rfl (Lf _) (by have:=c.1;dsimp only;omega) (Lf _);have f:MT n ((CH ts a rel).getD Ca,(CH ts a rel).isSome) n (([]:List An),0)=_:=f;rw[LD,LA] at f;have s:PS ((((CH ts a rel).getD Ca).expr.length:Nat):Int)=some (List.replicate ((CH ts a rel).getD Ca).expr.length false):=by
  have:=c.2.1;unfold PS;rw[ifp,Li]
 unfold G5;rw[KU hB (by omega),Zo,f,Zo];dsimp only;rw[s,Zo];have i:=fun d h=>kJ (a:=a) (fs:=d) hB hn (g:=((CH ts a rel).getD Ca,(CH ts a rel).isSome)) c.2.1 h _ 0 n (HD ((CH ts a rel).getD Ca).subs) rfl (Lf _) (by have:=c.2.1;dsimp only;omega) (by have:=bp ((CH ts a rel).getD Ca).subs;have:=c.1;omega)
 have i:∀d,d.length=((CH ts a rel).getD Ca).expr.length->Kd n ts a ((CH ts a rel).getD Ca,(CH ts a rel).isSome) d n (HD ((CH ts a rel).getD Ca).subs,0)=some (HD ((CH ts a rel).getD Ca).subs++Ft ts a (((CH ts a rel).getD Ca).expr.drop 0) (d.drop 0)):=i;have b:((CH ts a rel).getD Ca).expr= []\/(((CH ts a rel).getD Ca).subs= []/\∃t,Gi t/\((CH ts a rel).getD Ca).expr=post t):=by
  rcases q with h |h
  ·rcases h with⟨h,_⟩ |h
   ·exact .inl h
   exact .inr h
  rw[h];exact .inl rfl
 generalize (CH ts a rel).getD Ca=g at *;generalize (CH ts a rel).isSome=z at *;rcases b with b |⟨p,t,j,b⟩
 ·refine⟨_,?_,.inl ⟨b,rfl⟩⟩;have e:Hi n (g,z) n (List.replicate g.expr.length false,0)=some []:=by
   obtain⟨n,rfl⟩:=sx n;unfold Hi;dsimp only;rw[b];rfl
  rw[e,Zo,i [] (by rw[b];rfl),Zo,b];simp[Ft]
 refine⟨_,?_,.inr ⟨t,j,p,b,rfl⟩⟩;have hl:=c.2.1;rw[b] at hl;have e:=bk (n:=n) (g:=(g,z)) hn c.2.1 t [] [] [] [] n j (by simp[b]) rfl (by omega);have e:Hi n (g,z) n ([]++List.replicate (post t).length false++[],0)=_:=e;rw[LA,Ns,LA,Ns,LB,Ny] at e;have u:Hi n (g,z) (n-(post t).length) (G1 t false,((post t).length:Int))=some (G1 t false):=by
  obtain⟨k,v⟩:∃k,n-(post t).length=k+1:=⟨n-(post t).length-1,by omega⟩;rw[v];unfold Hi;dsimp only;grind
 rw[b,e,u,Zo,i _ (by rw[MF,b]),Zo,p,b,LD,LD,bn ts a t false j];rfl
end
def Cs (ts:List AG):List Ai:=ts.flatMap fun t=>t.rels.map fun g=>⟨t.name,g.name⟩
theorem kK {n:Nat}{ts:List AG}{i:Nat}(b:i<ts.length)(f:ts[i].rels.length<=200):∀(d k c:Nat) (a:List Ai),d=ts[i].rels.length-k->k<=ts[i].rels.length->d<c->a.length<=1000000+k->TW n ts (i:Int) c (a,(k:Int))=some (a++(ts[i].rels.drop k).map fun g=>⟨ts[i].name,g.name⟩)
 |0,k,c,a,h,j,p,q=>by
  obtain⟨c,rfl⟩:=sx c;unfold TW;rw[CB b,Zo,Cw,if_neg (by decide),LH (by omega)];simp
 |d+1,k,c,a,h,j,p,q=>by
  obtain⟨c,rfl⟩:=sx c;have e:k<ts[i].rels.length:=by omega
  unfold TW;rw[CB b,Zo,Dx e,if_pos rfl,CB e,Zo,C6 (by simp only[Lo];omega),Zo,Ar,kK b f d (k+1) c _ (by omega) (by omega) (by omega) (by simp only[Ld,Lo];omega),Lj e];simp only[Lh,Lz,LU,LA]
theorem kL {n:Nat}{ts:List AG}(hB:Ed ts)(hn:1000<n):∀(d i c:Nat) (a:List Ai),d=ts.length-i->i<=ts.length->d<c->a.length<=200*i->TX n ts c (a,(i:Int))=some (a++Cs (ts.drop i))
 |0,i,c,a,f,g,h,j=>by
  obtain⟨c,rfl⟩:=sx c;unfold TX;rw[Cw,if_neg (by decide),LH (by omega)];simp[Cs]
 |d+1,i,c,a,f,g,h,j=>by
  obtain⟨c,rfl⟩:=sx c;have b:i<ts.length:=by omega
  have p:=hB.1;have k:=(hB.2 _ (LN b)).1;have e:=kK (n:=n) b k _ 0 n a rfl (Lf _) (by omega) (by omega);have e:TW n ts (i:Int) n (a,0)=_:=e;unfold TX;rw[Dx b,if_pos rfl,e,Zo,Ar,kL hB hn d (i+1) c _ (by omega) (by omega) (by omega) (by grind),Lj b];unfold Cs;grind
theorem vZ {ts:List AG}(hB:Ed ts)(hn:1000<n):TY n ts=some (Cs ts):=by
 have a:=kL (n:=n) hB hn _ 0 n [] rfl (Lf _) (by have:=hB.1;omega) (Lf _);have a:TX n ts n (([]:List Ai),0)=_:=a;unfold TY;rw[a];rfl
def nm (x:Ai):AA:=⟨x.t,x.rel⟩
def wn (w:An):AA:=⟨w.type_,w.rel⟩
def wl (w:An):Int:=if w.less then 1 else 0
theorem kA:∀(R:List Int) (i:Nat) (v:Int) (h:i<R.length),(R.set i v).sum=R.sum-R[i]+v
 |[],_,_,h=>absurd h (LZ _)
 |x::R,0,v,_=>by
  grind
 |x::R,i+1,v,h=>by
  have:=kA R i v (Nat.lt_of_succ_lt_succ h);grind
theorem kB {L:Int}:∀(R:List Int),(∀x∈R,x<=L)->R.sum<=(R.length:Int)*L
 |[],_=>by simp
 |x::R,h=>by
  have b:=h x (Lp ..)
  have:=kB R fun y a=>h y (Lk _ a)
  rw[BD,Ll,OO,Int.add_mul];omega
def Fs (N:List Ai)(K:AA->Int)(R:List Int):Prop:=R.length=N.length/\∀(j:Nat) (a:j<R.length) (b:j<N.length),0<=R[j]/\R[j]<=K (nm N[j])
def FU (R:List Int)(b:Bool)(a:List Int)(c:Bool):Prop:=(c=true->b=true/\a=R)/\R.sum<=a.sum/\(c=false->b=true->R.sum<a.sum)
theorem FU.rfl' {R:List Int}{a:Bool}:FU R a R a:=⟨fun h=>⟨h,rfl⟩,Bu _,fun c b=>by rw[c] at b;cases b⟩
theorem FU.trans {R i j:List Int}{s g k:Bool}(e:FU R s i g)(f:FU i g j k):FU R s j k:=by
 refine⟨fun h=> ?_,NC e.2.1 f.2.1,fun a b=> ?_⟩
 ·have⟨a,b⟩:=f.1 h;have⟨c,d⟩:=e.1 a;exact⟨c,b.trans d⟩
 cases p:g with
 |true=>exact Int.lt_of_le_of_lt e.2.1 (f.2.2 a p)
 |false=>exact Int.lt_of_lt_of_le (e.2.2 p b) f.2.1
def YK (N:List Ai)(R:List Int)(i:Nat)(w:An):Prop:=∀(z:Nat) (a:z<R.length) (b:z<N.length) (c:i<R.length),nm N[z]=wn w->R[z]+wl w<=R[i]
section
variable {N:List Ai}{K:AA->Int}(hL:N.length<=40200)(hK:∀m,K m<=(N.length:Int))
include hL hK in
theorem M8 {n i k:Nat}{a:List An}(u:i<N.length)(F:k<a.length)(hg:∀(z:Nat) (v:z<N.length),nm N[z]=wn a[k]->K (wn a[k])+wl a[k]<=K (nm N[i])):∀(d j c:Nat) (R:List Int) (g:Bool),d=N.length-j->j<=N.length->d<c->Fs N K R->
  ∃b p,Pi n N (i:Int) a (k:Int) c (R,g,(j:Int))=some (.inl (b,p))/\Fs N K b/\FU R g b p/\(p=true->∀(z:Nat) (v:z<b.length) (B:z<N.length) (u:i<b.length),j<=z->nm N[z]=wn a[k]->b[z]+wl a[k]<=b[i])
 |0,j,c,R,g,Q,T,U,f=>by
  obtain⟨c,rfl⟩:=sx c;refine⟨R,g,?_,f,FU.rfl',fun _ z _ _ _ _=>by omega⟩;unfold Pi;rw[Cw,if_neg (by decide)]
 |d+1,j,c,R,g,Q,T,U,f=>by
  obtain⟨c,rfl⟩:=sx c;have s:j<N.length:=by omega
  have J:j<R.length:=by rw[f.1];exact s
  have G:i<R.length:=by rw[f.1];exact u
  have b1:=f.2 j J s;have b2:=f.2 i G u;have b3:=hK (nm N[j]);have b4:=hK (nm N[i]);have H:=fun R g=>M8 (n:=n) u F hg d (j+1) c R g (by omega) (by omega) (by omega)
  have V:((idx N (j:Int)).bind fun L=>(idx a (k:Int)).bind fun M=>(if (L.t.toList==M.type_.toList) then some (!(L.rel.toList==M.rel.toList)) else some true):Option Bool)=some (!decide (nm N[j]=wn a[k])):=by
   rw[CB s,Zo,CB F,Zo,DH,DH];unfold nm wn;by_cases X:N[j].t=a[k].type_<;>by_cases Y:N[j].rel=a[k].rel<;>simp[X,Y]
  have hv:((if a[k].less then some (i64.wrap (R[j]+1)) else some R[j]):Option Int)=some (R[j]+wl a[k]):=by
   unfold wl;split
   ·rw[IntWalk.i64_in _ (by omega)]
   rw[Int.add_zero]
  unfold Pi;rw[Dx s,if_pos rfl,V,Zo,Ar];by_cases e:nm N[j]=wn a[k];rotate_left
  ·rw[decide_eq_false e,if_pos (by rfl)];have⟨b,p,C,E,q,I⟩:=H R g f;grind
  have Z:=hg j s e;rw[<-e] at Z;rw[decide_eq_true e,if_neg (by decide),CB J,Zo,CB F,Zo,hv,Zo,CB G,Zo,Zo,Li];have aa:decide ((N.length:Int)<R[j]+wl a[k])=false:=DE;rw[aa];simp only[Nb,if_false];by_cases O:R[i]<R[j]+wl a[k]
  ·rw[decide_eq_true O,if_pos rfl];have ab:Fs N K (R.set i (R[j]+wl a[k])):=by
    refine⟨by rw[NS];exact f.1,fun z v B=> ?_⟩;rw[IC];split
    ·grind
    exact f.2 z _ B
   have⟨b,p,C,E,q,I⟩:=H _ false ab;have hs:=kA R i (R[j]+wl a[k]) G;refine⟨b,p,C,E,⟨fun h=> ?_,by have:=q.2.1;omega,fun _ _=>by have:=q.2.1;omega⟩,fun h=> ?_⟩
   ·have:=(q.1 h).1;cases this
   have:=(q.1 h).1;cases this
  rw[decide_eq_false O];simp only[Nb,if_false];have⟨b,p,C,E,q,I⟩:=H R g f;refine⟨b,p,C,E,q,fun h z v B ad ak ag=> ?_⟩;rcases Nt j z with P |P
  ·exact I h z v B ad P ag
  have:z=j:=by omega
  subst this;obtain⟨_,rfl⟩:=q.1 h;omega
include hL hK in
theorem M9 {n i:Nat}{e:List An}(hn:100000<n)(u:i<N.length)(hg:∀w∈e,∀(z:Nat) (v:z<N.length),nm N[z]=wn w->K (wn w)+wl w<=K (nm N[i])):∀(d k c:Nat) (R:List Int) (f:Bool),d=e.length-k->k<=e.length->d<c->e.length<1000000->Fs N K R->
  ∃g j,TZ n N (i:Int) e c (R,f,(k:Int))=some (.inl (g,j))/\Fs N K g/\FU R f g j/\(j=true->∀w∈e.drop k,YK N g i w)
 |0,k,c,R,f,C,E,F,b,q=>by
  obtain⟨c,rfl⟩:=sx c;refine⟨R,f,?_,q,FU.rfl',fun _ w b=>by rw[LH (by omega)] at b;cases b⟩;unfold TZ;rw[Cw,if_neg (by decide)]
 |d+1,k,c,R,f,C,E,F,b,q=>by
  obtain⟨c,rfl⟩:=sx c;have p:k<e.length:=by omega
  have⟨G,H,s,I,J,L⟩:=M8 (n:=n) hL hK u p (hg _ (LN p)) _ 0 n R f rfl (Lf _) (by omega) q;have s:Pi n N (i:Int) e (k:Int) n (R,f,0)=_:=s;have⟨g,j,M,O,B,P⟩:=M9 hn u hg d (k+1) c G H (by omega) (by omega) (by omega) b I;refine⟨g,j,?_,O,J.trans B,fun h w b=> ?_⟩
  ·unfold TZ;rw[Dx p,if_pos rfl,s,Zo];dsimp only;rw[Ar,M]
  rw[Lj p] at b;rcases Lv.1 b with rfl |b
  ·obtain⟨a,rfl⟩:=B.1 h;exact fun z v Q T U=>L a z v Q T (Lf _) U
  exact P h w b
variable {n:Nat}{ts:List AG}{Wf:AA->List An}(hW:∀x∈N,G5 n ts x.t x.rel=some (Wf (nm x))/\(Wf (nm x)).length<=20000)(hg:∀x∈N,∀w∈Wf (nm x),(∃y∈N,nm y=wn w)->K (wn w)+wl w<=K (nm x))(hn:2000000000<n)
include hL hK hW hg hn in
theorem PB:∀(d i c:Nat) (R:List Int) (b:Bool),d=N.length-i->i<=N.length->d<c->Fs N K R->
  ∃f g,Ta n ts N c (R,b,(i:Int))=some (.inl (f,g))/\Fs N K f/\FU R b f g/\(g=true->∀(y:Nat) (k:y<N.length),i<=y->∀w∈Wf (nm N[y]),YK N f y w)
 |0,i,c,R,b,B,C,E,p=>by
  obtain⟨c,rfl⟩:=sx c;refine⟨R,b,?_,p,FU.rfl',fun _ y k _=>by omega⟩;unfold Ta;rw[Cw,if_neg (by decide)]
 |d+1,i,c,R,b,B,C,E,p=>by
  obtain⟨c,rfl⟩:=sx c;have j:i<N.length:=by omega
  have⟨F,Q⟩:=hW _ (LN j);have⟨G,H,q,I,J,T⟩:=M9 (n:=n) hL hK (by omega) j (fun w s z L e=>hg _ (LN j) w s ⟨_,LN L,e⟩) _ 0 n R b rfl (Lf _) (by omega) (by omega) p;have q:TZ n N (i:Int) (Wf (nm N[i])) n (R,b,0)=_:=q;have⟨f,g,M,O,u,P⟩:=PB d (i+1) c G H (by omega) (by omega) (by omega) I;refine⟨f,g,?_,O,J.trans u,fun h y k U w s=> ?_⟩
  ·unfold Ta;rw[Dx j,if_pos rfl,CB j,Zo,F,Zo,q,Zo];dsimp only;rw[Ar,M]
  rcases Nt i y with v |v
  ·exact P h y k v w s
  have:y=i:=by omega
  subst this;obtain⟨a,rfl⟩:=u.1 h;grind
include hL hK hW hg hn in
theorem VN:∀(d t c:Nat) (R:List Int),d=N.length*N.length+1-t->d<c->Fs N K R->(t:Int)<=R.sum->
  ∃b,WB n ts N c (R,(t:Int))=some (.inr (N,b,true))/\Fs N K b/\∀(y:Nat) (C:y<N.length),∀w∈Wf (nm N[y]),YK N b y w:=by
 intro d;induction d with
 |zero=>
  intro t c R g h a i;exfalso;have k:=kB (L:=(N.length:Int)) R fun x p=>by
   obtain⟨j,f,rfl⟩:=Bs.1 p;exact NC (a.2 j f (by rw[<-a.1];exact f)).2 (hK _)
  rw[a.1,<-OL] at k;omega
 |succ d q=>
  intro t c R g h a i;obtain⟨c,rfl⟩:=sx c;have E:N.length*N.length<=40200*40200:=Bg hL hL;have⟨s,u,e,v,z,F⟩:=PB hL hK hW hg hn _ 0 n R true rfl (Lf _) (by omega) a;have e:Ta n ts N n (R,true,0)=_:=e;have B:decide ((t:Int)<=(i64.wrap ((i64.wrap ((N.length:Int)*(N.length:Int)))+1)))=true:=by
   rw[<-OL,Hl,Ar];exact DB
  unfold WB;rw[B,if_pos rfl,e,Zo];dsimp only;cases u with
  |true=>grind
  |false=>
   have:=z.2.2 rfl rfl;rw[if_neg (by decide),Ar];exact q (t+1) c s (by omega) (by omega) v (by omega)
include hL hK hW hg hn in
theorem vV (b:TY n ts=some N)(c:∀m,0<=K m):∃R,RP n ts=some (N,R,true)/\Fs N K R/\∀(y:Nat) (d:y<N.length),∀w∈Wf (nm N[y]),YK N R y w:=by
 have e:N.length*N.length<=40200*40200:=Bg hL hL;have f:Vq (N.length:Int)=some (List.replicate N.length 0):=by
  unfold Vq;rw[ifp,Li]
 have a:Fs N K (List.replicate N.length 0):=⟨NH,fun j g h=>by grind⟩;have⟨R,i,k,p⟩:=VN hL hK hW hg hn _ 0 n _ rfl (by omega) a (by simp);grind [WB,RP,Zo]
end
theorem y8 {G:AI}{s:AL}{U:List AB}{D:AB->List AB}{nwB:(AB->Bool)->AB->Bool}(hU:U.Nodup)(hl:U.length<=1000000)(c:(⟨o,rel⟩:AB)∈U)(Y:∀r∈U,JC n G r=some (rk r,D r))(hD:∀r∈U,∀d∈D r,d∈U)(ht:total D U<=1000000000)(hn:2000000000<n)
  (J:FZ U D rk nwB) (Z:∀r∈U,0<=rk r) (aa:∀(K:List AB) (S:AB->Bool) (N:List PN),(∀r∈K,r∈U)->N.map (·.k)=K->(∀p∈N,p.deps=D p.k/\p.is=S p.k)->(∀r∈K,∀d∈D r,d∈K)->∀r∈K,FH n G s N r=some (nwB S r)):
  ∃(K:List AB) (S:AB->Bool),Gj n G o rel s=some (S ⟨o,rel⟩)/\(⟨o,rel⟩:AB)∈K/\(∀r∈K,r∈U)/\(∀r∈K,∀d∈D r,d∈K)/\D4 K rk nwB S:=by
 have ak:Ma D U []<=total D U:=by
  unfold Ma total;rw[show(U.filter fun r=>decide (r∉([]:List PN).map (·.k)))=U from B0.2 fun _ _=>by simp];exact Lc _
 obtain⟨K,k1,E,i,_,z,j,_⟩:=ZL (nd:=JC n G) hU (by omega) Y hD n [] [⟨o,rel⟩] NV (fun _ h=>nomatch h) (fun r h=>by rw[Lr.1 h];exact c) (by simp only[Lo,Lu];omega) (by simp only[Lo,Lu];omega);have j:=j fun _ h=>nomatch h;have z:=z _ (Lr.2 rfl)
 have B:(K.map (mkP rk D)).map (·.k)=K:=by simp[mkP,NO]
 have ab:=Lq (dj (D:=D) E i) ht;have e2:FY K (K.map (mkP rk D))=some (addL (wh_ D K) (K.map (mkP rk D))):=di D K _ (by rw[B];exact fun _ h=>h) (fun p e=>by
  obtain⟨r,c,rfl⟩:=LL.1 e;rw[B];exact⟨rfl,j r c⟩) fun p e=>by
  obtain⟨r,c,rfl⟩:=LL.1 e;simp only[mkP,LB];omega
 obtain⟨P,L⟩:∃P,P=addL (wh_ D K) (K.map (mkP rk D)):=⟨_,rfl⟩;have g:P.map (·.k)=K:=by rw[L,ZM,B]
 have C:∀p∈P,p.k∈K/\p=⟨p.k,rk p.k,D p.k,wh_ D K p.k,false⟩:=fun p e=>by
  rw[L] at e;obtain⟨q,M,rfl⟩:=LL.1 e;obtain⟨r,c,rfl⟩:=LL.1 M;exact⟨c,rfl⟩
 have ad:P=FP (fun _=>false) P:=by
  unfold FP;refine((Np fun p e=> ?_).trans (Iw _)).symm
  have:=(C p e).2;rw[this];rfl
 have ao:K.length<=1000000:=Lq (Wa E i) hl;have V:∀r∈K,Po P r=rk r:=fun r c=>by
  obtain⟨p,e⟩:=JY (N:=P) (r:=r) (by rw[g];exact c);obtain⟨u,v⟩:=JF e;unfold Po;rw[e]
  have:=(C p u).2;rw[this];exact congrArg rk v
 obtain⟨O,o1,X,o3⟩:=o5 (F:=n) (od (Po P)) K (by omega) (by omega);have H:∀r∈O,r∈K:=fun r c=>X.mem_iff.1 c;have o4:O.Pairwise fun a b=>rk a<=rk b:=List.Pairwise.imp_of_mem (fun{a b} ha Q h=>by rw[V a (H a ha),V b (H b Q)] at h;exact h) o3;have ag:FZ (P.map (·.k)) D rk nwB:=by
  rw[g];exact⟨fun S T r c=>J.loc S T r (i r c),fun S T r c=>J.mono S T r (i r c),fun r c=>J.rkD r (i r c),j⟩
 have aq:EH P (fun _=>false)<=1000000000:=by
  unfold EH;rw[show(P.filter fun p=> !(fun _=>false) p.k)=P from B0.2 fun p _=>rfl];have u:(P.map fun p=>p.above.length)=K.map fun x=>(wh_ D K x).length:=by
   rw[<-g,Ba];refine Np fun p e=> ?_
   have:=(C p e).2;simp only[Function.comp];rw[g];exact congrArg (fun q:PN=>q.above.length) this
  rw[u];exact Lq (du E) ab
 obtain⟨S,k,r1,I⟩:=oa (f:=n) ag (by rw[g];exact E) (fun p e=>by
  obtain⟨u,v⟩:=C p e;refine⟨by rw[v],fun x=> ?_⟩;rw[v,g];exact oX) (fun S r c=>by
  rw[g] at c;refine aa K S _ i (by rw[FP,Ba];exact g) (fun p e=> ?_) j r c;obtain⟨q,M,rfl⟩:=LL.1 e;refine⟨?_,rfl⟩
  have:=(C q M).2;exact congrArg PN.deps this) O (fun _=>false) [] 0 (fun r c=>by rw[g];exact⟨H r c,Z r (i r (H r c))⟩) o4 (by omega) (by omega) ⟨fun _ _ h=>(by cases h),fun _ h=>(nomatch h),fun _ _ h=>(by cases h),fun _ _ _ _ _ _ _ h=>(by cases h),fun _ h=>(nomatch h)⟩
 rw[g,LA] at I;refine⟨K,S,?_,z,i,j,?_⟩
 ·unfold Gj;rw[show([]:List PN)=([]:List AB).map (mkP rk D) from rfl,k1,Zo,B,e2,Zo,<-L];unfold Hu;rw[Lt,ifp,B,o1,Zo];rw[ad,r1,Zo,if_neg (by
   cases K with |nil=>cases z |cons _ _=>simp),Rp]
  obtain⟨p,e⟩:=JY (N:=P) (r:=⟨o,rel⟩) (by rw[g];exact z);rw[e];show some (S p.k)=_;rw[(JF e).2]
 refine⟨fun r c=> ?_,I.d⟩;have u:=I.a r c;have v:=I.b r (X.mem_iff.2 c);cases hs:S r with
 |true=>rw[u hs]
 |false=>
  cases Q:nwB S r with
  |false=>rfl
  |true=>
   rcases v Q with h |⟨h,_⟩
   ·rw[hs] at h;cases h
   cases h
def Ya (k:Int)(a b:Bool):Bool:=if k==3 then a||b else if k==5 then a&&b else a&& !b
def Hb (T:AB->Bool)(l:List AC)(o:Ae):List AX->List Bool->Bool
 |[],a=>a.length==1&&a.getD 0 false
 |x::b,a=>if x.kind==1||x.kind==2 then Hb T l o b (a++[(Ez l o x).any T]) else if a.length<2 then false else Hb T l o b (a.take (a.length-2)++[Ya x.kind (a.getD (a.length-2) false) (a.getD (a.length-1) false)])
def nwB (sc:AD)(l:List AC)(s:AL)(T:AB->Bool)(r:AB):Bool:=if (qf_ (⟨r.obj.type_,r.rel⟩:AA) Ca sc.rels).expr= [] then decide (s∈EX (tO.ofL l) r.obj r.rel)||(Dn sc l r).any T else Hb T l r.obj (qf_ (⟨r.obj.type_,r.rel⟩:AA) Ca sc.rels).expr []
theorem mA {N:List PN}{D:AB->List AB}{S:AB->Bool}(a:∀p∈N,p.deps=D p.k/\p.is=S p.k){l:List AB}(hl:∀d∈l,(DJ d N).isSome=true):(l.any fun d=>((DJ d N).map (·.is)).getD false)=l.any S:=by
 rw[LY,Nq,Nq];grind [DJ,Option.isSome_iff_exists,JF]
section
variable {n:Nat}{sc:AD}{l r0:List AC}(hl:l.length<=10000)(hn:1000000<n)
include hl hn in
theorem cW {o:Ae}{N:List PN}{D:AB->List AB}{S:AB->Bool}(f:∀p∈N,p.deps=D p.k/\p.is=S p.k):∀(a:List AX) (b:List Bool),(∀d∈F8 l o a,(DJ d N).isSome=true)->b.length+a.length<=1000->Ht n ⟨sc,EA l,r0⟩ o N a b=some (Hb S l o a b)
 |[],b,_,_=>rfl
 |x::a,b,g,j=>by
  simp only[Ll] at j;have k:∀d∈Ez l o x,(DJ d N).isSome=true:=fun d h=>g d (L8 _ h);have i:∀d∈F8 l o a,(DJ d N).isSome=true:=fun d h=>g d (Na _ h);unfold Ht Ts Hb;by_cases c:(x.kind==1||x.kind==2)=true
  ·rw[if_pos c,if_pos c,lX hl hn o x c,Zo,if_pos]
   ·rw[Zo,mA f k];exact cW f a _ i (by grind)
   have q:(Ez l o x).length<=10001:=by
    have:=YX l o x;unfold Ez;split
    ·simp
    split
    ·omega
    simp
   grind
  rw[if_neg c,if_neg c];by_cases e:b.length<2
  ·rw[if_pos e,if_pos e];rfl
  rw[if_neg e,if_neg e,Zo];exact cW f a _ i (by grind)
include hl hn in
theorem Q0 (i:GY sc){s:AL}{N:List PN}{S:AB->Bool}(e:∀p∈N,p.deps=Dn sc l p.k/\p.is=S p.k)(j:(DJ r N).isSome=true)(f:∀d∈Dn sc l r,(DJ d N).isSome=true):FH n ⟨sc,EA l,r0⟩ s N r=some (nwB sc l s S r):=by
 have v:=(G6 i ⟨r.obj.type_,r.rel⟩).2.1;have z:=KT l r.obj r.rel;have⟨x,g⟩:=NG.1 j;have⟨k,q⟩:=JF g;have u:x.deps=Dn sc l r:=by rw[(e x k).1,q]
 unfold FH nwB;rw[Hy,Zo];dsimp only;cases c:(qf_ (⟨r.obj.type_,r.rel⟩:AA) Ca sc.rels).expr.isEmpty with
 |true=>
  have a:=Oj.1 c;have B:(Dn sc l r).length<=10000:=by
   unfold Dn;rw[if_pos a];unfold G3;rw[Lt];exact Lq (LM _ _) (by omega)
  rw[if_pos rfl,if_pos a];unfold KC;rw[Hy,Zo];dsimp only;rw[c,if_pos rfl,YW (by omega),Zo,cH (by omega) (by omega),Zo,g,Zo,u,if_pos]
  ·exact congrArg (fun b=>some (_||b)) (mA e f)
  grind
 |false=>
  have a:(qf_ (⟨r.obj.type_,r.rel⟩:AA) Ca sc.rels).expr≠[]:=fun h=>by rw[h] at c;cases c
  rw[if_neg (by decide),ifp,if_neg a];refine cW hl hn e _ [] (fun d h=>f d ?_) (by simp only[LB];omega);unfold Dn;rw[if_neg a];exact h
end
section
variable {sc:AD}{l:List AC}{o:Ae}{rk:AA->Int}{R:Int}
def Ei (d:AB):AA:=⟨d.obj.type_,d.rel⟩
def QW (rk:AA->Int)(R:Int)(a:List AN):Prop:=∀w∈a,rk w.to+w.taken<=R
def Q1 (rk:AA->Int)(R:Int)(a:List AN):Prop:=∀w∈a,rk w.to<R
inductive TF (rk:AA->Int) (R:Int):List (List AN)->List Bool->List Bool->Prop
 |nil:TF rk R [] [] []
 |snoc {W a b w x y}:TF rk R W a b->(∀v∈w,v.taken=0\/v.taken=1)->(QW rk R w->x=true->y=true)->(Q1 rk R w->x=y)->TF rk R (W++[w]) (a++[x]) (b++[y])
theorem TF.len {W:List (List AN)}{a b:List Bool}(h:TF rk R W a b):W.length=a.length/\a.length=b.length:=by
 induction h with
 |nil=>exact⟨rfl,rfl⟩
 |snoc _ _ _ _ c=>grind
theorem IX {α:Type}(A:List α)(x y d:α):(A++[x]++[y]).take ((A++[x]++[y]).length-2)=A/\(A++[x]++[y]).getD ((A++[x]++[y]).length-2) d=x/\(A++[x]++[y]).getD ((A++[x]++[y]).length-1) d=y:=by
 simp
theorem Vd {x:AX}{w:List AN}(b:∀v∈w,v.taken=0\/v.taken=1)(h:QW rk R (w.map (DM x))):QW rk R w/\(x.kind=4->Q1 rk R w):=by
 constructor
 ·intro v a
  have:=h _ (LG a);grind [DM]
 intro c v a
 have:=h _ (LG a);unfold DM at this;grind
theorem Ve {x:AX}{w:List AN}(h:Q1 rk R (w.map (DM x))):Q1 rk R w:=fun v a=>by
 have:=h _ (LG a);unfold DM at this;split at this<;>exact this
def cX (sc:AD)(l:List AC)(o:Ae)(x:AX):Prop:=∀d∈Ez l o x,∃w∈Fh sc o.type_ x,w.to=Ei d
theorem cY {S T:AB->Bool}:∀(ex:List AX) {W:List (List AN)} {a b:List Bool},Kc ex->(∀x∈ex,cX sc l o x)->TF rk R W a b->QW rk R (ex.foldl (Db sc o.type_) W).flatten->
  (∀d∈F8 l o ex,(rk (Ei d)<R->S d=T d)/\(rk (Ei d)<=R->S d=true->T d=true))->Hb S l o ex a=true->Hb T l o ex b=true
 |[],W,a,b,_,_,hs,hq,_,h=>by
  obtain⟨h1,h2⟩:=hs.len;unfold Hb at h⊢;rw[Lm,beq_iff_eq] at h⊢;obtain⟨h3,h4⟩:=h;refine⟨by omega,?_⟩;cases hs with
  |nil=>simp at h3
  | @snoc W' a' b' w x y hs _ hm he=>
   simp_all
 |x::ex,W,a,b,hk,hl,hs,hq,hd,h=>by
  have hk2:Kc ex:=fun y hy=>hk y (Lk _ hy);have hl2:∀y∈ex,cX sc l o y:=fun y hy=>hl y (Lk _ hy);have hd2:∀d∈F8 l o ex,(rk (Ei d)<R->S d=T d)/\(rk (Ei d)<=R->S d=true->T d=true):=fun d h=>hd d (Na _ h)
  have hd1:∀d∈Ez l o x,(rk (Ei d)<R->S d=T d)/\(rk (Ei d)<=R->S d=true->T d=true):=fun d h=>hd d (L8 _ h);obtain⟨l1,l2⟩:=hs.len;rw[Bm] at hq;unfold Hb at h⊢;unfold Db at hq;by_cases hx:(x.kind==1||x.kind==2)=true
  ·rw[if_pos hx] at h hq⊢;have hlf:=hl x (Lp ..);refine cY ex hk2 hl2 (hs.snoc (fun v hv=>.inl ?_) (fun q1 h1=> ?_) fun q1=> ?_) hq hd2 h
   ·unfold Fh at hv;grind
   ·rw[Nq] at h1⊢;obtain⟨d,e1,e2⟩:=h1;obtain⟨w,w1,w2⟩:=hlf d e1;refine⟨d,e1,(hd1 d e1).2 ?_ e2⟩;have h3:=q1 w w1;have h4:w.taken=0:=by
     unfold Fh at w1;split at w1
     ·rw[Lr.1 w1]
     grind
    rw[w2,h4] at h3;omega
   rw[LY,Nq,Nq];have key:∀d∈Ez l o x,S d=T d:=fun d e1=>by
    obtain⟨w,w1,w2⟩:=hlf d e1;exact(hd1 d e1).1 (by rw[<-w2];exact q1 w w1)
   grind
  rw[if_neg hx] at h hq⊢;by_cases h2:a.length<2
  ·rw[if_pos h2] at h;cases h
  rw[if_neg h2] at h;rw[ifn];rw[ifp] at hq;cases hs with
  |nil=>simp at h2
  | @snoc _ _ _ w2 x2 y2 hs k2 m2 e2=>
   cases hs with
   |nil=>simp at h2
   | @snoc W0 a0 b0 w1 x1 y1 hs k1 m1 e1=>
    rw[(IX W0 w1 w2 []).1,(IX W0 w1 w2 []).2.1,(IX W0 w1 w2 []).2.2] at hq;rw[(IX a0 x1 x2 false).1,(IX a0 x1 x2 false).2.1,(IX a0 x1 x2 false).2.2] at h;rw[(IX b0 y1 y2 false).1,(IX b0 y1 y2 false).2.1,(IX b0 y1 y2 false).2.2];refine cY ex hk2 hl2 (hs.snoc (fun v hv=> ?_) (fun q1 h1=> ?_) fun q1=> ?_) hq hd2 h
    ·rcases Lw.1 hv with hv |hv
     ·exact k1 v hv
     obtain⟨u,hu,rfl⟩:=LL.1 hv;unfold DM;grind
    ·have qa:QW rk R w1:=fun v hv=>q1 v (L8 _ hv)
     obtain⟨qb,qc⟩:=Vd k2 fun v hv=>q1 v (Na _ hv);have i1:=m1 qa;have i2:=m2 qb;unfold Ya at h1⊢;rcases hk x (Lp ..) with e |e |e |e |e
     ·rw[e] at hx;simp at hx
     ·rw[e] at hx;simp at hx
     ·grind
     ·grind
     grind
    rw[e1 fun v hv=>q1 v (L8 _ hv),e2 (Ve fun v hv=>q1 v (Na _ hv))]
end
theorem cV {sc:AD}{a:ByteArray}:∀(c:List AX) (W:List (List AN)) (w:AN),w∈W.flatten\/(∃x∈c,(x.kind==1||x.kind==2)=true/\w∈Fh sc a x)->∃v∈(c.foldl (Db sc a) W).flatten,v.to=w.to
 |[],W,w,h=>by
  grind
 |x::c,W,w,h=>by
  rw[Bm];have j:(∃v∈(Db sc a W x).flatten,v.to=w.to)\/∃y∈c,(y.kind==1||y.kind==2)=true/\w∈Fh sc a y:=by
   rcases h with h |⟨y,g,d,i⟩
   ·refine .inl ?_;unfold Db;split
    ·grind
    split
    ·rename_i hl;obtain⟨A,f,b,rfl⟩:∃A f b,W=A++[f]++[b]:=by
      obtain⟨B,b,rfl⟩:∃B b,W=B++[b]:=⟨W.dropLast,W.getLast (by intro e;rw[e] at hl;simp at hl),(Bi _).symm⟩;rw[Ld,Lo] at hl;exact⟨B.dropLast,B.getLast (by intro e;rw[e] at hl;simp at hl),b,by rw[Bi]⟩
     rw[(IX A f b []).1,(IX A f b []).2.1,(IX A f b []).2.2];simp only[BZ,List.flatten_cons,List.flatten_nil,Ns,Lw] at h⊢;rcases h with(h |h) |h
     ·exact⟨w,.inl h,rfl⟩
     ·exact⟨w,.inr (.inl h),rfl⟩
     grind [DM,List.mem_map_of_mem]
    exact⟨w,h,rfl⟩
   rcases Lv.1 g with rfl |g
   ·refine .inl ⟨w,?_,rfl⟩;simp_all [Db,if_pos,BZ,Na]
   exact .inr ⟨y,g,d,i⟩
  rcases j with⟨v,d,i⟩ |d
  ·obtain⟨u,k,p⟩:=cV c _ v (.inl d);exact⟨u,k,p.trans i⟩
  exact cV c _ w (.inr d)
theorem ln {S T:AB->Bool}{l:List AC}{o:Ae}:∀(a:List AX) (b:List Bool),(∀d∈F8 l o a,S d=T d)->Hb S l o a b=Hb T l o a b
 |[],_,_=>rfl
 |x::a,b,h=>by
  have j:(Ez l o x).any S=(Ez l o x).any T:=by
   rw[LY,Nq,Nq];have g:∀d∈Ez l o x,S d=T d:=fun d e=>h d (L8 _ e);exact⟨fun⟨d,c,f⟩=>⟨d,c,by rw[<-g d c];exact f⟩,fun⟨d,c,f⟩=>⟨d,c,by rw[g d c];exact f⟩⟩
  have i:=fun b=>ln a b fun d e=>h d (Na _ e);unfold Hb;rw[j,i,i]
section
variable {ts:List AG}{S:AD}(hW:Dh ts S)(hB:Ed ts){l:List AC}(hfit:∀t∈l,Et S t)
def D2 (S:AD)(r:AB):Int:=Cp S.ranks (Ei r)
include hfit in
theorem lu (o:Ae)(x:AX):cX S l o x:=by
 intro d a;unfold Ez at a;unfold Fh;split at a
 ·rename_i b;rw[Lr.1 a,if_pos b];exact⟨_,Lr.2 rfl,rfl⟩
 rename_i b;split at a
 ·unfold Qz at a;obtain⟨s,e,rfl⟩:=LL.1 a;have⟨u,f,g,h,i⟩:=Va.1 e;have c:=hfit u f;unfold Et at c;rw[g,h,i] at c;rw[if_neg b];exact⟨_,LG c,rfl⟩
 cases a
include hW in
theorem lv (a:Ay (Ei r) S.rels=true):QW (Cp S.ranks) (D2 S r) (ET S (Ei r)):=by
 rw[Kr,hW.rels,Mi] at a;exact fun w b=>hW.rk _ a w b
include hW hfit in
theorem lz {d:AB}(q:Ay (Ei r) S.rels=true)(b:d∈Dn S l r):D2 S d<=D2 S r:=by
 have z:=lv hW q;have B:∃v∈ET S (Ei r),v.to=Ei d:=by
  unfold ET Dn at *;show ∃v∈(if (qf_ (Ei r) Ca S.rels).expr= [] then _ else _),_;by_cases c:(qf_ (Ei r) Ca S.rels).expr= []
  ·have i:(qf_ (⟨r.obj.type_,r.rel⟩:AA) Ca S.rels).expr= []:=c;rw[if_pos i] at b;rw[if_pos c];obtain⟨s,C,E,rfl⟩:=lU.1 b;have⟨u,F,G,H,I⟩:=Va.1 C;have j:=hfit u F;unfold Et at j;rw[G,H,I] at j;have sub:∀(f:List AL) (g:AL),g∈f->g.rel≠{ data:= #[] }->(⟨⟨g.type_,g.rel⟩,0⟩:AN)∈Ew f:=fun f=>by
    induction f with
    |nil=>intro g h _;cases h
    |cons y V k=>
     intro g h hg;rw[R9];rcases Lv.1 h with rfl |h
     ·rw[DH,decide_eq_false (show ¬g.rel=ByteArray.empty from hg),if_neg (by decide)];exact Lp ..
     split
     ·exact k g h hg
     exact Lk _ (k g h hg)
   exact⟨_,sub _ _ j E,rfl⟩
  have i:¬(qf_ (⟨r.obj.type_,r.rel⟩:AA) Ca S.rels).expr= []:=c;rw[if_neg i] at b;rw[if_neg c];unfold F8 at b;have⟨x,J,b⟩:=Oh.1 b;have⟨w,L,M⟩:=lu hfit r.obj x d b;have O:(x.kind==1||x.kind==2)=true:=by
   unfold Ez at b;split at b
   ·rename_i h;rw[h];rfl
   split at b
   ·rename_i h;rw[h,OF]
   cases b
  have⟨v,P,Q⟩:=cV (sc:=S) (a:=r.obj.type_) _ [] w (.inr ⟨x,J,O,L⟩);exact⟨v,P,Q.trans M⟩
 have⟨v,p,T⟩:=B;have U:=z v p;rw[T] at U;rcases Za S (Ei r) v p with e |e<;>unfold D2 at * <;>omega
include hW hB hfit in
theorem MK {U:List AB}(s:AL)(f:∀r∈U,Ay (Ei r) S.rels=true)(i:∀r∈U,∀d∈Dn S l r,d∈U):FZ U (Dn S l) (D2 S) (nwB S l s):=by
 refine⟨fun A B r _ h=> ?_,fun A B r e j p c=> ?_,fun r e d a=>lz hW hfit (f r e) a,i⟩
 ·unfold nwB;split
  ·grind
  rename_i b;refine ln _ _ fun d a=>h d ?_;unfold Dn;rw[if_neg b];exact a
 have q:∀d∈Dn S l r,D2 S d<=D2 S r:=fun d a=>lz hW hfit (f r e) a
 have k:∀d∈Dn S l r,(D2 S d<D2 S r->A d=B d)/\(D2 S d<=D2 S r->A d=true->B d=true):=fun d a=>⟨j d a,fun _ u=>by
  grind⟩
 unfold nwB at c⊢;by_cases b:(qf_ (⟨r.obj.type_,r.rel⟩:AA) Ca S.rels).expr= []
 ·rw[if_pos b] at c⊢;rw[LQ] at c⊢;grind
 rw[if_neg b] at c⊢;have g:=lv hW (f r e);unfold ET at g;rw[if_neg (show ¬(qf_ (Ei r) Ca S.rels).expr= [] from b)] at g;refine cY (sc:=S) (rk:=Cp S.ranks) (R:=D2 S r) _ (G6 (Ha hW hB) ⟨r.obj.type_,r.rel⟩).2.2.2.2 (fun x _=>lu hfit r.obj x) .nil g (fun d a=>k d ?_) c;unfold Dn;rw[if_neg b];exact a
theorem Vc (hl:l.length<=100)(i:∀t∈l,Et S t)(b:Dh ts S)(g:Ed ts)(j:Ay (⟨o.type_,rel⟩:AA) S.rels=true):∃U:List AB,U.Nodup/\U.length<=20200/\(⟨o,rel⟩:AB)∈U/\(∀r∈U,Ay (Ei r) S.rels=true)/\(∀r∈U,∀d∈Dn S l r,d∈U)/\total (Dn S l) U<=1000000000:=by
 have⟨U,k,q,s⟩:=cM (MJ ts l o);have h:U.length<=20200:=by
  refine Lq s (Lq (cO _ 200 fun p _=> ?_) ?_)
  ·rw[Lt];exact(cL p.type_ b.tys fun t e=>(g.2 t e).1).1
  grind [TE,List.length_cons,List.length_map,Nat.le_trans,Nat.mul_le_mul_right]
 have c:∀r,r∈U↔r.obj∈TE l o/\Ay (⟨r.obj.type_,r.rel⟩:AA) S.rels=true:=fun r=>by
  rw[q,lc,Kr,b.rels,Mi]
 refine⟨U,k,h,(c _).2 ⟨Lp ..,j⟩,fun r f=>((c r).1 f).2,fun r f d u=> ?_,?_⟩
 ·have⟨v,z⟩:=(c r).1 f;have⟨B,a⟩:=lY b i z u;refine(c d).2 ⟨?_,B⟩;rcases a with a |⟨t,e,a⟩
  ·rw[a];exact v
  rw[a];exact Lk _ (LG e)
 unfold total;exact Lq (YY _ 20200 fun r _=>YZ b g hl r) (Lq (LS _ h) (by decide))
include hW hB hfit in
theorem wd {r0:List AC}(s:AL)(hl:l.length<=100)(hn:2000000000<n)(f:Ay (⟨o.type_,rel⟩:AA) S.rels=true):∃(K:List AB) (A:AB->Bool),Gj n ⟨S,EA l,r0⟩ o rel s=some (A ⟨o,rel⟩)/\(⟨o,rel⟩:AB)∈K/\(∀r∈K,Ay (Ei r) S.rels=true)/\(∀r∈K,∀d∈Dn S l r,d∈K)/\D4 K (D2 S) (nwB S l s) A:=by
 have a:=Ha hW hB;have⟨U,g,u,h,i,b,j⟩:=Vc hl hfit hW hB f;have⟨K,A,v,z,B,C,E⟩:=y8 (n:=n) (G:=⟨S,EA l,r0⟩) (s:=s) (D:=Dn S l) (rk:=D2 S) (nwB:=nwB S l s) g (by omega) h (fun r _=>ua_ (by omega) (by omega) a r) b j hn (MK hW hB hfit s i b) (fun r _=>hW.rk0 _) fun K St N F c k p r e=>Q0 (by omega) (by omega) a k (by rw[WZ,c];exact e) fun d q=>by
  rw[WZ,c];exact p r e d q
 grind
end
theorem D4.sub {a:List AB}{D:AB->List AB}{nw:(AB->Bool)->AB->Bool}(h:D4 K rk nw A)(g:FZ K D rk nw)(i:∀r∈a,r∈K)(z:∀r∈a,∀d∈D r,d∈a):D4 a rk nw A:=by
 refine⟨fun r f=>h.fix r (i r f),fun j T B q r f s u=> ?_⟩
 have:=h.low j (fun x=>if x∈a/\rk x=j then T x&&A x else A x) (fun x _ c=>if_neg fun e=>by omega) (fun x c k hn=> ?_) r (i r f) s u
 ·grind
 have v:A x=true:=by
  rw[h.fix x c];refine g.mono _ A x c (fun d _ b=>if_neg fun e=>by omega) (fun d _ _ b=> ?_) hn;split at b
  ·exact(Lm _ _▸b).2
  exact b
 by_cases p:x∈a
 ·rw[if_pos ⟨p,k⟩,v,O7];refine q x p k (g.mono _ T x c (fun d b C=> ?_) (fun d b E F=> ?_) hn)
  ·grind
  grind
 grind
theorem D4.one {nw:(AB->Bool)->AB->Bool}{A':AB->Bool}(h:D4 K rk nw A)(e:D4 K rk nw A')(f:∀r∈K,0<=rk r):∀r∈K,A r=A' r:=by
 have g:∀(j:Nat) (r:AB),r∈K->rk r<(j:Int)->A r=A' r:=by
  intro j;induction j with
  |zero=>intro r a i;have:=f r a;omega
  |succ j c=>
   intro r a i;by_cases k:rk r<(j:Int)
   ·exact c r a k
   rw[LY];exact⟨h.low j A' (fun x b d=>(c x b d).symm) (fun x b _ hn=>(e.fix x b).trans hn) r a (by omega),e.low j A (fun x b d=>c x b d) (fun x b _ hn=>(h.fix x b).trans hn) r a (by omega)⟩
 exact fun r a=>g ((rk r).toNat+1) r a (by have:=f r a;omega)
theorem D4.uniq {b:List AB}{D:AB->List AB}{nw:(AB->Bool)->AB->Bool}{A':AB->Bool}(h:D4 K rk nw A)(i:D4 b rk nw A')(c:FZ K D rk nw)(e:FZ b D rk nw)(j:∀r∈K,0<=rk r)(k:r∈K)(p:r∈b):A r=A' r:=by
 have f:∀x∈K.filter (· ∈b),∀d∈D x,d∈K.filter (· ∈b):=fun x a d g=>by
  have⟨q,s⟩:=LO.1 a;exact LO.2 ⟨c.DK x q d g,decide_eq_true (e.DK x (of_decide_eq_true s) d g)⟩
 exact(h.sub c (fun x a=>(LO.1 a).1) f).one (i.sub e (fun x a=>of_decide_eq_true (LO.1 a).2) f) (fun x a=>j x (LO.1 a).1) r (LO.2 ⟨k,decide_eq_true p⟩)
end Go.Proofs.YtnmkbmefohakmaaGreat.Ab
