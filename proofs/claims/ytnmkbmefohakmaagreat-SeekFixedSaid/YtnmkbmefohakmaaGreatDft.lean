/-
 Which tuples fit, as the document has it. No program in sight.
-/
import Derived.Test.YtnmkbmefohakmaaGreatGol
set_option linter.all false
namespace Go.Proofs.YtnmkbmefohakmaaGreat.Ab
open Go.RowKit IntKind
def pw (S:AC)(a:ByteArray):FZ->List AJ
 | .leaf x=>GB S a x
 | .op x p q=>pw S a p++(pw S a q).map (DP x)
theorem dU (S:AC)(a:ByteArray):∀(t:FZ) (W:List (List AJ)),GI t->(post t).foldl (Dc S a) W=W++[pw S a t]
 | .leaf x,W,b=>by
  show Dc S a W x=_;unfold Dc;rw[if_pos (by rcases b with h |h<;>rw[h]<;>rfl)];rfl
 | .op x p q,W,b=>by
  rw[UL,IB,IB,dU S a p W b.2.1,dU S a q _ b.2.2];show Dc S a _ x=_;unfold Dc;rw[if_neg (by rcases b.1 with h |h |h<;>rw[h]<;>decide),if_pos (by simp)];have⟨c,d,e⟩:=I0 W (pw S a p) (pw S a q) [];rw[c,d,e];rfl
section
variable {ts:List AG}{S:AC}{a:ByteArray}{x:AS}{f:Bool}
theorem xE (h:x.kind=1):HX ts a x f= [⟨a,x.a,f⟩]:=by unfold HX;rw[h];rfl
theorem xF (h:x.kind=2):HX ts a x f=⟨a,x.a,f⟩::((CI ts a x.a).getD CX).subs.map fun s=>⟨s.type_,x.b,f⟩:=by unfold HX;rw[h];rfl
theorem mO (h:x.kind=1):GB S a x= [⟨⟨a,x.a⟩,0⟩]:=by unfold GB;rw[h];rfl
theorem mP (h:x.kind=2):GB S a x=(qf_ (⟨a,x.a⟩:AA) CX S.rels).subs.map fun s=>⟨⟨s.type_,x.b⟩,0⟩:=by unfold GB;rw[h];rfl
end
section
variable {ts:List AG}{S:AC}(hW:HS ts S)
include hW in
theorem UK (a rel:ByteArray):(CI ts a rel).getD CX=qf_ (⟨a,rel⟩:AA) CX S.rels:=by rw[eM hW];rfl
include hW in
theorem dV {a:ByteArray}:∀(t:FZ) (f:Bool) (v:AJ),GI t->v∈pw S a t->∃w∈Fk ts a t f,wn w=v.to/\(v.taken=1\/f=true->w.less=true)
 | .leaf x,f,v,c,b=>by
  have b:v∈GB S a x:=b;show ∃w∈HX ts a x f,_;rcases c with h |h
  ·rw[mO h] at b;rw[xE h,Lt.1 b];refine⟨_,Lt.2 rfl,rfl,fun h=> ?_⟩;grind
  ·rw[mP h] at b;rw[xF h,UK hW];obtain⟨s,j,rfl⟩:=LO.1 b;refine⟨_,Lj _ (LH j),rfl,fun h=> ?_⟩;grind
 | .op x p q,f,v,c,b=>by
  have b:v∈pw S a p++(pw S a q).map (DP x):=b;show ∃w∈Fk ts a p f++Fk ts a q (f||x.kind==4),_;rcases Ly.1 b with b |b
  ·have⟨w,d,e,i⟩:=dV p f v c.2.1 b;grind
  obtain⟨u,k,rfl⟩:=LO.1 b;have⟨w,d,e,i⟩:=dV q (f||x.kind==4) u c.2.2 k;refine⟨w,Nn _ d,?_,fun h=>i ?_⟩
  ·rw[e];unfold DP;split<;>rfl
  unfold DP at h;grind
end
variable {n:Nat}{o:Ak}{s:AN}{ts:List AG}
section
variable {ts:List AG}{S:AC}(hW:EC ts S)
theorem xG {r:List AN}(h:s.rel={ data:= #[] }):Ft (s::r)=Ft r:=by
 rw[TA,DZ];exact if_pos (decide_eq_true h)
theorem xH {r:List AN}(h:¬s.rel={ data:= #[] }):Ft (s::r)=⟨⟨s.type_,s.rel⟩,0⟩::Ft r:=by
 rw[TA,DZ];exact if_neg (mt of_decide_eq_true h)
theorem dW:∀(d:List AN) (v:AJ),v∈Ft d->v.taken=0/\(∃w∈Jh d,wn w=v.to)/\∃s∈d,s.rel≠{ data:= #[] }/\v.to=⟨s.type_,s.rel⟩
 |[],_,h=>by cases h
 |s::r,v,h=>by
  unfold Jh;by_cases e:s.rel={ data:= #[] }
  ·rw[xG e] at h;rw[if_pos e];have⟨a,b,x,i,c⟩:=dW r v h;grind
  rw[xH e] at h;rw[if_neg e];rcases Lr.1 h with rfl |h
  ·exact⟨rfl,⟨_,Lo ..,rfl⟩,s,Lo ..,e,rfl⟩
  have⟨a,⟨w,j,k⟩,x,i,c⟩:=dW r v h;grind
theorem dX {a:ByteArray}:∀(t:FZ) (v:AJ),GI t->(∀x∈post t,Jz S a x)->v∈pw S a t->Av v.to S.rels=true
 | .leaf x,v,d,c,b=>by
  have b:v∈GB S a x:=b;have i:=c x (Lt.2 rfl);rcases d with e |e
  ·rw[mO e] at b;rw[Lt.1 b];exact i.1 e
  ·rw[mP e] at b;obtain⟨s,j,rfl⟩:=LO.1 b;exact((i.2 e).2.2 s j).1
 | .op x p q,v,d,c,b=>by
  have b:v∈pw S a p++(pw S a q).map (DP x):=b;rw[UL] at c;rcases Ly.1 b with b |b
  ·exact dX p v d.2.1 (fun y h=>c y (Nu _ (Nu _ h))) b
  obtain⟨u,k,rfl⟩:=LO.1 b
  have:=dX q u d.2.2 (fun y h=>c y (Nu _ (Nn _ h))) k;unfold DP;split<;>exact this
variable (hT:PK ts)
theorem dY (hB:Ew ts){a:ByteArray}:∀(t:FZ) (f:Bool),(Fk ts a t f).length<=52*(post t).length
 | .leaf x,f=>by
  show(HX ts a x f).length<=52;unfold HX
  have:=(ZX hB a x.a).1;grind
 | .op x p q,f=>by
  show(Fk ts a p f++Fk ts a q (f||x.kind==4)).length<=_;have b:=dY hB (a:=a) p f;have c:=dY hB (a:=a) q (f||x.kind==4);rw[Ld,Za];omega
theorem dZ:∀ts:List AG,(DT ts).map nm=DY ts
 |[]=>rfl
 |t::r=>by
  have b:DT (t::r)=t.rels.map (fun g=>⟨t.name,g.name⟩)++DT r:=by simp[DT]
  have c:DY (t::r)=t.rels.map (fun g=>⟨t.name,g.name⟩)++DY r:=by simp[DY]
  rw[b,c,Nc,dZ r,Bj];rfl
end
theorem mJ {a:ByteArray}:∀(b:List AW) (R:List (AA × AW)),(b.map (·.name)).Nodup->(∀g∈b,(⟨a,g.name⟩:AA)∉R.map (·.1))->(IL a b R).2=false/\(IL a b R).1=R++b.map fun g=>(⟨a,g.name⟩,g)
 |[],R,_,_=>⟨rfl,by simp[IL]⟩
 |g::r,R,hn,d=>by
  rw[Li,Na] at hn;have e:Av (⟨a,g.name⟩:AA) R=false:=by
   cases h:Av (⟨a,g.name⟩:AA) R with |false=>rfl |true=>exact absurd (Mk.1 h) (d g (Lo ..))
  unfold IL;rw[e,if_neg (by decide),iL e];obtain⟨j,k⟩:=mJ r (R++[(⟨a,g.name⟩,g)]) hn.2 fun x i c=>by
   rw[Nc,Ly] at c;rcases c with c |c
   ·exact d x (Lj _ i) c
   grind
  grind
theorem mK:∀(l:List AG) (T:List (ByteArray × Int)) (R:List (AA × AW)),(l.map (·.name)).Nodup->(∀t∈l,(t.rels.map (·.name)).Nodup)->(∀t∈l,qf_ t.name 0 T=0)->(∀t∈l,∀r,(⟨t.name,r⟩:AA)∉R.map (·.1))->(jf_ l T R).2.2=0
 |[],_,_,_,_,_,_=>rfl
 |t::l,T,R,c,d,h,i=>by
  rw[Li,Na] at c;have⟨j,k⟩:=mJ (a:=t.name) t.rels R (d t (Lo ..)) fun g _=>i t (Lo ..) g.name;have m:∀u∈l,u.name≠t.name:=fun u b e=>c.1 (LO.2 ⟨u,b,e⟩);unfold jf_;rw[h t (Lo ..),decide_eq_false (by decide),if_neg (by decide)];dsimp only;rw[j,if_neg (by decide),k]
  refine mK l _ _ c.2 (fun u b=>d u (Lj _ b)) (fun u b=> ?_) fun u b r p=> ?_
  ·rw[aj,if_neg (m u b)];exact h u (Lj _ b)
  grind
theorem xB {l:List AG}(h:QE l):(jf_ l [] []).2.2=0:=
 mK l [] [] h.1 h.2 (fun _ _=>rfl) fun _ _ _ h=>by cases h
section
variable {ts:List AG}{S:AC}(hP:HS ts S)
include hP in
theorem ZY (a rel:ByteArray):FI ts a rel=Av (⟨a,rel⟩:AA) S.rels:=by unfold FI;rw[eM hP];rfl
include hP in
theorem wx (a:ByteArray):R5 ts a= !(qf_ a 0 S.types==0):=by
 have h:=hP.typ a;unfold R5;grind
include hP in
theorem mG {n:Nat}{x:AS}{g:AW}{b:Bool}(h:g.subs.length<1000000):∀(d i c:Nat),d=g.subs.length-i->i<=g.subs.length->d<c->Pc n S x (g,b) c (i:Int)=some (if Cz (Hm ts x.b) (g.subs.drop i) != 0 then .inr (Cz (Hm ts x.b) (g.subs.drop i)) else .inl ())
 |0,i,c,j,k,l=>by
  obtain⟨c,rfl⟩:=sx c;unfold Pc;dsimp only;rw[DC,if_neg (by decide),LG (by omega)];rfl
 |d+1,i,c,j,k,l=>by
  obtain⟨c,rfl⟩:=sx c;have e:i<g.subs.length:=by omega
  have m:=mG (n:=n) (x:=x) (b:=b) h d (i+1) c (by omega) (by omega) (by omega);unfold Pc;dsimp only;rw[EO e,if_pos rfl,CL e,Zo,Hd,Zo,Al,m,DZ,Lm e,MK];grind [Hm,Av,decide,ZY]
include hP in
theorem w9 (hB:Ew ts)(hT:PK ts)(hn:1000<n)(a:ByteArray)(x:AS):Qw n S a x=some (HD ts a x):=by
 have h:=(JS (Wd hP hB) ⟨a,x.a⟩).1;unfold Qw HD;rw[Hd,Zo,ZY hP,UK hP];dsimp only;cases i:Av (⟨a,x.a⟩:AA) S.rels with
 |false=>rfl
 |true=>
  have⟨t,j,g,k,_,e⟩:=Zj hP i;have hr:=hT t j g k;rw[e] at h⊢;rw[if_pos rfl,if_pos rfl];rcases hr with⟨d,c⟩ |⟨d,l,_,c⟩
  ·have m:0<g.subs.length:=NA.2 c;have f:=mG (n:=n) (x:=x) (g:=g) (b:=true) hP (by omega) _ 0 n rfl (Lg _) (by omega);grind
  rw[if_pos (by rw[d];rfl),if_neg (by rw[c];exact B9 (QK l))]
include hP in
theorem mH {n:Nat}{g:AW}:∀l:List AN,Dl (Qx n S g) (Uy n S g) l ()=some (if Cz (QF ts) l != 0 then .inr (Cz (QF ts) l) else .inl ())
 |[]=>rfl
 |s::l=>by
  have b:=mH (n:=n) (g:=g) l;rw[Dl];generalize Dl (Qx n S g) (Uy n S g) l=K at b⊢;unfold Qx;dsimp only;rw[Hd,Zo,b,DZ,MK];grind [QF,qf_,decide,Av,wx,ZY]
include hP in
theorem mI {n:Nat}(hB:Ew ts)(hT:PK ts)(hn:1000<n){a:ByteArray}{g:AW}:∀l:List AS,Dl (Qy n S a g) (Uz n S a g) l ()=some (if Cz (R6 ts a) l != 0 then .inr (Cz (R6 ts a) l) else .inl ())
 |[]=>rfl
 |x::l=>by
  have b:=mI hB hT hn (a:=a) (g:=g) l;rw[Dl];generalize Dl (Qy n S a g) (Uz n S a g) l=K at b⊢;unfold Qy;dsimp only;rw[w9 hP hB hT hn,Zo,Hd,Zo,b,MK];grind [R6,Av,HD,ZY]
include hP in
theorem xA (hB:Ew ts)(hT:PK ts)(hn:1000<n){a:ByteArray}{g:AW}(b:EV g):TB n S a g=some (Ef ts a g):=by
 have e:=b.1;have h:=b.2.1;have c:qF_ n S g n 0=_:=rT n S g (by omega) n () 0 (Lg _) (by omega);have d:qz_ n S a g n 0=_:=rU n S a g (by omega) n () 0 (Lg _) (by omega);rw[LJ,mH hP] at c;rw[LJ,mI hP hB hT hn] at d;unfold TB Ef;grind
end
section
variable {N:List An}(hL:N.length<=40200)
abbrev FJ (N:List An)(R:List Int):Prop:=dT N (fun _=>(N.length:Int)) R
include hL in
theorem QH {n i k:Nat}{Ws:List Ao}(r:i<N.length)(y:k<Ws.length):∀(d j c:Nat) (R:List Int) (l:Bool),d=N.length-j->j<=N.length->d<c->FJ N R->
  K4 n N (i:Int) Ws (k:Int) c (R,l,(j:Int))=some (.inr ([],[],false))\/∃b m,K4 n N (i:Int) Ws (k:Int) c (R,l,(j:Int))=some (.inl (b,m))/\FJ N b/\FK R l b m/\(m=true->∀(z:Nat) (v:z<b.length) (u:z<N.length) (r:i<b.length),j<=z->nm N[z]=wn Ws[k]->b[z]+wl Ws[k]<=b[i])
 |0,j,c,R,l,M,O,P,p=>by
  obtain⟨c,rfl⟩:=sx c;refine .inr ⟨R,l,?_,p,FK.rfl',fun _ z _ _ _ _=>by omega⟩;unfold K4;rw[DC,if_neg (by decide)]
 |d+1,j,c,R,l,M,O,P,p=>by
  obtain⟨c,rfl⟩:=sx c;have w:j<N.length:=by omega
  have E:j<R.length:=by rw[p.1];exact w
  have A:i<R.length:=by rw[p.1];exact r
  have b1:0<=R[j]/\R[j]<=(N.length:Int):=p.2 j E w;have b2:0<=R[i]/\R[i]<=(N.length:Int):=p.2 i A r;have w0:0<=wl Ws[k]:=by unfold wl;split<;>decide
  have F:=fun R l=>QH (n:=n) r y d (j+1) c R l (by omega) (by omega) (by omega);have Q:((CD N (j:Int)).bind fun G=>(CD Ws (k:Int)).bind fun H=>(if (G.t.toList==H.type_.toList) then some (!(G.rel.toList==H.rel.toList)) else some true):Option Bool)=some (!decide (nm N[j]=wn Ws[k])):=by
   rw[CL w,Zo,CL y,Zo,DZ,DZ];unfold nm wn;by_cases T:N[j].t=Ws[k].type_<;>by_cases U:N[j].rel=Ws[k].rel<;>simp[T,U]
  have V:((if Ws[k].less then some (i64.wrap (R[j]+1)) else some R[j]):Option Int)=some (R[j]+wl Ws[k]):=by
   unfold wl;split
   ·rw[IntWalk.i64_in _ (by omega)]
   rw[Int.add_zero]
  have ab:(nm N[j]=wn Ws[k]->R[j]+wl Ws[k]<=R[i])->K4 n N (i:Int) Ws (k:Int) c (R,l,((j+1:Nat):Int))=some (.inr ([],[],false))\/∃b m,K4 n N (i:Int) Ws (k:Int) c (R,l,((j+1:Nat):Int))=some (.inl (b,m))/\FJ N b/\FK R l b m/\(m=true->∀(z:Nat) (v:z<b.length) (u:z<N.length) (r:i<b.length),j<=z->nm N[z]=wn Ws[k]->b[z]+wl Ws[k]<=b[i]):=fun I=>by
   rcases F R l p with h |⟨b,m,B,C,q,J⟩
   ·exact .inl h
   refine .inr ⟨b,m,B,C,q,fun h z v u X ad K=> ?_⟩;rcases LY j z with L |L
   ·exact J h z v u X L K
   have:z=j:=(by omega);subst this;obtain⟨_,rfl⟩:=q.1 h;exact I K
  unfold K4;rw[EO w,if_pos rfl,Q,Zo,Al];by_cases e:nm N[j]=wn Ws[k]
  ·rw[decide_eq_true e,if_neg (by decide),CL E,Zo,CL y,Zo,V,Zo,CL A,Zo,Zo,Lk];by_cases Y:(N.length:Int)<R[j]+wl Ws[k]
   ·grind
   rw[decide_eq_false Y];simp only[Nr,if_false];by_cases Z:R[i]<R[j]+wl Ws[k]
   ·rw[decide_eq_true Z,if_pos rfl];have aa:FJ N (R.set i (R[j]+wl Ws[k])):=by
     refine⟨by rw[NZ];exact p.1,fun z v u=> ?_⟩;rw[List.getElem_set];split
     ·grind
     exact p.2 z _ u
    have I:=mL R i (R[j]+wl Ws[k]) A;rcases F _ false aa with h |⟨b,m,B,C,q,J⟩
    ·exact .inl h
    refine .inr ⟨b,m,B,C,⟨fun h=> ?_,by have:=q.2.1;omega,fun _ _=>by have:=q.2.1;omega⟩,fun h=> ?_⟩
    ·have:=(q.1 h).1;cases this
    have:=(q.1 h).1;cases this
   grind
  grind
include hL in
theorem QI {n i:Nat}{Ws:List Ao}(hn:100000<n)(r:i<N.length):∀(d k c:Nat) (R:List Int) (e:Bool),d=Ws.length-k->k<=Ws.length->d<c->Ws.length<1000000->FJ N R->
  Sc n N (i:Int) Ws c (R,e,(k:Int))=some (.inr ([],[],false))\/∃j l,Sc n N (i:Int) Ws c (R,e,(k:Int))=some (.inl (j,l))/\FJ N j/\FK R e j l/\(l=true->∀w∈Ws.drop k,Wa N j i w)
 |0,k,c,R,e,v,y,A,b,m=>by
  obtain⟨c,rfl⟩:=sx c;refine .inr ⟨R,e,?_,m,FK.rfl',fun _ w b=>by rw[LG (by omega)] at b;cases b⟩;unfold Sc;rw[DC,if_neg (by decide)]
 |d+1,k,c,R,e,v,y,A,b,m=>by
  obtain⟨c,rfl⟩:=sx c;have p:k<Ws.length:=by omega
  unfold Sc;rw[EO p,if_pos rfl];rcases QH (n:=n) hL r p _ 0 n R e rfl (Lg _) (by omega) m with h |⟨B,C,q,E,F,G⟩
  ·grind
  have q:K4 n N (i:Int) Ws (k:Int) n (R,e,0)=_:=q;rw[q,Zo,Al];dsimp only;rcases QI hn r d (k+1) c B C (by omega) (by omega) (by omega) b E with h |⟨j,l,H,I,u,J⟩
  ·exact .inl h
  refine .inr ⟨j,l,H,I,F.trans u,fun h w b=> ?_⟩;rw[Lm p] at b;rcases Lr.1 b with rfl |b
  ·obtain⟨a,rfl⟩:=u.1 h;exact fun z K L M O=>G a z K L M (Lg _) O
  exact J h w b
variable {n:Nat}{ts:List AG}{Wf:AA->List Ao}(hW:∀x∈N,Hz n ts x.t x.rel=some (Wf (nm x))/\(Wf (nm x)).length<=20000)(hn:2000000000<n)
include hL hW hn in
theorem QJ:∀(d i c:Nat) (R:List Int) (b:Bool),d=N.length-i->i<=N.length->d<c->FJ N R->
  Sd n ts N c (R,b,(i:Int))=some (.inr ([],[],false))\/∃e j,Sd n ts N c (R,b,(i:Int))=some (.inl (e,j))/\FJ N e/\FK R b e j/\(j=true->∀(y:Nat) (l:y<N.length),i<=y->∀w∈Wf (nm N[y]),Wa N e y w)
 |0,i,c,R,b,u,v,z,m=>by
  obtain⟨c,rfl⟩:=sx c;refine .inr ⟨R,b,?_,m,FK.rfl',fun _ y l _=>by omega⟩;unfold Sd;rw[DC,if_neg (by decide)]
 |d+1,i,c,R,b,u,v,z,m=>by
  obtain⟨c,rfl⟩:=sx c;have k:i<N.length:=by omega
  have⟨A,K⟩:=hW _ (LZ k);unfold Sd;rw[EO k,if_pos rfl,CL k,Zo,A,Zo];rcases QI (n:=n) (Ws:=Wf (nm N[i])) hL (by omega) k _ 0 n R b rfl (Lg _) (by omega) (by omega) m with h |⟨B,C,p,E,F,L⟩
  ·grind
  have p:Sc n N (i:Int) (Wf (nm N[i])) n (R,b,0)=_:=p;rw[p,Zo,Al];dsimp only;rcases QJ d (i+1) c B C (by omega) (by omega) (by omega) E with h |⟨e,j,G,H,q,I⟩
  ·exact .inl h
  refine .inr ⟨e,j,G,H,F.trans q,fun h y l M w J=> ?_⟩;rcases LY i y with r |r
  ·exact I h y l r w J
  have:y=i:=by omega
  subst this;obtain⟨a,rfl⟩:=q.1 h;grind
include hL hW hn in
theorem WZ:∀(d t c:Nat) (R:List Int),d=N.length*N.length+1-t->d<c->FJ N R->(t:Int)<=R.sum->
  XN n ts N c (R,(t:Int))=some (.inr ([],[],false))\/∃e,XN n ts N c (R,(t:Int))=some (.inr (N,e,true))/\FJ N e/\∀(y:Nat) (E:y<N.length),∀w∈Wf (nm N[y]),Wa N e y w:=by
 intro d;induction d with
 |zero=>
  intro t c R l m b p;exfalso;have q:=mM (L:=(N.length:Int)) R fun x r=>by
   obtain⟨j,k,rfl⟩:=O7.1 r;exact(b.2 j k (by rw[<-b.1];exact k)).2
  rw[b.1,<-ON] at q;omega
 |succ d u=>
  intro t c R l m b p;obtain⟨c,rfl⟩:=sx c;have F:N.length*N.length<=40200*40200:=Bm hL hL;have v:decide ((t:Int)<=(i64.wrap ((i64.wrap ((N.length:Int)*(N.length:Int)))+1)))=true:=by
   rw[<-ON,JG (by omega),Al];exact Cp
  unfold XN;rw[v,if_pos rfl];rcases QJ hL hW hn _ 0 n R true rfl (Lg _) (by omega) b with h |⟨z,A,i,B,C,G⟩
  ·grind
  have i:Sd n ts N n (R,true,0)=_:=i;rw[i,Zo];dsimp only;cases A with
  |true=>grind
  |false=>
   have:=C.2.2 rfl rfl;rw[if_neg (by decide),Al];exact u (t+1) c z (by omega) (by omega) B (by omega)
include hL hW hn in
theorem xD (b:Uh n ts=some N):Ui n ts=some ([],[],false)\/∃R,Ui n ts=some (N,R,true)/\FJ N R/\∀(y:Nat) (e:y<N.length),∀w∈Wf (nm N[y]),Wa N R y w:=by
 have i:N.length*N.length<=40200*40200:=Bm hL hL;have c:Wt (N.length:Int)=some (List.replicate N.length 0):=by
  unfold Wt;rw[ifp,Lk]
 have d:FJ N (List.replicate N.length 0):=⟨NL,fun j k l=>by simp⟩;unfold Ui;rw[b,Zo,c,Zo];rcases WZ hL hW hn _ 0 n _ rfl (by omega) d (by simp) with h |⟨R,m,p,q⟩
 ·grind
 grind
end
section
variable {ts:List AG}{S:AC}(hP:HS ts S)(hT:PK ts)(hnm:∀t∈ts,∀g∈t.rels,IM S t.name g)
include hP hT hnm in
theorem ZZ {m:AA}(d:m∈DY ts):GT (qf_ m CX S.rels)/\IM S m.typ (qf_ m CX S.rels):=by
 obtain⟨t,b,g,c,rfl⟩:=iR.1 d;have e:qf_ (⟨t.name,g.name⟩:AA) CX S.rels=g:=by unfold qf_;rw[Xu hP.rels hP.keys b c];rfl
 rw[e];exact⟨hT t b g c,hnm t b g c⟩
include hP hT hnm in
theorem xI (hB:Ew ts)(hn:2000000000<n){R:List Int}(c:FJ (DT ts) R)(H:∀(y:Nat) (r:y<(DT ts).length),∀w∈(Hz n ts (DT ts)[y].t (DT ts)[y].rel).getD [],Wa (DT ts) R y w):
  ∃q:AA->Int,(∀k,0<=q k/\q k<=((DY ts).length:Int))/\∀m∈DY ts,∀w∈Er S m,q w.to+w.taken<=q m:=by
 have I:=dZ ts;have U:(DT ts).length=(DY ts).length:=by rw[<-I,LE]
 have J:∀m∈DY ts,∃l,Hz n ts m.typ m.rel=some l/\Ko ts m.typ (qf_ m CX S.rels) l:=fun m j=>by
  have:=mV (n:=n) (a:=m.typ) (rel:=m.rel) hB (by omega) (by rw[UK hP];exact .inl (ZZ hP hT hnm j).1);rwa [UK hP] at this
 have u:∀k∈DY ts,∃(z:Nat) (b:z<(DT ts).length),nm (DT ts)[z]=k/\(DY ts).idxOf k=z:=fun k A=>by
  have d:=List.idxOf_lt_length_of_mem A;refine⟨(DY ts).idxOf k,by omega,?_,rfl⟩;have F:(DY ts)[(DY ts).idxOf k]=k:=List.getElem_idxOf d;grind
 have K:∀(z:Nat) (b:z<(DT ts).length),R.getD z 0=R[z]'(by rw[c.1];exact b):=fun z b=>by
  grind
 refine⟨fun k=>if k∈DY ts then R.getD ((DY ts).idxOf k) 0 else 0,fun k=> ?_,fun m j v i=> ?_⟩
 ·dsimp only;split
  ·rename_i A;have⟨z,b,_,e⟩:=u k A;rw[e,K z b];have h:0<=R[z]'(by rw[c.1];exact b)/\R[z]'(by rw[c.1];exact b)<=((DT ts).length:Int):=c.2 z (by rw[c.1];exact b) b;omega
  omega
 have⟨y,r,L,e2⟩:=u m j;have M:∃w∈(Hz n ts (DT ts)[y].t (DT ts)[y].rel).getD [],wn w=v.to/\v.taken<=wl w/\v.to∈DY ts:=by
  have⟨l,d,F⟩:=J _ j;have⟨_,G⟩:=ZZ hP hT hnm j;rw[<-L] at d;have d:Hz n ts (DT ts)[y].t (DT ts)[y].rel=some l:=d;rw[d];show ∃w∈l,_;rcases F with⟨e,rfl⟩ |⟨t,B,_,e,rfl⟩
  ·have p:Er S m=Ft (qf_ m CX S.rels).subs:=(by unfold Er;rw[if_pos e]);rw[p] at i;have⟨O,⟨w,P,Q⟩,s,T,a5,a6⟩:=dW _ v i;refine⟨w,P,Q,?_,?_⟩
   ·rw[O];unfold wl;split<;>decide
   have:=(G.1 s T).2.resolve_left fun h=>a5 (mm h);rw[Mk,hP.rels,Ux] at this;rw[a6];exact this
  have p:Er S m=pw S m.typ t:=by
   unfold Er;rw[if_neg (by rw[e];exact B9 (QK t)),e,dU S _ t [] B];simp
  have h5:=ai S m v i;rw[p] at i;have⟨w,C,E,w3⟩:=dV hP t false v B i;refine⟨w,C,E,?_,?_⟩
  ·grind [wl]
  have:=dX t v B (by rw[<-e];exact G.2) i;rw[Mk,hP.rels,Ux] at this;exact this
 have⟨w,C,E,w3,w4⟩:=M;have⟨z,b,p,e4⟩:=u _ w4
 have:=H y r w C z (by rw[c.1];exact b) b (by rw[c.1];exact r) (by rw[p,E]);grind
end
def Fl (ts:List AG)(t:AG):Int:=Cz (Ef ts t.name) t.rels
theorem R7 {l:List AG}(h:(jf_ l [] []).2.2=0)(K:List (AA × Int)):HS l ⟨(jf_ l [] []).1,(jf_ l [] []).2.1,K⟩:=by
 have⟨b,c,d,_⟩:=iM l [] [] (by simp) h;rw[LA] at b;exact⟨b,c,d,fun a=>(iN a l [] [] h).trans (by simp[qf_,mget])⟩
section
variable {ts:List AG}{S:AC}(hP:HS ts S)(hB:Ew ts)(hT:PK ts){n:Nat}(hn:1000<n)
include hP hB hT hn in
theorem mc {a:ByteArray}:∀(l:List AW) (b:List AA),(∀g∈l,EV g)->b.length+l.length<=1000000000->PY n S a l b=some (if Cz (Ef ts a) l != 0 then .inr (Cz (Ef ts a) l) else .inl (b++l.map fun g=>⟨a,g.name⟩))
 |[],b,_,_=>by
  unfold PY Cz;simp
 |g::l,b,d,h=>by
  simp only[Lh] at h;unfold PY;rw[ifp,xA hP hB hT hn (d g (Lo ..)),Zo,MK];by_cases c:Ef ts a g=0
  ·rw[c,if_pos (by rfl),if_neg (show ¬(((0:Int) != 0)=true) by decide),mc l _ (fun x i=>d x (Lj _ i)) (by rw[Ld,Ll];omega),Li,Lq];rfl
  have e:(Ef ts a g != 0)=true:=by simpa using c
  rw[if_neg (by simpa using c),if_pos e,if_pos e]
include hP hB hT hn in
theorem me:∀(l:List AG) (b:List AA),(∀t∈l,t.rels.length<=200/\∀g∈t.rels,EV g)->b.length+200*l.length<=1000000000->PZ n S l b=some (if Cz (Fl ts) l != 0 then .inr (Cz (Fl ts) l) else .inl (b++DY l))
 |[],b,_,_=>by
  unfold PZ Cz;simp[DY]
 |t::l,b,d,i=>by
  simp only[Lh] at i;have⟨p,j⟩:=d t (Lo ..);unfold PZ;rw[mc hP hB hT hn t.rels b j (by omega),Zo,MK];have e:Cz (Ef ts t.name) t.rels=Fl ts t:=rfl;rw[e];by_cases h:Fl ts t=0
  ·rw[h,if_neg (show ¬(((0:Int) != 0)=true) by decide),if_neg (show ¬(((0:Int) != 0)=true) by decide)];have k:DY (t::l)=t.rels.map (fun g=>(⟨t.name,g.name⟩:AA))++DY l:=(by simp[DY]);rw[k,<-Lq];exact me l _ (fun x m=>d x (Lj _ m)) (by rw[Ld,LE];omega)
  have c:(Fl ts t != 0)=true:=by simpa using h
  rw[if_pos c,if_pos c,if_pos c]
end
section
variable {ts:List AG}{n:Nat}(hB:Ew ts)(hn:1000<n)
include hB hn in
theorem mf {i:Nat}(b:i<ts.length):∀(d k c:Nat),d=ts[i].rels.length-k->k<=ts[i].rels.length->d<c->Uj n ts (i:Int) c (k:Int)=some (if Cz (Ef ts ts[i].name) (ts[i].rels.drop k) != 0 then .inr (Cz (Ef ts ts[i].name) (ts[i].rels.drop k)) else .inl ())
 |0,k,c,m,p,q=>by
  obtain⟨c,rfl⟩:=sx c;unfold Uj;rw[CL b,Zo,DC,if_neg (by decide),LG (by omega)];rfl
 |d+1,k,c,m,p,q=>by
  obtain⟨c,rfl⟩:=sx c;have r:=LZ b;have j:=hB.2 _ r;have u:=j.1;have e:k<ts[i].rels.length:=by omega
  unfold Uj;rw[CL b,Zo,EO e,if_pos rfl,CL e,Zo,wv hB hn (j.2 _ (LZ e)),Zo,Al,mf b d (k+1) c (by omega) (by omega) (by omega),Lm e,MK];by_cases l:Ef ts ts[i].name ts[i].rels[k]=0
  ·rw[l,if_neg (show ¬(((0:Int) != 0)=true) by decide),if_neg (show ¬(((0:Int) != 0)=true) by decide)]
  have h:(Ef ts ts[i].name ts[i].rels[k] != 0)=true:=by simpa using l
  rw[if_pos h,if_pos h,if_pos h]
include hB hn in
theorem mh:∀(d i c:Nat),d=ts.length-i->i<=ts.length->d<c->xs_ n ts c (i:Int)=some (if Cz (Fl ts) (ts.drop i) != 0 then .inr (Cz (Fl ts) (ts.drop i)) else .inl ())
 |0,i,c,k,l,m=>by
  obtain⟨c,rfl⟩:=sx c;unfold xs_;rw[DC,if_neg (by decide),LG (by omega)];rfl
 |d+1,i,c,k,l,m=>by
  obtain⟨c,rfl⟩:=sx c;have b:=hB.1;have h:i<ts.length:=by omega
  have p:=(hB.2 _ (LZ h)).1;have f:=mf (n:=n) hB hn h _ 0 n rfl (Lg _) (by omega);have f:Uj n ts (i:Int) n 0=_:=f;rw[LJ] at f;have e:Cz (Ef ts ts[i].name) ts[i].rels=Fl ts ts[i]:=rfl;rw[e] at f;unfold xs_;rw[EO h,if_pos rfl,f,Zo,Al,mh d (i+1) c (by omega) (by omega) (by omega),Lm h,MK];by_cases j:Fl ts ts[i]=0
  ·rw[j,if_neg (show ¬(((0:Int) != 0)=true) by decide),if_neg (show ¬(((0:Int) != 0)=true) by decide)]
  have b:(Fl ts ts[i] != 0)=true:=by simpa using j
  rw[if_pos b,if_pos b,if_pos b]
end
theorem Di.congr {K:List AB}{D:AB->List AB}{rk:AB->Int}{nw:(AB->Bool)->AB->Bool}{A b:AB->Bool}(h:Di K rk nw A)(c:Fs K D rk nw)(e:∀x∈K,b x=A x):Di K rk nw b:=
 ⟨fun r hr=>by rw[e r hr,h.fix r hr];exact c.loc _ _ r hr fun d k=>(e d (c.DK r hr d k)).symm,fun j T l m r hr p q=>h.low j T (fun x i u=>(l x i u).trans (e x i)) m r hr p (by rw[<-e r hr];exact q)⟩
theorem zk {rows:List AD}{S:AC}{rel:ByteArray}(h:Pa n ts=some (.inl S))(b:GZ S)(hn:1000000<n)(hr:rows.length<=10000)(c:∀t∈rows,MB n t=some true):Uv n ts rows o rel s=eG n S rows o rel s:=by
 have d:(rows.filter (DU S)).length<=rows.length:=NU _ _;unfold Uv eG;rw[xX h b hn (by omega) c,Zo,if_neg (by simp),DZ];by_cases e:s.rel={ data:= #[] }
 ·rw[decide_eq_true e,if_pos rfl,if_pos e];unfold ah;rw[Hd,Zo,Zo];dsimp only;cases Av (⟨o.type_,rel⟩:AA) S.rels with
  |true=>
   rw[if_pos rfl,if_pos rfl,Option.map_eq_bind,xV (r0:=rows.filter (DU S)) (r1:=[]) (by omega) hn b];rfl
  |false=>rfl
 grind
def PT (n:Nat)(S:AC)(rows:List AD)(s:AN)(r:AB):Bool:=Av (FX r) S.rels&&(JO n ⟨S,Ea (rows.filter (DU S)),[]⟩ r.obj r.rel s).getD false
section
variable {n:Nat}{ts:List AG}{S:AC}{rows:List AD}(hW:EC ts S)(hB:Ew ts)(hn:2000000000<n)(hr:rows.length<=100)
include hW hB hn hr in
theorem zm (s:AN){r:AB}(j:Av (FX r) S.rels=true):∃K:List AB,r∈K/\(∀x∈K,Av (FX x) S.rels=true)/\Fs K (EL S (rows.filter (DU S))) (HY S) (nwB S (rows.filter (DU S)) s)/\Di K (HY S) (nwB S (rows.filter (DU S)) s) (PT n S rows s):=by
 have w:(rows.filter (DU S)).length<=rows.length:=NU _ _;have b:∀t∈rows.filter (DU S),FL S t:=fun t k=>of_decide_eq_true (Nb.1 k).2;have⟨K,A,y,l,c,m,h⟩:=nB (n:=n) (r0:=[]) hW hB b s (by omega) hn (o:=r.obj) (rel:=r.rel) j;have d:=SA hW hB b s c m;refine⟨K,l,c,d,h.congr d fun x i=> ?_⟩;have⟨z,B,C,p,q,u,v⟩:=nB (n:=n) (r0:=[]) hW hB b s (by omega) hn (o:=x.obj) (rel:=x.rel) (c x i);have e:=v.uniq h (SA hW hB b s q u) d (fun r _=>hW.rk0 _) p i;unfold PT;simp_all
include hW hB hn hr in
theorem zn (s:AN){r:AB}(b:Av (FX r) S.rels=true):PT n S rows s r=nwB S (rows.filter (DU S)) s (PT n S rows s) r:=by
 have⟨K,c,_,_,d⟩:=zm hW hB hn hr s b;exact d.fix r c
end
/-! ### what an expression says, by its tree -/
def IJ (T:AB->Bool)(l:List AD)(o:Ak):FZ->Bool
 | .leaf x=>(EY l o x).any T
 | .op x a b=>We x.kind (IJ T l o a) (IJ T l o b)
theorem gJ {T:AB->Bool}{l:List AD}{o:Ak}:∀(t:FZ) (c:List AS) (d:List Bool),GI t->Gb T l o (post t++c) d=Gb T l o c (d++[IJ T l o t])
 | .leaf x,c,d,h=>by
  have i:(x.kind==1||x.kind==2)=true:=by
   rcases h with h |h<;>rw[h]<;>rfl
  show Gb T l o (x::c) d=_;conv=>lhs;unfold Gb
  rw[if_pos i];rfl
 | .op x a b,c,d,h=>by
  have⟨i,j,k⟩:=h;have m:¬(x.kind==1||x.kind==2)=true:=by
   rcases i with h |h |h<;>rw[h]<;>decide
  have e:post (.op x a b)++c=post a++(post b++(x::c)):=by
   show post a++post b++[x]++c=_;simp
  rw[e,gJ a _ d j,gJ b _ _ k];simp_all [Gb,if_neg,I0,IJ]
theorem zo {T:AB->Bool}{l:List AD}{t:FZ}(h:GI t):Gb T l o (post t) []=IJ T l o t:=by
 have:=gJ (T:=T) (l:=l) (o:=o) t [] [] h;rw[LX] at this;rw[this];simp[Gb]
variable {α:Type}
theorem dN {i j:Nat}(h:i+j<9223372036854775808):i64.wrap (Int.tdiv (i64.wrap ((i:Int)+(j:Int))) 2)=(((i+j) / 2:Nat):Int):=by
 rw[wr (x:=(i:Int)+(j:Int)) (by omega) (by omega),show(i:Int)+(j:Int)=((i+j:Nat):Int) by omega,show Int.tdiv ((i+j:Nat):Int) 2=(((i+j) / 2:Nat):Int) from rfl,wr (by omega) (by omega)]
theorem dO (O:Lin α){L:Nat->Int × Int->Option Int}{s:List α}{t:α}(l:∀(c i j:Nat) (h:i<j) (d:j<=s.length),L (c+1) ((i:Int),(j:Int))=if O.lt (s[(i+j) / 2]'(by omega)) t then L c ((((i+j) / 2+1:Nat):Int),(j:Int)) else L c ((i:Int),(((i+j) / 2:Nat):Int)))
  (m:∀c (i:Nat),L (c+1) ((i:Int),(i:Int))=some (i:Int)) (p:O.Rises s):∀(c i j:Nat),i<=j->j<=s.length->j-i<c->(∀(q:Nat) (h:q<s.length),q<i->O.lt s[q] t=true)->(∀(q:Nat) (h:q<s.length),j<=q->O.lt s[q] t=false)->
   ∃k:Nat,L c ((i:Int),(j:Int))=some (k:Int)/\k<=s.length/\(∀(q:Nat) (h:q<s.length),q<k->O.lt s[q] t=true)/\(∀(q:Nat) (h:q<s.length),k<=q->O.lt s[q] t=false)
 |0,_,_,_,_,h,_,_=>by omega
 |c+1,i,j,A,d,B,u,v=>by
  have w:=Bi.1 p;by_cases h:i<j;rotate_left
  ·have:i=j:=(by omega);subst this;rw[m];exact⟨i,rfl,d,u,v⟩
  rw[l c i j h d];cases e:O.lt (s[(i+j) / 2]'(by omega)) t with
  |true=>
   rw[if_pos rfl];refine dO O l m p c _ _ (by omega) d (by omega) (fun q r y=> ?_) v;rcases LY q ((i+j) / 2) with b |b
   ·exact O.trans (w q _ r (by omega) b) e
   ·have:q=(i+j) / 2:=(by omega);subst this;exact e
  |false=>
   rw[if_neg (by decide)];refine dO O l m p c _ _ (by omega) (by omega) (by omega) u (fun q r y=> ?_);rcases LY ((i+j) / 2) q with b |b
   ·cases z:O.lt s[q] t with
    |false=>rfl
    |true=>
     rw[O.trans (w _ q (by omega) r b) z] at e;cases e
   have:q=(i+j) / 2:=(by omega);subst this;exact e
theorem xK (n:Nat)(a b:List AD)(c:Nat)(t:List AD)(i k:Int):Hy n a b (c+1) (t,i,k)=
   (((if decide (i<(a.length:Int)) then some (t,true) else some (t,decide (k<(b.length:Int)))):Option (List AD × Bool)).bind fun q=>
   (if q.2 then
    (((if k==(b.length:Int) then some (q.1,true) else(if decide (i<(a.length:Int)) then(CD a i).bind fun x=>(CD b k).bind fun y=>some (q.1,tO.lt x y) else some (q.1,false))):Option (List AD × Bool)).bind fun w=>
    (if w.2 then(CD a i).bind fun x=>(DG w.1 [x]).bind fun l=>Hy n a b c (l,i64.wrap (i+1),k)
    else(if i==(a.length:Int) then(CD b k).bind fun y=>(DG w.1 [y]).bind fun l=>Hy n a b c (l,i,i64.wrap (k+1))
     else(CD b k).bind fun y=>(CD a i).bind fun x=>(if tO.lt y x then(DG w.1 [y]).bind fun l=>Hy n a b c (l,i,i64.wrap (k+1)) else Hy n a b c (w.1,i64.wrap (i+1),k)))))
   else some q.1)):=by
 rw[Hy];cases decide (i<(a.length:Int))<;>cases decide (k<(b.length:Int))<;>cases(k==(b.length:Int))<;>cases CD a i<;>cases CD b k<;>rfl
theorem du:∀(m:Nat) (l:List AD) (n:Nat),l.length<=m->l.length<=4294967296->l.length+2<=n->Qf n l=some (tO.ofL l)
 |m,l,0,_,_,h=>by omega
 |m,l,n+1,i,c,j=>by
  unfold Qf;by_cases h:l.length<2
  ·rw[if_pos (by simp;omega),DV (by simpa using c),Zo,yA tO h]
  cases m with
  |zero=>omega
  |succ m=>
   rw[if_neg (by simp;omega),show Int.tdiv (l.length:Int) 2=((l.length / 2:Nat):Int) from rfl,wr (by omega) (by omega)];have d:FV l 0 ((l.length / 2:Nat):Int)=some (l.take (l.length / 2)):=Jn (xs:=l) (a:=0) (by omega) (by omega);have e:FV l ((l.length / 2:Nat):Int) (l.length:Int)=some (l.drop (l.length / 2)):=by
    have:=Jn (xs:=l) (a:=l.length / 2) (b:=l.length) (by omega) (Lc _);rwa [BD] at this
   have k:(l.take (l.length / 2)).length=l.length / 2:=(by rw[LC];omega);have p:(l.drop (l.length / 2)).length=l.length-l.length / 2:=Nv ..;have q:=SR tO (l.take (l.length / 2));have r:=SR tO (l.drop (l.length / 2));rw[d,Zo,du m _ n (by omega) (by omega) (by omega),Zo,e,Zo,du m _ n (by omega) (by omega) (by omega),Zo];have h:Hy n (tO.ofL (l.take (l.length / 2))) (tO.ofL (l.drop (l.length / 2))) n ([],0,0)=_:=oB tO (L:=Hy n (tO.ofL (l.take (l.length / 2))) (tO.ofL (l.drop (l.length / 2)))) (xK n _ _) n [] 0 0 (by omega) (by omega) (by omega) (by simp;omega) (by omega) (by omega);rw[h,Zo,LJ,LJ,LA,tO.mg_ofL,LK]
def Ji (o:Ak)(rel:ByteArray):AD:=⟨o,rel,⟨ByteArray.empty,ByteArray.empty,ByteArray.empty⟩⟩
theorem xL (b:ByteArray):¬G5 b ByteArray.empty<0:=by
 show ¬Lib.compareBytes b.data.toList []<0;cases b.data.toList<;>simp[Lib.compareBytes]
theorem mY:∀(p q x y:List ByteArray),p.length=q.length->Ev (p++x) (q++y)=if Ev p q=0 then Ev x y else Ev p q
 |[],[],x,y,_=>rfl
 |[],_::_,_,_,h=>by simp at h
 |_::_,[],_,_,h=>by simp at h
 |a::p,b::q,x,y,h=>by
  have c:=mY p q x y (by simpa using h);unfold Ev at *;simp only[LL,Bd,HF];omega
theorem mZ:∀x:List ByteArray,¬Ev x (x.map fun _=>ByteArray.empty)<0
 |[]=>by simp[Ev,HF]
 |a::x=>by
  have b:=mZ x;have h:=xL a;grind [Ev,List.zipWith_cons_cons,HF]
def kl (t:AD):List ByteArray:=[t.obj.type_,t.obj.id_,t.rel]
def Wb (t:AD):List ByteArray:=[t.sub_.type_,t.sub_.id_,t.sub_.rel]
theorem QL (x y:AD):tO.lt x y=decide ((if Ev (kl x) (kl y)=0 then Ev (Wb x) (Wb y) else Ev (kl x) (kl y))<0):=by
 rw[<-mY (kl x) (kl y) (Wb x) (Wb y) rfl];rfl
theorem Kq (x y:AD):Ev (kl x) (kl y)=0↔kR x=kR y:=by
 rw[Wi (kl x) (kl y) rfl];have⟨⟨a,b⟩,c,d⟩:=x;have⟨⟨e,h⟩,i,j⟩:=y;simp[kl,kR,and_assoc]
theorem xM {rel:ByteArray}{x:AD}(h:kR x=⟨o,rel⟩):tO.lt x (Ji o rel)=false:=by
 rw[QL,(Kq x (Ji o rel)).2 h,if_pos rfl];exact decide_eq_false (mZ (Wb x))
theorem xN {a x b:AD}(d:tO.lt a x=true)(c:tO.lt x b=true)(h:kR a=kR b):kR x=kR a:=by
 rw[QL] at d c;have e:kl b=kl a:=(Wi (kl b) (kl a) rfl).1 ((Kq b a).2 h.symm);rw[e] at c;have hn:=ec (kl x) (kl a);refine(Kq x a).1 ?_;grind
theorem ma {o:Ak}{rel:ByteArray}:∀ {l:List AD},tO.Rises l->(∀x∈l,tO.lt x (Ji o rel)=false)->l.filter (fun t=>(⟨o,rel⟩:AB)==kR t)=l.takeWhile fun t=>(⟨o,rel⟩:AB)==kR t
 |[],_,_=>rfl
 |x::l,hr,d=>by
  have⟨j,k⟩:=Oc.1 hr;have h:=ma k fun y b=>d y (Lj _ b);rw[Ok,Ig,h];cases e:((⟨o,rel⟩:AB)==kR x) with
  |true=>rfl
  |false=>
   rw[if_neg (by decide),<-h];refine OU.2 fun y b c=> ?_;have c:(⟨o,rel⟩:AB)=kR y:=(by simpa using c);have e:¬(⟨o,rel⟩:AB)=kR x:=(by simpa using e);have m:=d x (Lo ..);cases i:tO.lt (Ji o rel) x with
   |true=>exact e (xN i (j y b) c).symm
   |false=>
    have p:=tO.total i m;rw[<-p] at e;exact e rfl
theorem mb (n:Nat)(i:List AD)(o:Ak)(rel:ByteArray):∀(l:List AD) (e:List AN),e.length+l.length<=4294967296->Dl (aB n i o rel) (XQ n i o rel) l e=some (e++(l.takeWhile fun t=>(⟨o,rel⟩:AB)==kR t).map (·.sub_))
 |[],e,_=>by simp[Dl,XQ]
 |t::r,e,h=>by
  rw[Lh] at h;rw[Dl];show(if ((t.obj.type_==o.type_)&&(t.obj.id_==o.id_)) then(if (t.rel.toList==rel.toList) then(DG e [t.sub_]).bind fun m=>Dl (aB n i o rel) (XQ n i o rel) r m else some e) else some e)=_;rw[DZ,Ig];have p:((t.obj.type_==o.type_)&&(t.obj.id_==o.id_))=decide (t.obj=o):=by
   have⟨⟨a,b⟩,c,d⟩:=t;have⟨u,v⟩:=o;rw[Ni];simp
  have q:((⟨o,rel⟩:AB)==kR t)=(decide (t.obj=o)&&decide (t.rel=rel)):=by
   have⟨⟨a,b⟩,c,d⟩:=t;rw[Ni];simp only[kR,beq_iff_eq,AB.mk.injEq,Ln,decide_eq_true_eq];exact⟨fun⟨j,k⟩=>⟨j.symm,k.symm⟩,fun⟨j,k⟩=>⟨j.symm,k.symm⟩⟩
  rw[p,q];cases decide (t.obj=o)
  ·simp
  cases decide (t.rel=rel)
  ·simp
  rw[if_pos rfl,if_pos rfl,DV (by simp;omega),Zo,mb n i o rel r _ (by simp;omega)];simp
theorem xO {s:List AD}(p:tO.Rises s)(h:s.length<=1000000)(hn:1000000<n)(o:Ak)(rel:ByteArray):Sf n s o rel=some (FA s o rel):=by
 unfold Sf aA;have⟨k,e,r,u,v⟩:=dO tO (L:=Se n s (Ji o rel)) (s:=s) (t:=Ji o rel) (fun c i j h z=>by
  rw[Se,EO h,if_pos rfl,dN (by omega),CL (by omega),Zo,show XR n _ _=some _ from rfl,Zo,MR]) (fun c i=>by rw[Se,DC (Lc _),if_neg (by decide)]) p n 0 s.length (by omega) (by omega) (by omega) (fun q _ h=>by omega) (fun q h A=>by omega)
 have w:Se n s (⟨o,rel,⟨ByteArray.empty,ByteArray.empty,ByteArray.empty⟩⟩:AD) n (0,(s.length:Int))=some (k:Int):=e;have hL:XP n s o rel n (([]:List AN),(k:Int))=_:=yc n s o rel (by omega) n [] k r (by omega);rw[mb n s o rel _ [] (by simp;omega),LA] at hL;rw[w,Zo,Zo,hL,Zo];have B:(s.take k).filter (fun t=>(⟨o,rel⟩:AB)==kR t)= []:=by
  refine OU.2 fun y b d=> ?_;obtain⟨q,l,rfl⟩:=Ox b;have d:(⟨o,rel⟩:AB)=kR (s.take k)[q]:=by simpa using d
  have m:=xM d.symm;rw[LC] at l;rw[List.getElem_take] at m;rw[u q (by omega) (by omega)] at m;cases m
 have C:(s.drop k).filter (fun t=>(⟨o,rel⟩:AB)==kR t)=(s.drop k).takeWhile fun t=>(⟨o,rel⟩:AB)==kR t:=by
  refine ma (p.sublist (List.drop_sublist _ _)) fun y b=> ?_;obtain⟨q,l,rfl⟩:=Ox b;rw[Nv] at l;rw[List.getElem_drop];exact v _ (by omega) (by omega)
 grind [kR,List.take_append_drop,FA]
def Eg (ts:List AG)(t:AD):Bool:=(CI ts t.obj.type_ t.rel).isSome&&((CI ts t.obj.type_ t.rel).getD CX).subs.any fun x=>decide (x.type_=t.sub_.type_)&&decide (x.rel=t.sub_.rel)
theorem mF {n:Nat}{t:AD}{q:AW × Bool}(e:q.1.subs.length<=51):∀(d i c:Nat),d=q.1.subs.length-i->i<=q.1.subs.length->d<c->
  SF n t q c (i:Int)=some (if (q.1.subs.drop i).any (fun x=>decide (x.type_=t.sub_.type_)&&decide (x.rel=t.sub_.rel)) then .inr true else .inl ())
 |0,i,c,h,j,k=>by
  obtain⟨c,rfl⟩:=sx c;unfold SF;rw[DC,if_neg (by decide),LG (by omega)];rfl
 |d+1,i,c,h,j,k=>by
  obtain⟨c,rfl⟩:=sx c;have b:i<q.1.subs.length:=by omega
  have l:=mF (n:=n) (t:=t) e d (i+1) c (by omega) (by omega) (by omega);unfold SF;rw[EO b,if_pos rfl,CL b,Zo,DZ,DZ,Al,l,Lm b,BZ];cases decide (q.1.subs[i].type_=t.sub_.type_)<;>cases decide (q.1.subs[i].rel=t.sub_.rel)<;>simp
theorem ww {t:AD}(hB:Ew ts)(hn:1000<n)(b:SE n t=some true):Kt n ts t=some (Eg ts t):=by
 unfold Kt Eg;rw[QM hB hn,Zo];have c:((CI ts t.obj.type_ t.rel).getD CX).subs.length<=51:=by
  cases h:CI ts t.obj.type_ t.rel with
  |none=>exact Lg _
  |some g=>
   unfold CI at h;have⟨y,d,i⟩:=Od.1 h;exact((hB.2 y (NQ d)).2 g (NQ i)).1
 dsimp only;cases(CI ts t.obj.type_ t.rel).isSome with
 |false=>rfl
 |true=>
  have e:=mF (n:=n) (t:=t) (q:=((CI ts t.obj.type_ t.rel).getD CX,true)) c _ 0 n rfl (Lg _) (by dsimp only;omega);rw[LJ] at e;have e:SF n t ((CI ts t.obj.type_ t.rel).getD CX,true) n 0=_:=e;rw[if_pos rfl,b,Zo,Zo,if_neg (by decide),e,Zo,NC];cases(((CI ts t.obj.type_ t.rel).getD CX).subs.any fun x=>decide (x.type_=t.sub_.type_)&&decide (x.rel=t.sub_.rel))<;>rfl
theorem dR {S:AC}(hW:EC ts S)(hB:Ew ts)(t:AD):Eg ts t=DU S t:=by
 have d:=(JS (UP hW hB) ⟨t.obj.type_,t.rel⟩).2.2.2.1;unfold Eg DU FL;rw[mz hW];unfold qf_ at d;show _=decide (_∈((mget (⟨t.obj.type_,t.rel⟩:AA) S.rels).getD CX).subs);generalize mget (⟨t.obj.type_,t.rel⟩:AA) S.rels=o at d⊢;cases o with
 |none=>simp[CX]
 |some g=>
  simp only[Nw] at d;rw[Ni];simp only[OD,Nw,NC,Nh,Ln,decide_eq_true_eq];constructor
  ·rintro⟨x,e,h,i⟩
   have:=d x e;have⟨a,b,c⟩:=x;dsimp only at h i this;subst h i this;exact e
  exact fun e=>⟨_,e,rfl,rfl⟩
end Go.Proofs.YtnmkbmefohakmaaGreat.Ab
