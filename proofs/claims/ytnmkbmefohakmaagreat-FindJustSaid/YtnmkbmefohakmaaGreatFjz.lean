/-
 What is listed is just what is so: for every schema, tuples and question of numbers. No condition.
-/
import Derived.Test.YtnmkbmefohakmaaGreatDse
import Derived.Test.YtnmkbmefohakmaaGreatCm
set_option linter.all false
namespace Go.Proofs.YtnmkbmefohakmaaGreat.Ab
open Go.RowKit
def VP:List Bool ⊕ Bool->Bool
 | .inl a=>a.length==1&&a.getD 0 false
 | .inr b=>b
section
variable {n:Nat}{ts:List AG}{S:AD}{rows:List AC}(hW:Dh ts S)(hB:Ed ts)(hn:2000000000<n)(hr:rows.length<=100)(hok:∀t∈rows,JS n t=some true){refs:List AB}{A:AB->Bool}{s:AL}(hl:refs.length<=20200)(hA:∀x,A x=true->x∈refs)
include hW hB hn hr hok hl hA in
theorem kS {r:AB}{g:AZ × Bool}(I:g.1.expr.length<=200)(B:Kc g.1.expr):∀(d i c:Nat) (f:List Bool),d=g.1.expr.length-i->i<=g.1.expr.length->d<c->f.length<=i->
  ∃q,J7 n ⟨ts,tO.ofL rows,refs,refs.map A,s⟩ r g c (f,(i:Int))=some q/\VP q=Hb A (rows.filter (Aq S)) r.obj (g.1.expr.drop i) f
 |0,i,c,f,J,L,M,N=>by
  obtain⟨c,rfl⟩:=sx c;refine⟨.inl f,?_,by rw[LH (by omega)];rfl⟩;unfold J7;rw[Cw,if_neg (by decide)]
 |d+1,i,c,f,J,L,M,N=>by
  obtain⟨c,rfl⟩:=sx c;have p:i<g.1.expr.length:=by omega
  have w:=fun f h=>kS (r:=r) I B d (i+1) c f (by omega) (by omega) (by omega) h;have hf:(rows.filter (Aq S)).length<=rows.length:=LM _ _;have C:Cu [] f=some f:=C6 (by simp only[LB];omega);have E:∀b,Cu f [b]=some (f++[b]):=fun b=>C6 (by grind);unfold J7
  rw[Dx p,if_pos rfl,CB p,Zo,Ar,Lj p];unfold Hb;have F:=B _ (LN p);generalize hx:g.1.expr[i]=x at F⊢;dsimp only;by_cases m:x.kind=1
  ·have⟨q,l,o⟩:=w (f++[A ⟨r.obj,x.a⟩]) (by grind);refine⟨q,?_,?_⟩
   ·rw[m,if_pos (by rfl),C,Zo,YP hn hl hA,Zo,E,Zo,l]
   rw[o,m,if_pos (by rfl)];unfold Ez;rw[m,if_pos (by rfl)];simp
  by_cases u:x.kind=2
  ·have h3:=KT (rows.filter (Aq S)) r.obj x.a;have v:=kQ (n:=n) (ts:=ts) (rows:=tO.ofL rows) (s:=s) hn hl hA (x:=x) (t0:=EX (tO.ofL (rows.filter (Aq S))) r.obj x.a) (by omega) _ 0 n false rfl (Lf _) (by omega);have v:RT n ⟨ts,tO.ofL rows,refs,refs.map A,s⟩ x (EX (tO.ofL (rows.filter (Aq S))) r.obj x.a) n (false,0)=_:=v;rw[LD,NE] at v;have⟨q,l,o⟩:=w (f++[(Qz (rows.filter (Aq S)) r.obj x).any A]) (by grind);refine⟨q,?_,?_⟩
   ·rw[u,if_neg (by decide),if_pos (by rfl),YQ hW hB hn hr hok,Zo,v,Zo,C,Zo,E,Zo];exact l
   rw[o,u,if_pos (by rfl)];unfold Ez;grind
  have O:(x.kind==1)=false:=by simpa using m
  have Q:(x.kind==2)=false:=by simpa using u
  rw[O,Q];simp only[Nb,if_false,Bool.or_self];by_cases G:f.length<2
  ·refine⟨.inr false,?_,by rw[if_pos G];rfl⟩;grind
  have R:IntKind.i64.wrap ((f.length:Int)-1)=((f.length-1:Nat):Int):=by rw[IntWalk.i64_in _ (by omega)];omega
  have T:IntKind.i64.wrap ((f.length:Int)-2)=((f.length-2:Nat):Int):=by rw[IntWalk.i64_in _ (by omega)];omega
  have U:idx f ((f.length-1:Nat):Int)=some (f.getD (f.length-1) false):=by rw[CB (show f.length-1<f.length by omega),BW,Le (show f.length-1<f.length by omega)];rfl
  have V:idx f ((f.length-2:Nat):Int)=some (f.getD (f.length-2) false):=by rw[CB (show f.length-2<f.length by omega),BW,Le (show f.length-2<f.length by omega)];rfl
  have X:Fd f 0 ((f.length-2:Nat):Int)=some (f.take (f.length-2)):=by
   have:=IZ (xs:=f) (a:=0) (b:=f.length-2) (Lf _) (by omega);rw[LD] at this;exact this
  have y:∀b,Cu (f.take (f.length-2)) [b]=some (f.take (f.length-2)++[b]):=fun b=>C6 (by grind);have z:Cu [] (f.take (f.length-2))=some (f.take (f.length-2)):=C6 (by grind);have Y:decide (f.length=0)=false:=DE;have⟨q,l,o⟩:=w (f.take (f.length-2)++[Ya x.kind (f.getD (f.length-2) false) (f.getD (f.length-1) false)]) (by grind);refine⟨q,?_,by rw[o,if_neg G]⟩;rw[decide_eq_false (show ¬(f.length:Int)<2 by omega),if_neg (by decide),R,T,U,V,X,Y];unfold Ya at l;rw[<-l];rcases F with e |e |e |e |e
  ·exact absurd e m
  ·exact absurd e u
  ·rw[e];cases f.getD (f.length-2) false<;>simp[y,z]
  ·rw[e];cases f.getD (f.length-2) false<;>simp[y,z]
  rw[e];cases f.getD (f.length-2) false<;>simp[y,z]
include hW hB hn hr hok hl hA in
theorem ve (r:AB):WJ n ⟨ts,tO.ofL rows,refs,refs.map A,s⟩ r=some (nwB S (rows.filter (Aq S)) s A r):=by
 have c:=G6 (Ha hW hB) (⟨r.obj.type_,r.rel⟩:AA);have l:(rows.filter (Aq S)).length<=rows.length:=LM _ _;unfold WJ nwB;dsimp only;rw[KU hB (by omega),Zo,Ql hW];dsimp only;by_cases a:(qf_ (⟨r.obj.type_,r.rel⟩:AA) Ca S.rels).expr= []
 ·have m:=KT (rows.filter (Aq S)) r.obj r.rel;have e:ji_ n ⟨ts,tO.ofL rows,refs,refs.map A,s⟩ (EX (tO.ofL (rows.filter (Aq S))) r.obj r.rel) n 0=_:=xw n ⟨ts,tO.ofL rows,refs,refs.map A,s⟩ (EX (tO.ofL (rows.filter (Aq S))) r.obj r.rel) (by omega) n () 0 (Lf _) (by omega);rw[LD,kP hn hl hA] at e;rw[if_pos (by rw[a];rfl),if_pos a,YQ hW hB hn hr hok,Zo,e,Zo];unfold Dn;grind
 have o:0<(qf_ (⟨r.obj.type_,r.rel⟩:AA) Ca S.rels).expr.length:=Nz.2 a;have⟨q,d,f⟩:=kS (s:=s) (r:=r) (g:=(qf_ (⟨r.obj.type_,r.rel⟩:AA) Ca S.rels,(CH ts r.obj.type_ r.rel).isSome)) hW hB hn hr hok hl hA c.2.1 c.2.2.2.2 _ 0 n [] rfl (Lf _) (by have:=c.2.1;dsimp only;omega) (Lf _);have d:J7 n ⟨ts,tO.ofL rows,refs,refs.map A,s⟩ r (qf_ (⟨r.obj.type_,r.rel⟩:AA) Ca S.rels,(CH ts r.obj.type_ r.rel).isSome) n (([]:List Bool),0)=_:=d;rw[LD] at f;rw[if_neg (by rw[beq_iff_eq];omega),if_neg a,d,Zo,<-f];rcases q with i |b
 ·dsimp only[VP];by_cases h:i.length=1
  ·obtain⟨b,rfl⟩:=Oe.1 h;rfl
  grind
 rfl
end
structure Ge (K:List AB) (rk:AB->Int) (nw:(AB->Bool)->AB->Bool) (k:Int) (A:AB->Bool):Prop where
 out:∀x,A x=true->x∈K
 lowf:∀r∈K,rk r<k->A r=nw A r
 hi:∀r∈K,k<rk r->A r=false
 i2:∀r∈K,rk r=k->A r=true->nw A r=true
 i1:∀j:Int,j<=k->∀T:AB->Bool,(∀x∈K,rk x<j->T x=A x)->(∀x∈K,rk x=j->nw T x=true->T x=true)->∀r∈K,rk r=j->A r=true->T r=true
def Eh (A:AB->Bool)(r:AB):AB->Bool:=fun x=>A x||decide (x=r)
section
variable {K:List AB}{D:AB->List AB}{rk:AB->Int}{nw:(AB->Bool)->AB->Bool}(hN:FZ K D rk nw){k:Int}{A:AB->Bool}
theorem S7 {r x:AB}(h:x≠r):Eh A r x=A x:=by unfold Eh;rw[decide_eq_false h,Bool.or_false]
theorem kT {r x:AB}(h:A x=true):Eh A r x=true:=by unfold Eh;rw[h,BO]
include hN in
theorem Ge.set (h:Ge K rk nw k A){r0:AB}(p:r0∈K)(v:rk r0=k)(i:nw A r0=true):Ge K rk nw k (Eh A r0):=by
 have l:∀x,rk x<k->Eh A r0 x=A x:=fun x a=>S7 fun e=>by rw[e] at a;omega
 have u:∀r∈K,rk r=k->nw A r=true->nw (Eh A r0) r=true:=fun r hr c i=>hN.mono _ _ r hr (fun d _ b=>(l d (by omega)).symm) (fun d _ _ b=>kT b) i;refine⟨fun x a=> ?_,fun r hr f=> ?_,fun r hr f=> ?_,fun r hr c g=> ?_,fun j hj T w m r hr c g=> ?_⟩
 ·unfold Eh at a;rw[LQ,decide_eq_true_eq] at a;rcases a with a |rfl
  ·exact h.out x a
  exact p
 ·rw[l r f,h.lowf r hr f];exact hN.loc _ _ r hr fun d b=>(l d (by have:=hN.rkD r hr d b;omega)).symm
 ·rw[S7 fun e=>by rw[e] at f;omega];exact h.hi r hr f
 ·by_cases e:r=r0
  ·rw[e];exact u r0 p v i
  rw[S7 e] at g;exact u r hr c (h.i2 r hr c g)
 have o:∀x∈K,rk x<j->T x=A x:=fun x a y=>by rw[w x a y,l x (by omega)]
 by_cases e:r=r0
 ·subst e;have z:j=k:=by omega
  subst z;exact m r hr c (hN.mono A T r hr (fun d b f=>(o d (hN.DK r hr d b) (by omega)).symm) (fun d b C B=>h.i1 j hj T o m d (hN.DK r hr d b) (by omega) B) i)
 rw[S7 e] at g;exact h.i1 j hj T o m r hr c g
theorem Ge.next (h:Ge K rk nw k A)(c:∀r∈K,rk r=k->nw A r=true->A r=true):Ge K rk nw (k+1) A:=by
 refine⟨h.out,fun r hr d=> ?_,fun r hr d=>h.hi r hr (by omega),fun r hr b a=> ?_,fun j hj T f g r hr b a=> ?_⟩
 ·by_cases e:rk r=k
  ·rw[LY];exact⟨h.i2 r hr e,c r hr e⟩
  exact h.lowf r hr (by omega)
 ·rw[h.hi r hr (by omega)] at a;cases a
 by_cases e:j<=k
 ·exact h.i1 j e T f g r hr b a
 rw[h.hi r hr (by omega)] at a;cases a
theorem Ge.least (h:Ge K rk nw k A)(a:∀r∈K,rk r<k):D4 K rk nw A:=
 ⟨fun r hr=>h.lowf r hr (a r hr),fun j T b c r hr d e=>h.i1 j (by have:=a r hr;omega) T b c r hr d e⟩
theorem Ge.zero (a:∀r∈K,0<=rk r):Ge K rk nw 0 fun _=>false:=
 ⟨fun _ h=>(by cases h),fun r hr h=>(by have:=a r hr;omega),fun _ _ _=>rfl,fun _ _ _ h=>(by cases h),fun _ _ _ _ _ _ _ _ h=>(by cases h)⟩
theorem kU {A':AB->Bool}(h:∀x,A x=true->A' x=true):∀K:List AB,K.countP A<=K.countP A'
 |[]=>Lc _
 |x::K=>by
  have a:=kU h K;grind
theorem kV {r:AB}(a:A r=false):∀K:List AB,r∈K->K.countP A<K.countP (Eh A r)
 |x::K,h=>by
  rw[ID,ID];by_cases e:x=r
  ·subst e
   have:=kU (A:=A) (A':=Eh A x) (fun y b=>kT b) K;rw[a,show Eh A x x=true by unfold Eh;simp];grind
  have:=kV a K ((Lv.1 h).resolve_left fun c=>e c.symm);rw[S7 e];omega
theorem map_set (hn:K.Nodup){i:Nat}(b:i<K.length):(K.map A).set i true=K.map (Eh A K[i]):=by
 refine IB (by simp) fun z c a=> ?_;rw[Lt] at a;rw[IC,Bx,Bx];by_cases e:i=z
 ·subst e;rw[if_pos rfl];unfold Eh;simp
 rw[if_neg e,S7];grind [List.pairwise_iff_getElem,Nat.lt_or_ge]
end
section
variable {n:Nat}{ts:List AG}{S:AD}{rows:List AC}(hW:Dh ts S)(hB:Ed ts)(hn:2000000000<n)(hr:rows.length<=100)(hok:∀t∈rows,JS n t=some true){K:List AB}{s:AL}(hl:K.length<=20200)(hK0:0<K.length)(hKn:K.Nodup)(hN:FZ K (Dn S (rows.filter (Aq S))) (D2 S) (nwB S (rows.filter (Aq S)) s))
include hW hB hn hr hok hl hK0 hKn hN in
theorem kW {k:Nat}:∀(d i c:Nat) (A:AB->Bool) (b:Bool),d=K.length-i->i<=K.length->d<c->Ge K (D2 S) (nwB S (rows.filter (Aq S)) s) (k:Int) A->
  ∃a e,Ke n ts s (tO.ofL rows) K (K.map (D2 S)) (k:Int) c (K.map A,b,(i:Int))=some (K.map a,e)/\Ge K (D2 S) (nwB S (rows.filter (Aq S)) s) (k:Int) a/\(e=true->b=true/\a=A/\∀(z:Nat) (l:z<K.length),i<=z->D2 S K[z]=(k:Int)->nwB S (rows.filter (Aq S)) s A K[z]=true->A K[z]=true)/\K.countP A<=K.countP a/\(e=false->b=true->K.countP A<K.countP a)
 |0,i,c,A,b,v,w,y,g=>by
  obtain⟨c,rfl⟩:=sx c;refine⟨A,b,?_,g,fun h=>⟨h,rfl,fun z l L=>by omega⟩,Lc _,fun m o=>by rw[m] at o;cases o⟩;unfold Ke;rw[Cw,if_neg (by decide),Lt,decide_eq_true hK0];rfl
 |d+1,i,c,A,b,v,w,y,g=>by
  obtain⟨c,rfl⟩:=sx c;have f:i<K.length:=by omega
  have B:i<(K.map (D2 S)).length:=by rw[Lt];exact f
  have C:i<(K.map A).length:=by rw[Lt];exact f
  have gr:∀(A:AB->Bool) (z:Option (List Bool × Bool)),Cy (decide (0<(K.map A).length)) z=z:=fun A z=>by rw[Lt,decide_eq_true hK0];rfl
  have p:=fun A b h=>kW (k:=k) d (i+1) c A b (by omega) (by omega) (by omega) h
  have M:(D2 S K[i]=(k:Int)->nwB S (rows.filter (Aq S)) s A K[i]=true->A K[i]=true)->∃a e,Ke n ts s (tO.ofL rows) K (K.map (D2 S)) (k:Int) c (K.map A,b,((i+1:Nat):Int))=some (K.map a,e)/\Ge K (D2 S) (nwB S (rows.filter (Aq S)) s) (k:Int) a/\(e=true->b=true/\a=A/\∀(z:Nat) (l:z<K.length),i<=z->D2 S K[z]=(k:Int)->nwB S (rows.filter (Aq S)) s A K[z]=true->A K[z]=true)/\K.countP A<=K.countP a/\(e=false->b=true->K.countP A<K.countP a):=fun r=>by
   have⟨a,e,E,F,G,I,J⟩:=p A b g;grind
  unfold Ke;rw[Dx f,if_pos rfl,CB B,Zo,CB C,CB f,Bx,Bx,Ar,Li];simp only[Zo];by_cases u:D2 S K[i]=(k:Int)
  ·rw[if_pos (by rw[beq_iff_eq];exact u)];cases hA:A K[i] with
   |true=>
    grind
   |false=>
    rw[if_neg (by decide),ve hW hB hn hr hok hl g.out,Zo];cases r:nwB S (rows.filter (Aq S)) s A K[i] with
    |false=>
     grind
    |true=>
     have⟨a,e,E,F,G,I,J⟩:=p (Eh A K[i]) false (g.set hN (LN f) u r);have m:=kV hA K (LN f);rw[if_pos rfl,map_set hKn f,gr];grind
  grind
include hW hB hn hr hok hl hK0 hKn hN in
theorem vg {k:Nat}:∀(m t c:Nat) (A:AB->Bool),m=K.length+1-t->m<c->t<=K.countP A->Ge K (D2 S) (nwB S (rows.filter (Aq S)) s) (k:Int) A->
  ∃a,WO n ts s (tO.ofL rows) K (K.map (D2 S)) (k:Int) c (K.map A,(t:Int))=some (K.map a)/\Ge K (D2 S) (nwB S (rows.filter (Aq S)) s) ((k:Int)+1) a:=by
 intro m;induction m with
 |zero=>
  grind
 |succ m f=>
  intro t c A B C E g;obtain⟨c,rfl⟩:=sx c;have F:=List.countP_le_length (p:=A) (l:=K);have⟨a,h,b,d,i,G,o⟩:=kW hW hB hn hr hok hl hK0 hKn hN (k:=k) _ 0 n A true rfl (Lf _) (by omega) g;have b:Ke n ts s (tO.ofL rows) K (K.map (D2 S)) (k:Int) n (K.map A,true,0)=_:=b;unfold WO;rw[decide_eq_true (show(t:Int)<=(K.length:Int) by omega),if_pos rfl,b,Zo];dsimp only;rw[Lt,decide_eq_true hK0];unfold Cy;cases e:h with
  |true=>
   obtain⟨_,rfl,u⟩:=i e;refine⟨a,by simp,d.next fun r hr v w=> ?_⟩;obtain⟨z,y,rfl⟩:=Bs.1 hr;exact u z y (Lf _) v w
  |false=>
   have:=o e rfl;rw[if_neg (by decide),if_pos rfl,Ar];exact f (t+1) c a (by omega) (by omega) (by omega) d
include hW hB hn hr hok hl hK0 hKn hN in
theorem vh {q:List Ai × List Int × Bool}(hq:q.1.length<=40200):∀(m k c:Nat) (A:AB->Bool),m=q.1.length+1-k->k<=q.1.length+1->m<c->Ge K (D2 S) (nwB S (rows.filter (Aq S)) s) (k:Int) A->
  ∃a,Th n ts s (tO.ofL rows) K q (K.map (D2 S)) c (K.map A,(k:Int))=some (K.map a)/\Ge K (D2 S) (nwB S (rows.filter (Aq S)) s) ((q.1.length:Int)+1) a:=by
 intro m;induction m with
 |zero=>
  intro k c A e f g d;obtain⟨c,rfl⟩:=sx c;refine⟨A,?_,by grind⟩;unfold Th;rw[decide_eq_false (show ¬(k:Int)<=(q.1.length:Int) by omega),if_neg (by decide),Lt,decide_eq_true hK0];rfl
 |succ m h=>
  intro k c A e f g d;obtain⟨c,rfl⟩:=sx c;have⟨a,b,i⟩:=vg hW hB hn hr hok hl hK0 hKn hN (k:=k) _ 0 n A rfl (by omega) (Lf _) d;have b:WO n ts s (tO.ofL rows) K (K.map (D2 S)) (k:Int) n (K.map A,0)=_:=b;unfold Th;rw[decide_eq_true (show(k:Int)<=(q.1.length:Int) by omega),if_pos rfl,b,Zo,Lt,decide_eq_true hK0,Ar];unfold Cy;rw[if_pos rfl];exact h (k+1) c a (by omega) (by omega) (by omega) (by rw[OO];exact i)
end
section
variable {n:Nat}{S:AD}{K:List AB}{q:List Ai × List Int × Bool}(hq:q.1.length<=40200)(hn:2000000000<n)(hR:q.2.1.length=q.1.length)(hv:∀(j:Nat) (hj:j<q.2.1.length) (hj':j<q.1.length),q.2.1[j]=Cp S.ranks (nm q.1[j]))
include hq hR hv in
theorem kX {i:Nat}(f:i<K.length):∀(d k c:Nat) (v:Int),d=q.1.length-k->k<=q.1.length->d<c->∃w,MV n K q (i:Int) c (v,(k:Int))=some w/\(w=v\/w=D2 S K[i])/\((∃(z:Nat) (g:z<q.1.length),k<=z/\nm q.1[z]=Ei K[i])->w=D2 S K[i])
 |0,k,c,v,p,r,u=>by
  obtain⟨c,rfl⟩:=sx c;refine⟨v,?_,.inl rfl,fun⟨z,g,h,_⟩=>by omega⟩;unfold MV;rw[Cw,if_neg (by decide)]
 |d+1,k,c,v,p,r,u=>by
  obtain⟨c,rfl⟩:=sx c;have b:k<q.1.length:=by omega
  have l:k<q.2.1.length:=by omega
  have m:=fun v=>kX f d (k+1) c v (by omega) (by omega) (by omega);have e:nm q.1[k]=Ei K[i]↔q.1[k].t=K[i].obj.type_/\q.1[k].rel=K[i].rel:=by unfold nm Ei;rw[AA.mk.injEq]
  unfold MV;rw[Dx b,if_pos rfl,CB b,Zo,CB f,Zo,DH,DH,CB l,Zo,Ar];have C:¬nm q.1[k]=Ei K[i]->∃w,MV n K q (i:Int) c (v,((k+1:Nat):Int))=some w/\(w=v\/w=D2 S K[i])/\((∃(z:Nat) (g:z<q.1.length),k<=z/\nm q.1[z]=Ei K[i])->w=D2 S K[i]):=fun E=>by
   have⟨w,y,a,F⟩:=m v;grind
  by_cases o:q.1[k].t=K[i].obj.type_
  ·rw[decide_eq_true o,if_pos rfl];by_cases B:q.1[k].rel=K[i].rel
   ·have⟨w,y,a,_⟩:=m q.2.1[k];have G:w=D2 S K[i]:=by
     rcases a with a |a
     ·rw[a,hv k l b,e.2 ⟨o,B⟩];rfl
     exact a
    grind
   grind
  grind
include hq hR hv hn in
theorem kY (hl:K.length<=20200)(g:∀r∈K,∃(z:Nat) (h:z<q.1.length),nm q.1[z]=Ei r):∀(d i c:Nat) (a:List Int),d=K.length-i->i<=K.length->d<c->a.length<=i->Tg n K q c (a,(i:Int))=some (a++(K.drop i).map (D2 S))
 |0,i,c,a,l,m,o,p=>by
  obtain⟨c,rfl⟩:=sx c;unfold Tg;rw[Cw,if_neg (by decide),LH (by omega)];simp
 |d+1,i,c,a,l,m,o,p=>by
  obtain⟨c,rfl⟩:=sx c;have b:i<K.length:=by omega
  have⟨w,f,_,u⟩:=kX (n:=n) hq hR hv b _ 0 n 0 rfl (Lf _) (by omega);have f:MV n K q (i:Int) n (0,0)=_:=f;have⟨z,h,e⟩:=g _ (LN b);have v:=u ⟨z,h,Lf _,e⟩;unfold Tg;rw[Dx b,if_pos rfl,f,Zo,C6 (by simp only[Lo];omega),Zo,Ar,kY hl g d (i+1) c _ (by omega) (by omega) (by omega) (by rw[Ld,Lo];omega),Lj b,v];simp only[Lh,Lz,LU,LA]
end
section
variable {n:Nat}{ts:List AG}{S:AD}{rows:List AC}(hW:Dh ts S)(hB:Ed ts)(hT:Ys ts)(hn:2000000000<n)(hr:rows.length<=100)(hok:∀t∈rows,JS n t=some true)
include hW hB hT hn hr hok in
theorem vj {K:List AB}{s:AL}(hl:K.length<=20200)(hK0:0<K.length)(hKn:K.Nodup)(c:∀r∈K,Ay (Ei r) S.rels=true)(i:∀r∈K,∀d∈Dn S (rows.filter (Aq S)) r,d∈K):
  ∃A,ref6_Seek_C1_ref6_know n ts s (tO.ofL rows) K=some (K.map A)/\(∀x,A x=true->x∈K)/\D4 K (D2 S) (nwB S (rows.filter (Aq S)) s) A:=by
 have l:∀t∈rows.filter (Aq S),Et S t:=fun t m=>of_decide_eq_true (LO.1 m).2;have hN:=MK hW hB l s c i;have⟨R,o,p,u⟩:=kF hW hT hB hn;have B:=ff hB;have C:(Cs ts).length=(Dd ts).length:=by rw[<-YL,Lt]
 have v:∀r∈K,∃(z:Nat) (f:z<(Cs ts).length),nm (Cs ts)[z]=Ei r:=fun r hr=>by
  have h:=c r hr;rw[Kr,hW.rels,Mi,<-YL] at h;have⟨x,w,e⟩:=LL.1 h;obtain⟨z,f,rfl⟩:=Bs.1 w;exact⟨z,f,e⟩
 have a:=kY (n:=n) (S:=S) (K:=K) (q:=(Cs ts,R,true)) (by show(Cs ts).length<=40200;omega) hn p u hl v _ 0 n [] rfl (Lf _) (by omega) (Lf _);have a:Tg n K (Cs ts,R,true) n (([]:List Int),0)=_:=a;rw[LD,LA] at a;have y:PS (K.length:Int)=some (K.map fun _=>false):=by
  unfold PS;rw[ifp,Li,List.map_const']
 have⟨A,b,g⟩:=vh (k:=0) hW hB hn hr hok hl hK0 hKn hN (q:=(Cs ts,R,true)) (by show(Cs ts).length<=40200;omega) _ n _ rfl (Lf _) (by show(Cs ts).length+1-0<n;omega) (Ge.zero fun r _=>hW.rk0 _);have b:Th n ts s (tO.ofL rows) K (Cs ts,R,true) (K.map (D2 S)) n (K.map fun _=>false,0)=_:=b;refine⟨A,?_,g.out,g.least fun r _=> ?_⟩
 ·unfold ref6_Seek_C1_ref6_know;rw[o,Zo,a,Zo,y,Zo,b,Zo]
 have:=hW.rkT (Ei r);show Cp S.ranks (Ei r)<((Cs ts).length:Int)+1;omega
include hW hB hT hn hr hok in
theorem vm (o:Ae)(rel:ByteArray)(s:AL):MW n ts rows o rel s=cS n S rows o rel s:=by
 have M:(rows.filter (Aq S)).length<=rows.length:=LM _ _;have a:∀t∈rows.filter (Aq S),Et S t:=fun t i=>of_decide_eq_true (LO.1 i).2;unfold MW cS;rw[vU hW hB hT hn,Zo,if_neg (by decide),DH];by_cases b:s.rel={ data:= #[] }
 ·rw[decide_eq_true b,if_pos rfl,if_pos b,KU hB (by omega),Zo];dsimp only;rw[show(CH ts o.type_ rel).isSome=Ay (⟨o.type_,rel⟩:AA) S.rels from VM hW o.type_ rel];cases c:Ay (⟨o.type_,rel⟩:AA) S.rels with
  |false=>rw[if_neg (by decide),if_neg (by decide)]
  |true=>
   have⟨U,N,m,p,u,v,_⟩:=Vc (l:=rows.filter (Aq S)) (by omega) a hW hB c;have⟨K,w,y,d,f,z,g⟩:=vd (r0:=⟨o,rel⟩) hW hB hn hr hok m p v;have h:∀r∈K,Ay (Ei r) S.rels=true:=fun r hr=>u r (z r hr);have⟨A,B,C,E⟩:=vj (s:=s) hW hB hT hn hr hok d (OR f) y h g;have⟨O,Q,F,G,I,J,L⟩:=wd (r0:=[]) hW hB a s (by omega) hn c;have e:=E.uniq L (MK hW hB a s h g) (MK hW hB a s I J) (fun r _=>hW.rk0 _) f G;rw[if_pos rfl,if_pos rfl,bu rows.length rows n (Lc _) (by omega) (by omega),Zo,w,Zo,B,Zo,YP hn d C,Zo,F,e];rfl
 rw[decide_eq_false b,if_neg (by decide),if_neg b]
end
theorem PE {n:Nat}{t:List ByteArray × Bool × Int}{x:ByteArray}(hl:t.1.length<=1000000):∀(d i c:Nat) (b:Bool),d=t.1.length-i->i<=t.1.length->d<c->Qp n t x c (b,(i:Int))=some (b||decide (x∈t.1.drop i))
 |0,i,c,b,f,g,l=>by
  obtain⟨c,rfl⟩:=sx c;unfold Qp;rw[Cw,if_neg (by decide),LH (by omega)];simp
 |d+1,i,c,b,f,g,l=>by
  obtain⟨c,rfl⟩:=sx c;have a:i<t.1.length:=by omega
  have e:=fun b=>PE (n:=n) (x:=x) hl d (i+1) c b (by omega) (by omega) (by omega);unfold Qp;rw[Dx a,if_pos rfl,CB a,Zo,DH,Ar,e,e,Lj a];cases b with
  |true=>rfl
  |false=>
   rw[if_neg (by decide),NE];refine congrArg some ?_;rw[LY];simp only[LQ,decide_eq_true_eq,Lv];exact⟨fun h=>h.imp IF id,fun h=>h.imp IF id⟩
theorem PF {n:Nat}{t:List ByteArray × Bool × Int}{x:ByteArray}(hl:t.1.length<=1000000):∀(d i c:Nat) (b:Bool),d=t.1.length-i->i<=t.1.length->d<c->Qq n t x c (b,(i:Int))=some (b||decide (x∈t.1.drop i))
 |0,i,c,b,f,g,l=>by
  obtain⟨c,rfl⟩:=sx c;unfold Qq;rw[Cw,if_neg (by decide),LH (by omega)];simp
 |d+1,i,c,b,f,g,l=>by
  obtain⟨c,rfl⟩:=sx c;have a:i<t.1.length:=by omega
  have e:=fun b=>PF (n:=n) (x:=x) hl d (i+1) c b (by omega) (by omega) (by omega);unfold Qq;rw[Dx a,if_pos rfl,CB a,Zo,DH,Ar,e,e,Lj a];cases b with
  |true=>rfl
  |false=>
   rw[if_neg (by decide),NE];refine congrArg some ?_;rw[LY];simp only[LQ,decide_eq_true_eq,Lv];exact⟨fun h=>h.imp IF id,fun h=>h.imp IF id⟩
theorem Qr (o:Ae)(a b:ByteArray):((o.type_==a)&&(o.id_==b))=decide (o=⟨a,b⟩):=by
 have⟨c,d⟩:=o;rw[LY];simp
theorem wA (s:AL)(a b c:ByteArray):((s.type_==a)&&((s.id_==b)&&(s.rel==c)))=decide (s=⟨a,b,c⟩):=kM s ⟨a,b,c⟩
theorem PG {n:Nat}{ts:List AG}{rows:List AC}{ak:Ae × ByteArray × AL}{x:ByteArray}(hr:rows.length<=100)(f:∀t∈rows,KX n ts t=some (F7 ts t)):∀(d i c:Nat) (a b:Bool),d=rows.length-i->i<=rows.length->d<c->
  MG n ts rows ak x c (a,b,(i:Int))=some (a||(rows.drop i).any (fun t=>F7 ts t&&decide (t.obj=⟨ak.1.type_,x⟩)),b||(rows.drop i).any (fun t=>F7 ts t&&decide (t.sub_=⟨{ data:= #[117] },x,ByteArray.empty⟩)))
 |0,i,c,a,b,h,l,m=>by
  obtain⟨c,rfl⟩:=sx c;unfold MG;rw[Cw,if_neg (by decide),LH (by omega)];simp
 |d+1,i,c,a,b,h,l,m=>by
  obtain⟨c,rfl⟩:=sx c;have e:i<rows.length:=by omega
  have g:=fun a b=>PG (ak:=ak) (x:=x) hr f d (i+1) c a b (by omega) (by omega) (by omega);unfold MG;rw[Dx e,if_pos rfl,CB e,Zo,f _ (LN e),Zo,Ar,Lj e,BV,BV];simp only[Zo,Qr,wA];cases F7 ts rows[i] with
  |false=>rw[if_neg (by decide),g,Ng,Ng,NE,NE]
  |true=>
   cases a<;>cases b<;>simp only[↓reduceIte,Nb,Zo,g,NB,BO,NE]
section
variable {S:AD}{rows:List AC}{x:ByteArray}
theorem wB {typ:ByteArray}:x∈FB S rows typ↔(rows.any fun t=>Aq S t&&decide (t.obj=⟨typ,x⟩))=true:=by
 unfold FB Rn;rw[tx.mem_ofL,LL,Nq];constructor
 ·rintro⟨t,b,rfl⟩;have⟨c,a⟩:=LO.1 b;have⟨d,e⟩:=LO.1 (tO.mem_ofL.1 c);have a:=eq_of_beq a;refine⟨t,d,?_⟩;simp_all
 rintro⟨t,b,h⟩;have⟨c,a⟩:=O6.1 h;have a:=of_decide_eq_true a;exact⟨t,LO.2 ⟨tO.mem_ofL.2 (LO.2 ⟨b,c⟩),by rw[a];exact beq_self_eq_true _⟩,by rw[a]⟩
theorem wC {typ:ByteArray}:x∈Eb S rows typ↔(rows.any fun t=>Aq S t&&decide (t.sub_=⟨typ,x,ByteArray.empty⟩))=true:=by
 unfold Eb Pp;rw[tx.mem_ofL,LL,Nq];constructor
 ·rintro⟨t,c,rfl⟩;have⟨b,a⟩:=LO.1 c;have⟨b,d⟩:=LO.1 b;have⟨e,f⟩:=LO.1 (tO.mem_ofL.1 b);have a:=eq_of_beq a;have d:t.sub_.rel=ByteArray.empty:=of_decide_eq_true d;refine⟨t,e,?_⟩;rw[f,a,<-d,NB];exact decide_eq_true rfl
 rintro⟨t,c,h⟩;have⟨b,a⟩:=O6.1 h;have a:=of_decide_eq_true a;refine⟨t,LO.2 ⟨LO.2 ⟨tO.mem_ofL.2 (LO.2 ⟨c,b⟩),?_⟩,by rw[a];exact beq_self_eq_true _⟩,by rw[a]⟩;unfold GX;rw[a];exact decide_eq_true rfl
end
abbrev fj8:List ByteArray:=[{ data:= #[97] },{ data:= #[98] },{ data:= #[99] },{ data:= #[100] },{ data:= #[97,98] },{ data:= #[98,45,49] },{ data:= #[120,46,121] },{ data:= #[48] }]
theorem PH {n:Nat}{ts:List AG}{rows:List AC}{ak:Ae × ByteArray × AL}{a b:List ByteArray × Bool × Int}{e f g h:ByteArray->Bool}(u:a.1.length<=1000)(v:b.1.length<=1000)(hn:100000<n)
  (l:∀x,MG n ts rows ak x n (false,false,0)=some (e x,f x)) (w:∀x,MW n ts rows (⟨ak.1.type_,x⟩:Ae) ak.2.1 (⟨ak.2.2.type_,ak.2.2.id_,ak.2.2.rel⟩:AL)=some (g x,0)) (y:∀x,MW n ts rows (⟨ak.1.type_,ak.1.id_⟩:Ae) ak.2.1 (⟨{ data:= #[117] },x,ByteArray.empty⟩:AL)=some (h x,0))
  (m:∀x,decide (x∈a.1)=(e x&&g x)) (o:∀x,decide (x∈b.1)=(f x&&h x)):∀(d i c:Nat),d=8-i->i<=8->d<c->MH n ts rows ak a b c (i:Int)=some (.inl ())
 |0,i,c,z,B,C=>by
  obtain⟨c,rfl⟩:=sx c;unfold MH;rw[DE,if_neg (by decide)]
 |d+1,i,c,z,B,C=>by
  obtain⟨c,rfl⟩:=sx c;have E:=PH u v hn l w y m o d (i+1) c (by omega) (by omega) (by omega);obtain⟨x,F⟩:∃x,idx fj8 (i:Int)=some x:=⟨_,CB (show i<fj8.length by show i<8;omega)⟩;have p:Qp n a x n (false,0)=_:=PE (n:=n) (t:=a) (x:=x) (by omega) _ 0 n false rfl (Lf _) (by omega);have r:Qq n b x n (false,0)=_:=PF (n:=n) (t:=b) (x:=x) (by omega) _ 0 n false rfl (Lf _) (by omega);rw[LD,NE,m] at p;rw[LD,NE,o] at r;unfold MH;rw[DB,if_pos rfl,F,Zo,p,Zo,r,Zo,l,Zo,Ar,E];grind
theorem kq (b:ByteArray->Bool)(l:List ByteArray):l.filter (G2 b { data:= #[] })=l.filter b:=wO
theorem law_findJust (t0 i:List Int)(z:Int):∃n,YR n t0 i z=some true:=by
 refine⟨nW,?_⟩;have B:=wP;have C:2000200000<nW:=by decide
 generalize N:nW=n at B C⊢;have hn:=C;clear N;have⟨s,O,E⟩:=wv (n:=n) (by omega) t0;have⟨ts,F,hB⟩:=nG s n (by omega);have hT:=xg F;have⟨l,u,hl⟩:=wc i 25;have u:Fd i 0 (if 25<(i.length:Int) then 25 else(i.length:Int))=some l:=u;have⟨rows,Q,_,hr,G⟩:=ww (n:=n) l (by omega);have⟨c,R,T⟩:=wx n z;have hok:∀t∈rows,JZ n t=some true:=fun t p=>(mW (by omega) (G t p)).2;have I:∀t∈rows,JS n t=some true:=fun t p=>(mW (by omega) (G t p)).1;have v:c.2.2.rel={ data:= #[] }:=T.2.2.2.2;unfold YR;rw[O,Zo,F,Zo,u,Zo,Q,Zo,R,Zo]
 have⟨w,d,U⟩:=qQ hB (n:=n) (by omega);have V:(∃e,(e != 0)=true/\JQ n ts rows c.1.type_ c.2.1 ⟨ByteArray.empty,((1000:Nat):Int)⟩=some ((),e))\/∃S,HO n ts=some (.inl S)/\Dh ts S/\Ay (⟨c.1.type_,c.2.1⟩:AA) S.rels=true:=by
  rcases w with S |e
  ·have hW:=U S rfl;cases f:Ay (⟨c.1.type_,c.2.1⟩:AA) S.rels with |false=>exact .inl ⟨12,rfl,wJ d hW hB (by omega) (by omega) hok f (by decide) (by decide)⟩ |true=>exact .inr ⟨S,d,hW,f⟩
  exact .inl ⟨e,li d,wN d (by decide) (by decide)⟩
 rcases V with⟨e,J,X⟩ |⟨S,d,hW,f⟩
 ·have⟨g,h⟩:=wM (o:=(⟨c.1.type_,c.1.id_⟩:Ae)) (typ:={ data:= #[117] }) (s:=(⟨c.2.2.type_,c.2.2.id_,c.2.2.rel⟩:AL)) X J v;have g:IW n ts rows c.1.type_ c.2.1 (⟨c.2.2.type_,c.2.2.id_,c.2.2.rel⟩:AL) (⟨ByteArray.empty,1000⟩:CA)=_:=g;have h:Jx n ts rows (⟨c.1.type_,c.1.id_⟩:Ae) c.2.1 ({ data:= #[117] }) (⟨ByteArray.empty,1000⟩:CA)=_:=h;rw[g,Zo,h,Zo];dsimp only;rw[if_pos J,Zo,if_pos rfl,if_pos (beq_self_eq_true e),if_pos (by rfl),B];rfl
 have g:IW n ts rows c.1.type_ c.2.1 (⟨c.2.2.type_,c.2.2.id_,c.2.2.rel⟩:AL) (⟨ByteArray.empty,1000⟩:CA)=_:=lK d hW hB (by omega) (by omega) hok (s:=(⟨c.2.2.type_,c.2.2.id_,c.2.2.rel⟩:AL)) (a:=ByteArray.empty) (m:=1000) f v (by decide) (by decide);have h:Jx n ts rows (⟨c.1.type_,c.1.id_⟩:Ae) c.2.1 ({ data:= #[117] }) (⟨ByteArray.empty,1000⟩:CA)=_:=lL d hW hB (by omega) (by omega) hok (o:=(⟨c.1.type_,c.1.id_⟩:Ae)) (typ:={ data:= #[117] }) (a:=ByteArray.empty) (m:=1000) f (by decide) (by decide);have l1:=lI (S:=S) (rows:=rows) (typ:=c.1.type_);have l2:=lJ (S:=S) (rows:=rows) (typ:={ data:= #[117] });have Y:(FB S rows c.1.type_).filter (G2 (fun x=>ER n S rows ⟨c.1.type_,x⟩ c.2.1 (⟨c.2.2.type_,c.2.2.id_,c.2.2.rel⟩:AL)) ByteArray.empty)=_:=kq _ _;have k2:(Eb S rows { data:= #[117] }).filter (G2 (fun x=>ER n S rows ⟨c.1.type_,c.1.id_⟩ c.2.1 ⟨{ data:= #[117] },x,ByteArray.empty⟩) ByteArray.empty)=_:=kq _ _;have m1:=LM (fun x=>ER n S rows ⟨c.1.type_,x⟩ c.2.1 (⟨c.2.2.type_,c.2.2.id_,c.2.2.rel⟩:AL)) (FB S rows c.1.type_);have m2:=LM (fun x=>ER n S rows ⟨c.1.type_,c.1.id_⟩ c.2.1 ⟨{ data:= #[117] },x,ByteArray.empty⟩) (Eb S rows { data:= #[117] });rw[Y,Nu (by omega)] at g;rw[k2,Nu (by omega)] at h;generalize decide (1000<_)=p1 at g;generalize decide (1000<_)=p2 at h;have hf:(rows.filter (Aq S)).length<=rows.length:=LM _ _;have L:∀(o:Ae) (s:AL),o.type_=c.1.type_->s.rel={ data:= #[] }->MW n ts rows o c.2.1 s=some (ER n S rows o c.2.1 s,0):=fun o s ho E=>by
  have M:Ay (⟨o.type_,c.2.1⟩:AA) S.rels=true:=by rw[ho];exact f
  have y:=cC (n:=n) hW hB (by omega) (show rows.length<=100 by omega) (o:=o) (rel:=c.2.1) s M;unfold gr at y;rw[wZ (r0:=rows.filter (Aq S)) (r1:=[]) (by omega) (by omega) (Ha hW hB)] at y;rw[vm hW hB hT (by omega) (by omega) I];unfold cS;rw[if_pos E,if_pos M,y];rfl
 have Z:∀t∈rows,KX n ts t=some (F7 ts t):=fun t p=>jw hB (by omega) (I t p);have r:=fun x=>PG (n:=n) (ak:=c) (x:=x) (by omega) Z _ 0 n false false rfl (Lf _) (by omega);have r:∀x,MG n ts rows c x n (false,false,0)=some (_,_):=r;have fd:∀t,F7 ts t=Aq S t:=jx hW hB;simp only[LD,NE,fd] at r
 have hL:MH n ts rows c _ _ n 0=_:=PH (a:=((FB S rows c.1.type_).filter (fun x=>ER n S rows ⟨c.1.type_,x⟩ c.2.1 (⟨c.2.2.type_,c.2.2.id_,c.2.2.rel⟩:AL)),p1,0)) (b:=((Eb S rows { data:= #[117] }).filter (fun x=>ER n S rows ⟨c.1.type_,c.1.id_⟩ c.2.1 ⟨{ data:= #[117] },x,ByteArray.empty⟩),p2,0)) (by dsimp only;omega) (by dsimp only;omega) (by omega) r (fun x=>L ⟨c.1.type_,x⟩ _ rfl v) (fun x=>L ⟨c.1.type_,c.1.id_⟩ _ rfl rfl) (fun x=>by
  rw[LY,decide_eq_true_eq,Lm,LO,wB]) (fun x=>by
  rw[LY,decide_eq_true_eq,Lm,LO,wC]) _ 0 n rfl (Lf _) (by omega)
 grind
end Go.Proofs.YtnmkbmefohakmaaGreat.Ab
namespace Go.Proofs.YtnmkbmefohakmaaGreat.Ab
open Go.ChangeShapes Go.WideShapes Go.ChangeAt Go.RowKit
abbrev IY (W:World):Nat->Prop:=fun k=>k<W.heap.size/\¬False
variable {t:TypeId}
section
variable {H:Type}{enc:TypeId × Value->H}{P:Program}{W:World}
def Opens {H:Type}(enc:TypeId × Value->H)(P:Program)(W:World)(t:TypeId){α:Type}(e:α->List D)(ok:α->Prop):Prop:=∀(c:Nat) (b:List Value) (x:DataW H × List MemPlace),DataW.trod enc P W 0 (fun _=>true) true c t b=some x->∃a:α,ok a/\b.length=(e a).length/\∀(j:Nat) (d:D),(e a)[j]? =some d->∃u,b[j]? =some u/\RC W (IY W) d u
theorem ci {d:D}{u:Value}(h:RC W (IY W) d u):∀(j:Nat) (a:D),[d][j]? =some a->∃b,[u][j]? =some b/\RC W (IY W) a b:=fun j a hj=>by
 cases j with
 |zero=>cases hj;exact⟨u,rfl,h⟩
 |succ j=>simp at hj
theorem Opens.int {k:IntKind}(a:P.underlying t=some (.int k)):Opens enc P W t (fun n:Int=>[.v (.int k n)]) fun n=>(Lit.int k n).wf=true:=fun c d x h=>by
 obtain⟨n,rfl,_,b⟩:=DataW.trod_int a h;exact⟨n,b,rfl,ci (.v _ rfl)⟩
theorem xK {w:World}{p:Addr}{x:Value}(h:w.cell? p=some x):p.block<w.heap.size:=by
 rcases Nt p.block w.heap.size with a |a
 ·exact a
 have:w.heap[p.block]? =none:=N9 a;simp[World.cell?,this] at h
theorem Yh {b o i:Nat}:(⟨b,o,none⟩:Addr).add i=⟨b,o+i,none⟩:=by
 unfold Addr.add;split<;>simp_all
theorem Opens.slice {e:TypeId}{k:Nat}(ht:P.underlying t=some (.slice e))(hk:P.cellsOf e=k)(h0:0<k){α:Type}{en:α->List D}{ok:α->Prop}(hl:∀a,(en a).length=k)(he:Opens enc P W e en ok):
  Opens enc P W t (fun l:List α=>[.sl (List.map en l)]) fun l=>l.length<=maxLen/\∀a∈l,ok a:=fun fuel cs x h=>by
 subst hk;rcases DataW.trod_slice ht h with⟨rfl,_⟩ |⟨a,len,cap,elems,rest,n,_,rfl,_,_,hlc,hm,hel,hat,_,_⟩
 ·exact⟨[],⟨Lf _,by simp⟩,rfl,ci (.nl _ _)⟩
 have each:∀i:Fin len,∃(y:α) (us:List Value),ok y/\us.length=P.cellsOf e/\(∀j,j<P.cellsOf e->W.cell? ((a.add (i.1*P.cellsOf e)).add j)=us[j]?)/\∀(j:Nat) (d:D),(en y)[j]? =some d->∃u,us[j]? =some u/\RC W (IY W) d u:=fun i=>by
  have h1:=hat i.1 i.2;rw[Le (by rw[hel];exact i.2)] at h1;obtain⟨us,h2,h3⟩:=Oa.1 h1;obtain⟨_,h5,h6⟩:=World.cells?_some h2;obtain⟨y,k1,k2,k3⟩:=he _ _ _ h3;exact⟨y,us,k1,h5,h6,k3⟩
 have ch:∃(f:Fin len->α) (g:Fin len->List Value),∀i,ok (f i)/\(g i).length=P.cellsOf e/\(∀j,j<P.cellsOf e->W.cell? ((a.add (i.1*P.cellsOf e)).add j)=(g i)[j]?)/\∀(j:Nat) (d:D),(en (f i))[j]? =some d->∃u,(g i)[j]? =some u/\RC W (IY W) d u:=
  ⟨fun i=>(each i).choose,fun i=>(each i).choose_spec.choose,fun i=>(each i).choose_spec.choose_spec⟩
 obtain⟨f,g,hfg⟩:=ch;refine⟨List.ofFn f,⟨by simp;omega,fun y hy=> ?_⟩,rfl,ci ?_⟩
 ·obtain⟨i,rfl⟩:=List.mem_ofFn.1 hy;exact(hfg i).1
 cases len with
 |zero=>exact .nl _ _
 |succ m=>
  have hc0:=(hfg ⟨0,by omega⟩).2.2.1 0 h0;have hl0:0<(g ⟨0,by omega⟩).length:=by rw[(hfg ⟨0,by omega⟩).2.1];exact h0
  rw[Le hl0] at hc0;obtain⟨b,o,s⟩:=a;have hspot:s=none:=by
   have:=World.cell?_spot hc0;simpa [Addr.add] using this
  subst hspot;have hlen:(List.map en (List.ofFn f)).length=m+1:=by simp
  have at':∀(i:Nat) (cs:List D),(List.map en (List.ofFn f))[i]? =some cs->∃hi:i<m+1,cs=en (f ⟨i,hi⟩):=fun i cs hi=>by
   have h1:i<m+1:=by
    have:=(Lb.1 hi).1;rwa [hlen] at this
   refine⟨h1,?_⟩;rw[Ln,Le (by rw[List.length_ofFn];exact h1),List.getElem_ofFn] at hi;exact(LI hi).symm
  have key:=RC.sl (w:=W) (I:=IY W) (List.map en (List.ofFn f)) b o cap (P.cellsOf e) (fun i j=>(W.cell? ⟨b,o+i*P.cellsOf e+j,none⟩).getD (.bool true)) ⟨?_,fun h=>h⟩ (by rw[hlen];exact hlc) ?_ ?_ ?_
  ·rw[hlen] at key;exact key
  ·have:=xK hc0;simpa [Addr.add] using this
  ·intro i cs hi;obtain⟨h1,rfl⟩:=at' i cs hi;exact hl _
  ·intro i j cs d hi hj;obtain⟨h1,rfl⟩:=at' i cs hi;obtain⟨u,k1,k2⟩:=(hfg ⟨i,h1⟩).2.2.2 j d hj;have hjk:j<P.cellsOf e:=(by have:=(Lb.1 hj).1;rwa [hl] at this);have k3:=(hfg ⟨i,h1⟩).2.2.1 j hjk;rw[Yh,Yh,k1] at k3;simp only[k3,Nw]
  intro i j cs d hi hj;obtain⟨h1,rfl⟩:=at' i cs hi;obtain⟨u,k1,k2⟩:=(hfg ⟨i,h1⟩).2.2.2 j d hj;have hjk:j<P.cellsOf e:=by have:=(Lb.1 hj).1;rwa [hl] at this
  have k3:=(hfg ⟨i,h1⟩).2.2.1 j hjk;rw[Yh,Yh,k1] at k3;simp only[k3,Nw];exact k2
theorem Opens.one {α:Type}{e:α->D}{ok:α->Prop}(h:Opens enc P W t (fun a=>[e a]) ok){v:Value}(c:v.cells= #[v]){d:DataW H}{p:List MemPlace}(f:DataW.Trod enc P W 0 (fun _=>true) true t v d p):∃a,ok a/\RC W (IY W) (e a) v:=by
 have⟨o,g⟩:=f;have⟨a,i,_,b⟩:=h _ _ _ g;rw[c] at b;have⟨u,l,m⟩:=b 0 (e a) rfl;cases l;exact⟨a,i,m⟩
end
theorem rows_nil {W:World}:∀(j:Nat) (d:D),([]:List D)[j]? =some d->∃u,([]:List Value)[j]? =some u/\Dc W (IY W) d u:=fun j d h=>by simp at h
theorem rows_cons {W:World}{d:D}{v:Value}{ds:List D}{vs:List Value}(h:Dc W (IY W) d v)(b:∀(j:Nat) (d:D),ds[j]? =some d->∃u,vs[j]? =some u/\Dc W (IY W) d u):∀(j:Nat) (a:D),(d::ds)[j]? =some a->∃u,(v::vs)[j]? =some u/\Dc W (IY W) a u:=fun j a hj=>by
 cases j with
 |zero=>cases hj;exact⟨v,rfl,h⟩
 |succ j=>exact b j a (by simpa using hj)
theorem law_pure {P:Program}{f:FuncId}{b:Bool}{ds:List D}(h:AM P f ds (.v (.bool true)) b)(W:World)(vs:List Value)(hl:vs.length=ds.length)(c:∀(j:Nat) (d:D),ds[j]? =some d->∃u,vs[j]? =some u/\Dc W (IY W) d u):Calls P f vs.toArray W fun e a=>e= .returned (.bool true)/\Below W.heap.size W a:=by
 refine(h.2 W (fun _=>False) vs.toArray (fun _ h=>h.elim) (by simpa using hl) fun j x hj=> ?_).mono fun e a ⟨u,g,⟨i,_⟩,hv⟩=> ?_
 ·have⟨u,l,m⟩:=c j x hj;exact⟨u,by simpa using l,m⟩
 cases(show RC a _ (.v (.bool true)) u from hv);exact⟨g,i⟩
end Go.Proofs.YtnmkbmefohakmaaGreat.Ab
namespace Go.Proofs.YtnmkbmefohakmaaGreat
open Go.ChangeShapes Go.WideShapes Go.ChangeAt Go.RowKit
namespace Ab
end Ab
namespace FjzF
open Ab
set_option maxRecDepth 100000 in
theorem Qs (os:Os)(g:os.Started)(H:Type)(enc:TypeId × Value->H):
  ReturnsInHanded {} Tryz.checked os 7 .any (Rows.findJustSpec.pre6 enc Tryz.prog Tryz.f7 Rows.findJustRow.domain false) (Rows.findJustSpec.post enc Tryz.prog Tryz.f7 false true false false):=by
 refine returnsInHanded_of_change (C:=Tryz.checked) (by kernel_rfl) g (by kernel_rfl) Tryz.func7
  (ChangeSpec.witness6 (enc:=enc) (C:=Tryz.checked) false ⟨#[], #[.slice none 0 0,.slice none 0 0,.int .i64 0],[]⟩ 8 (by kernel_rfl) (by kernel_rfl) (by kernel_rfl) (by kernel_rfl)) ?_
 intro W h a d i m o hW _ _;have b:∀(j:Nat) t v,Tryz.f7.params[j]? =some t->a[j]? =some v->Value.okWide Tryz.prog W .any h t v:=o;have f:DataW.Whole enc Tryz.prog Tryz.f7.params.toList Rows.findJustSpec.vars false W a.toList d i m:=hW;have Y:=f;obtain⟨p,q,r,hV,rfl,_,_⟩:=hW;have hA:DataW.TrodAll enc Tryz.prog W 0 (fun _=>true) true Tryz.f7.params.toList a.toList d p:=r;rw[Tryz.params7] at hA b;have⟨u⟩:=a;have⟨w,Z,d0,aa,p0,q0,c,z,_,B,E⟩:=trodAll_cons hA;have⟨F,ab,d1,ad,p1,q1,G,I,_,J,L⟩:=trodAll_cons E;have⟨M,ag,d2,ak,p2,q2,N,O,_,Q,R⟩:=trodAll_cons L;have⟨T,U,_⟩:=trodAll_nil R;subst T;subst U;subst N;subst O;subst G;subst I;have c:u=_:=c;subst c;subst z;obtain⟨V,X,z0,rfl⟩:=okWide_slice Tryz.underlying22 (b 0 22 w rfl rfl);have⟨a0,k0,r0⟩:=Ab.Opens.one (e:=(fun l:List Int=>D.sl (List.map eI l))) (ok:=(fun l:List Int=>l.length<=maxLen/\∀y∈l,(Lit.int .i64 y).wf=true)) (Ab.Opens.slice (k:=1) (ok:=(fun n:Int=>(Lit.int .i64 n).wf=true)) Tryz.underlying22 (by kernel_rfl) (by decide) (by intro _;rfl) (Ab.Opens.int Tryz.underlying2)) rfl B;obtain⟨x1,y1,z1,rfl⟩:=okWide_slice Tryz.underlying22 (b 1 22 F rfl rfl);have⟨a1,k1,r1⟩:=Ab.Opens.one (e:=(fun l:List Int=>D.sl (List.map eI l))) (ok:=(fun l:List Int=>l.length<=maxLen/\∀y∈l,(Lit.int .i64 y).wf=true)) (Ab.Opens.slice (k:=1) (ok:=(fun n:Int=>(Lit.int .i64 n).wf=true)) Tryz.underlying22 (by kernel_rfl) (by decide) (by intro _;rfl) (Ab.Opens.int Tryz.underlying2)) rfl J;obtain⟨x2,rfl⟩:=okWide_int Tryz.underlying2 (b 2 2 M rfl rfl);have⟨a2,k2,r2⟩:=Ab.Opens.one (e:=(fun n:Int=>D.v (.int .i64 n))) (ok:=(fun n:Int=>(Lit.int .i64 n).wf=true)) (Ab.Opens.int Tryz.underlying2) rfl Q;have⟨n,hn⟩:=Ab.law_findJust a0 a1 a2;exact(Ab.law_pure (Ab.law11_FindJust_ok hn) W [.slice V X z0,.slice x1 y1 z1,.int .i64 x2] rfl (Ab.rows_cons r0 (Ab.rows_cons r1 (Ab.rows_cons r2 Ab.rows_nil)))).mono fun e W' ⟨he,hb⟩=>⟨_,he,Cm.law_post (by kernel_rfl) (by kernel_rfl) rfl (tb:=4) (by kernel_rfl) Tryz.underlying4 rfl rfl rfl f hb⟩
theorem said:Rows.FindJustSaid:=
 OpenClaim.holds_of_wide 7 Tryz.f7 rfl rfl rfl rfl rfl rfl rfl ⟨rfl,rfl,rfl,rfl,rfl⟩ rfl rfl rfl rfl rfl (by kernel_rfl) Tryz.func7 (by kernel_rfl)
  (of_decide_eq_true (by kernel_rfl)) (by unfold Func.isWrapper;first |(rw[if_pos (by decide+kernel)];kernel_rfl) |(rw[if_neg (by decide+kernel)];exact⟨rfl,rfl⟩))
  (fun a b H enc _=>Qs a b H enc)
#print axioms said
end FjzF
end Go.Proofs.YtnmkbmefohakmaaGreat
