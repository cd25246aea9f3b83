/-
 Sorting by a comparison, so that equals stay: any number.
-/
import Derived.Test.YtnmkbmefohakmaaGreatWlq
set_option linter.all false
namespace Go.Proofs.YtnmkbmefohakmaaGreat.Ab
open Go.RowKit IntKind
def Dd (l:List AG):List AA:=l.flatMap fun t=>t.rels.map fun g=>⟨t.name,g.name⟩
def Mh (l:List AG):List (AA × AZ):=l.flatMap fun t=>t.rels.map fun g=>(⟨t.name,g.name⟩,g)
section
variable {K V:Type}[BEq K][LawfulBEq K]
omit [LawfulBEq K] in
theorem qG {k:K}{v:V}:∀ {m:List (K × V)},Ay k m=false->mset k v m=m++[(k,v)]
 |[],_=>rfl
 |p::r,h=>by
  have a:(k==p.1)=false:=by
   cases b:(k==p.1) with |false=>rfl |true=>simp[Ay,mget,b] at h
  have c:Ay k r=false:=by simpa [Ay,mget,a] using h
  rw[mset,if_neg (by rw[a];decide),qG c];rfl
theorem Kr {k:K}:∀ {m:List (K × V)},Ay k m=true↔k∈m.map (·.1)
 |[]=>by simp[Ay,mget]
 |p::r=>by
  have a:=Kr (k:=k) (m:=r);unfold Ay at a⊢;simp only[mget,Lh,Lv];grind
theorem qH {k:K}{v:V}:∀ {m:List (K × V)},(m.map (·.1)).Nodup->(k,v)∈m->mget k m=some v
 |[],_,h=>by cases h
 |p::r,a,h=>by
  rw[Lh,Nj] at a;simp only[mget];rcases Lv.1 h with rfl |h
  ·rw[if_pos (beq_self_eq_true _)]
  rw[if_neg,qH a.2 h];grind
omit [LawfulBEq K] in
theorem qI {k:K}{v:V}{p:K × V}:∀ {m:List (K × V)},p∈mset k v m->p=(k,v)\/p∈m
 |[],h=>.inl (Lr.1 h)
 |q::r,h=>by
  rw[mset] at h;split at h
  ·grind
  rcases Lv.1 h with h |h
  ·grind
  rcases qI h with h |h
  ·exact .inl h
  exact .inr (Lk _ h)
end
theorem qJ {a:ByteArray}:∀(l:List AZ) (R:List (AA × AZ)),(R.map (·.1)).Nodup->(KD a l R).2=false->(KD a l R).1=R++l.map (fun g=>(⟨a,g.name⟩,g))/\((KD a l R).1.map (·.1)).Nodup
 |[],R,c,_=>⟨by simp[KD],c⟩
 |g::r,R,c,h=>by
  unfold KD at h⊢;cases b:Ay (⟨a,g.name⟩:AA) R with
  |true=>rw[b,if_pos rfl] at h;cases h
  |false=>
   rw[b,if_neg (by decide)] at h;rw[if_neg (by decide)];rw[qG b] at h⊢;have⟨f,j⟩:=qJ r (R++[(⟨a,g.name⟩,g)]) (by
    rw[LX,N8];refine⟨c,by simp,fun x d y e=> ?_⟩;simp only[Lh,Lu,Lr] at e;rintro rfl;rw[e] at d;rw[<-Kr (V:=AZ),b] at d;cases d) h
   exact⟨by rw[f];simp,j⟩
theorem fe {k m:ByteArray}{v:Int}{T:List (ByteArray × Int)}:qf_ k 0 (mset m v T)=if k=m then v else qf_ k 0 T:=by
 have:mget k (mset m v T)=if k=m then some v else mget k T:=by
  induction T with
  |nil=>simp only[mset,mget,beq_iff_eq]
  |cons p r a=>
   simp only[mset];by_cases h:m==p.1
   ·rw[if_pos h];obtain rfl:=eq_of_beq h;simp only[mget,beq_iff_eq];split<;>rfl
   rw[if_neg h];simp only[mget,a,beq_iff_eq];grind
 unfold qf_;rw[this];split<;>rfl
theorem qK:∀(l:List AG) (T:List (ByteArray × Int)) (R:List (AA × AZ)),(R.map (·.1)).Nodup->(zv_ l T R).2.2=0->(zv_ l T R).2.1=R++Mh l/\((zv_ l T R).2.1.map (·.1)).Nodup/\(l.map (·.name)).Nodup/\∀t∈l,¬0<qf_ t.name 0 T
 |[],T,R,d,_=>⟨by simp[zv_,Mh],d,by simp,fun _ h=>nomatch h⟩
 |t::l,T,R,d,h=>by
  unfold zv_ at h⊢;by_cases f:0<qf_ t.name 0 T
  ·grind
  rw[decide_eq_false f,if_neg (by decide)] at h⊢;dsimp only at h⊢;have j:=qJ (a:=t.name) t.rels R d;generalize KD t.name t.rels R=p at j h;have⟨k,b⟩:=p;cases b with
  |true=>rw[if_pos rfl] at h;cases h
  |false=>
   rw[if_neg (show ¬(k,false).2=true from fun h=>by cases h)] at h⊢;have⟨m,o⟩:=j rfl;dsimp only at m o h⊢;have⟨q,r,s,v⟩:=qK l (mset t.name 1 T) k o h;refine⟨by rw[q,m];simp[Mh],r,?_,fun u c=> ?_⟩
   ·rw[Lh,Nj];refine⟨fun w=> ?_,s⟩;have⟨u,c,e⟩:=LL.1 w
    have:=v u c;rw[fe,if_pos e] at this;exact this (by decide)
   rcases Lv.1 c with rfl |c
   ·exact f
   grind [fe,absurd]
theorem qL (a:ByteArray):∀(l:List AG) (T:List (ByteArray × Int)) (R:List (AA × AZ)),(zv_ l T R).2.2=0->(qf_ a 0 (zv_ l T R).1≠0↔qf_ a 0 T≠0\/a∈l.map (·.name))
 |[],T,R,_=>by simp[zv_]
 |t::l,T,R,h=>by
  unfold zv_ at h⊢;by_cases d:0<qf_ t.name 0 T
  ·grind
  rw[decide_eq_false d,if_neg (by decide)] at h⊢;dsimp only at h⊢;generalize KD t.name t.rels R=p at h;have⟨c,b⟩:=p;cases b with
  |true=>rw[if_pos rfl] at h;cases h
  |false=>
   rw[if_neg (show ¬(c,false).2=true from fun h=>by cases h)] at h⊢;rw[qL a l _ c h,fe,Lh,Lv];grind
theorem qM {n:Nat}{S:AD}{a:ByteArray}(d:GY S)(f:1000<n):∀(l:List AZ) (b:List AA),(∀g∈l,FC g)->b.length+l.length<=1000000000->∃r,Pt n S a l b=some r/\∀c,r= .inl c->c=b++l.map (fun g=>⟨a,g.name⟩)/\∀g∈l,KE S a g
 |[],b,_,_=>⟨_,rfl,fun c h=>by grind⟩
 |g::l,b,j,k=>by
  simp only[Ll] at k;have⟨e,m,p⟩:=zX (a:=a) d (j g (Lp ..)) f;unfold Pt;rw[ifp,m,Zo];split
  ·rename_i q;have⟨r,s,t⟩:=qM (a:=a) d f l (b++[⟨a,g.name⟩]) (fun x o=>j x (Lk _ o)) (by grind);grind
  simp
theorem qN {n:Nat}{S:AD}(d:GY S)(f:1000<n):∀(l:List AG) (b:List AA),(∀t∈l,t.rels.length<=200/\∀g∈t.rels,FC g)->b.length+200*l.length<=1000000000->∃r,Pu n S l b=some r/\∀c,r= .inl c->c=b++Dd l/\∀t∈l,∀g∈t.rels,KE S t.name g
 |[],b,_,_=>⟨_,rfl,fun c h=>by cases h;exact⟨by simp[Dd],fun _ h=>nomatch h⟩⟩
 |t::l,b,j,o=>by
  simp only[Ll] at o;have⟨z,p⟩:=j t (Lp ..);have⟨r,q,s⟩:=qM (a:=t.name) d f t.rels b p (by omega);unfold Pu;rw[q,Zo];cases r with
  |inr e=>simp
  |inl k=>
   have⟨u,A⟩:=s k rfl;have⟨r,v,w⟩:=qN d f l k (fun x m=>j x (Lk _ m)) (by grind);refine⟨r,v,fun c h=> ?_⟩;have⟨y,B⟩:=w c h;refine⟨by rw[y,u];simp[Dd],fun x m=> ?_⟩;grind
theorem qO {α:Type}:∀(f:Nat) (a:List α) (i j:Nat),(i<j->j<a.length)->j-i<f->∃b,GZ f a i j=some b/\b.Perm a
 |0,_,_,_,_,h=>absurd h (LZ _)
 |f+1,a,i,j,d,o=>by
  unfold GZ;split
  ·rename_i e;have c:=d e;rw[Le c,Le (show i<a.length by omega),Zo,Zo];have⟨b,k,m⟩:=qO f ((a.set i a[j]).set j a[i]) (i+1) (j-1) (fun _=>by grind) (by omega);exact⟨b,k,m.trans (List.set_set_perm (by omega) c)⟩
  exact⟨a,rfl,.refl _⟩
theorem qP {n:Nat}{S:AD}:∀(a:List AA) (W:List (AA × List AN)),(∀m∈a,SA n S m=some (ET S m))->∃b,Rz n S a W=some b/\(∀k,mget k b=if k∈a then some (ET S k) else mget k W)/\∀p∈b,p∈W\/p.2=ET S p.1
 |[],W,_=>⟨W,rfl,fun k=>by simp,fun p h=>.inl h⟩
 |m::a,W,h=>by
  unfold Rz;rw[h m (Lp ..),Zo];have⟨b,c,d,e⟩:=qP a (mset m (ET S m) W) fun x f=>h x (Lk _ f);refine⟨b,c,fun k=> ?_,fun p j=> ?_⟩
  ·rw[d k];by_cases o:k∈a
   ·grind
   rw[if_neg o];have s:mget k (mset m (ET S m) W)=if k=m then some (ET S m) else mget k W:=by
    clear d e c;induction W with
    |nil=>simp only[mset,mget,beq_iff_eq]
    |cons p r q=>
     simp only[mset];by_cases h:m==p.1
     ·rw[if_pos h];obtain rfl:=eq_of_beq h;simp only[mget,beq_iff_eq];split<;>rfl
     rw[if_neg h];simp only[mget,q,beq_iff_eq];grind
   grind
  rcases e p j with h |h
  ·rcases qI h with rfl |h
   ·exact .inr rfl
   exact .inl h
  exact .inr h
structure Dh (l:List AG) (S:AD):Prop where
 rels:S.rels=Mh l
 keys:(S.rels.map (·.1)).Nodup
 tys:(l.map (·.name)).Nodup
 nms:∀t∈l,∀g∈t.rels,KE S t.name g
 rk0:∀k,0<=Cp S.ranks k
 rk:∀m∈Dd l,∀w∈ET S m,Cp S.ranks w.to+w.taken<=Cp S.ranks m
 rkT:∀k,Cp S.ranks k<=((Dd l).length:Int)
 typ:∀a,qf_ a 0 S.types≠0↔a∈l.map (·.name)
 low:∀rk':AA->Int,(∀k,0<=rk' k/\rk' k<=((Dd l).length:Int))->(∀m∈Dd l,∀w∈ET S m,rk' w.to+w.taken<=rk' m)->∀k,Cp S.ranks k<=rk' k
variable {l:List AG}{n:Nat}
theorem ff (h:Ed l):(Dd l).length<=40200:=by
 have a:∀l:List AG,(∀t∈l,t.rels.length<=200)->(Dd l).length<=200*l.length:=fun l=>by
  induction l with
  |nil=>intro _;exact Lc _
  |cons t r c=>
   grind [List.mem_cons_self,List.mem_cons_of_mem,Dd,List.length_append,List.length_map,List.length_cons]
 have d:=a l fun t b=>(h.2 t b).1;have e:=h.1;omega
theorem fg {m:AA}:m∈Dd l↔∃t∈l,∃g∈t.rels,m=⟨t.name,g.name⟩:=by
 simp[Dd,eq_comm]
theorem fh {p:AA × AZ}:p∈Mh l↔∃t∈l,∃g∈t.rels,p=(⟨t.name,g.name⟩,g):=by
 simp[Mh,eq_comm]
theorem Mi (l:List AG):(Mh l).map (·.1)=Dd l:=by
 induction l with
 |nil=>rfl
 |cons t r a=>
  simp_all [Dd,Mh,LX,Ba]
theorem Zb {R:List (AA × AZ)}(a:R=Mh l)(b:(R.map (·.1)).Nodup){t:AG}{g:AZ}(c:t∈l)(d:g∈t.rels):mget (⟨t.name,g.name⟩:AA) R=some g:=
 qH b (by rw[a];exact fh.2 ⟨t,c,g,d,rfl⟩)
theorem qQ (o:Ed l)(hn:2000000000<n):∃r,HO n l=some r/\∀S,r= .inl S->Dh l S:=by
 have b:=ff o;have Z:=o.1;unfold HO;rw[if_pos ⟨by omega,fun t j=>by have:=(o.2 t j).1;omega⟩];cases M:((zv_ l [] []).2.2==0) with
 |false=>simp
 |true=>
  rw[if_pos rfl];have N:∀a,qf_ a 0 (zv_ l [] []).1≠0↔a∈l.map (·.name):=fun a=>(qL a l [] [] (eq_of_beq M)).trans (by simp[qf_,mget]);have⟨q,A,O,_⟩:=qK l [] [] (by simp) (eq_of_beq M);rw[LA] at q;generalize (zv_ l [] []).1=T at *;generalize (zv_ l [] []).2.1=R at *;have hS:GY ⟨T,R,[]⟩:=fun p f=>by
   have f:p∈R:=f;rw[q] at f;obtain⟨t,j,g,v,rfl⟩:=fh.1 f;exact(o.2 t j).2 g v
  have⟨r,B,C⟩:=qN (n:=n) hS (by omega) l [] o.2 (by simp only[LB];omega);rw[B,Zo];cases r with
  |inr e=>exact⟨_,rfl,fun _ h=>nomatch h⟩
  |inl y=>
   have⟨s,E⟩:=C y rfl;rw[LA] at s;cases y with
   |nil=>
    refine⟨_,rfl,fun S h=> ?_⟩;cases h;exact⟨q,A,O,E,fun k=>Bu _,fun m d=>(by rw[<-s] at d;cases d),fun k=>Il _,N,fun F h _ k=>(h k).1⟩
   |cons m r=>
    rw[Hx];have⟨c,y1,G⟩:=qO n (m::r) 0 r.length (fun _=>by rw[Ll];omega) (by grind);rw[y1,Zo];have H:∀k,k∈c↔k∈Dd l:=fun k=>(by rw[<-s];exact G.mem_iff);have P:c.length<=40200:=(by rw[G.length_eq,s];exact b);have I:∀k∈c,SA n ⟨T,R,[]⟩ k=some (ET ⟨T,R,[]⟩ k)/\(ET ⟨T,R,[]⟩ k).length<=60000:=fun k b=>by
     obtain⟨t,j,g,v,rfl⟩:=fg.1 ((H k).1 b);have e:qf_ (⟨t.name,g.name⟩:AA) Ca R=g:=(by unfold qf_;rw[Zb q A j v];rfl);refine zZ hS (by omega) ?_;show ∀x∈(qf_ (⟨t.name,g.name⟩:AA) Ca R).expr,_;rw[e];exact(E t j g v).2
    have⟨W,w1,z,w3⟩:=qP (n:=n) (S:=⟨T,R,[]⟩) c [] fun k b=>(I k b).1;have J:∀k∈c,qf_ k [] W=ET ⟨T,R,[]⟩ k:=fun k b=>(by unfold qf_;rw[z,if_pos b];rfl);have Y:∀k,k∉c->qf_ k [] W= []:=fun k b=>(by unfold qf_;rw[z,if_neg b];rfl);have Q:∀k,(qf_ k [] W).length<=60000/\∀w∈qf_ k [] W,w.taken=0\/w.taken=1:=fun k=>by
     by_cases b:k∈c
     ·rw[J k b];exact⟨(I k b).2,Za _ k⟩
     grind
    rw[w1,Zo,if_pos];rotate_left
    ·refine⟨fun k b=>by rw[z,if_pos b];rfl,fun p f=> ?_,by omega⟩;rcases w3 p f with h |h
     ·cases h
     rw[h];unfold ET;by_cases b:p.1∈c
     ·have:=(I p.1 b).2;unfold ET at this;omega
     have hd:qf_ p.1 [] W= []:=Y _ b;have d:Ay p.1 W=true:=Kr.2 (LG f);unfold Ay at d;rw[z,if_neg b] at d;cases d
    have⟨rr,k1,k2⟩:=qB (os:=c) Q (by omega) n [] (fun k=>⟨Bu _,Il _⟩) (by
     have:c.length*c.length<=40200*40200:=Bg P P;omega)
    rw[k1,Zo];cases rr with
    |none=>simp
    |some K=>
     refine⟨_,rfl,fun S h=> ?_⟩;cases h;have⟨p1,p2⟩:=k2 K rfl;have U:c.length=(Dd l).length:=(by rw[G.length_eq,s]);refine⟨q,A,O,E,fun k=>(p1 k).1,fun k b w u=> ?_,fun k=>by rw[<-U];exact(p1 k).2,N,fun F h1 h2=> ?_⟩
     ·have X:=(H k).2 b;exact p2 k X w (by rw[J k X];exact u)
     have⟨K',B,C⟩:=qE (os:=c) (W:=W) (rk':=F) (by omega) (fun k=>by rw[U];exact(h1 k).2) (fun m d w u=>⟨(Q m).2 w u,by rw[J m d] at u;exact h2 m ((H m).1 d) w u⟩) n [] (some K) (fun k=>⟨Bu _,(h1 k).1⟩) k1;cases B;exact C
def HN (p:Nat->Option Bool):Nat->Nat->Nat->Option Nat
 |0,_,_=>none
 |f+1,i,j=>if i<j then(p ((i+j) / 2)).bind fun b=>if b then HN p f ((i+j) / 2+1) j else HN p f i ((i+j) / 2) else some i
def Mb {α:Type}:Nat->List α->Nat->Option (List α)
 |0,a,_=>some a
 |c+1,a,k=>(a[k+1]?).bind fun x=>(a[k]?).bind fun y=>Mb c ((a.set k x).set (k+1) y) (k+1)
def Mc {α:Type}:Nat->List α->Nat->Option (List α)
 |0,a,_=>some a
 |_+1,_,0=>none
 |c+1,a,k+1=>(a[k]?).bind fun x=>(a[k+1]?).bind fun y=>Mc c ((a.set (k+1) x).set k y) k
def symM {α:Type}(e:α->α->Bool):Nat->List α->Nat->Nat->Nat->Option (List α)
 |0,_,_,_,_=>none
 |f+1,d,a,m,b=>if a<m/\m<b/\b<=d.length then (if m-a=1 then(HN (fun h=>(d[h]?).bind fun x=>(d[a]?).map fun y=>e x y) (d.length+1) m b).bind fun i=>Mb (i-1-a) d a else if b-m=1 then(HN (fun h=>(d[m]?).bind fun x=>(d[h]?).map fun y=> !e x y) (d.length+1) a m).bind fun i=>Mc (m-i) d m else(HN (fun c=>(d[(a+b) / 2+m-1-c]?).bind fun x=>(d[c]?).map fun y=> !e x y) (d.length+1) (if (a+b) / 2<m then(a+b) / 2+m-b else a) (if (a+b) / 2<m then(a+b) / 2 else m)).bind fun s=>(if s<m/\m<(a+b) / 2+m-s then FF m (d.length+1) d (m-s) ((a+b) / 2+m-s-m) else some d).bind fun j=>(if a<s/\s<(a+b) / 2 then symM e f j a s ((a+b) / 2) else some j).bind fun k=>if (a+b) / 2<(a+b) / 2+m-s/\(a+b) / 2+m-s<b then symM e f k ((a+b) / 2) ((a+b) / 2+m-s) b else some k) else none
theorem dx {p:Nat->Option Bool}:∀ {f i j r:Nat},HN p f i j=some r->i<=j->i<=r/\r<=j
 |0,_,_,_,h,_=>by cases h
 |f+1,i,j,r,h,a=>by
  unfold HN at h;split at h
  ·have⟨b,_,h⟩:=AP h;split at h
   ·have:=dx h (by omega);omega
   have:=dx h (by omega);omega
  cases h;omega
theorem oe {α:Type}:∀ {c k:Nat} {a b:List α},Mb c a k=some b->b.length=a.length/\∀z∈b,z∈a
 |0,_,_,_,h=>by cases h;exact⟨rfl,fun _ h=>h⟩
 |c+1,k,a,b,h=>by
  unfold Mb at h;have⟨x,d,h⟩:=AP h;have⟨y,e,h⟩:=AP h;have⟨f,j⟩:=oe h;grind
theorem og {α:Type}:∀ {c k:Nat} {a b:List α},Mc c a k=some b->b.length=a.length/\∀z∈b,z∈a
 |0,_,_,_,h=>by cases h;exact⟨rfl,fun _ h=>h⟩
 |_+1,0,_,_,h=>by cases h
 |c+1,k+1,a,b,h=>by
  unfold Mc at h;have⟨x,d,h⟩:=AP h;have⟨y,e,h⟩:=AP h;have⟨f,j⟩:=og h;grind
theorem Rs {α:Type}{p:α->α->Bool}:∀ {f a m b:Nat} {c d:List α},symM p f c a m b=some d->d.length=c.length/\∀z∈d,z∈c
 |0,_,_,_,_,_,h=>by cases h
 |f+1,a,m,b,c,d,h=>by
  unfold symM at h;split at h;rotate_left
  ·cases h
  split at h
  ·have⟨i,_,h⟩:=AP h;exact oe h
  split at h
  ·have⟨i,_,h⟩:=AP h;exact og h
  have⟨s,_,h⟩:=AP h;have⟨e,k,h⟩:=AP h;have⟨j,o,h⟩:=AP h;have r:e.length=c.length/\∀z∈e,z∈c:=by
   split at k
   ·exact⟨ZO k,fun z q=>ZQ k q⟩
   grind
  have t:j.length=e.length/\∀z∈j,z∈e:=by
   split at o
   ·exact Rs o
   grind
  have u:d.length=j.length/\∀z∈d,z∈j:=by
   split at h
   ·exact Rs h
   grind
  grind
theorem Hs {u v:Nat}(h:u+v<4611686018427387904):i64.wrap (sh (u64.wrap ((u+v:Nat):Int)) 1)=(((u+v) / 2:Nat):Int):=by
 have a:u64.wrap ((u+v:Nat):Int)=((u+v:Nat):Int):=IntWalk.u64_in _ (by omega);have b:sh ((u+v:Nat):Int) 1=(((u+v) / 2:Nat):Int):=by
  unfold sh;show((u+v:Nat):Int).fdiv 2=_;rw[Int.fdiv_eq_ediv_of_nonneg _ (by omega)];omega
 rw[a,b];exact Hl
section
variable {g:FuncId}{caps:List AV}{S:AB->Prop}{cf:AB->AB->Int}{ids:List Nat}{hp0:Hp}{br:Bool}{i ver L:Nat}
set_option maxRecDepth 4000 in
theorem oh (hc:JD Tryz.prog g caps (fun r:AB=>.d (.ag (AF r)) br) S cf ids hp0)(hi:i∉ids)(a9:L<4294967296):∀(f:Nat) {F R:List AB} {a m b s:Nat} {G:Hp},(∀j∈ids,G j=hp0 j)->G i=Cd F ver br->(∀x∈F,S x)->F.length=L->symM (GV cf) f F a m b=some R->
  AT Tryz.prog 146 [.so i ver 0 L,.v (.int .i64 (a:Int)),.v (.int .i64 (m:Int)),.v (.int .i64 (b:Int)),.fn g caps] G s fun v av M=>v= .tu []/\av=upd i (Cd R ver br) G/\s<=M:=by
 intro f;induction f with
 |zero=>intro F R a m b s G _ _ _ _ h;cases h
 |succ f ih=>
  intro F R a m b s G hh hx hS hL t;unfold symM at t;split at t;rotate_left
  ·cases t
  rename_i ba;have⟨bl,bo,bs⟩:=ba;refine zq Tryz.func146 ?_;refine AU (AU ?_);refine ZT 1 ?_;by_cases h1:m-a=1
  ·rw[if_pos h1] at t;have⟨p,hb,t⟩:=AP t;have c1:(((m-a:Nat):Int)==1)=true:=(by rw[h1];rfl);refine Z1 (Y2 (EI (a:=m) (b:=a) (by omega) (by omega)) c1) ?_;refine ED (c:=true) rfl rfl ?_;refine Dg ?_;refine AU (CV ?_);refine DV (α:={ x:Nat × Nat × Nat × Nat // x.1<=x.2.1/\a<x.1/\x.2.1<=L/\s<=x.2.2.1/\HN (fun h=>(F[h]?).bind fun x=>(F[a]?).map fun y=>GV cf x y) x.2.2.2 x.1 x.2.1=some p })
    (fun x=>⟨upd 0 (.so i ver 0 L) (upd 1 (.v (.int .i64 (a:Int))) (upd 4 (.fn g caps) (upd 10 (.v (.int .i64 (x.1.1:Int))) (upd 11 (.v (.int .i64 (x.1.2.1:Int))) AJ)))),G,x.1.2.2.1⟩) (fun x=>x.1.2.2.2) ⟨(m,b,s+4+2+2,F.length+1),by show m<=b;omega,by show a<m;omega,by show b<=L;omega,by show s<=s+4+2+2;omega,hb⟩ ?_ ?_
   ·exact CW
   rintro⟨⟨u,v,Y,A⟩,g0,g1,g2,g3,d⟩;dsimp only at g0 g1 g2 g3 d;obtain⟨A,rfl⟩:∃f',A=f'+1:=by
    cases A with |zero=>cases d |succ f=>exact⟨f,rfl⟩
   unfold HN at d;refine AU (AU ?_);refine ZT 1 ?_;by_cases Z:u<v
   ·rw[if_pos Z] at d;have⟨bb,N,d⟩:=AP d;have⟨x,C,N⟩:=AP N;obtain⟨y,H,rfl⟩:=La.1 N;have O:(decide ((u:Int)<(v:Int)))=true:=DB;refine FM O ?_;refine CV ?_;refine AU (ZT 1 ?_);refine Z1 (Y2 (FG (a:=u) (b:=v) (by omega)) (Hs (u:=u) (v:=v) (by omega))) ?_;obtain⟨w,ew⟩:∃w,w=(u+v) / 2:=⟨_,rfl⟩;have hw:u<=w/\w<v:=(by omega);rw[<-ew] at C d⊢;have lx:=(Lb.1 C).1;have ly:=(Lb.1 H).1;refine AU (ZT 1 ?_);have wf:=Y2 hx (Y4 (Cz AF C) (Cz AF H) (show(w<L)=True from Fa) (show(a<L)=True from Fa));refine Z1 wf ?_;have⟨aa,q1,q2⟩:=hc x y (hS x (Ly C)) (hS y (Ly H)) (Y+3+7+11);refine K7 (δ:=[]) (q2 _ hh) ?_;refine Ki ?_;refine ZT 1 ?_;rcases J:GV cf x y with _ |_
    ·rw[J,if_neg (by simp)] at d;have B:(decide (cf x y<0))=false:=J;refine Z1 B ?_;exact⟨⟨(u,w,_,A),hw.1,g1,by show w<=L;omega,by show s<=aa+2;omega,d⟩,CW,Ls A⟩
    rw[J,if_pos rfl] at d;have B:(decide (cf x y<0))=true:=J;refine Z1 (Y2 B (Ar (n:=w))) ?_;exact⟨⟨(w+1,v,_,A),by show w+1<=v;omega,by show a<w+1;omega,g2,by show s<=aa+3;omega,d⟩,CW,Ls A⟩
   rw[if_neg Z] at d;have d:=LI d;subst d;have O:(decide ((u:Int)<(v:Int)))=false:=DE;refine FM O ?_;refine Dy ?_;refine CV ?_;refine DV (α:={ x:Nat × List AB × Nat // x.1<=u-1/\s<=x.2.2/\x.2.1.length=L/\Mb (u-1-x.1) x.2.1 x.1=some R })
    (fun x=>⟨upd 0 (.so i ver 0 L) (upd 10 (.v (.int .i64 (u:Int))) (upd 13 (.v (.int .i64 (x.1.1:Int))) AJ)),upd i (Cd x.1.2.1 ver br) G,x.1.2.2⟩) (fun x=>u-1-x.1.1) ⟨(a,F,Y+3+2),by show a<=u-1;omega,by show s<=Y+3+2;omega,hL,t⟩ ?_ ?_
   ·rw[Fc hx];exact CW
   rintro⟨⟨k,Q,M⟩,t1,t2,t3,E⟩;dsimp only at t1 t2 t3 E;have c3:i64.wrap ((u:Int)-1)=((u-1:Nat):Int):=EI (a:=u) (b:=1) (by omega) (by omega);refine AU (AU ?_);refine ZT 1 ?_;by_cases hk:k<u-1
   ·have B:(decide ((k:Int)<((u-1:Nat):Int)))=true:=DB;obtain⟨q,hq⟩:∃q,u-1-k=q+1:=⟨u-1-k-1,by omega⟩;rw[hq] at E;unfold Mb at E;have⟨x,C,E⟩:=AP E;have⟨y,H,E⟩:=AP E;have lx:=(Lb.1 C).1;refine Z1 (Y2 c3 B) ?_;refine AQ ?_;refine AU (CV ?_);refine ZT 1 ?_;have e3:((Q.map AF).set k (AF x))[k+1]? =some (AF x):=by
     rw[Oo (by omega)];exact Cz AF C
    refine Z1 (Y6 (Ar (n:=k)) (Cz AF C) (Cz AF H) e3 (show(k+1<L)=True from Fa) (show(k<L)=True from Fa)) ?_;refine DD (by rfl) ?_;refine Z0 ?_;refine ZT 1 ?_;refine Z1 (Ar (n:=k)) ?_;refine⟨⟨(k+1,(Q.set k x).set (k+1) y,_),by show k+1<=u-1;omega,?_,by simpa using t3,by grind⟩,GE ?_ DW,by show u-1-(k+1)<u-1-k;omega⟩
    ·grind
    rw[EU,EU];show upd i (some (.rw (((Q.set k x).set (k+1) y).map AF) 3 ver br false)) G=_;rw[NF,NF]
   have B:(decide ((k:Int)<((u-1:Nat):Int)))=false:=DE;rw[show u-1-k=0 by omega] at E;cases E;refine Z1 (Y2 c3 B) ?_;refine AQ ?_;refine AQ ?_;exact⟨_,_,rfl,⟨fun _=>.inr rfl⟩,rfl,rfl,by show s<=M+4;omega⟩
  rw[if_neg h1] at t;have c1:(((m-a:Nat):Int)==1)=false:=by simp;omega
  refine Z1 (Y2 (EI (a:=m) (b:=a) (by omega) (by omega)) c1) ?_;refine DI (c:=false) rfl rfl ?_;refine AQ ?_;refine AU (AU ?_);refine ZT 1 ?_;by_cases h2:b-m=1
  ·rw[if_pos h2] at t;have⟨p,hb,t⟩:=AP t;have c1:(((b-m:Nat):Int)==1)=true:=(by rw[h2];rfl);refine Z1 (Y2 (EI (a:=b) (b:=m) (by omega) (by omega)) c1) ?_;refine ED (c:=true) rfl rfl ?_;refine Dg ?_;refine AU (CV ?_);refine DV (α:={ x:Nat × Nat × Nat × Nat // x.1<=x.2.1/\x.2.1<=m/\s<=x.2.2.1/\HN (fun h=>(F[m]?).bind fun x=>(F[h]?).map fun y=> !GV cf x y) x.2.2.2 x.1 x.2.1=some p })
    (fun x=>⟨upd 0 (.so i ver 0 L) (upd 2 (.v (.int .i64 (m:Int))) (upd 4 (.fn g caps) (upd 14 (.v (.int .i64 (x.1.1:Int))) (upd 15 (.v (.int .i64 (x.1.2.1:Int))) AJ)))),G,x.1.2.2.1⟩) (fun x=>x.1.2.2.2) ⟨(a,m,s+4+4+2+2,F.length+1),by show a<=m;omega,Lc m,by show s<=s+4+4+2+2;omega,hb⟩ ?_ ?_
   ·exact CW
   rintro⟨⟨u,v,Y,A⟩,g0,g2,g3,d⟩;dsimp only at g0 g2 g3 d;obtain⟨A,rfl⟩:∃f',A=f'+1:=by
    cases A with |zero=>cases d |succ f=>exact⟨f,rfl⟩
   unfold HN at d;refine AU (AU ?_);refine ZT 1 ?_;by_cases Z:u<v
   ·rw[if_pos Z] at d;have⟨bb,N,d⟩:=AP d;have⟨x,C,N⟩:=AP N;obtain⟨y,H,rfl⟩:=La.1 N;have O:(decide ((u:Int)<(v:Int)))=true:=DB;refine FM O ?_;refine CV ?_;refine AU (ZT 1 ?_);refine Z1 (Y2 (FG (a:=u) (b:=v) (by omega)) (Hs (u:=u) (v:=v) (by omega))) ?_;obtain⟨w,ew⟩:∃w,w=(u+v) / 2:=⟨_,rfl⟩;have hw:u<=w/\w<v:=(by omega);rw[<-ew] at H d⊢;have lx:=(Lb.1 C).1;have ly:=(Lb.1 H).1;refine AU (ZT 1 ?_);have wf:=Y2 hx (Y4 (Cz AF C) (Cz AF H) (show(w<L)=True from Fa) (show(m<L)=True from Fa));refine Z1 wf ?_;have⟨aa,q1,q2⟩:=hc x y (hS x (Ly C)) (hS y (Ly H)) (Y+3+7+12);refine K7 (δ:=[]) (q2 _ hh) ?_;refine Ki ?_;refine ZT 1 ?_;rcases J:GV cf x y with _ |_
    ·rw[J,if_pos (by rfl)] at d;have B:(decide (cf x y<0))=false:=J;refine Z1 (Y2 B (Ar (n:=w))) ?_;exact⟨⟨(w+1,v,_,A),by show w+1<=v;omega,g2,by show s<=aa+3;omega,d⟩,CW,Ls A⟩
    rw[J,if_neg (by simp)] at d;have B:(decide (cf x y<0))=true:=J;refine Z1 B ?_;exact⟨⟨(u,w,_,A),hw.1,by show w<=m;omega,by show s<=aa+2;omega,d⟩,CW,Ls A⟩
   rw[if_neg Z] at d;have d:=LI d;subst d;have O:(decide ((u:Int)<(v:Int)))=false:=DE;refine FM O ?_;refine Dy ?_;refine CV ?_;refine DV (α:={ x:Nat × List AB × Nat // u<=x.1/\x.1<=m/\s<=x.2.2/\x.2.1.length=L/\Mc (x.1-u) x.2.1 x.1=some R })
    (fun x=>⟨upd 0 (.so i ver 0 L) (upd 14 (.v (.int .i64 (u:Int))) (upd 17 (.v (.int .i64 (x.1.1:Int))) AJ)),upd i (Cd x.1.2.1 ver br) G,x.1.2.2⟩) (fun x=>x.1.1-u) ⟨(m,F,Y+3+2),by show u<=m;omega,Lc m,by show s<=Y+3+2;omega,hL,t⟩ ?_ ?_
   ·rw[Fc hx];exact CW
   rintro⟨⟨k,Q,M⟩,t0,t1,t2,t3,E⟩;dsimp only at t0 t1 t2 t3 E;refine AU (AU ?_);refine ZT 1 ?_;by_cases hk:u<k
   ·obtain⟨k,rfl⟩:∃k',k=k'+1:=⟨k-1,by omega⟩;have B:(decide (((k+1:Nat):Int) > (u:Int)))=true:=DB;have I:(decide ((u:Int)<((k+1:Nat):Int)))=true:=DB;obtain⟨q,hq⟩:∃q,k+1-u=q+1:=⟨k-u,by omega⟩;rw[hq] at E;unfold Mc at E;have⟨x,C,E⟩:=AP E;have⟨y,H,E⟩:=AP E;have lx:=(Lb.1 H).1;refine Z1 (Y2 B I) ?_;refine AQ ?_;refine AU (CV ?_);refine ZT 1 ?_;have e3:((Q.map AF).set (k+1) (AF x))[k]? =some (AF x):=by
     rw[Oo (by omega)];exact Cz AF C
    refine Z1 (Y6 (GB (n:=k) (by omega)) (Cz AF C) (Cz AF H) e3 (show(k+1<L)=True from Fa) (show(k<L)=True from Fa)) ?_;refine DD (by rfl) ?_;refine Z0 ?_;refine ZT 1 ?_;refine Z1 (GB (n:=k) (by omega)) ?_;refine⟨⟨(k,(Q.set (k+1) x).set k y,_),by show u<=k;omega,by show k<=m;omega,?_,by simpa using t3,by rw[show k-u=q by omega];exact E⟩,GE ?_ DW,by show k-u<k+1-u;omega⟩
    ·grind
    rw[EU,EU];show upd i (some (.rw (((Q.set (k+1) x).set k y).map AF) 3 ver br false)) G=_;rw[NF,NF]
   have B:(decide ((k:Int) > (u:Int)))=false:=DE;have I:(decide ((u:Int)<(k:Int)))=false:=DE;rw[show k-u=0 by omega] at E;cases E;refine Z1 (Y2 B I) ?_;refine AQ ?_;refine AQ ?_;exact⟨_,_,rfl,⟨fun _=>.inr rfl⟩,rfl,rfl,by show s<=M+3;omega⟩
  rw[if_neg h2] at t;have c1:(((b-m:Nat):Int)==1)=false:=by simp;omega
  refine Z1 (Y2 (EI (a:=b) (b:=m) (by omega) (by omega)) c1) ?_;refine DI (c:=false) rfl rfl ?_;refine AQ ?_;obtain⟨o,a0⟩:∃o,o=(a+b) / 2:=⟨_,rfl⟩;rw[<-a0] at t;have bx:a<=o/\o<b:=by omega
  obtain⟨T,ag⟩:∃T,T=(if o<m then o+m-b else a):=⟨_,rfl⟩;obtain⟨U,ak⟩:∃U,U=(if o<m then o else m):=⟨_,rfl⟩;rw[<-ag,<-ak] at t;have⟨st,hb,t⟩:=AP t;have bd:i64.wrap (sh (u64.wrap ((a+b:Nat):Int)) 1)=(o:Int):=by
   rw[Hs (by omega),a0]
  have a1:T<=U/\a<=T/\U<=o/\U<=m/\o+m-T<=b:=by
   rw[ag,ak];split<;>omega
  have b0:=dx hb a1.1;refine AU (ZT 1 ?_);refine Z1 (Y2 (FG (a:=a) (b:=b) (by omega)) bd) ?_;refine AU (ZT 1 ?_);refine Z1 (FG (a:=o) (b:=m) (by omega)) ?_;refine Ax ?_;refine AU (Dw (α:={ k:Nat // s<=k }) (fun y=>⟨upd 0 (.so i ver 0 L) (upd 1 (.v (.int .i64 (a:Int))) (upd 2 (.v (.int .i64 (m:Int))) (upd 3 (.v (.int .i64 (b:Int))) (upd 4 (.fn g caps) (upd 18 (.v (.int .i64 (o:Int))) (upd 19 (.v (.int .i64 ((o+m:Nat):Int))) (upd 20 (.v (.int .i64 (T:Int))) (upd 21 (.v (.int .i64 (U:Int))) AJ)))))))),G,y.1⟩) ?_ ?_)
  ·refine AU (ZT 1 ?_);by_cases a2:o<m
   ·have c3:(decide ((m:Int) > (o:Int)))=true:=DB;have B:(decide ((o:Int)<(m:Int)))=true:=DB;rw[if_pos a2] at ag ak;refine Z1 (Y2 c3 B) ?_;refine ED (c:=true) rfl rfl ?_;refine ZT 1 ?_;refine Z1 (EI (a:=o+m) (b:=b) (by omega) (by omega)) ?_;rw[<-ag,ak];exact⟨⟨s+4+4+7+4+2+3+4+2,by omega⟩,CW ⟩
   have c3:(decide ((m:Int) > (o:Int)))=false:=DE;have B:(decide ((o:Int)<(m:Int)))=false:=DE;rw[if_neg a2] at ag ak;refine Z1 (Y2 c3 B) ?_;refine DI (c:=false) rfl rfl ?_;refine AQ ?_;rw[ag,ak];exact⟨⟨s+4+4+7+4+2+3+2+2,by omega⟩,CW ⟩
  rintro⟨a3,hj⟩;refine AU (ZT 1 ?_);have c0:i64.wrap (((o+m:Nat):Int)-1)=((o+m-1:Nat):Int):=EI (a:=o+m) (b:=1) (by omega) (by omega);refine Z1 c0 ?_;refine AU (CV ?_);refine DV (α:={ x:Nat × Nat × Nat × Nat // x.1<=x.2.1/\T<=x.1/\x.2.1<=U/\s<=x.2.2.1/\HN (fun c=>(F[o+m-1-c]?).bind fun x=>(F[c]?).map fun y=> !GV cf x y) x.2.2.2 x.1 x.2.1=some st })
   (fun x=>⟨upd 0 (.so i ver 0 L) (upd 1 (.v (.int .i64 (a:Int))) (upd 2 (.v (.int .i64 (m:Int))) (upd 3 (.v (.int .i64 (b:Int))) (upd 4 (.fn g caps) (upd 18 (.v (.int .i64 (o:Int))) (upd 19 (.v (.int .i64 ((o+m:Nat):Int))) (upd 20 (.v (.int .i64 (x.1.1:Int))) (upd 21 (.v (.int .i64 (x.1.2.1:Int))) (upd 22 (.v (.int .i64 ((o+m-1:Nat):Int))) AJ))))))))),G,x.1.2.2.1⟩) (fun x=>x.1.2.2.2) ⟨(T,U,a3+3,F.length+1),a1.1,Lc T,Lc U,by show s<=a3+3;omega,hb⟩ ?_ ?_
  ·exact CW
  rintro⟨⟨u,v,Y,A⟩,g0,g1,g2,g3,d⟩;dsimp only at g0 g1 g2 g3 d;obtain⟨A,rfl⟩:∃f',A=f'+1:=by
   cases A with |zero=>cases d |succ f=>exact⟨f,rfl⟩
  unfold HN at d;refine AU (AU ?_);refine ZT 1 ?_;by_cases Z:u<v
  ·rw[if_pos Z] at d;have⟨bb,N,d⟩:=AP d;have⟨x,C,N⟩:=AP N;obtain⟨y,H,rfl⟩:=La.1 N;have O:(decide ((u:Int)<(v:Int)))=true:=DB;refine FM O ?_;refine CV ?_;refine AU (ZT 1 ?_);refine Z1 (Y2 (FG (a:=u) (b:=v) (by omega)) (Hs (u:=u) (v:=v) (by omega))) ?_;obtain⟨w,ew⟩:∃w,w=(u+v) / 2:=⟨_,rfl⟩;have hw:u<=w/\w<v:=(by omega);rw[<-ew] at C H d⊢;have lx:=(Lb.1 C).1;have ly:=(Lb.1 H).1;refine AU (ZT 1 ?_);have wf:=Y2 (EI (a:=o+m-1) (b:=w) (by omega) (by omega)) (Y5 hx (Cz AF C) (Cz AF H) (show(o+m-1-w<L)=True from Fa) (show(w<L)=True from Fa));refine Z1 wf ?_;have⟨aa,q1,q2⟩:=hc x y (hS x (Ly C)) (hS y (Ly H)) (Y+3+7+14);refine K7 (δ:=[]) (q2 _ hh) ?_;refine Ki ?_;refine ZT 1 ?_;rcases J:GV cf x y with _ |_
   ·rw[J,if_pos (by rfl)] at d;have B:(decide (cf x y<0))=false:=J;refine Z1 (Y2 B (Ar (n:=w))) ?_;exact⟨⟨(w+1,v,_,A),by show w+1<=v;omega,by show T<=w+1;omega,g2,by show s<=aa+3;omega,d⟩,CW,Ls A⟩
   rw[J,if_neg (by simp)] at d;have B:(decide (cf x y<0))=true:=J;refine Z1 B ?_;exact⟨⟨(u,w,_,A),hw.1,g1,by show w<=U;omega,by show s<=aa+2;omega,d⟩,CW,Ls A⟩
  rw[if_neg Z] at d;have d:=LI d;subst d;have O:(decide ((u:Int)<(v:Int)))=false:=DE;refine FM O ?_;have⟨ab,X,t⟩:=AP t;have⟨ao,ad,t⟩:=AP t;refine AU (ZT 1 ?_);refine Z1 (EI (a:=o+m) (b:=u) (by omega) (by omega)) ?_;obtain⟨e,he⟩:∃e,e=o+m-u:=⟨_,rfl⟩;rw[<-he] at X t⊢;have aE:ab.length=F.length/\∀z∈ab,z∈F:=by
   split at X
   ·exact⟨ZO X,fun z hz=>ZQ X hz⟩
   grind
  have a4:ao.length=ab.length/\∀z∈ao,z∈ab:=by
   split at ad
   ·exact Rs ad
   grind
  have a5:∀Q:List AB,∀j∈ids,upd i (Cd Q ver br) G j=hp0 j:=fun Q j hj=>by
   grind [Aj]
  refine AU (Dw (α:={ k:Nat // s<=k }) (fun y=>⟨upd 0 (.so i ver 0 L) (upd 1 (.v (.int .i64 (a:Int))) (upd 3 (.v (.int .i64 (b:Int))) (upd 4 (.fn g caps) (upd 18 (.v (.int .i64 (o:Int))) (upd 20 (.v (.int .i64 (u:Int))) (upd 24 (.v (.int .i64 (e:Int))) AJ)))))),upd i (Cd ab ver br) G,y.1⟩) ?_ ?_)
  ·refine AU (ZT 1 ?_);by_cases k1:u<m
   ·have I:(decide ((u:Int)<(m:Int)))=true:=DB;by_cases k2:m<e
    ·have P:(decide ((m:Int)<(e:Int)))=true:=DB;refine Z1 (Y2 I P) ?_;refine AQ ?_;rw[if_pos ⟨k1,k2⟩] at X;refine CO ((Rr (cmp:=.fn g caps) hx hL a9 (by omega) (by omega) (by omega) X).mono ?_);rintro v2 av M ⟨rfl,rfl,aq⟩;dsimp only at aq;refine Z0 ?_;exact⟨⟨M,by omega⟩,CW⟩
    have P:(decide ((m:Int)<(e:Int)))=false:=DE;refine Z1 (Y2 I P) ?_;rw[if_neg (fun h=>k2 h.2)] at X;cases X;refine DI (c:=false) rfl rfl ?_;refine AQ ?_;exact⟨⟨_,by omega⟩,GE (Fc hx) DW⟩
   have I:(decide ((u:Int)<(m:Int)))=false:=DE;refine Z1 I ?_;rw[if_neg (fun h=>k1 h.1)] at X;cases X;refine DI (c:=false) rfl rfl ?_;refine AQ ?_;exact⟨⟨_,by omega⟩,GE (Fc hx) DW⟩
  rintro⟨b1,b2⟩;have be:upd i (Cd ab ver br) G i=Cd ab ver br:=At _ _ _;have bg:upd i (Cd ao ver br) G i=Cd ao ver br:=At _ _ _;refine AU (Dw (α:={ k:Nat // s<=k }) (fun y=>⟨upd 0 (.so i ver 0 L) (upd 3 (.v (.int .i64 (b:Int))) (upd 4 (.fn g caps) (upd 18 (.v (.int .i64 (o:Int))) (upd 24 (.v (.int .i64 (e:Int))) AJ)))),upd i (Cd ao ver br) G,y.1⟩) ?_ ?_)
  ·refine AU (ZT 1 ?_);by_cases k1:a<u
   ·have I:(decide ((a:Int)<(u:Int)))=true:=DB;by_cases k2:u<o
    ·have P:(decide ((u:Int)<(o:Int)))=true:=DB;refine Z1 (Y2 I P) ?_;refine AQ ?_;rw[if_pos ⟨k1,k2⟩] at ad;refine CO ((ih (a5 ab) be (fun z hz=>hS z (aE.2 z hz)) (aE.1.trans hL) ad).mono ?_);rintro v2 av M ⟨rfl,rfl,aq⟩;dsimp only at aq;refine Z0 ?_;rw[EU];exact⟨⟨M,by omega⟩,CW⟩
    have P:(decide ((u:Int)<(o:Int)))=false:=DE;refine Z1 (Y2 I P) ?_;rw[if_neg (fun h=>k2 h.2)] at ad;cases ad;refine DI (c:=false) rfl rfl ?_;refine AQ ?_;exact⟨⟨_,by omega⟩,CW⟩
   have I:(decide ((a:Int)<(u:Int)))=false:=DE;refine Z1 I ?_;rw[if_neg (fun h=>k1 h.1)] at ad;cases ad;refine DI (c:=false) rfl rfl ?_;refine AQ ?_;exact⟨⟨_,by omega⟩,CW⟩
  rintro⟨a6,b3⟩;refine AU (ZT 1 ?_);by_cases k1:o<e
  ·have I:(decide ((o:Int)<(e:Int)))=true:=DB;by_cases k2:e<b
   ·have P:(decide ((e:Int)<(b:Int)))=true:=DB;refine Z1 (Y2 I P) ?_;refine AQ ?_;rw[if_pos ⟨k1,k2⟩] at t;refine CO ((ih (a5 ao) bg (fun z hz=>hS z (aE.2 z (a4.2 z hz))) (a4.1.trans (aE.1.trans hL)) t).mono ?_);rintro v2 av M ⟨rfl,rfl,aq⟩;dsimp only at aq;refine Z0 ?_;rw[EU];exact⟨_,_,rfl,⟨fun _=>.inr rfl⟩,rfl,rfl,by show s<=M;omega⟩
   have P:(decide ((e:Int)<(b:Int)))=false:=DE;refine Z1 (Y2 I P) ?_;rw[if_neg (fun h=>k2 h.2)] at t;cases t;refine DI (c:=false) rfl rfl ?_;refine AQ ?_;exact⟨_,_,rfl,⟨fun _=>.inr rfl⟩,rfl,rfl,by show s<=a6+5+3;omega⟩
  have I:(decide ((o:Int)<(e:Int)))=false:=DE;refine Z1 I ?_;rw[if_neg (fun h=>k1 h.1)] at t;cases t;refine DI (c:=false) rfl rfl ?_;refine AQ ?_;exact⟨_,_,rfl,⟨fun _=>.inr rfl⟩,rfl,rfl,by show s<=a6+8;omega⟩
end
def Gv {α:Type}(e:α->α->Bool)(F:Nat):Nat->List α->Nat->Nat->Option (List α × Nat)
 |0,_,_,_=>none
 |c+1,d,a,b=>if b<=d.length then(JE e F d a (a+1) b).bind fun f=>Gv e F c f b (b+20) else some (d,a)
def Gw {α:Type}(f:α->α->Bool)(F d:Nat):Nat->List α->Nat->Nat->Option (List α × Nat)
 |0,_,_,_=>none
 |c+1,e,a,b=>if b<=e.length then(symM f F e a (a+d) b).bind fun h=>Gw f F d c h b (b+2*d) else some (e,a)
def Gx {α:Type}(d:α->α->Bool)(F:Nat):Nat->List α->Nat->Option (List α)
 |0,_,_=>none
 |c+1,b,a=>if a<b.length then(Gw d F a (b.length+1) b 0 (2*a)).bind fun p=>(if p.2+a<p.1.length then symM d F p.1 p.2 (p.2+a) p.1.length else some p.1).bind fun e=>Gx d F c e (a*2) else some b
def Gy {α:Type}(a:α->α->Bool)(F:Nat)(xs:List α):Option (List α):=(Gv a F (xs.length+1) xs 0 20).bind fun p=>(JE a F p.1 p.2 (p.2+1) p.1.length).bind fun b=>Gx a F (xs.length+1) b 20
theorem Wd {α:Type}{j:α->α->Bool}{a b:Nat}:∀ {F i:Nat} {c d:List α},JE j F c a i b=some d->d.length=c.length/\∀z∈d,z∈c
 |0,_,_,_,h=>by cases h
 |F+1,i,c,d,h=>by
  unfold JE at h;split at h
  ·have⟨m,f,h⟩:=AP h;have e:=Wd h;exact⟨e.1.trans (oB f),fun z k=>oD f (e.2 z k)⟩
  cases h;exact⟨rfl,fun _ h=>h⟩
theorem d6 {α:Type}{j:α->α->Bool}{F:Nat}:∀ {c a b:Nat} {d:List α} {p:List α × Nat},Gv j F c d a b=some p->a<=d.length->(p.1.length=d.length/\∀z∈p.1,z∈d)/\p.2<=d.length
 |0,_,_,_,_,h,_=>by cases h
 |c+1,a,b,d,p,h,k=>by
  unfold Gv at h;split at h
  ·have⟨q,m,h⟩:=AP h;have e:=Wd m;have f:=d6 h (by omega);exact⟨⟨f.1.1.trans e.1,fun z o=>e.2 z (f.1.2 z o)⟩,by omega⟩
  cases h;exact⟨⟨rfl,fun _ h=>h⟩,k⟩
theorem d7 {α:Type}{j:α->α->Bool}{F k:Nat}:∀ {c a b:Nat} {d:List α} {p:List α × Nat},Gw j F k c d a b=some p->a<=d.length->(p.1.length=d.length/\∀z∈p.1,z∈d)/\p.2<=d.length
 |0,_,_,_,_,h,_=>by cases h
 |c+1,a,b,d,p,h,m=>by
  unfold Gw at h;split at h
  ·have⟨r,o,h⟩:=AP h;have e:=Rs o;have f:=d7 h (by omega);exact⟨⟨f.1.1.trans e.1,fun z q=>e.2 z (f.1.2 z q)⟩,by omega⟩
  cases h;exact⟨⟨rfl,fun _ h=>h⟩,m⟩
theorem We (h:n<1152921504606846976):i64.wrap (2*(n:Int))=((2*n:Nat):Int):=by
 rw[show 2*(n:Int)=((2*n:Nat):Int) by omega];exact Hl
theorem d8 (h:n<1152921504606846976):i64.wrap ((n:Int)*2)=((n*2:Nat):Int):=by
 rw[show(n:Int)*2=((n*2:Nat):Int) by omega];exact Hl
section
variable {g:FuncId}{caps:List AV}{S:AB->Prop}{cf:AB->AB->Int}{ids:List Nat}{hp0:Hp}{br:Bool}{i ver L:Nat}
set_option maxRecDepth 4000 in
theorem Ru (T:JD Tryz.prog g caps (fun r:AB=>.d (.ag (AF r)) br) S cf ids hp0)(C:i∉ids){xs R:List AB}{F nx:Nat}{hp:Hp}(hh:∀j∈ids,hp j=hp0 j)(hx:hp i=Cd xs ver br)(hS:∀x∈xs,S x)(hL:xs.length=L)(ao:L<4294967296)
  (u:Gy (GV cf) F xs=some R):
  AT Tryz.prog 124 [.so i ver 0 L,.v (.int .i64 (L:Int)),.fn g caps] hp nx fun v E B=>v= .tu []/\E=upd i (Cd R ver br) hp/\nx<=B:=by
 unfold Gy at u;have⟨⟨aa,a0⟩,hB,u⟩:=AP u;have⟨aq,U,u⟩:=AP u;dsimp only at U u;have X:∀p:List AB,∀j∈ids,upd i (Cd p ver br) hp j=hp0 j:=fun p j hj=>by
  have av:j≠i:=fun h=>C (by rw[<-h];exact hj);rw[Aj _ _ av];exact hh j hj
 have Y:∀p:List AB,upd i (Cd p ver br) hp i=Cd p ver br:=fun p=>At _ _ _;have lB:=d6 hB (Lf _);have lZ:=Wd U;refine zq Tryz.func124 ?_;refine Dg ?_;refine AU (CV ?_)
 refine DV (α:={ x:List AB × Nat × Nat × Nat × Nat // x.2.1<=L/\x.2.2.1<=L+20/\nx<=x.2.2.2.1/\(x.1.length=L/\∀z∈x.1,S z)/\Gv (GV cf) F x.2.2.2.2 x.1 x.2.1 x.2.2.1=some (aa,a0) })
  (fun x=>⟨upd 0 (.so i ver 0 L) (upd 1 (.v (.int .i64 (L:Int))) (upd 2 (.fn g caps) (upd 6 (.v (.int .i64 20)) (upd 7 (.v (.int .i64 (x.1.2.1:Int))) (upd 8 (.v (.int .i64 (x.1.2.2.1:Int))) AJ))))),upd i (Cd x.1.1 ver br) hp,x.1.2.2.2.1⟩) (fun x=>x.1.2.2.2.2) ⟨(xs,0,20,nx+1+3,xs.length+1),Lf _,by show 20<=L+20;omega,by show nx<=nx+1+3;omega,⟨hL,hS⟩,hB⟩ ?_ ?_
 ·rw[Fc hx];exact CW
 rintro⟨⟨p,a,b,a3,G⟩,g0,g1,g2,m,q⟩;dsimp only at g0 g1 g2 m q;obtain⟨G,rfl⟩:∃H,G=H+1:=by
  cases G with |zero=>cases q |succ f=>exact⟨f,rfl⟩
 unfold Gv at q;refine AU (AU ?_);refine ZT 1 ?_;by_cases hb:b<=L
 ·rw[ifp] at q;have⟨aE,I,q⟩:=AP q;have l1:=Wd I;have w:(decide ((b:Int)<=(L:Int)))=true:=DB;refine FM w ?_;refine CV ?_;refine Ax ?_;refine CO ((oE (a:=a) (b:=b) T C (X p) (Y p) m.2 m.1 (by omega) (by omega) I).mono ?_);rintro v2 E B ⟨rfl,rfl,ab⟩;dsimp only at ab;refine Z0 ?_;refine ZT 1 ?_;have J:i64.wrap ((b:Int)+20)=((b+20:Nat):Int):=FG (a:=b) (b:=20) (by omega);refine Z1 J ?_;rw[EU];exact⟨⟨(aE,b,b+20,_,G),hb,by show b+20<=L+20;omega,by show nx<=B+2+4;omega,⟨l1.1.trans m.1,fun z A=>m.2 z (l1.2 z A)⟩,q⟩,CW,Ls G⟩
 rw[ifn] at q;cases q;have w:(decide ((b:Int)<=(L:Int)))=false:=DE;refine FM w ?_;refine Ax ?_;rw[m.1] at U;refine CO ((oE (a:=a0) (b:=L) T C (X aa) (Y aa) m.2 m.1 (by omega) (by omega) U).mono ?_);rintro v2 E B ⟨rfl,rfl,ab⟩;dsimp only at ab;refine Z0 ?_;refine CV ?_;rw[EU];refine DV (α:={ x:List AB × Nat × Nat × Nat // x.2.1<9223372036854775808 / 16/\nx<=x.2.2.1/\(x.1.length=L/\∀z∈x.1,S z)/\Gx (GV cf) F x.2.2.2 x.1 x.2.1=some R })
  (fun x=>⟨upd 0 (.so i ver 0 L) (upd 1 (.v (.int .i64 (L:Int))) (upd 2 (.fn g caps) (upd 6 (.v (.int .i64 (x.1.2.1:Int))) AJ))),upd i (Cd x.1.1 ver br) hp,x.1.2.2.1⟩) (fun x=>x.1.2.2.2) ⟨(aq,20,B,xs.length+1),by show(20:Nat)<9223372036854775808 / 16;decide,by show nx<=B;omega,⟨lZ.1.trans m.1,fun z A=>m.2 z (lZ.2 z A)⟩,u⟩ ?_ ?_
 ·exact CW
 rintro⟨⟨us,d,ad,M⟩,t0,t1,t2,e⟩;dsimp only at t0 t1 t2 e;obtain⟨M,rfl⟩:∃H,M=H+1:=by
  cases M with |zero=>cases e |succ f=>exact⟨f,rfl⟩
 unfold Gx at e;refine AU (AU ?_);refine ZT 1 ?_;by_cases a4:d<L;rotate_left
 ·rw[ifn] at e;cases e;have w:(decide ((d:Int)<(L:Int)))=false:=DE;refine FM w ?_;exact⟨_,_,rfl,⟨fun _=>.inr rfl⟩,rfl,rfl,by show nx<=ad+3;omega⟩
 rw[ifp] at e;have⟨⟨N,O⟩,I,e⟩:=AP e;have⟨Z,s,e⟩:=AP e;dsimp only at s e;have l1:=d7 I (Lf _);have w:(decide ((d:Int)<(L:Int)))=true:=DB;refine FM w ?_;refine CV ?_;refine AU (ZT 1 ?_);refine Z1 (We (n:=d) (by omega)) ?_;refine AU (CV ?_);refine DV (α:={ x:List AB × Nat × Nat × Nat × Nat // x.2.1<=L/\x.2.2.1<=L+2*d/\nx<=x.2.2.2.1/\(x.1.length=L/\∀z∈x.1,S z)/\Gw (GV cf) F d x.2.2.2.2 x.1 x.2.1 x.2.2.1=some (N,O) })
  (fun x=>⟨upd 0 (.so i ver 0 L) (upd 1 (.v (.int .i64 (L:Int))) (upd 2 (.fn g caps) (upd 6 (.v (.int .i64 (d:Int))) (upd 7 (.v (.int .i64 (x.1.2.1:Int))) (upd 8 (.v (.int .i64 (x.1.2.2.1:Int))) AJ))))),upd i (Cd x.1.1 ver br) hp,x.1.2.2.2.1⟩) (fun x=>x.1.2.2.2.2) ⟨(us,0,2*d,ad+3+4,us.length+1),Lf _,by show 2*d<=L+2*d;omega,by show nx<=ad+3+4;omega,t2,I⟩ ?_ ?_
 ·exact CW
 rintro⟨⟨qs,a,b,a5,P⟩,u0,u1,u2,o,t⟩;dsimp only at u0 u1 u2 o t;obtain⟨P,rfl⟩:∃H,P=H+1:=by
  cases P with |zero=>cases t |succ f=>exact⟨f,rfl⟩
 unfold Gw at t;refine AU (AU ?_);refine ZT 1 ?_;by_cases hb:b<=L
 ·rw[ifp] at t;have⟨a1,h3,t⟩:=AP t;have Q:=Rs h3;have J:(decide ((b:Int)<=(L:Int)))=true:=DB;refine FM J ?_;refine CV ?_;refine AU (ZT 1 ?_);refine Z1 (FG (a:=a) (b:=d) (by omega)) ?_;refine CO ((oh T C ao F (X qs) (Y qs) o.2 o.1 h3).mono ?_);rintro v2 E ag ⟨rfl,rfl,ak⟩;dsimp only at ak;have c3:i64.wrap ((b:Int)+((2*d:Nat):Int))=((b+2*d:Nat):Int):=FG (a:=b) (b:=2*d) (by omega);refine Z0 ?_;refine ZT 1 ?_;refine Z1 (Y2 (We (n:=d) (by omega)) c3) ?_;rw[EU];exact⟨⟨(a1,b,b+2*d,_,P),hb,by show b+2*d<=L+2*d;omega,by show nx<=ag+2+5;omega,⟨Q.1.trans o.1,fun z A=>o.2 z (Q.2 z A)⟩,t⟩,CW,Ls P⟩
 rw[ifn] at t;cases t;have J:(decide ((b:Int)<=(L:Int)))=false:=DE;refine FM J ?_;refine AU ?_;rw[o.1] at s;have Q:Z.length=N.length/\∀z∈Z,z∈N:=by
  split at s
  ·exact Rs s
  cases s;exact⟨rfl,fun _ h=>h⟩
 refine Dw (α:={ k:Nat // nx<=k }) (fun y=>⟨upd 0 (.so i ver 0 L) (upd 1 (.v (.int .i64 (L:Int))) (upd 2 (.fn g caps) (upd 6 (.v (.int .i64 (d:Int))) AJ))),upd i (Cd Z ver br) hp,y.1⟩) ?_ ?_
 ·refine AU (ZT 1 ?_);refine Z1 (FG (a:=O) (b:=d) (by omega)) ?_;refine AU (ZT 1 ?_);by_cases k1:O+d<L
  ·have c5:(decide (((O+d:Nat):Int)<(L:Int)))=true:=DB;refine FM c5 ?_;rw[if_pos k1] at s;refine CO ((oh T C ao F (X N) (Y N) o.2 o.1 s).mono ?_);rintro v2 E ag ⟨rfl,rfl,ak⟩;dsimp only at ak;refine Z0 ?_;rw[EU];exact⟨⟨ag,by omega⟩,CW⟩
  have c5:(decide (((O+d:Nat):Int)<(L:Int)))=false:=DE;refine Z1 c5 ?_;rw[if_neg k1] at s;cases s;refine DI (c:=false) rfl rfl ?_;refine AQ ?_;exact⟨⟨_,by omega⟩,CW⟩
 rintro⟨a2,h6⟩;refine ZT 1 ?_;refine Z1 (d8 (n:=d) (by omega)) ?_;exact⟨⟨(Z,d*2,_,M),by show d*2<9223372036854775808 / 16;omega,by show nx<=a2+3;omega,⟨Q.1.trans o.1,fun z A=>o.2 z (Q.2 z A)⟩,e⟩,CW,Ls M⟩
theorem Rv (c:JD Tryz.prog g caps (fun r:AB=>.d (.ag (AF r)) br) S cf ids hp0)(d:i∉ids){xs R:List AB}{F nx:Nat}{hp:Hp}(e:∀j∈ids,hp j=hp0 j)(f:hp i=Cd xs ver br)(k:∀x∈xs,S x)(m:xs.length=L)(o:L<4294967296)
  (p:Gy (GV cf) F xs=some R):
  AT Tryz.prog 97 [.so i ver 0 L,.fn g caps] hp nx fun v b a=>v= .tu []/\b=upd i (Cd R ver br) hp/\nx<=a:=by
 refine zr Tryz.func97 ?_;refine Z0 ?_;refine CO (AT.mono (Ru c d e f k m o p) fun v b a h=> ?_);obtain⟨rfl,rfl,h⟩:=h;have h:nx+5<=a:=h;refine Z0 ?_;exact⟨_,_,rfl,⟨fun _=>.inr rfl⟩,rfl,rfl,by show nx<=a;omega⟩
end
end Go.Proofs.YtnmkbmefohakmaaGreat.Ab
