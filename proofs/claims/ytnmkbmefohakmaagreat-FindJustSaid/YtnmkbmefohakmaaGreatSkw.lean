/-
 The stable sort told plainly: what comes out is in order, and the same. No program in sight.
-/
import Derived.Test.YtnmkbmefohakmaaGreatSkd
import Derived.Test.YtnmkbmefohakmaaGreatSkx
set_option linter.all false
namespace Go.Proofs.YtnmkbmefohakmaaGreat.Ab
open Go.RowKit
inductive ZK (D:AB->List AB):AB->AB->Prop
 |refl (r:AB):ZK D r r
 |step {r d e:AB} (h:d∈D r) (h2:ZK D d e):ZK D r e
variable {α:Type}{A:List α}{k:Nat}{r:AB}
theorem WZ {N:List PN}:(DJ r N).isSome=true↔r∈N.map (·.k):=by
 constructor
 ·intro h;have⟨p,a⟩:=NG.1 h;have⟨b,c⟩:=JF a;exact LL.2 ⟨p,b,c⟩
 intro h;have⟨p,a⟩:=JY h;rw[a];rfl
theorem oQ {α:Type}[DecidableEq α](g:α->Nat)(p:α->Bool)(r:α):∀ {U:List α},U.Nodup->r∈U->p r=true->((U.filter fun x=>p x&&decide (x≠r)).map g).sum+g r=((U.filter p).map g).sum
 |[],_,h,_=>by cases h
 |x::l,a,h,b=>by
  rw[Nj] at a;by_cases e:x=r
  ·grind [decide,List.filter_congr]
  have c:r∈l:=by
   rcases Lv.1 h with h |h
   ·exact absurd h.symm e
   exact h
  have d:=oQ g p r a.2 c b;grind
def Ma (D:AB->List AB)(U:List AB)(N:List PN):Nat:=((U.filter fun r=>decide (r∉N.map (·.k))).map fun r=>(D r).length).sum
theorem Wa {α:Type}[DecidableEq α]:∀ {l U:List α},l.Nodup->(∀x∈l,x∈U)->l.length<=U.length
 |[],_,_,_=>Lf _
 |x::l,U,a,h=>by
  rw[Nj] at a;have c:x∈U:=h x (Lp ..);have d:=Wa (l:=l) (U:=U.erase x) a.2 fun y b=>(O4 fun e=>a.1 (by rw[<-e];exact b)).2 (h y (Lk _ b));grind
section
variable {nd:AB->Option (Int × List AB)}{D:AB->List AB}{rk:AB->Int}{U:List AB}
def mkP (rk:AB->Int)(D:AB->List AB)(r:AB):PN:=⟨r,rk r,D r,[],false⟩
theorem ZL (v:U.Nodup)(z:U.length<4294967296)(B:∀r∈U,nd r=some (rk r,D r))(C:∀r∈U,∀d∈D r,d∈U):∀(f:Nat) (g w:List AB),g.Nodup->(∀r∈g,r∈U)->(∀r∈w,r∈U)->w.length+Ma D U (g.map (mkP rk D))<f->w.length+Ma D U (g.map (mkP rk D))<=4294967296->
  ∃i:List AB,Hj nd f (g.map (mkP rk D)) w=some (i.map (mkP rk D))/\i.Nodup/\(∀r∈i,r∈U)/\(∀r∈g,r∈i)/\(∀r∈w,r∈i)/\((∀r∈g,∀d∈D r,d∈g\/d∈w)->∀r∈i,∀d∈D r,d∈i)/\∀r∈i,r∈g\/∃n∈w,ZK D n r
 |0,_,_,_,_,_,h,_=>absurd h (LZ _)
 |f+1,g,[],o,p,_,_,_=>⟨g,rfl,o,p,(fun _ h=>h),(fun _ h=>nomatch h),(fun h r j d l=>(h r j d l).elim id fun h=>nomatch h),fun r h=>.inl h⟩
 |f+1,g,r::w,o,p,E,N,s=>by
  have F:(g.map (mkP rk D)).map (·.k)=g:=by simp[mkP,NO]
  by_cases j:r∈g
  ·have G:(DJ r (g.map (mkP rk D))).isSome=true:=WZ.2 (by rw[F];exact j);simp only[Ll] at N s;have⟨i,t,H,I,q,J,L,M⟩:=ZL v z B C f g w o p (fun x c=>E x (Lk _ c)) (by omega) (by omega);refine⟨i,?_,H,I,q,fun x c=> ?_,fun h=>L fun x c d l=> ?_,fun x c=> ?_⟩
   ·unfold Hj;rw[if_pos G,t]
   ·rcases Lv.1 c with rfl |c
    ·exact q x j
    exact J x c
   ·rcases h x c d l with h |h
    ·exact .inl h
    rcases Lv.1 h with rfl |h
    ·exact .inl j
    exact .inr h
   rcases M x c with h |⟨n,h,m⟩
   ·exact .inl h
   exact .inr ⟨n,Lk _ h,m⟩
  have G:¬(DJ r (g.map (mkP rk D))).isSome=true:=fun h=>j (by have:=WZ.1 h;rw[F] at this;exact this);have u:=E r (Lp ..);have O:(g++[r]).Nodup:=N8.2 ⟨o,Nj.2 ⟨Bh,NV⟩,fun a P b s e=>j (by rw[<-Lr.1 s,<-e];exact P)⟩;have R:Ma D U ((g++[r]).map (mkP rk D))+(D r).length=Ma D U (g.map (mkP rk D)):=by
   unfold Ma;have m:((g++[r]).map (mkP rk D)).map (·.k)=g++[r]:=(by simp[mkP,NO]);rw[F,m,<-oQ (fun r=>(D r).length) (fun x=>decide (x∉g)) r v u (by simpa using j)];congr 4;funext x;simp[Bool.and_comm]
  have Q:g.length<4294967296:=BH (Wa o p) z;simp only[Ll] at N s;have⟨i,t,H,I,q,J,L,M⟩:=ZL v z B C f (g++[r]) ((D r).reverse++w) O (fun x c=>by
   rcases Lw.1 c with h |h
   ·exact p x h
   ·rw[Lr.1 h];exact u) (fun x c=>by
   rcases Lw.1 c with h |h
   ·exact C r u x (OH.1 h)
   exact E x (Lk _ h)) (by rw[Ld,Be];omega) (by rw[Ld,Be];omega)
  refine⟨i,?_,H,I,fun x c=>q x (L8 _ c),fun x c=> ?_,fun h=>L fun x c d l=> ?_,fun x c=> ?_⟩
  ·unfold Hj;rw[if_neg G,B r u,Zo,if_pos ⟨by simp only;omega,by rw[Lt];exact Q⟩];rw[LX] at t;exact t
  ·rcases Lv.1 c with rfl |c
   ·exact q x (Na _ (Lr.2 rfl))
   exact J x (Na _ c)
  ·rcases Lw.1 c with c |c
   ·rcases h x c d l with h |h
    ·exact .inl (L8 _ h)
    rcases Lv.1 h with rfl |h
    ·exact .inl (Na _ (Lr.2 rfl))
    exact .inr (Na _ h)
   rw[Lr.1 c] at l;exact .inr (L8 _ (OH.2 l))
  rcases M x c with h |⟨n,h,m⟩
  ·rcases Lw.1 h with h |h
   ·exact .inl h
   rw[Lr.1 h];exact .inr ⟨r,Lp ..,.refl r⟩
  rcases Lw.1 h with h |h
  ·exact .inr ⟨r,Lp ..,.step (OH.1 h) m⟩
  exact .inr ⟨n,Lk _ h,m⟩
end
def addL (f:AB->List AB)(N:List PN):List PN:=N.map fun p=>{ p with above:=p.above++f p.k }
theorem oS (N:List PN):addL (fun _=>[]) N=N:=by
 unfold addL;simp
theorem oT (f g:AB->List AB)(N:List PN):addL g (addL f N)=addL (fun x=>f x++g x) N:=by
 unfold addL;simp
theorem oU {f g:AB->List AB}(N:List PN)(h:∀x,f x=g x):addL f N=addL g N:=by rw[show f=g from funext h]
theorem ZM (f:AB->List AB)(N:List PN):(addL f N).map (·.k)=N.map (·.k):=by simp[addL,NO]
theorem oV (d r:AB)(N:List PN):Pn d r N=addL (fun x=>if d==x then[r] else[]) N:=by
 unfold Pn addL;refine Np fun p _=> ?_;by_cases h:(d==p.k)=true
 ·simp[h]
 simp[h]
theorem oW (r:AB):∀(l:List AB) (N:List PN),(∀d∈l,d∈N.map (·.k))->(∀p∈N,p.above.length+l.length<=4294967296)->GW r l N=some (addL (fun x=>(l.filter (· ==x)).map fun _=>r) N)
 |[],N,_,_=>by
  exact congrArg some ((oU N (g:=fun _=>[]) fun x=>rfl).trans (oS N)).symm
 |d::l,N,e,a=>by
  have⟨p,b⟩:=JY (e d (Lp ..));have f:=(JF b).1;have h:=a p f;simp only[Ll] at h a;unfold GW;rw[b,Zo,ifp,oW r l _ (by rw[ym];grind) fun i c=>by
   rw[oV] at c;obtain⟨j,m,rfl⟩:=LL.1 c;grind]
  rw[oV,oT];grind
def wh_ (D:AB->List AB)(l:List AB)(x:AB):List AB:=l.flatMap fun r=>((D r).filter (· ==x)).map fun _=>r
theorem oX {D:AB->List AB}{l:List AB}{x:AB}:r∈wh_ D l x↔r∈l/\x∈D r:=by
 unfold wh_;simp
def total (D:AB->List AB)(l:List AB):Nat:=(l.map fun r=>(D r).length).sum
theorem di (D:AB->List AB):∀(l:List AB) (N:List PN),(∀r∈l,r∈N.map (·.k))->(∀p∈N,p.deps=D p.k/\∀d∈D p.k,d∈N.map (·.k))->(∀p∈N,p.above.length+total D l<=4294967296)->FY l N=some (addL (wh_ D l) N)
 |[],N,_,_,_=>by
  exact congrArg some ((oU N (g:=fun _=>[]) fun x=>rfl).trans (oS N)).symm
 |r::l,N,n,c,e=>by
  have⟨p,f⟩:=JY (n r (Lp ..));have⟨h,o⟩:=JF f;have⟨b,i⟩:=c p h;rw[o] at b i;have s:total D (r::l)=(D r).length+total D l:=by simp[total]
  have t:=e p h;unfold FY;rw[f,Zo,if_pos (by rw[b];omega),b,oW r (D r) N i fun q a=>by have:=e q a;omega,Zo,di D l _ (by rw[ZM];grind) (fun q a=> ?_) fun q a=> ?_]
  ·rw[oT];rfl
  ·obtain⟨j,m,rfl⟩:=LL.1 a;rw[ZM];exact c j m
  obtain⟨j,m,rfl⟩:=LL.1 a;grind
def FP (S:AB->Bool)(P:List PN):List PN:=P.map fun p=>{ p with is:=S p.k }
theorem Rp (S:AB->Bool)(r:AB):∀P:List PN,DJ r (FP S P)=(DJ r P).map fun p=>{ p with is:=S p.k }
 |[]=>rfl
 |p::l=>by
  have a:=Rp S r l;grind [DJ,FP]
theorem oY (S:AB->Bool)(d:AB)(P:List PN):Hm d (FP S P)=FP (fun x=>S x||d==x) P:=by
 unfold Hm FP;rw[Ba];refine Np fun p _=> ?_;grind
structure FZ (K:List AB) (D:AB->List AB) (rk:AB->Int) (nwB:(AB->Bool)->AB->Bool):Prop where
 loc:∀S T r,r∈K->(∀d∈D r,S d=T d)->nwB S r=nwB T r
 mono:∀S T r,r∈K->(∀d∈D r,rk d<rk r->S d=T d)->(∀d∈D r,rk d=rk r->S d=true->T d=true)->nwB S r=true->nwB T r=true
 rkD:∀r∈K,∀d∈D r,rk d<=rk r
 DK:∀r∈K,∀d∈D r,d∈K
structure Fx (K:List AB) (rk:AB->Int) (nwB:(AB->Bool)->AB->Bool) (S:AB->Bool) (done w:List AB) (k:Int):Prop where
 a:∀r∈K,S r=true->nwB S r=true
 b:∀r∈done,nwB S r=true->S r=true\/(r∈w/\rk r=k)
 c:∀r∈K,S r=true->rk r<=k
 d:∀(j:Int) (T:AB->Bool),(∀r∈K,rk r<j->T r=S r)->(∀r∈K,rk r=j->nwB T r=true->T r=true)->∀r∈K,rk r=j->S r=true->T r=true
 e:∀r∈done,r∈K/\rk r<=k
section
variable {K:List AB}{D:AB->List AB}{rk:AB->Int}{nwB:(AB->Bool)->AB->Bool}{S:AB->Bool}{done w:List AB}{k:Int}
theorem Fx.pop (_:FZ K D rk nwB)(h:Fx K rk nwB S done (r::w) k)(d:rk r≠k\/S r=true\/nwB S r=false):Fx K rk nwB S done w k:=
 ⟨h.a,fun x b c=>by
  rcases h.b x b c with a |⟨a,e⟩
  ·exact .inl a
  grind,h.c,h.d,h.e⟩
theorem Fx.set (l:FZ K D rk nwB){u:List AB}(h:Fx K rk nwB S done (r::w) k)(m:r∈K)(F:rk r=k)(B:nwB S r=true)(C:∀x,x∈K->r∈D x->x∈u):Fx K rk nwB (fun x=>S x||r==x) done (u.reverse++w) k where
 a:=fun x g f=>by
  have n:nwB S x=true/\rk x<=k:=by
   simp only[LQ] at f;rcases f with f |f
   ·exact⟨h.a x g f,h.c x g f⟩
   grind
  refine l.mono S _ x g (fun d i hlt=> ?_) (fun d i E f=>by simp[f]) n.1
  have:(r==d)=false:=by
   rw[beq_eq_false_iff_ne];intro e;subst e;omega
  simp[this]
 b:=fun x g f=>by
  have⟨q,G⟩:=h.e x g;by_cases s:r∈D x
  ·have n:=C x q s;have o:=l.rkD x q r s;grind
  rw[<-l.loc S _ x q fun d i=>by
   have:(r==d)=false:=by
    rw[beq_eq_false_iff_ne];intro e;subst e;exact s i
   simp[this]] at f
  rcases h.b x g f with t |⟨t,p⟩
  ·exact .inl (by simp[t])
  grind
 c:=fun x g f=>by
  simp only[LQ] at f;rcases f with f |f
  ·exact h.c x g f
  rw[<-eq_of_beq f];omega
 d:=fun j T n o x g v f=>by
  have t:∀y∈K,rk y<j->rk y<k\/k<j:=fun y _ z=>by omega
  by_cases H:k<j
  ·simp only[LQ] at f;rcases f with f |f
   ·have:=h.c x g f;omega
   grind
  have p:∀y∈K,rk y<j->T y=S y:=fun y z hlt=>by
   rw[n y z hlt]
   have:(r==y)=false:=by
    rw[beq_eq_false_iff_ne];intro e;subst e;omega
   simp[this]
  simp only[LQ] at f;rcases f with f |f
  ·exact h.d j T p o x g v f
  have:=eq_of_beq f;subst this;refine o r m v (l.mono S T r m (fun d i hlt=>(p d (l.DK r m d i) (by omega)).symm) (fun d i E f=> ?_) B);exact h.d j T p o d (l.DK r m d i) (by omega) f
 e:=h.e
def EH (P:List PN)(S:AB->Bool):Nat:=((P.filter fun p=> !S p.k).map fun p=>p.above.length).sum
theorem oZ {P:List PN}(a:(P.map (·.k)).Nodup){p:PN}(hp:p∈P)(b:S p.k=false):EH P (fun x=>S x||p.k==x)+p.above.length=EH P S:=by
 unfold EH;induction P with
 |nil=>cases hp
 |cons q l c=>
  rw[Lh,Nj] at a;rcases Lv.1 hp with rfl |hp
  ·grind [List.filter_congr,beq_eq_false_iff_ne,List.mem_map_of_mem]
  grind
theorem Wb {nw:List PN->AB->Option Bool}{P:List PN}(a:FZ (P.map (·.k)) D rk nwB)(d:(P.map (·.k)).Nodup)(e:∀p∈P,p.rank=rk p.k/\∀x,x∈p.above↔x∈P.map (·.k)/\p.k∈D x)(g:∀S r,r∈P.map (·.k)->nw (FP S P) r=some (nwB S r)):
  ∀(f:Nat) (S:AB->Bool) (w:List AB),(∀r∈w,r∈P.map (·.k))->w.length+EH P S<f->w.length+EH P S<=4294967296->Fx (P.map (·.k)) rk nwB S done w k->∃b,JX nw k f (FP S P) w=some (FP b P)/\Fx (P.map (·.k)) rk nwB b done [] k/\EH P b<=EH P S
 |0,_,_,_,h,_,_=>absurd h (LZ _)
 |f+1,S,[],_,_,_,c=>⟨S,rfl,c,Lc _⟩
 |f+1,S,r::w,s,G,H,c=>by
  have m:=s r (Lp ..);have⟨p,t⟩:=JY m;have⟨u,j⟩:=JF t;have⟨v,z⟩:=e p u;simp only[Ll] at G H;have n:∀x∈w,x∈P.map (·.k):=fun x B=>s x (Lk _ B);have I:DJ r (FP S P)=some { p with is:=S p.k }:=by rw[Rp,t];rfl
  unfold JX;rw[I,Zo];by_cases l:rk r=k
  ·have i:(p.rank != k)=false:=(by rw[v,j,l];simp);simp only[i,Nb,if_false];cases C:S p.k with
   |true=>
    rw[if_pos rfl];have⟨b,o,q,E⟩:=Wb a d e g f S w n (by omega) (by omega) (c.pop a (.inr (.inl (j▸C))));exact⟨b,o,q,E⟩
   |false=>
    rw[if_neg (by simp),g S r m,Zo];cases F:nwB S r with
    |false=>
     rw[if_neg (by simp)];exact Wb a d e g f S w n (by omega) (by omega) (c.pop a (.inr (.inr F)))
    |true=>
     rw[if_pos rfl];have J:=oZ d u C;rw[if_pos (show w.length+p.above.length<=4294967296 by omega),oY];rw[j] at J z;have⟨b,o,q,E⟩:=Wb a d e g f (fun x=>S x||r==x) (p.above.reverse++w) (fun x B=>by
      grind) (by grind) (by grind) (c.set a m l F fun x i L=>(z x).2 ⟨i,L⟩)
     exact⟨b,o,q,by omega⟩
  have i:(p.rank != k)=true:=by rw[v,j];simpa using l
  simp only[i,if_true];exact Wb a d e g f S w n (by omega) (by omega) (c.pop a (.inl l))
theorem oa {nw:List PN->AB->Option Bool}{P:List PN}{f:Nat}(o:FZ (P.map (·.k)) D rk nwB)(q:(P.map (·.k)).Nodup)(m:∀p∈P,p.rank=rk p.k/\∀x,x∈p.above↔x∈P.map (·.k)/\p.k∈D x)(s:∀S r,r∈P.map (·.k)->nw (FP S P) r=some (nwB S r)):
  ∀(l:List AB) (S:AB->Bool) (done:List AB) (k:Int),(∀r∈l,r∈P.map (·.k)/\k<=rk r)->(l.Pairwise fun a b=>rk a<=rk b)->1+EH P S<f->1+EH P S<=4294967296->Fx (P.map (·.k)) rk nwB S done [] k->∃j B,Kn nw f l (FP S P)=some (FP j P)/\Fx (P.map (·.k)) rk nwB j (done++l) [] B
 |[],S,done,k,_,_,_,_,i=>⟨S,k,rfl,by rw[Ns];exact i⟩
 |r::l,S,done,k,t,n,O,Q,i=>by
  have⟨u,R⟩:=t r (Lp ..);rw[B9] at n;have⟨p,v⟩:=JY u;have⟨C,E⟩:=JF v;have F:=(m p C).1;rw[E] at F;have G:Fx (P.map (·.k)) rk nwB S (done++[r]) [r] (rk r):=
   {
    a:=i.a
    b:=fun x g H=>by
     rcases Lw.1 g with h |h
     ·rcases i.b x h H with h |⟨h,_⟩
      ·exact .inl h
      cases h
     grind
    c:=fun x g I=>by have:=i.c x g I;omega
    d:=i.d
    e:=fun x g=>by
     rcases Lw.1 g with h |h
     ·have⟨J,T⟩:=i.e x h;exact⟨J,by omega⟩
     grind }
  have⟨j,V,L,q3⟩:=Wb o q m s f S [r] (fun x g=>by rw[Lr.1 g];exact u) (by omega) (by omega) G;have⟨M,N,q4,z⟩:=oa o q m s l j (done++[r]) (rk r) (fun x g=>⟨(t x (Lk _ g)).1,n.1 x g⟩) n.2 (f:=f) (by omega) (by omega) L;refine⟨M,N,?_,by rw[Lz] at z;exact z⟩;unfold Kn;rw[Rp,v,LT,Zo];grind
end
theorem od (rk:α->Int)(x y:α):GV (fun a b=>GU (rk a) (rk b)) x y=decide (rk x<rk y):=by
 unfold GV GU;grind
theorem dj {D:AB->List AB}:∀ {l U:List AB},l.Nodup->(∀r∈l,r∈U)->total D l<=total D U
 |[],_,_,_=>Lf _
 |x::l,U,a,b=>by
  rw[Nj] at a;have d:=b x (Lp ..);have f:=dj (D:=D) (l:=l) (U:=U.erase x) a.2 fun r c=>(O4 fun e=>a.1 (by rw[<-e];exact c)).2 (b r (Lk _ c));grind [total,List.perm_cons_erase]
structure D4 (K:List AB) (rk:AB->Int) (nwB:(AB->Bool)->AB->Bool) (S:AB->Bool):Prop where
 fix:∀r∈K,S r=nwB S r
 low:∀(j:Int) (T:AB->Bool),(∀r∈K,rk r<j->T r=S r)->(∀r∈K,rk r=j->nwB T r=true->T r=true)->∀r∈K,rk r=j->S r=true->T r=true
theorem du {D:AB->List AB}:∀ {l K:List AB},K.Nodup->(K.map fun x=>(wh_ D l x).length).sum<=total D l
 |[],K,_=>by
  simp only[wh_,List.flatMap_nil,LB,total]
  have:∀K:List AB,(K.map fun _=>0).sum=0:=fun K=>by
   induction K with |nil=>rfl |cons x l b=>simpa using b
  rw[this];exact Lf _
 |r::l,K,f=>by
  have b:=du (D:=D) (l:=l) f;have g:∀(a:List AB) (K:List AB),K.Nodup->(K.map fun x=>(a.filter (· ==x)).length).sum<=a.length:=fun a=>by
   induction a with
   |nil=>
    intro K _;simp only[List.filter_nil,LB]
    have:∀K:List AB,(K.map fun _=>0).sum=0:=fun K=>by
     induction K with |nil=>rfl |cons x l b=>simpa using b
    rw[this];exact Lf _
   |cons d a b=>
    intro K c;have i:=b K c;have j:∀K:List AB,K.Nodup->(K.map fun x=>((d::a).filter (· ==x)).length).sum<=(K.map fun x=>(a.filter (· ==x)).length).sum+1:=fun K=>by
     induction K with
     |nil=>intro _;simp
     |cons x K m=>
      intro c;rw[Nj] at c;simp only[Lh,BD];by_cases e:(d==x)=true
      ·have n:(K.map fun x=>((d::a).filter (· ==x)).length)=K.map fun x=>(a.filter (· ==x)).length:=Np fun y o=>by
        grind
       grind
      grind
    grind
  have p:=g (D r) K f;have h:∀K:List AB,(K.map fun x=>(wh_ D (r::l) x).length).sum=(K.map fun x=>((D r).filter (· ==x)).length).sum+(K.map fun x=>(wh_ D l x).length).sum:=fun K=>by
   induction K with
   |nil=>rfl
   |cons x K b=>
    grind [wh_]
  rw[h];simp only[total,Lh,BD] at b⊢;omega
theorem Pq {B:List α}{x:α}(h:k=A.length):(A++x::B)[k]? =some x:=by
 grind
theorem Pr {B:List α}{x y:α}(h:k=A.length):(A++x::B).set k y=A++y::B:=by
 simp_all
theorem ZS {α:Type}:∀(n i:Nat) (A a b M c Y2 Z:List α),b.length=n->Y2.length=n->a.length=i->c.length=i->FE A.length (A.length+i+n+M.length) n (A++(a++b)++M++(c++Y2)++Z) i=some (A++(a++Y2)++M++(c++b)++Z)
 |0,i,A,a,b,M,c,Y2,Z,d,e,_,_=>by
  rw[N7.1 d,N7.1 e];rfl
 |n+1,i,A,a,x::b,M,c,y::Y2,Z,d,e,j,l=>by
  have g:A++(a++x::b)++M++(c++y::Y2)++Z=(A++a)++x::(b++M++c++y::(Y2++Z)):=by simp
  have f:(A++a)++x::(b++M++c++y::(Y2++Z))=((A++a)++x::(b++M++c))++y::(Y2++Z):=by simp
  have h:(A++a)++y::(b++M++c++y::(Y2++Z))=((A++a)++y::(b++M++c))++y::(Y2++Z):=by simp
  simp only[Ll] at d e;unfold FE;rw[show A.length+i+(n+1)+M.length+i=(((A++a)++x::(b++M++c)):List α).length by simp;omega,g,f,Pq rfl,Zo,<-f,Pq (show A.length+i=(A++a).length by simp;omega),Zo,Pr (show A.length+i=(A++a).length by simp;omega),h,Pr (by simp)];have m:=ZS n (i+1) A (a++[y]) b M (c++[x]) Y2 Z (by omega) (by omega) (by simp;omega) (by simp;omega);grind
theorem d5 {α:Type}:∀(f:Nat) (A L R Z:List α),L.length+R.length<f->0<L.length->0<R.length->FF (A.length+L.length) f (A++L++R++Z) L.length R.length=some (A++R++L++Z)
 |0,_,_,_,_,h,_,_=>absurd h (LZ _)
 |f+1,A,L,R,Z,j,l,m=>by
  unfold FF;rw[ifp];by_cases a:L.length=R.length
  ·rw[if_pos a]
   have:=ZS L.length 0 A [] L [] [] R Z rfl a.symm rfl rfl;grind
  rw[if_neg a];by_cases d:R.length<L.length
  ·rw[if_pos d];obtain⟨b,e,rfl,n⟩:∃b e,L=b++e/\b.length=R.length:=⟨L.take R.length,L.drop R.length,(LK _ _).symm,by rw[Lx];omega⟩;rw[Ld] at j l d a⊢;have i:=ZS R.length 0 A [] b e [] R Z n rfl rfl rfl;simp only[LA,NP] at i;have o:=d5 f (A++R) e b Z (by omega) (by omega) (by omega);grind
  rw[if_neg d];obtain⟨g,c,rfl,p⟩:∃g c,R=g++c/\c.length=L.length:=⟨R.take (R.length-L.length),R.drop (R.length-L.length),(LK _ _).symm,by rw[ND];omega⟩;rw[Ld] at j m d a⊢;have i:=ZS L.length 0 A [] L g [] c Z rfl p rfl rfl;simp only[LA,NP] at i;have o:=d5 f A c g (L++Z) (by omega) (by omega) (by omega);grind
theorem Wc {p:Nat->Option Bool}:∀(f i j:Nat),j-i<f->i<=j->(∀k,i<=k->k<j->∃b,p k=some b)->∃r,HN p f i j=some r/\i<=r/\r<=j/\(r=i\/p (r-1)=some true)/\(r=j\/p r=some false)
 |0,_,_,h,_,_=>absurd h (LZ _)
 |f+1,i,j,o,q,a=>by
  unfold HN;by_cases h:i<j
  ·have⟨b,l⟩:=a ((i+j) / 2) (by omega) (by omega);rw[if_pos h,l,Zo];cases b with
   |true=>
    rw[if_pos rfl];have⟨r,c,m,d,n,e⟩:=Wc f ((i+j) / 2+1) j (by omega) (by omega) fun k g=>a k (by omega);refine⟨r,c,by omega,d,.inr ?_,e⟩;grind
   |false=>
    rw[if_neg (by decide)];have⟨r,c,m,d,n,e⟩:=Wc f i ((i+j) / 2) (by omega) (by omega) fun k g s=>a k g (by omega);grind
  grind
theorem ol {α:Type}{x:α}:∀(R A C:List α),Mb R.length (A++x::(R++C)) A.length=some (A++(R++x::C))
 |[],_,_=>rfl
 |y::R,A,C=>by
  have a:=ol (x:=x) R (A++[y]) C;rw[Ld,Lo] at a;have b:A++x::(y::R++C)=(A++[x])++y::(R++C):=by simp
  show Mb (R.length+1) _ _=_;unfold Mb;rw[b,Pq (by simp),Zo,<-b,Pq rfl,Zo,Pr rfl,show A++y::(y::R++C)=(A++[y])++y::(R++C) by simp,Pr (by simp),a];simp
theorem om {α:Type}{y:α}:∀(n:Nat) (R A C:List α),R.length=n->Mc n (A++(R++y::C)) (A.length+n)=some (A++y::(R++C))
 |0,R,A,C,h=>by
  rw[N7.1 h];rfl
 |n+1,R,A,C,h=>by
  obtain⟨a,x,rfl⟩:∃a x,R=a++[x]:=⟨R.dropLast,R.getLast (fun e=>by rw[e] at h;cases h),(Bi _).symm⟩;have b:a.length=n:=by simpa using h
  have c:=om (y:=y) n a A (x::C) b;show Mc (n+1) _ (A.length+n+1)=_;unfold Mc;have d:A++(a++[x]++y::C)=(A++a)++x::(y::C):=by simp
  have f:(A++a)++x::(y::C)=(A++a++[x])++y::C:=by simp
  have g:(A++a++[x])++x::C=(A++a)++x::(x::C):=by simp
  rw[d,Pq (by simp[b]),Zo,f,Pq (by simp[b];omega),Zo,Pr (by simp[b];omega),g,Pr (by simp[b]),show A++a++y::x::C=A++(a++y::x::C) by simp,c];simp
theorem oo {L C:List α}(h:k<L.length):(A++(L++C))[A.length+k]? =some L[k]:=by
 grind
section
variable {α:Type}{rk:α->Int}{lt:α->α->Bool}(hlt:∀x y,lt x y=decide (rk x<rk y))
theorem Tt {L R:List α}{k':Nat}(d:L.Pairwise fun a b=>rk a<=rk b)(e:R.Pairwise fun a b=>rk a<=rk b)(m:k<=L.length)(h:∀(f:0<k) (c:k'<R.length),rk (L[k-1]'(by omega))<=rk R[k']):∀a∈L.take k,∀b∈R.drop k',rk a<=rk b:=by
 intro a g b l;obtain⟨i,n,rfl⟩:=List.mem_take_iff_getElem.1 g;obtain⟨j,o,rfl⟩:=List.mem_drop_iff_getElem.1 l;have f:=h (by omega) (by omega);have p:rk (L[i]'(by omega))<=rk (L[k-1]'(by omega)):=by
  rcases Nt i (k-1) with c |c
  ·exact NW.1 d i (k-1) _ _ c
  grind
 have q:rk (R[k']'(by omega))<=rk (R[k'+j]'(by omega)):=by
  rcases BG j with c |c
  ·subst c;exact Bu _
  exact NW.1 e k' (k'+j) _ _ (by omega)
 omega
include hlt in
theorem ZU:∀(f:Nat) (A L R Z:List α),L.length+R.length<=f->0<L.length->0<R.length->(L.Pairwise fun a b=>rk a<=rk b)->(R.Pairwise fun a b=>rk a<=rk b)->∃B,symM lt f (A++(L++(R++Z))) A.length (A.length+L.length) (A.length+L.length+R.length)=some (A++(B++Z))/\B.Perm (L++R)/\B.Pairwise fun a b=>rk a<=rk b
 |0,_,_,_,_,h,h1,_,_,_=>by omega
 |f+1,A,L,R,Z,hf,V,X,v,z=>by
  obtain⟨g,H⟩:∃g,g=A++(L++(R++Z)):=⟨_,rfl⟩;have a5:g.length=A.length+L.length+R.length+Z.length:=by rw[H];simp;omega
  have E:∀k (h:k<L.length),g[A.length+k]? =some L[k]:=fun k h=>by rw[H];exact oo h
  have F:∀k (h:k<R.length),g[A.length+L.length+k]? =some R[k]:=fun k h=>by
   rw[H,show A++(L++(R++Z))=(A++L)++(R++Z) by simp,show A.length+L.length+k=(A++L).length+k by simp];exact oo h
  rw[<-H];unfold symM;rw[if_pos ⟨by omega,by omega,by omega⟩];by_cases h1:L.length=1
  ·rw[ifp];have⟨i,P,b2,b3,o,s⟩:=Wc (p:=fun h=>(g[h]?).bind fun x=>(g[A.length]?).map fun y=>lt x y) (g.length+1) (A.length+L.length) (A.length+L.length+R.length) (by omega) (by omega) fun k G ag=>by
    have n:=F (k-(A.length+L.length)) (by omega);rw[show A.length+L.length+(k-(A.length+L.length))=k by omega] at n;have t:g[A.length]? =some _:=E 0 V;exact⟨lt R[k-(A.length+L.length)] L[0],by rw[n,Zo,t];rfl⟩
   rw[P,Zo];obtain⟨k,rfl⟩:∃k,i=A.length+L.length+k:=⟨i-(A.length+L.length),by omega⟩;obtain⟨x,rfl⟩:∃x,L= [x]:=Oe.1 h1;refine⟨R.take k++x::R.drop k,?_,?_,?_⟩
   ·have G:(R.take k).length=k:=by rw[Lx];omega
    have:=ol (x:=x) (R.take k) A (R.drop k++Z);rw[G] at this;rw[H,show A.length+[x].length+k-1-A.length=k by simp,show A++([x]++(R++Z))=A++x::(R.take k++(R.drop k++Z)) by rw[<-Lz (R.take k),LK];rfl,this];simp
   ·refine IA.trans ?_;rw[LK];exact .refl _
   have hx:∀b∈R.drop k,rk x<=rk b:=fun b j=>Tt (k:=1) (k':=k) v z (by simp) (fun _ I=>by
    rcases s with s |s
    ·omega
    have n:=F k I;have t:g[A.length]? =some _:=E 0 V;rw[n,Zo,t] at s;have l:=LI s;dsimp only at l;rw[hlt] at l
    have:=of_decide_eq_false l;show rk x<=rk R[k];have e3:([x]:List α)[0]=x:=rfl;rw[e3] at this;omega) x (by simp) b j
   have hy:∀a∈R.take k,rk a<=rk x:=fun a m=>Tt (k:=k) (k':=0) z v (by omega) (fun u _=>by
    rcases o with o |o
    ·omega
    have n:=F (k-1) (by omega);have t:g[A.length]? =some _:=E 0 V;rw[show A.length+[x].length+k-1=A.length+[x].length+(k-1) by omega,n,Zo,t] at o;have l:=LI o;dsimp only at l;rw[hlt] at l
    have:=of_decide_eq_true l;omega) a m x (by simp)
   rw[<-LK k R,NA] at z;refine NA.2 ⟨z.1,B9.2 ⟨hx,z.2.1⟩,fun a m b j=> ?_⟩;rcases Lv.1 j with rfl |j
   ·exact hy a m
   exact z.2.2 a m b j
  rw[ifn];by_cases h2:R.length=1
  ·rw[ifp];have⟨i,P,b2,b3,o,s⟩:=Wc (p:=fun h=>(g[A.length+L.length]?).bind fun x=>(g[h]?).map fun y=> !lt x y) (g.length+1) A.length (A.length+L.length) (by omega) (by omega) fun k G ag=>by
    have n:=E (k-A.length) (by omega);rw[show A.length+(k-A.length)=k by omega] at n;have t:g[A.length+L.length]? =some _:=F 0 X;exact⟨!lt R[0] L[k-A.length],by rw[t,Zo,n];rfl⟩
   rw[P,Zo];obtain⟨k,rfl⟩:∃k,i=A.length+k:=⟨i-A.length,by omega⟩;obtain⟨y,rfl⟩:∃y,R= [y]:=Oe.1 h2;refine⟨L.take k++y::L.drop k,?_,?_,?_⟩
   ·have G:(L.take k).length=k:=by rw[Lx];omega
    have:=om (y:=y) (L.length-k) (L.drop k) (A++L.take k) Z (by rw[ND]);rw[Ld,G] at this;rw[H,show A.length+L.length-(A.length+k)=L.length-k by omega,show A.length+L.length=A.length+k+(L.length-k) by omega,show A++(L++([y]++Z))=A++L.take k++(L.drop k++y::Z) by rw[Lz,<-Lz (L.take k),LK];rfl,this];simp
   ·refine IA.trans ?_;rw[LK];exact OY (l₁:=[y])
   have hx:∀b∈L.drop k,rk y<=rk b:=fun b j=>Tt (k:=1) (k':=k) z v (by simp) (fun _ I=>by
    rcases s with s |s
    ·omega
    have n:=E k I;have t:g[A.length+L.length]? =some _:=F 0 X;rw[t,Zo,n] at s;have l:=LI s;dsimp only at l;rw[hlt,Io] at l
    have:=of_decide_eq_true l;show rk ([y]:List α)[0]<=rk L[k];omega) y (by simp) b j
   have hy:∀a∈L.take k,rk a<=rk y:=fun a m=>Tt (k:=k) (k':=0) v z (by omega) (fun u _=>by
    rcases o with o |o
    ·omega
    have n:=E (k-1) (by omega);have t:g[A.length+L.length]? =some _:=F 0 X;rw[show A.length+k-1=A.length+(k-1) by omega,t,Zo,n] at o;have l:=LI o;dsimp only at l;rw[hlt,NN] at l
    have:=of_decide_eq_false l;omega) a m y (by simp)
   rw[<-LK k L,NA] at v;refine NA.2 ⟨v.1,B9.2 ⟨hx,v.2.1⟩,fun a m b j=> ?_⟩;rcases Lv.1 j with rfl |j
   ·exact hy a m
   exact v.2.2 a m b j
  rw[ifn];obtain⟨d,aq⟩:∃d,d=(A.length+(A.length+L.length+R.length)) / 2:=⟨_,rfl⟩;rw[<-aq];obtain⟨J,Y⟩:∃J,J=(if d<A.length+L.length then d+(A.length+L.length)-(A.length+L.length+R.length) else A.length):=⟨_,rfl⟩;obtain⟨M,aa⟩:∃M,M=(if d<A.length+L.length then d else A.length+L.length):=⟨_,rfl⟩;rw[<-Y,<-aa];have av:J<=M/\A.length<=J/\M<=d/\M<=A.length+L.length/\d-J<=R.length:=by
   rw[Y,aa];split<;>omega
  have⟨i,P,b2,b3,o,s⟩:=Wc (p:=fun c=>(g[d+(A.length+L.length)-1-c]?).bind fun x=>(g[c]?).map fun y=> !lt x y) (g.length+1) J M (by omega) av.1 fun k G ag=>by
   have n:=F (d-1-k) (by omega);rw[show A.length+L.length+(d-1-k)=d+(A.length+L.length)-1-k by omega] at n;have t:=E (k-A.length) (by omega);rw[show A.length+(k-A.length)=k by omega] at t;exact⟨!lt R[d-1-k] L[k-A.length],by rw[n,Zo,t];rfl⟩
  rw[P,Zo];obtain⟨k,rfl⟩:∃k,i=A.length+k:=⟨i-A.length,by omega⟩;obtain⟨q,hq⟩:∃q,d=A.length+k+q:=⟨d-(A.length+k),by omega⟩;have G:k<=L.length:=by omega
  have aE:q<=R.length:=by omega
  have ab:(L.take k).length=k:=by rw[Lx];omega
  have ad:(R.take q).length=q:=by rw[Lx];omega
  have ak:(L.drop k).length=L.length-k:=ND;have a0:(R.drop q).length=R.length-q:=ND;have c1:∀a∈L.take k,∀b∈R.drop q,rk a<=rk b:=Tt v z G fun u I=>by
   rcases o with o |o
   ·exfalso;rw[Y] at o;split at o<;>omega
   have n:=F q I;have t:=E (k-1) (by omega);rw[show d+(A.length+L.length)-1-(A.length+k-1)=A.length+L.length+q by omega,n,Zo,show A.length+k-1=A.length+(k-1) by omega,t] at o;have l:=LI o;dsimp only at l;rw[hlt,NN] at l
   have:=of_decide_eq_false l;omega
  have c2:∀a∈R.take q,∀b∈L.drop k,rk a<=rk b:=Tt z v aE fun u I=>by
   rcases s with s |s
   ·exfalso;rw[aa] at s;split at s<;>omega
   have n:=F (q-1) (by omega);have t:=E k I;rw[show d+(A.length+L.length)-1-(A.length+k)=A.length+L.length+(q-1) by omega,n,Zo,t] at s;have l:=LI s;dsimp only at l;rw[hlt,Io] at l
   have:=of_decide_eq_true l;omega
  have N:=v;have O:=z;rw[<-LK k L,NA] at N;rw[<-LK q R,NA] at O;have ao:g=(A++L.take k)++L.drop k++R.take q++(R.drop q++Z):=by
   rw[H];conv=>lhs;rw[<-LK k L,<-LK q R]
   simp only[Lz]
  have a1:(if A.length+k<A.length+L.length/\A.length+L.length<d+(A.length+L.length)-(A.length+k) then FF (A.length+L.length) (g.length+1) g (A.length+L.length-(A.length+k)) (d+(A.length+L.length)-(A.length+k)-(A.length+L.length)) else some g)=some (A++(L.take k++(R.take q++(L.drop k++(R.drop q++Z))))):=by
   split
   ·rename_i h
    have:=d5 (g.length+1) (A++L.take k) (L.drop k) (R.take q) (R.drop q++Z) (by omega) (by omega) (by omega);rw[<-ao,Ld,ab,ak,ad,show A.length+k+(L.length-k)=A.length+L.length by omega] at this;rw[show A.length+L.length-(A.length+k)=L.length-k by omega,show d+(A.length+L.length)-(A.length+k)-(A.length+L.length)=q by omega,this];simp
   rename_i h;rw[ao];rcases BG q with u |u
   ·subst u;simp only[Ou,LD,Ns,LA,Lz]
   have:L.drop k= []:=Nf (by omega);rw[this];simp
  rw[a1,Zo];obtain⟨C,a2,p1,o1⟩:∃C,(if A.length<A.length+k/\A.length+k<d then symM lt f (A++(L.take k++(R.take q++(L.drop k++(R.drop q++Z))))) A.length (A.length+k) d else some (A++(L.take k++(R.take q++(L.drop k++(R.drop q++Z))))))=some (A++(C++(L.drop k++(R.drop q++Z))))/\C.Perm (L.take k++R.take q)/\C.Pairwise fun a b=>rk a<=rk b:=by
   split
   ·have⟨B,Q,q2,q3⟩:=ZU f A (L.take k) (R.take q) (L.drop k++(R.drop q++Z)) (by omega) (by omega) (by omega) N.1 O.1;rw[ab,ad,<-hq] at Q;exact⟨B,Q,q2,q3⟩
   refine⟨L.take k++R.take q,by simp,.refl _,NA.2 ⟨N.1,O.1,fun a m b j=> ?_⟩⟩;rcases BG k with u |u
   ·subst u;simp at m
   have:q=0:=(by omega);subst this;simp at j
  rw[a2,Zo];have a3:C.length=k+q:=by rw[p1.length_eq,Ld,ab,ad]
  obtain⟨T,a4,p2,o2⟩:∃T,(if d<d+(A.length+L.length)-(A.length+k)/\d+(A.length+L.length)-(A.length+k)<A.length+L.length+R.length then symM lt f (A++(C++(L.drop k++(R.drop q++Z)))) d (d+(A.length+L.length)-(A.length+k)) (A.length+L.length+R.length) else some (A++(C++(L.drop k++(R.drop q++Z)))))=some (A++(C++(T++Z)))/\T.Perm (L.drop k++R.drop q)/\T.Pairwise fun a b=>rk a<=rk b:=by
   split
   ·have⟨B,Q,q2,q3⟩:=ZU f (A++C) (L.drop k) (R.drop q) Z (by omega) (by omega) (by omega) N.2.1 O.2.1;rw[Ld,a3,ak,a0,show A.length+(k+q)=d by omega,show d+(L.length-k)=d+(A.length+L.length)-(A.length+k) by omega,show d+(A.length+L.length)-(A.length+k)+(R.length-q)=A.length+L.length+R.length by omega,Lz,Lz] at Q;exact⟨B,Q,q2,q3⟩
   refine⟨L.drop k++R.drop q,by simp,.refl _,NA.2 ⟨N.2.1,O.2.1,fun a m b j=> ?_⟩⟩;rcases Nt k L.length with u |u
   ·rw[Nf (by omega:R.length<=q)] at j;cases j
   rw[Nf u] at m;cases m
  refine⟨C++T,by rw[a4,Lz],?_,NA.2 ⟨o1,o2,fun a m b j=> ?_⟩⟩
  ·refine(p1.append p2).trans ?_;have e:(L.take k++R.take q++(L.drop k++R.drop q)).Perm (L.take k++L.drop k++(R.take q++R.drop q)):=by
    rw[Lz,Lz];refine OZ _ ?_;rw[<-Lz,<-Lz];exact List.Perm.append_right _ OY
   rw[LK,LK] at e;exact e
  rcases Lw.1 (p1.mem_iff.1 m) with m |m<;>rcases Lw.1 (p2.mem_iff.1 j) with j |j
  ·exact N.2.2 a m b j
  ·exact c1 a m b j
  ·exact c2 a m b j
  exact O.2.2 a m b j
end
section
variable {α:Type}{rk:α->Int}{lt:α->α->Bool}(hlt:∀x y,lt x y=decide (rk x<rk y))
include hlt in
theorem ot {P:List α}:∀(j f:Nat) (A:List α) (x:α) (C:List α),A.length=j->(A.Pairwise fun a b=>rk a<=rk b)->j<f->∃B,Hk lt f (P++(A++x::C)) P.length (P.length+j)=some (P++(B++C))/\B.Perm (A++[x])/\(B.Pairwise fun a b=>rk a<=rk b)
 |_,0,_,_,_,_,_,h=>absurd h (LZ _)
 |0,f+1,A,x,C,d,l,_=>by
  have:A= []:=N7.1 d;subst this;refine⟨[x],?_,.refl _,BC _ _⟩;show Hk lt (f+1) _ _ P.length=_;cases P with
  |nil=>rfl
  |cons p P=>
   rw[Ll];unfold Hk;rw[if_neg (Nat.lt_irrefl _)];rfl
 |j+1,f+1,A,x,C,d,l,z=>by
  obtain⟨c,y,rfl⟩:∃c y,A=c++[y]:=⟨A.dropLast,A.getLast (fun e=>by rw[e] at d;cases d),(Bi _).symm⟩;have g:c.length=j:=by simpa using d
  rw[NA] at l;obtain⟨m,_,n⟩:=l;have q:P++((c++[y])++x::C)=(P++c++[y])++x::C:=by simp
  have o:(P++c++[y])++x::C=(P++c)++y::(x::C):=by simp
  have s:(P++c++[y])++y::C=(P++c)++y::(y::C):=by simp
  show ∃B,Hk lt (f+1) _ P.length (P.length+j+1)=_/\_;unfold Hk;rw[ifp,q,Pq (by simp[g];omega),Zo,o,Pq (by simp[g]),Zo,hlt,<-o];by_cases h:rk x<rk y
  ·rw[if_pos (by simpa using h),Pr (by simp[g];omega),s,Pr (by simp[g]),show P++c++x::y::C=P++(c++x::(y::C)) by simp];obtain⟨B,t,u,E⟩:=ot j f c x (y::C) g m (by omega);refine⟨B++[y],by rw[t];simp,?_,?_⟩
   ·refine(u.append_right [y]).trans ?_;rw[Lz,Lz];exact OZ c (List.Perm.swap y x [])
   grind
  rw[if_neg (by simpa using h)];refine⟨(c++[y])++[x],by simp,.refl _,?_⟩;rw[NA];refine⟨NA.2 ⟨m,BC _ _,n⟩,BC _ _,fun a i b v=> ?_⟩;rw[Lr.1 v];rcases Lw.1 i with i |i
  ·have:=n a i y (Lr.2 rfl);omega
  grind
include hlt in
theorem ou {P Z:List α}:∀(C A:List α) (f:Nat),(A.Pairwise fun a b=>rk a<=rk b)->A.length+2*C.length<f->∃B,JE lt f (P++(A++(C++Z))) P.length (P.length+A.length) (P.length+A.length+C.length)=some (P++(B++Z))/\B.Perm (A++C)/\(B.Pairwise fun a b=>rk a<=rk b)
 |_,_,0,_,h=>absurd h (LZ _)
 |[],A,f+1,c,_=>by
  refine⟨A,?_,by simp,c⟩;unfold JE;rw[if_neg (by simp),LA]
 |x::C,A,f+1,c,e=>by
  simp only[Ll] at e;have⟨B,m,d,g⟩:=ot (P:=P) hlt A.length (f+1) A x (C++Z) rfl c (by omega);have n:B.length=A.length+1:=by rw[d.length_eq,Ld];rfl
  have⟨i,o,j,l⟩:=ou (P:=P) (Z:=Z) C B f g (by omega);refine⟨i,?_,j.trans ((d.append_right C).trans (by simp)),l⟩;unfold JE;grind
include hlt in
theorem ox {P C Z:List α}{f:Nat}(c:2*C.length+1<f):∃B,JE lt f (P++(C++Z)) P.length (P.length+1) (P.length+C.length)=some (P++(B++Z))/\B.Perm C/\(B.Pairwise fun a b=>rk a<=rk b):=by
 cases C with
 |nil=>
  obtain⟨f,rfl⟩:=sx f;refine⟨[],?_,.refl _,List.Pairwise.nil⟩;unfold JE;rw[if_neg (by simp)]
 |cons x C=>
  simp only[Ll] at c
  have:=ou (P:=P) (Z:=Z) hlt C [x] f (BC _ _) (by simp only[Lo];omega);rw[Lo,show P.length+1+C.length=P.length+(C.length+1) by omega] at this;exact this
inductive JG (rk:α->Int) (bs:Nat):List α->Prop
 |last {T:List α} (h:T.length<=bs) (hT:T.Pairwise fun a b=>rk a<=rk b):JG rk bs T
 |cons {B Q:List α} (h:B.length=bs) (hB:B.Pairwise fun a b=>rk a<=rk b) (hQ:JG rk bs Q):JG rk bs (B++Q)
theorem JG.front {c:Nat}{Q:List α}(h:JG rk c Q)(i:c<=Q.length):∃B d,Q=B++d/\B.length=c/\(B.Pairwise fun a b=>rk a<=rk b)/\JG rk c d:=by
 cases h with
 |last h e=>exact⟨Q,[],by simp,by omega,e,.last (Lf _) List.Pairwise.nil⟩
 |cons h f g=>exact⟨_,_,rfl,h,f,g⟩
theorem JG.small {c:Nat}{Q:List α}(h:JG rk c Q)(e:Q.length<=c):Q.Pairwise fun a b=>rk a<=rk b:=by
 cases h with
 |last h d=>exact d
 |cons h f g=>
  grind [List.length_append,List.length_eq_zero_iff]
include hlt in
theorem oy {F:Nat}:∀(c:Nat) (P Q:List α),Q.length<c->41<F->∃Q1 d,Gv lt F c (P++Q) P.length (P.length+20)=some (P++(Q1++d),P.length+Q1.length)/\(Q1++d).Perm Q/\d.length<20/\∀T:List α,T.length<=20->(T.Pairwise fun a b=>rk a<=rk b)->JG rk 20 (Q1++T)
 |0,_,_,h,_=>absurd h (LZ _)
 |c+1,P,Q,u,o=>by
  unfold Gv;rw[Ld];by_cases h:P.length+20<=P.length+Q.length
  ·rw[if_pos h];have j:(Q.take 20).length=20:=(by rw[Lx];omega);have⟨B,l,m,p⟩:=ox (P:=P) (C:=Q.take 20) (Z:=Q.drop 20) (f:=F) hlt (by omega);rw[LK,j] at l;have e:B.length=20:=(by rw[m.length_eq,j]);have⟨Q1,d,n,q,s,t⟩:=oy (F:=F) c (P++B) (Q.drop 20) (by rw[ND];omega) o;rw[Ld,e,Lz] at n;refine⟨B++Q1,d,?_,?_,s,fun T g i=>by rw[Lz];exact .cons e p (t T g i)⟩
   ·rw[l,Zo,n,Ld,e];grind
   rw[Lz];refine(m.append q).trans ?_;rw[LK]
  rw[if_neg h];exact⟨[],Q,by simp,.refl _,by omega,fun T g i=>.last g i⟩
include hlt in
theorem oz {F d:Nat}(o:0<d):∀(c:Nat) (P Q:List α),JG rk d Q->Q.length<c->Q.length<=F->∃Q1 e,Gw lt F d c (P++Q) P.length (P.length+2*d)=some (P++(Q1++e),P.length+Q1.length)/\(Q1++e).Perm Q/\e.length<2*d/\JG rk d e/\∀T:List α,T.length<=2*d->(T.Pairwise fun a b=>rk a<=rk b)->JG rk (2*d) (Q1++T)
 |0,_,_,_,h,_=>absurd h (LZ _)
 |c+1,P,Q,i,j,l=>by
  unfold Gw;rw[Ld];by_cases h:P.length+2*d<=P.length+Q.length
  ·rw[if_pos h];obtain⟨p,N,rfl,q,s,t⟩:=i.front (by omega);rw[Ld] at h j l;obtain⟨u,m,rfl,v,z,C⟩:=t.front (by omega);rw[Ld] at h j l;have⟨B,E,G,H⟩:=ZU hlt F P p u m (by omega) (by omega) (by omega) s z;have n:B.length=2*d:=(by rw[G.length_eq,Ld];omega);rw[q,v,show P.length+d+d=P.length+2*d by omega] at E;have⟨Q1,e,I,O,J,L,M⟩:=oz (F:=F) o c (P++B) m C (by omega) (by omega);rw[Ld,n,Lz] at I;refine⟨B++Q1,e,?_,?_,J,L,fun T f g=>by rw[Lz];exact .cons n H (M T f g)⟩
   ·grind
   grind
  rw[if_neg h];exact⟨[],Q,by simp,.refl _,by omega,i,fun T f g=>.last f g⟩
include hlt in
theorem o0 {F:Nat}:∀(c e:Nat) (d:List α),0<e->JG rk e d->d.length-e<c->d.length<=F->∃g,Gx lt F c d e=some g/\g.Perm d/\(g.Pairwise fun a b=>rk a<=rk b)
 |0,_,_,_,_,h,_=>absurd h (LZ _)
 |c+1,e,d,o,i,I,p=>by
  unfold Gx;by_cases h:e<d.length
  ·rw[if_pos h];have⟨Q1,f,j,l,q,m,J⟩:=oz (F:=F) hlt o (d.length+1) [] d i (by omega) p;simp only[LA,LB,Ny] at j;have s:Q1.length+f.length=d.length:=(by rw[<-l.length_eq,Ld]);rw[j,Zo];dsimp only;rw[Ld];obtain⟨T,t,n,L⟩:∃T,(if Q1.length+e<Q1.length+f.length then symM lt F (Q1++f) Q1.length (Q1.length+e) (Q1.length+f.length) else some (Q1++f))=some (Q1++T)/\T.Perm f/\(T.Pairwise fun a b=>rk a<=rk b):=by
    split
    ·obtain⟨B,u,rfl,M,v,z⟩:=m.front (by omega);rw[Ld] at q s;rename_i C;rw[Ld] at C;have⟨T,N,O,P⟩:=ZU hlt F Q1 B u [] (by omega) (by omega) (by omega) v (z.small (by omega));simp_all [Ns,Ld,Nv]
    exact⟨f,rfl,.refl _,m.small (by omega)⟩
   rw[t,Zo];have Q:=n.length_eq;have⟨g,E,G,H⟩:=o0 (F:=F) c (e*2) (Q1++T) (by omega) (by grind) (by rw[Ld];omega) (by rw[Ld];omega);exact⟨g,E,G.trans ((n.append_left Q1).trans l),H⟩
  rw[if_neg h];exact⟨d,rfl,.refl _,i.small (by omega)⟩
include hlt in
theorem o5 {F:Nat}(xs:List α)(p:xs.length<=F)(h:41<F):∃c,Gy lt F xs=some c/\c.Perm xs/\(c.Pairwise fun a b=>rk a<=rk b):=by
 have⟨Q1,d,i,e,q,j⟩:=oy (F:=F) hlt (xs.length+1) [] xs (by omega) h;simp only[LA,LB,Ny] at i;have s:Q1.length+d.length=xs.length:=by rw[<-e.length_eq,Ld]
 have⟨T,l,g,m⟩:=ox (P:=Q1) (C:=d) (Z:=[]) (f:=F) hlt (by omega);rw[Ns,Ns] at l;have t:=g.length_eq;have⟨c,u,n,o⟩:=o0 (F:=F) hlt (xs.length+1) 20 (Q1++T) (by omega) (j T (by omega) m) (by rw[Ld];omega) (by rw[Ld];omega);refine⟨c,?_,n.trans ((g.append_left Q1).trans e),o⟩;unfold Gy;grind
end
end Go.Proofs.YtnmkbmefohakmaaGreat.Ab
