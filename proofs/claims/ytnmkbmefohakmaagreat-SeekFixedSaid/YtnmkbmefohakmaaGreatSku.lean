/-
 Sorting so that equals stay, told plainly: parts swapped and turned over, two rising parts merged. No program in sight.
-/
import Derived.Test.YtnmkbmefohakmaaGreatSkb
set_option linter.all false
namespace Go.Proofs.YtnmkbmefohakmaaGreat.Ab
open Go.RowKit
set_option maxRecDepth 4000 in
theorem Ss {n c f:Nat}{G:AY}{o:Ak}{rel:ByteArray}{s:AN}{nw:List PN->AB->Option Bool}{d l z:List PN}{t:List AB}{rk:AB->Int}{x:PN}
  (P:JI G (.v (.string s.type_)) (.v (.string s.id_)) (.v (.string s.rel)) nw) (Q:JE (Jt n G) c [] [⟨o,rel⟩]=some d) (B:Fq (d.map (·.k)) d=some l) (R:d≠[]) (T:d.length<4611686018427387904)
  (V:∀n∈l,rk n.k=n.rank) (C:∀r∈d.map (·.k),(C9 r l).isSome=true) (E:pU (fun a b=>Gz (rk a) (rk b)) (d.map (·.k)) t) (X:t.length=d.length) (Y:Mh nw f t l=some z) (F:C9 ⟨o,rel⟩ z=some x):
  AI Tryz.prog 34 [D.pt (A7 G) 0,.ag (C3 o),.v (.string rel),.ag (AR s)] (.v (.bool x.is)) true:=by
 refine zP #[.tmp 8] Tryz.func34 ?_;refine EE ?_;refine Ay ?_;refine AT ?_;generalize m:(upd 12 (some _) _:Hp)=g;have q1:g 7=some (H9 G (.v (.string s.type_)) (.v (.string s.id_)) (.v (.string s.rel)) 5 0 0 []):=by rw[<-m];rfl
 have m1:g 5=some (.mo [] false):=by rw[<-m];rfl
 have u:g 12=some (F9 ⟨o,rel⟩):=by rw[<-m];rfl
 have n1:∀j,14<=j->g j=none:=fun j H=>by
  rw[<-m,Aa,Aa,Aa,Aa,Aa,Aa];rfl
 refine Fo u ?_;have I1:DJ g 5 []:=⟨m1,(fun _ h=>by cases h),(fun _ h=>by cases h),NX,NX,(fun _ h=>by cases h)⟩;refine CR (AU.mono (zC (r0:=⟨o,rel⟩) (fun j (H:14+3<=j)=>n1 j (by omega)) q1 (fun h=>absurd rfl h) I1 (fun _ h=>by cases h) Q rfl) fun v Z I h=> ?_);obtain⟨rfl,⟨N,ab,ad,rfl,J,g2,g3,L,g5⟩,g6,g7,M⟩:=h;have M:14+3<=I:=M;have i:N≠[]:=fun e=>R (by rw[e];rfl);have p:Z 12=some (F9 ⟨o,rel⟩):=(g6 12 (fun h=>by cases u.symm.trans h) (by omega) (by omega) fun h=>absurd rfl h).trans u;have ek:(Dp N).map (·.k)=ordN N:=by simp[Dp,ordN,NS]
 rw[ek] at B C E;refine Dt ?_;refine Z0 ?_;refine CR (AU.mono (zJ P (fun j (H:I+2<=j)=>g7 j (by omega)) g3 ((L i).trans (HM (by simpa using i))) (by simpa using i) (by simpa using T) J g2 B V C E (by simpa using X) Y) fun v aa ag h=> ?_);obtain⟨rfl,N2,rfl,q⟩:=h;have b3:aa 12=some (F9 ⟨o,rel⟩):=(q.keep 12 (fun h=>by cases p.symm.trans h) (fun n hn e=>GW (J.box n hn) p (fun e=>by cases e) e) (GW p ((L i).trans (HM (by simpa using i))) fun e=>by cases e)).trans p;rw[Js] at F;obtain⟨n2,O,rfl⟩:=La.1 F;refine Dt ?_;refine Z1 (Y5 q.box q.nodes.map b3 (Mf O) (q.nodes.bx O)) ?_;refine DF (by rfl) ?_;refine Fc ?_;exact Ax
def zK (N:List PN)(r:AB):Bool:=((C9 r N).map (·.is)).getD false
def Qm (N:List PN)(r:AB):Int:=((C9 r N).map (·.rank)).getD 0
def K9 (n:Nat)(G:AY)(s:AN)(N:List PN)(r:AB):Option Bool:=(HK n G.schema r.obj.type_ r.rel).bind fun a=>if a.1.expr.isEmpty then(Qj n G.index.left r.obj r.rel).bind fun b=>(Si n b s).bind fun c=>(C9 r N).bind fun x=>if x.deps.all (fun d=>(C9 d N).isSome)&&decide (x.deps.length<4611686018427387904) then some (c||x.deps.any (zK N)) else none else none
theorem zL (n:Nat)(G:AY)(s:AN):JI G (.v (.string s.type_)) (.v (.string s.id_)) (.v (.string s.rel)) (K9 n G s):=by
 intro E F q m o N r b i j a h;unfold K9 at h;have⟨H,l,h⟩:=AL h;split at h;rotate_left
 ·cases h
 rename_i p;have⟨I,t,h⟩:=AL h;have⟨c,u,h⟩:=AL h;have⟨x,f,h⟩:=AL h;split at h;rotate_left
 ·cases h
 rename_i e;rw[Ln,LP] at e;cases h;rw[Js] at f;obtain⟨nd,g,rfl⟩:=La.1 f;have⟨J,z,B⟩:=Sn i j a.map (Mf g) (a.bx g) l (Oj.1 p) t u (a.at_ fun d C=>by
  have:=e.1 d C;rw[Js] at this;simpa using this) (of_decide_eq_true e.2)
 exact AU.mono B fun v L M h=>⟨h.1,h.2.1,by rw[h.2.2];exact z⟩
theorem zM (d r:AB)(N:List PN):(Ql d r N).map (·.k)=N.map (·.k):=by
 unfold Ql;rw[Bj];refine Ns fun n _=> ?_;simp only[Function.comp];split<;>rfl
theorem zN (d r:AB)(N:List PN):(Ql d r N).map (fun n=>(n.k,n.rank,n.deps))=N.map (fun n=>(n.k,n.rank,n.deps)):=by
 unfold Ql;rw[Bj];refine Ns fun n _=> ?_;simp only[Function.comp];split<;>rfl
theorem pV {r:AB}:∀ {l:List AB} {N P:List PN},G1 r l N=some P->P.map (fun n=>(n.k,n.rank,n.deps))=N.map (fun n=>(n.k,n.rank,n.deps))
 |[],N,P,h=>by cases h;rfl
 |d::l,N,P,h=>by
  unfold G1 at h;have⟨n,_,h⟩:=AL h;split at h
  ·rw[pV h,zN]
  cases h
theorem pW:∀ {l:List AB} {N P:List PN},Fq l N=some P->P.map (fun n=>(n.k,n.rank,n.deps))=N.map (fun n=>(n.k,n.rank,n.deps))
 |[],N,P,h=>by cases h;rfl
 |d::l,N,P,h=>by
  unfold Fq at h;have⟨n,_,h⟩:=AL h;split at h
  ·have⟨M,a,h⟩:=AL h;rw[pW h,pV a]
  cases h
theorem Jw {r:AB}:∀ {N:List PN} {n:PN},C9 r N=some n->n∈N/\n.k=r
 |[],_,h=>by cases h
 |x::l,n,h=>by
  unfold C9 at h;split at h
  ·rename_i e;cases h;exact⟨Lo ..,(eq_of_beq e).symm⟩
  have⟨a,b⟩:=Jw h;exact⟨Lj _ a,b⟩
theorem fw {r:AB}:∀ {N:List PN},C9 r N=none->∀n∈N,n.k≠r
 |[],_,_,a=>by cases a
 |x::l,h,n,a=>by
  unfold C9 at h;split at h
  ·cases h
  rename_i e;rcases Lr.1 a with rfl |a
  ·exact fun b=>e (by rw[b];exact beq_self_eq_true _)
  exact fw h n a
variable {α:Type}{A:List α}{N:List PN}{k:Nat}{r:AB}
theorem KJ (h:r∈N.map (·.k)):∃n,C9 r N=some n:=by
 cases e:C9 r N with
 |some n=>exact⟨n,rfl⟩
 |none=>
  have⟨n,a,b⟩:=LO.1 h;exact absurd b (fw e n a)
theorem zO (a:(N.map (·.k)).Nodup){n:PN}(h:n∈N):C9 n.k N=some n:=by
 induction N with
 |nil=>cases h
 |cons x l b=>
  rw[Li,Na] at a;show(if n.k==x.k then some x else C9 n.k l)=some n;rcases Lr.1 h with rfl |h
  ·rw[if_pos (beq_self_eq_true _)]
  rw[if_neg fun e=>a.1 (by rw[<-eq_of_beq e];exact LH h)];exact b a.2 h
theorem fx {nd:AB->Option (Int × List AB)}:∀ {f:Nat} {N R:List PN} {w:List AB},JE nd f N w=some R->(N.map (·.k)).Nodup->(R.map (·.k)).Nodup
 |0,_,_,_,h,_=>by cases h
 |_+1,N,R,[],h,c=>by cases h;exact c
 |f+1,N,R,r::w,h,c=>by
  unfold JE at h;split at h
  ·exact fx h c
  rename_i d;have⟨p,_,h⟩:=AL h;split at h
  ·refine fx h ?_;rw[Nc];refine BP.2 ⟨c,Na.2 ⟨L8,NX⟩,fun a e b g=> ?_⟩;obtain⟨n,i,rfl⟩:=LO.1 e;rw[Lt.1 g];exact fw (by simpa using d) n i
  cases h
theorem Su {P:List PN}(h:P.map (fun n=>(n.k,n.rank,n.deps))=N.map (fun n=>(n.k,n.rank,n.deps))):P.map (·.k)=N.map (·.k):=by
 have:=congrArg (List.map Prod.fst) h;simpa [NS] using this
inductive aP (D:AB->List AB):AB->AB->Prop
 |refl (r:AB):aP D r r
 |step {r d e:AB} (h:d∈D r) (h2:aP D d e):aP D r e
theorem Xb:(C9 r N).isSome=true↔r∈N.map (·.k):=by
 constructor
 ·intro h;have⟨p,a⟩:=NJ.1 h;have⟨b,c⟩:=Jw a;exact LO.2 ⟨p,b,c⟩
 intro h;have⟨p,a⟩:=KJ h;rw[a];rfl
theorem pg {α:Type}[DecidableEq α](g:α->Nat)(p:α->Bool)(r:α):∀ {U:List α},U.Nodup->r∈U->p r=true->((U.filter fun x=>p x&&decide (x≠r)).map g).sum+g r=((U.filter p).map g).sum
 |[],_,h,_=>by cases h
 |x::l,a,h,b=>by
  rw[Na] at a;by_cases e:x=r
  ·grind [decide,List.filter_congr]
  have c:r∈l:=by
   rcases Lr.1 h with h |h
   ·exact absurd h.symm e
   exact h
  have d:=pg g p r a.2 c b;grind
def PQ (D:AB->List AB)(U:List AB)(N:List PN):Nat:=((U.filter fun r=>decide (r∉N.map (·.k))).map fun r=>(D r).length).sum
theorem aQ {α:Type}[DecidableEq α]:∀ {l U:List α},l.Nodup->(∀x∈l,x∈U)->l.length<=U.length
 |[],_,_,_=>Lg _
 |x::l,U,a,h=>by
  rw[Na] at a;have c:x∈U:=h x (Lo ..);have d:=aQ (l:=l) (U:=U.erase x) a.2 fun y b=>(O6 fun e=>a.1 (by rw[<-e];exact b)).2 (h y (Lj _ b));grind
section
variable {nd:AB->Option (Int × List AB)}{D:AB->List AB}{rk:AB->Int}{U:List AB}
def mkP (rk:AB->Int)(D:AB->List AB)(r:AB):PN:=⟨r,rk r,D r,[],false⟩
theorem aR (v:U.Nodup)(z:U.length<4294967296)(B:∀r∈U,nd r=some (rk r,D r))(C:∀r∈U,∀d∈D r,d∈U):∀(f:Nat) (g w:List AB),g.Nodup->(∀r∈g,r∈U)->(∀r∈w,r∈U)->w.length+PQ D U (g.map (mkP rk D))<f->w.length+PQ D U (g.map (mkP rk D))<=4294967296->
  ∃i:List AB,JE nd f (g.map (mkP rk D)) w=some (i.map (mkP rk D))/\i.Nodup/\(∀r∈i,r∈U)/\(∀r∈g,r∈i)/\(∀r∈w,r∈i)/\((∀r∈g,∀d∈D r,d∈g\/d∈w)->∀r∈i,∀d∈D r,d∈i)/\∀r∈i,r∈g\/∃n∈w,aP D n r
 |0,_,_,_,_,_,h,_=>absurd h (LN _)
 |f+1,g,[],o,p,_,_,_=>⟨g,rfl,o,p,(fun _ h=>h),(fun _ h=>nomatch h),(fun h r j d l=>(h r j d l).elim id fun h=>nomatch h),fun r h=>.inl h⟩
 |f+1,g,r::w,o,p,E,O,s=>by
  have F:(g.map (mkP rk D)).map (·.k)=g:=by simp[mkP,NS]
  by_cases j:r∈g
  ·have G:(C9 r (g.map (mkP rk D))).isSome=true:=Xb.2 (by rw[F];exact j);simp only[Lh] at O s;have⟨i,t,H,I,q,J,L,M⟩:=aR v z B C f g w o p (fun x c=>E x (Lj _ c)) (by omega) (by omega);refine⟨i,?_,H,I,q,fun x c=> ?_,fun h=>L fun x c d l=> ?_,fun x c=> ?_⟩
   ·unfold JE;rw[if_pos G,t]
   ·rcases Lr.1 c with rfl |c
    ·exact q x j
    exact J x c
   ·rcases h x c d l with h |h
    ·exact .inl h
    rcases Lr.1 h with rfl |h
    ·exact .inl j
    exact .inr h
   rcases M x c with h |⟨n,h,m⟩
   ·exact .inl h
   exact .inr ⟨n,Lj _ h,m⟩
  have G:¬(C9 r (g.map (mkP rk D))).isSome=true:=fun h=>j (by have:=Xb.1 h;rw[F] at this;exact this);have u:=E r (Lo ..);have P:(g++[r]).Nodup:=BP.2 ⟨o,Na.2 ⟨L8,NX⟩,fun a Q b s e=>j (by rw[<-Lt.1 s,<-e];exact Q)⟩;have T:PQ D U ((g++[r]).map (mkP rk D))+(D r).length=PQ D U (g.map (mkP rk D)):=by
   unfold PQ;have m:((g++[r]).map (mkP rk D)).map (·.k)=g++[r]:=(by simp[mkP,NS]);rw[F,m,<-pg (fun r=>(D r).length) (fun x=>decide (x∉g)) r v u (by simpa using j)];congr 4;funext x;simp[Bool.and_comm]
  have R:g.length<4294967296:=BM (aQ o p) z;simp only[Lh] at O s;have⟨i,t,H,I,q,J,L,M⟩:=aR v z B C f (g++[r]) ((D r).reverse++w) P (fun x c=>by
   rcases Ly.1 c with h |h
   ·exact p x h
   ·rw[Lt.1 h];exact u) (fun x c=>by
   rcases Ly.1 c with h |h
   ·exact C r u x (OL.1 h)
   exact E x (Lj _ h)) (by rw[Ld,Bl];omega) (by rw[Ld,Bl];omega)
  refine⟨i,?_,H,I,fun x c=>q x (Nu _ c),fun x c=> ?_,fun h=>L fun x c d l=> ?_,fun x c=> ?_⟩
  ·unfold JE;rw[if_neg G,B r u,Zo,if_pos ⟨by simp only;omega,by rw[LE];exact R⟩];rw[Nc] at t;exact t
  ·rcases Lr.1 c with rfl |c
   ·exact q x (Nn _ (Lt.2 rfl))
   exact J x (Nn _ c)
  ·rcases Ly.1 c with c |c
   ·rcases h x c d l with h |h
    ·exact .inl (Nu _ h)
    rcases Lr.1 h with rfl |h
    ·exact .inl (Nn _ (Lt.2 rfl))
    exact .inr (Nn _ h)
   rw[Lt.1 c] at l;exact .inr (Nu _ (OL.2 l))
  rcases M x c with h |⟨n,h,m⟩
  ·rcases Ly.1 h with h |h
   ·exact .inl h
   rw[Lt.1 h];exact .inr ⟨r,Lo ..,.refl r⟩
  rcases Ly.1 h with h |h
  ·exact .inr ⟨r,Lo ..,.step (OL.1 h) m⟩
  exact .inr ⟨n,Lj _ h,m⟩
end
def addL (f:AB->List AB)(N:List PN):List PN:=N.map fun p=>{ p with above:=p.above++f p.k }
theorem ph (N:List PN):addL (fun _=>[]) N=N:=by
 unfold addL;simp
theorem pi (f g:AB->List AB)(N:List PN):addL g (addL f N)=addL (fun x=>f x++g x) N:=by
 unfold addL;simp
theorem pj {f g:AB->List AB}(N:List PN)(h:∀x,f x=g x):addL f N=addL g N:=by rw[show f=g from funext h]
theorem aS (f:AB->List AB)(N:List PN):(addL f N).map (·.k)=N.map (·.k):=by simp[addL,NS]
theorem pk (d r:AB)(N:List PN):Ql d r N=addL (fun x=>if d==x then[r] else[]) N:=by
 unfold Ql addL;refine Ns fun p _=> ?_;by_cases h:(d==p.k)=true
 ·simp[h]
 simp[h]
theorem pm (r:AB):∀(l:List AB) (N:List PN),(∀d∈l,d∈N.map (·.k))->(∀p∈N,p.above.length+l.length<=4294967296)->G1 r l N=some (addL (fun x=>(l.filter (· ==x)).map fun _=>r) N)
 |[],N,_,_=>by
  exact congrArg some ((pj N (g:=fun _=>[]) fun x=>rfl).trans (ph N)).symm
 |d::l,N,e,a=>by
  have⟨p,b⟩:=KJ (e d (Lo ..));have f:=(Jw b).1;have h:=a p f;simp only[Lh] at h a;unfold G1;rw[b,Zo,ifp,pm r l _ (by rw[zM];grind) fun i c=>by
   rw[pk] at c;obtain⟨j,m,rfl⟩:=LO.1 c;grind]
  rw[pk,pi];grind
def vw_ (D:AB->List AB)(l:List AB)(x:AB):List AB:=l.flatMap fun r=>((D r).filter (· ==x)).map fun _=>r
theorem pp {D:AB->List AB}{l:List AB}{x:AB}:r∈vw_ D l x↔r∈l/\x∈D r:=by
 unfold vw_;simp
def total (D:AB->List AB)(l:List AB):Nat:=(l.map fun r=>(D r).length).sum
theorem f9 (D:AB->List AB):∀(l:List AB) (N:List PN),(∀r∈l,r∈N.map (·.k))->(∀p∈N,p.deps=D p.k/\∀d∈D p.k,d∈N.map (·.k))->(∀p∈N,p.above.length+total D l<=4294967296)->Fq l N=some (addL (vw_ D l) N)
 |[],N,_,_,_=>by
  exact congrArg some ((pj N (g:=fun _=>[]) fun x=>rfl).trans (ph N)).symm
 |r::l,N,n,c,e=>by
  have⟨p,f⟩:=KJ (n r (Lo ..));have⟨h,o⟩:=Jw f;have⟨b,i⟩:=c p h;rw[o] at b i;have s:total D (r::l)=(D r).length+total D l:=by simp[total]
  have t:=e p h;unfold Fq;rw[f,Zo,if_pos (by rw[b];omega),b,pm r (D r) N i fun q a=>by have:=e q a;omega,Zo,f9 D l _ (by rw[aS];grind) (fun q a=> ?_) fun q a=> ?_]
  ·rw[pi];rfl
  ·obtain⟨j,m,rfl⟩:=LO.1 a;rw[aS];exact c j m
  obtain⟨j,m,rfl⟩:=LO.1 a;grind
def Fd (S:AB->Bool)(P:List PN):List PN:=P.map fun p=>{ p with is:=S p.k }
theorem Sv (S:AB->Bool)(r:AB):∀P:List PN,C9 r (Fd S P)=(C9 r P).map fun p=>{ p with is:=S p.k }
 |[]=>rfl
 |p::l=>by
  have a:=Sv S r l;grind [C9,Fd]
theorem pv (S:AB->Bool)(d:AB)(P:List PN):JH d (Fd S P)=Fd (fun x=>S x||d==x) P:=by
 unfold JH Fd;rw[Bj];refine Ns fun p _=> ?_;grind
structure Fs (K:List AB) (D:AB->List AB) (rk:AB->Int) (nwB:(AB->Bool)->AB->Bool):Prop where
 loc:∀S T r,r∈K->(∀d∈D r,S d=T d)->nwB S r=nwB T r
 mono:∀S T r,r∈K->(∀d∈D r,rk d<rk r->S d=T d)->(∀d∈D r,rk d=rk r->S d=true->T d=true)->nwB S r=true->nwB T r=true
 rkD:∀r∈K,∀d∈D r,rk d<=rk r
 DK:∀r∈K,∀d∈D r,d∈K
structure GA (K:List AB) (rk:AB->Int) (nwB:(AB->Bool)->AB->Bool) (S:AB->Bool) (done w:List AB) (k:Int):Prop where
 a:∀r∈K,S r=true->nwB S r=true
 b:∀r∈done,nwB S r=true->S r=true\/(r∈w/\rk r=k)
 c:∀r∈K,S r=true->rk r<=k
 d:∀(j:Int) (T:AB->Bool),(∀r∈K,rk r<j->T r=S r)->(∀r∈K,rk r=j->nwB T r=true->T r=true)->∀r∈K,rk r=j->S r=true->T r=true
 e:∀r∈done,r∈K/\rk r<=k
section
variable {K:List AB}{D:AB->List AB}{rk:AB->Int}{nwB:(AB->Bool)->AB->Bool}{S:AB->Bool}{done w:List AB}{k:Int}
theorem GA.pop (_:Fs K D rk nwB)(h:GA K rk nwB S done (r::w) k)(d:rk r≠k\/S r=true\/nwB S r=false):GA K rk nwB S done w k:=
 ⟨h.a,fun x b c=>by
  rcases h.b x b c with a |⟨a,e⟩
  ·exact .inl a
  grind,h.c,h.d,h.e⟩
theorem GA.set (l:Fs K D rk nwB){u:List AB}(h:GA K rk nwB S done (r::w) k)(m:r∈K)(F:rk r=k)(B:nwB S r=true)(C:∀x,x∈K->r∈D x->x∈u):GA K rk nwB (fun x=>S x||r==x) done (u.reverse++w) k where
 a:=fun x g f=>by
  have n:nwB S x=true/\rk x<=k:=by
   simp only[LR] at f;rcases f with f |f
   ·exact⟨h.a x g f,h.c x g f⟩
   grind
  refine l.mono S _ x g (fun d i hlt=> ?_) (fun d i E f=>by simp[f]) n.1
  have:(r==d)=false:=by
   rw[beq_eq_false_iff_ne];intro e;subst e;omega
  simp[this]
 b:=fun x g f=>by
  have⟨q,G⟩:=h.e x g;by_cases s:r∈D x
  ·have n:=C x q s;have o:=l.rkD x q r s;grind
  rw[<-l.loc S _ x q fun d i=>by
   have:(r==d)=false:=by
    rw[beq_eq_false_iff_ne];intro e;subst e;exact s i
   simp[this]] at f
  rcases h.b x g f with t |⟨t,p⟩
  ·exact .inl (by simp[t])
  grind
 c:=fun x g f=>by
  simp only[LR] at f;rcases f with f |f
  ·exact h.c x g f
  rw[<-eq_of_beq f];omega
 d:=fun j T n o x g v f=>by
  have t:∀y∈K,rk y<j->rk y<k\/k<j:=fun y _ z=>by omega
  by_cases H:k<j
  ·simp only[LR] at f;rcases f with f |f
   ·have:=h.c x g f;omega
   grind
  have p:∀y∈K,rk y<j->T y=S y:=fun y z hlt=>by
   rw[n y z hlt]
   have:(r==y)=false:=by
    rw[beq_eq_false_iff_ne];intro e;subst e;omega
   simp[this]
  simp only[LR] at f;rcases f with f |f
  ·exact h.d j T p o x g v f
  have:=eq_of_beq f;subst this;refine o r m v (l.mono S T r m (fun d i hlt=>(p d (l.DK r m d i) (by omega)).symm) (fun d i E f=> ?_) B);exact h.d j T p o d (l.DK r m d i) (by omega) f
 e:=h.e
def D9 (P:List PN)(S:AB->Bool):Nat:=((P.filter fun p=> !S p.k).map fun p=>p.above.length).sum
theorem px {P:List PN}(a:(P.map (·.k)).Nodup){p:PN}(hp:p∈P)(b:S p.k=false):D9 P (fun x=>S x||p.k==x)+p.above.length=D9 P S:=by
 unfold D9;induction P with
 |nil=>cases hp
 |cons q l c=>
  rw[Li,Na] at a;rcases Lr.1 hp with rfl |hp
  ·grind [List.filter_congr,beq_eq_false_iff_ne,List.mem_map_of_mem]
  grind
theorem Xc {nw:List PN->AB->Option Bool}{P:List PN}(a:Fs (P.map (·.k)) D rk nwB)(d:(P.map (·.k)).Nodup)(e:∀p∈P,p.rank=rk p.k/\∀x,x∈p.above↔x∈P.map (·.k)/\p.k∈D x)(g:∀S r,r∈P.map (·.k)->nw (Fd S P) r=some (nwB S r)):
  ∀(f:Nat) (S:AB->Bool) (w:List AB),(∀r∈w,r∈P.map (·.k))->w.length+D9 P S<f->w.length+D9 P S<=4294967296->GA (P.map (·.k)) rk nwB S done w k->∃b,KI nw k f (Fd S P) w=some (Fd b P)/\GA (P.map (·.k)) rk nwB b done [] k/\D9 P b<=D9 P S
 |0,_,_,_,h,_,_=>absurd h (LN _)
 |f+1,S,[],_,_,_,c=>⟨S,rfl,c,Lc _⟩
 |f+1,S,r::w,s,G,H,c=>by
  have m:=s r (Lo ..);have⟨p,t⟩:=KJ m;have⟨u,j⟩:=Jw t;have⟨v,z⟩:=e p u;simp only[Lh] at G H;have n:∀x∈w,x∈P.map (·.k):=fun x B=>s x (Lj _ B);have I:C9 r (Fd S P)=some { p with is:=S p.k }:=by rw[Sv,t];rfl
  unfold KI;rw[I,Zo];by_cases l:rk r=k
  ·have i:(p.rank != k)=false:=(by rw[v,j,l];simp);simp only[i,Nr,if_false];cases C:S p.k with
   |true=>
    rw[if_pos rfl];have⟨b,o,q,E⟩:=Xc a d e g f S w n (by omega) (by omega) (c.pop a (.inr (.inl (j▸C))));exact⟨b,o,q,E⟩
   |false=>
    rw[if_neg (by simp),g S r m,Zo];cases F:nwB S r with
    |false=>
     rw[if_neg (by simp)];exact Xc a d e g f S w n (by omega) (by omega) (c.pop a (.inr (.inr F)))
    |true=>
     rw[if_pos rfl];have J:=px d u C;rw[if_pos (show w.length+p.above.length<=4294967296 by omega),pv];rw[j] at J z;have⟨b,o,q,E⟩:=Xc a d e g f (fun x=>S x||r==x) (p.above.reverse++w) (fun x B=>by
      grind) (by grind) (by grind) (c.set a m l F fun x i L=>(z x).2 ⟨i,L⟩)
     exact⟨b,o,q,by omega⟩
  have i:(p.rank != k)=true:=by rw[v,j];simpa using l
  simp only[i,if_true];exact Xc a d e g f S w n (by omega) (by omega) (c.pop a (.inl l))
theorem pz {nw:List PN->AB->Option Bool}{P:List PN}{f:Nat}(o:Fs (P.map (·.k)) D rk nwB)(q:(P.map (·.k)).Nodup)(m:∀p∈P,p.rank=rk p.k/\∀x,x∈p.above↔x∈P.map (·.k)/\p.k∈D x)(s:∀S r,r∈P.map (·.k)->nw (Fd S P) r=some (nwB S r)):
  ∀(l:List AB) (S:AB->Bool) (done:List AB) (k:Int),(∀r∈l,r∈P.map (·.k)/\k<=rk r)->(l.Pairwise fun a b=>rk a<=rk b)->1+D9 P S<f->1+D9 P S<=4294967296->GA (P.map (·.k)) rk nwB S done [] k->∃j B,Mh nw f l (Fd S P)=some (Fd j P)/\GA (P.map (·.k)) rk nwB j (done++l) [] B
 |[],S,done,k,_,_,_,_,i=>⟨S,k,rfl,by rw[LX];exact i⟩
 |r::l,S,done,k,t,n,Q,R,i=>by
  have⟨u,T⟩:=t r (Lo ..);rw[Oc] at n;have⟨p,v⟩:=KJ u;have⟨C,E⟩:=Jw v;have F:=(m p C).1;rw[E] at F;have G:GA (P.map (·.k)) rk nwB S (done++[r]) [r] (rk r):=
   {
    a:=i.a
    b:=fun x g H=>by
     rcases Ly.1 g with h |h
     ·rcases i.b x h H with h |⟨h,_⟩
      ·exact .inl h
      cases h
     grind
    c:=fun x g I=>by have:=i.c x g I;omega
    d:=i.d
    e:=fun x g=>by
     rcases Ly.1 g with h |h
     ·have⟨J,V⟩:=i.e x h;exact⟨J,by omega⟩
     grind }
  have⟨j,q1,L,q3⟩:=Xc o q m s f S [r] (fun x g=>by rw[Lt.1 g];exact u) (by omega) (by omega) G;have⟨M,O,q4,z⟩:=pz o q m s l j (done++[r]) (rk r) (fun x g=>⟨(t x (Lj _ g)).1,n.1 x g⟩) n.2 (f:=f) (by omega) (by omega) L;refine⟨M,O,?_,by rw[Lq] at z;exact z⟩;unfold Mh;rw[Sv,v,LQ,Zo];grind
end
theorem p7 (rk:α->Int)(x y:α):G0 (fun a b=>Gz (rk a) (rk b)) x y=decide (rk x<rk y):=by
 unfold G0 Gz;grind
theorem gA {D:AB->List AB}:∀ {l U:List AB},l.Nodup->(∀r∈l,r∈U)->total D l<=total D U
 |[],_,_,_=>Lg _
 |x::l,U,a,b=>by
  rw[Na] at a;have d:=b x (Lo ..);have f:=gA (D:=D) (l:=l) (U:=U.erase x) a.2 fun r c=>(O6 fun e=>a.1 (by rw[<-e];exact c)).2 (b r (Lj _ c));grind [total,List.perm_cons_erase]
structure Di (K:List AB) (rk:AB->Int) (nwB:(AB->Bool)->AB->Bool) (S:AB->Bool):Prop where
 fix:∀r∈K,S r=nwB S r
 low:∀(j:Int) (T:AB->Bool),(∀r∈K,rk r<j->T r=S r)->(∀r∈K,rk r=j->nwB T r=true->T r=true)->∀r∈K,rk r=j->S r=true->T r=true
theorem gB {D:AB->List AB}:∀ {l K:List AB},K.Nodup->(K.map fun x=>(vw_ D l x).length).sum<=total D l
 |[],K,_=>by
  simp only[vw_,IF,Lu,total]
  have:∀K:List AB,(K.map fun _=>0).sum=0:=fun K=>by
   induction K with |nil=>rfl |cons x l b=>simpa using b
  rw[this];exact Lg _
 |r::l,K,f=>by
  have b:=gB (D:=D) (l:=l) f;have g:∀(a:List AB) (K:List AB),K.Nodup->(K.map fun x=>(a.filter (· ==x)).length).sum<=a.length:=fun a=>by
   induction a with
   |nil=>
    intro K _;simp only[List.filter_nil,Lu]
    have:∀K:List AB,(K.map fun _=>0).sum=0:=fun K=>by
     induction K with |nil=>rfl |cons x l b=>simpa using b
    rw[this];exact Lg _
   |cons d a b=>
    intro K c;have i:=b K c;have j:∀K:List AB,K.Nodup->(K.map fun x=>((d::a).filter (· ==x)).length).sum<=(K.map fun x=>(a.filter (· ==x)).length).sum+1:=fun K=>by
     induction K with
     |nil=>intro _;simp
     |cons x K m=>
      intro c;rw[Na] at c;simp only[Li,BJ];by_cases e:(d==x)=true
      ·have n:(K.map fun x=>((d::a).filter (· ==x)).length)=K.map fun x=>(a.filter (· ==x)).length:=Ns fun y o=>by
        grind
       grind
      grind
    grind
  have p:=g (D r) K f;have h:∀K:List AB,(K.map fun x=>(vw_ D (r::l) x).length).sum=(K.map fun x=>((D r).filter (· ==x)).length).sum+(K.map fun x=>(vw_ D l x).length).sum:=fun K=>by
   induction K with
   |nil=>rfl
   |cons x K b=>
    grind [vw_]
  rw[h];simp only[total,Li,BJ] at b⊢;omega
theorem Qn {B:List α}{x:α}(h:k=A.length):(A++x::B)[k]? =some x:=by
 grind
theorem Qo {B:List α}{x y:α}(h:k=A.length):(A++x::B).set k y=A++y::B:=by
 simp_all
theorem aW {α:Type}:∀(n i:Nat) (A a b M c Y2 Z:List α),b.length=n->Y2.length=n->a.length=i->c.length=i->FP A.length (A.length+i+n+M.length) n (A++(a++b)++M++(c++Y2)++Z) i=some (A++(a++Y2)++M++(c++b)++Z)
 |0,i,A,a,b,M,c,Y2,Z,d,e,_,_=>by
  rw[Bb.1 d,Bb.1 e];rfl
 |n+1,i,A,a,x::b,M,c,y::Y2,Z,d,e,j,l=>by
  have g:A++(a++x::b)++M++(c++y::Y2)++Z=(A++a)++x::(b++M++c++y::(Y2++Z)):=by simp
  have f:(A++a)++x::(b++M++c++y::(Y2++Z))=((A++a)++x::(b++M++c))++y::(Y2++Z):=by simp
  have h:(A++a)++y::(b++M++c++y::(Y2++Z))=((A++a)++y::(b++M++c))++y::(Y2++Z):=by simp
  simp only[Lh] at d e;unfold FP;rw[show A.length+i+(n+1)+M.length+i=(((A++a)++x::(b++M++c)):List α).length by simp;omega,g,f,Qn rfl,Zo,<-f,Qn (show A.length+i=(A++a).length by simp;omega),Zo,Qo (show A.length+i=(A++a).length by simp;omega),h,Qo (by simp)];have m:=aW n (i+1) A (a++[y]) b M (c++[x]) Y2 Z (by omega) (by omega) (by simp;omega) (by simp;omega);grind
theorem gF {α:Type}:∀(f:Nat) (A L R Z:List α),L.length+R.length<f->0<L.length->0<R.length->FQ (A.length+L.length) f (A++L++R++Z) L.length R.length=some (A++R++L++Z)
 |0,_,_,_,_,h,_,_=>absurd h (LN _)
 |f+1,A,L,R,Z,j,l,m=>by
  unfold FQ;rw[ifp];by_cases a:L.length=R.length
  ·rw[if_pos a]
   have:=aW L.length 0 A [] L [] [] R Z rfl a.symm rfl rfl;grind
  rw[if_neg a];by_cases d:R.length<L.length
  ·rw[if_pos d];obtain⟨b,e,rfl,n⟩:∃b e,L=b++e/\b.length=R.length:=⟨L.take R.length,L.drop R.length,(LK _ _).symm,by rw[LC];omega⟩;rw[Ld] at j l d a⊢;have i:=aW R.length 0 A [] b e [] R Z n rfl rfl rfl;simp only[LA,NW] at i;have o:=gF f (A++R) e b Z (by omega) (by omega) (by omega);grind
  rw[if_neg d];obtain⟨g,c,rfl,p⟩:∃g c,R=g++c/\c.length=L.length:=⟨R.take (R.length-L.length),R.drop (R.length-L.length),(LK _ _).symm,by rw[Nv];omega⟩;rw[Ld] at j m d a⊢;have i:=aW L.length 0 A [] L g [] c Z rfl p rfl rfl;simp only[LA,NW] at i;have o:=gF f A c g (L++Z) (by omega) (by omega) (by omega);grind
theorem Xd {p:Nat->Option Bool}:∀(f i j:Nat),j-i<f->i<=j->(∀k,i<=k->k<j->∃b,p k=some b)->∃r,II p f i j=some r/\i<=r/\r<=j/\(r=i\/p (r-1)=some true)/\(r=j\/p r=some false)
 |0,_,_,h,_,_=>absurd h (LN _)
 |f+1,i,j,o,q,a=>by
  unfold II;by_cases h:i<j
  ·have⟨b,l⟩:=a ((i+j) / 2) (by omega) (by omega);rw[if_pos h,l,Zo];cases b with
   |true=>
    rw[if_pos rfl];have⟨r,c,m,d,n,e⟩:=Xd f ((i+j) / 2+1) j (by omega) (by omega) fun k g=>a k (by omega);refine⟨r,c,by omega,d,.inr ?_,e⟩;grind
   |false=>
    rw[if_neg (by decide)];have⟨r,c,m,d,n,e⟩:=Xd f i ((i+j) / 2) (by omega) (by omega) fun k g s=>a k g (by omega);grind
  grind
theorem qC {α:Type}{x:α}:∀(R A C:List α),PR R.length (A++x::(R++C)) A.length=some (A++(R++x::C))
 |[],_,_=>rfl
 |y::R,A,C=>by
  have a:=qC (x:=x) R (A++[y]) C;rw[Ld,Ll] at a;have b:A++x::(y::R++C)=(A++[x])++y::(R++C):=by simp
  show PR (R.length+1) _ _=_;unfold PR;rw[b,Qn (by simp),Zo,<-b,Qn rfl,Zo,Qo rfl,show A++y::(y::R++C)=(A++[y])++y::(R++C) by simp,Qo (by simp),a];simp
theorem qE {α:Type}{y:α}:∀(n:Nat) (R A C:List α),R.length=n->PS n (A++(R++y::C)) (A.length+n)=some (A++y::(R++C))
 |0,R,A,C,h=>by
  rw[Bb.1 h];rfl
 |n+1,R,A,C,h=>by
  obtain⟨a,x,rfl⟩:∃a x,R=a++[x]:=⟨R.dropLast,R.getLast (fun e=>by rw[e] at h;cases h),(Bn _).symm⟩;have b:a.length=n:=by simpa using h
  have c:=qE (y:=y) n a A (x::C) b;show PS (n+1) _ (A.length+n+1)=_;unfold PS;have d:A++(a++[x]++y::C)=(A++a)++x::(y::C):=by simp
  have f:(A++a)++x::(y::C)=(A++a++[x])++y::C:=by simp
  have g:(A++a++[x])++x::C=(A++a)++x::(x::C):=by simp
  rw[d,Qn (by simp[b]),Zo,f,Qn (by simp[b];omega),Zo,Qo (by simp[b];omega),g,Qo (by simp[b]),show A++a++y::x::C=A++(a++y::x::C) by simp,c];simp
theorem qF {L C:List α}(h:k<L.length):(A++(L++C))[A.length+k]? =some L[k]:=by
 grind
section
variable {α:Type}{rk:α->Int}{lt:α->α->Bool}(hlt:∀x y,lt x y=decide (rk x<rk y))
theorem Us {L R:List α}{k':Nat}(d:L.Pairwise fun a b=>rk a<=rk b)(e:R.Pairwise fun a b=>rk a<=rk b)(m:k<=L.length)(h:∀(f:0<k) (c:k'<R.length),rk (L[k-1]'(by omega))<=rk R[k']):∀a∈L.take k,∀b∈R.drop k',rk a<=rk b:=by
 intro a g b l;obtain⟨i,n,rfl⟩:=List.mem_take_iff_getElem.1 g;obtain⟨j,o,rfl⟩:=List.mem_drop_iff_getElem.1 l;have f:=h (by omega) (by omega);have p:rk (L[i]'(by omega))<=rk (L[k-1]'(by omega)):=by
  rcases LY i (k-1) with c |c
  ·exact Bi.1 d i (k-1) _ _ c
  grind
 have q:rk (R[k']'(by omega))<=rk (R[k'+j]'(by omega)):=by
  rcases BL j with c |c
  ·subst c;exact Bp _
  exact Bi.1 e k' (k'+j) _ _ (by omega)
 omega
include hlt in
theorem aX:∀(f:Nat) (A L R Z:List α),L.length+R.length<=f->0<L.length->0<R.length->(L.Pairwise fun a b=>rk a<=rk b)->(R.Pairwise fun a b=>rk a<=rk b)->∃B,symM lt f (A++(L++(R++Z))) A.length (A.length+L.length) (A.length+L.length+R.length)=some (A++(B++Z))/\B.Perm (L++R)/\B.Pairwise fun a b=>rk a<=rk b
 |0,_,_,_,_,h,h1,_,_,_=>by omega
 |f+1,A,L,R,Z,hf,X,Y,v,z=>by
  obtain⟨g,H⟩:∃g,g=A++(L++(R++Z)):=⟨_,rfl⟩;have a4:g.length=A.length+L.length+R.length+Z.length:=by rw[H];simp;omega
  have E:∀k (h:k<L.length),g[A.length+k]? =some L[k]:=fun k h=>by rw[H];exact qF h
  have F:∀k (h:k<R.length),g[A.length+L.length+k]? =some R[k]:=fun k h=>by
   rw[H,show A++(L++(R++Z))=(A++L)++(R++Z) by simp,show A.length+L.length+k=(A++L).length+k by simp];exact qF h
  rw[<-H];unfold symM;rw[if_pos ⟨by omega,by omega,by omega⟩];by_cases h1:L.length=1
  ·rw[ifp];have⟨i,Q,b2,b3,o,s⟩:=Xd (p:=fun h=>(g[h]?).bind fun x=>(g[A.length]?).map fun y=>lt x y) (g.length+1) (A.length+L.length) (A.length+L.length+R.length) (by omega) (by omega) fun k G ak=>by
    have n:=F (k-(A.length+L.length)) (by omega);rw[show A.length+L.length+(k-(A.length+L.length))=k by omega] at n;have t:g[A.length]? =some _:=E 0 X;exact⟨lt R[k-(A.length+L.length)] L[0],by rw[n,Zo,t];rfl⟩
   rw[Q,Zo];obtain⟨k,rfl⟩:∃k,i=A.length+L.length+k:=⟨i-(A.length+L.length),by omega⟩;obtain⟨x,rfl⟩:∃x,L= [x]:=OT.1 h1;refine⟨R.take k++x::R.drop k,?_,?_,?_⟩
   ·have G:(R.take k).length=k:=by rw[LC];omega
    have:=qC (x:=x) (R.take k) A (R.drop k++Z);rw[G] at this;rw[H,show A.length+[x].length+k-1-A.length=k by simp,show A++([x]++(R++Z))=A++x::(R.take k++(R.drop k++Z)) by rw[<-Lq (R.take k),LK];rfl,this];simp
   ·refine IG.trans ?_;rw[LK];exact .refl _
   have hx:∀b∈R.drop k,rk x<=rk b:=fun b j=>Us (k:=1) (k':=k) v z (by simp) (fun _ I=>by
    rcases s with s |s
    ·omega
    have n:=F k I;have t:g[A.length]? =some _:=E 0 X;rw[n,Zo,t] at s;have l:=LM s;dsimp only at l;rw[hlt] at l
    have:=of_decide_eq_false l;show rk x<=rk R[k];have e3:([x]:List α)[0]=x:=rfl;rw[e3] at this;omega) x (by simp) b j
   have hy:∀a∈R.take k,rk a<=rk x:=fun a m=>Us (k:=k) (k':=0) z v (by omega) (fun u _=>by
    rcases o with o |o
    ·omega
    have n:=F (k-1) (by omega);have t:g[A.length]? =some _:=E 0 X;rw[show A.length+[x].length+k-1=A.length+[x].length+(k-1) by omega,n,Zo,t] at o;have l:=LM o;dsimp only at l;rw[hlt] at l
    have:=of_decide_eq_true l;omega) a m x (by simp)
   rw[<-LK k R,Nz] at z;refine Nz.2 ⟨z.1,Oc.2 ⟨hx,z.2.1⟩,fun a m b j=> ?_⟩;rcases Lr.1 j with rfl |j
   ·exact hy a m
   exact z.2.2 a m b j
  rw[ifn];by_cases h2:R.length=1
  ·rw[ifp];have⟨i,Q,b2,b3,o,s⟩:=Xd (p:=fun h=>(g[A.length+L.length]?).bind fun x=>(g[h]?).map fun y=> !lt x y) (g.length+1) A.length (A.length+L.length) (by omega) (by omega) fun k G ak=>by
    have n:=E (k-A.length) (by omega);rw[show A.length+(k-A.length)=k by omega] at n;have t:g[A.length+L.length]? =some _:=F 0 Y;exact⟨!lt R[0] L[k-A.length],by rw[t,Zo,n];rfl⟩
   rw[Q,Zo];obtain⟨k,rfl⟩:∃k,i=A.length+k:=⟨i-A.length,by omega⟩;obtain⟨y,rfl⟩:∃y,R= [y]:=OT.1 h2;refine⟨L.take k++y::L.drop k,?_,?_,?_⟩
   ·have G:(L.take k).length=k:=by rw[LC];omega
    have:=qE (y:=y) (L.length-k) (L.drop k) (A++L.take k) Z (by rw[Nv]);rw[Ld,G] at this;rw[H,show A.length+L.length-(A.length+k)=L.length-k by omega,show A.length+L.length=A.length+k+(L.length-k) by omega,show A++(L++([y]++Z))=A++L.take k++(L.drop k++y::Z) by rw[Lq,<-Lq (L.take k),LK];rfl,this];simp
   ·refine IG.trans ?_;rw[LK];exact O0 (l₁:=[y])
   have hx:∀b∈L.drop k,rk y<=rk b:=fun b j=>Us (k:=1) (k':=k) z v (by simp) (fun _ I=>by
    rcases s with s |s
    ·omega
    have n:=E k I;have t:g[A.length+L.length]? =some _:=F 0 Y;rw[t,Zo,n] at s;have l:=LM s;dsimp only at l;rw[hlt,Iv] at l
    have:=of_decide_eq_true l;show rk ([y]:List α)[0]<=rk L[k];omega) y (by simp) b j
   have hy:∀a∈L.take k,rk a<=rk y:=fun a m=>Us (k:=k) (k':=0) v z (by omega) (fun u _=>by
    rcases o with o |o
    ·omega
    have n:=E (k-1) (by omega);have t:g[A.length+L.length]? =some _:=F 0 Y;rw[show A.length+k-1=A.length+(k-1) by omega,t,Zo,n] at o;have l:=LM o;dsimp only at l;rw[hlt,NF] at l
    have:=of_decide_eq_false l;omega) a m y (by simp)
   rw[<-LK k L,Nz] at v;refine Nz.2 ⟨v.1,Oc.2 ⟨hx,v.2.1⟩,fun a m b j=> ?_⟩;rcases Lr.1 j with rfl |j
   ·exact hy a m
   exact v.2.2 a m b j
  rw[ifn];obtain⟨d,aq⟩:∃d,d=(A.length+(A.length+L.length+R.length)) / 2:=⟨_,rfl⟩;rw[<-aq];obtain⟨J,aa⟩:∃J,J=(if d<A.length+L.length then d+(A.length+L.length)-(A.length+L.length+R.length) else A.length):=⟨_,rfl⟩;obtain⟨M,ab⟩:∃M,M=(if d<A.length+L.length then d else A.length+L.length):=⟨_,rfl⟩;rw[<-aa,<-ab];have ar:J<=M/\A.length<=J/\M<=d/\M<=A.length+L.length/\d-J<=R.length:=by
   rw[aa,ab];split<;>omega
  have⟨i,Q,b2,b3,o,s⟩:=Xd (p:=fun c=>(g[d+(A.length+L.length)-1-c]?).bind fun x=>(g[c]?).map fun y=> !lt x y) (g.length+1) J M (by omega) ar.1 fun k G ak=>by
   have n:=F (d-1-k) (by omega);rw[show A.length+L.length+(d-1-k)=d+(A.length+L.length)-1-k by omega] at n;have t:=E (k-A.length) (by omega);rw[show A.length+(k-A.length)=k by omega] at t;exact⟨!lt R[d-1-k] L[k-A.length],by rw[n,Zo,t];rfl⟩
  rw[Q,Zo];obtain⟨k,rfl⟩:∃k,i=A.length+k:=⟨i-A.length,by omega⟩;obtain⟨q,hq⟩:∃q,d=A.length+k+q:=⟨d-(A.length+k),by omega⟩;have G:k<=L.length:=by omega
  have av:q<=R.length:=by omega
  have ad:(L.take k).length=k:=by rw[LC];omega
  have ag:(R.take q).length=q:=by rw[LC];omega
  have ao:(L.drop k).length=L.length-k:=Nv;have aE:(R.drop q).length=R.length-q:=Nv;have c1:∀a∈L.take k,∀b∈R.drop q,rk a<=rk b:=Us v z G fun u I=>by
   rcases o with o |o
   ·exfalso;rw[aa] at o;split at o<;>omega
   have n:=F q I;have t:=E (k-1) (by omega);rw[show d+(A.length+L.length)-1-(A.length+k-1)=A.length+L.length+q by omega,n,Zo,show A.length+k-1=A.length+(k-1) by omega,t] at o;have l:=LM o;dsimp only at l;rw[hlt,NF] at l
   have:=of_decide_eq_false l;omega
  have c2:∀a∈R.take q,∀b∈L.drop k,rk a<=rk b:=Us z v av fun u I=>by
   rcases s with s |s
   ·exfalso;rw[ab] at s;split at s<;>omega
   have n:=F (q-1) (by omega);have t:=E k I;rw[show d+(A.length+L.length)-1-(A.length+k)=A.length+L.length+(q-1) by omega,n,Zo,t] at s;have l:=LM s;dsimp only at l;rw[hlt,Iv] at l
   have:=of_decide_eq_true l;omega
  have O:=v;have P:=z;rw[<-LK k L,Nz] at O;rw[<-LK q R,Nz] at P;have ap:g=(A++L.take k)++L.drop k++R.take q++(R.drop q++Z):=by
   rw[H];conv=>lhs;rw[<-LK k L,<-LK q R]
   simp only[Lq]
  have a0:(if A.length+k<A.length+L.length/\A.length+L.length<d+(A.length+L.length)-(A.length+k) then FQ (A.length+L.length) (g.length+1) g (A.length+L.length-(A.length+k)) (d+(A.length+L.length)-(A.length+k)-(A.length+L.length)) else some g)=some (A++(L.take k++(R.take q++(L.drop k++(R.drop q++Z))))):=by
   split
   ·rename_i h
    have:=gF (g.length+1) (A++L.take k) (L.drop k) (R.take q) (R.drop q++Z) (by omega) (by omega) (by omega);rw[<-ap,Ld,ad,ao,ag,show A.length+k+(L.length-k)=A.length+L.length by omega] at this;rw[show A.length+L.length-(A.length+k)=L.length-k by omega,show d+(A.length+L.length)-(A.length+k)-(A.length+L.length)=q by omega,this];simp
   rename_i h;rw[ap];rcases BL q with u |u
   ·subst u;simp only[OW,LJ,LX,LA,Lq]
   have:L.drop k= []:=Nt (by omega);rw[this];simp
  rw[a0,Zo];obtain⟨C,a1,p1,o1⟩:∃C,(if A.length<A.length+k/\A.length+k<d then symM lt f (A++(L.take k++(R.take q++(L.drop k++(R.drop q++Z))))) A.length (A.length+k) d else some (A++(L.take k++(R.take q++(L.drop k++(R.drop q++Z))))))=some (A++(C++(L.drop k++(R.drop q++Z))))/\C.Perm (L.take k++R.take q)/\C.Pairwise fun a b=>rk a<=rk b:=by
   split
   ·have⟨B,T,q2,q3⟩:=aX f A (L.take k) (R.take q) (L.drop k++(R.drop q++Z)) (by omega) (by omega) (by omega) O.1 P.1;rw[ad,ag,<-hq] at T;exact⟨B,T,q2,q3⟩
   refine⟨L.take k++R.take q,by simp,.refl _,Nz.2 ⟨O.1,P.1,fun a m b j=> ?_⟩⟩;rcases BL k with u |u
   ·subst u;simp at m
   have:q=0:=(by omega);subst this;simp at j
  rw[a1,Zo];have a2:C.length=k+q:=by rw[p1.length_eq,Ld,ad,ag]
  obtain⟨V,a3,p2,o2⟩:∃V,(if d<d+(A.length+L.length)-(A.length+k)/\d+(A.length+L.length)-(A.length+k)<A.length+L.length+R.length then symM lt f (A++(C++(L.drop k++(R.drop q++Z)))) d (d+(A.length+L.length)-(A.length+k)) (A.length+L.length+R.length) else some (A++(C++(L.drop k++(R.drop q++Z)))))=some (A++(C++(V++Z)))/\V.Perm (L.drop k++R.drop q)/\V.Pairwise fun a b=>rk a<=rk b:=by
   split
   ·have⟨B,T,q2,q3⟩:=aX f (A++C) (L.drop k) (R.drop q) Z (by omega) (by omega) (by omega) O.2.1 P.2.1;rw[Ld,a2,ao,aE,show A.length+(k+q)=d by omega,show d+(L.length-k)=d+(A.length+L.length)-(A.length+k) by omega,show d+(A.length+L.length)-(A.length+k)+(R.length-q)=A.length+L.length+R.length by omega,Lq,Lq] at T;exact⟨B,T,q2,q3⟩
   refine⟨L.drop k++R.drop q,by simp,.refl _,Nz.2 ⟨O.2.1,P.2.1,fun a m b j=> ?_⟩⟩;rcases LY k L.length with u |u
   ·rw[Nt (by omega:R.length<=q)] at j;cases j
   rw[Nt u] at m;cases m
  refine⟨C++V,by rw[a3,Lq],?_,Nz.2 ⟨o1,o2,fun a m b j=> ?_⟩⟩
  ·refine(p1.append p2).trans ?_;have e:(L.take k++R.take q++(L.drop k++R.drop q)).Perm (L.take k++L.drop k++(R.take q++R.drop q)):=by
    rw[Lq,Lq];refine O1 _ ?_;rw[<-Lq,<-Lq];exact List.Perm.append_right _ O0
   rw[LK,LK] at e;exact e
  rcases Ly.1 (p1.mem_iff.1 m) with m |m<;>rcases Ly.1 (p2.mem_iff.1 j) with j |j
  ·exact O.2.2 a m b j
  ·exact c1 a m b j
  ·exact c2 a m b j
  exact P.2.2 a m b j
end
end Go.Proofs.YtnmkbmefohakmaaGreat.Ab
