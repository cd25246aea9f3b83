/-
 The stable sort told plainly: what comes out is in order, and the same. No program in sight.
-/
import Derived.Test.YtnmkbmefohakmaaGreatSkd
import Derived.Test.YtnmkbmefohakmaaGreatSkx
set_option linter.all false
namespace Go.Proofs.YtnmkbmefohakmaaGreat.Ab
open Go.RowKit
inductive X4 (D:AB->List AB):AB->AB->Prop
 |refl (r:AB):X4 D r r
 |step {r d e:AB} (h:d∈D r) (h2:X4 D d e):X4 D r e
theorem VT {r:AB}{N:List PN}:(Cp r N).isSome=true↔r∈N.map (·.k):=by
 constructor
 ·intro h;obtain⟨p,hp⟩:=NH.1 h;obtain⟨h1,h2⟩:=Iw hp;exact LQ.2 ⟨p,h1,h2⟩
 intro h;obtain⟨p,hp⟩:=JJ h;rw[hp];rfl
theorem lN {α:Type}[DecidableEq α](g:α->Nat)(p:α->Bool)(r:α):∀ {U:List α},U.Nodup->r∈U->p r=true->((U.filter fun x=>p x&&decide (x≠r)).map g).sum+g r=((U.filter p).map g).sum
 |[],_,h,_=>by cases h
 |x::l,hn,h,hp=>by
  rw[Ng] at hn;by_cases e:x=r
  ·grind [decide,List.filter_congr]
  have h2:r∈l:=by
   rcases Lm.1 h with h |h
   ·exact absurd h.symm e
   exact h
  have ih:=lN g p r hn.2 h2 hp;grind
def MS (D:AB->List AB)(U:List AB)(N:List PN):Nat:=((U.filter fun r=>decide (r∉N.map (·.k))).map fun r=>(D r).length).sum
theorem X5 {α:Type}[DecidableEq α]:∀ {l U:List α},l.Nodup->(∀x∈l,x∈U)->l.length<=U.length
 |[],_,_,_=>Ll _
 |x::l,U,hn,h=>by
  rw[Ng] at hn;have h1:x∈U:=h x (Lo ..);have h2:=X5 (l:=l) (U:=U.erase x) hn.2 fun y hy=>(OX fun e=>hn.1 (by rw[<-e];exact hy)).2 (h y (Lh _ hy));grind
section
variable {nd:AB->Option (Int × List AB)}{D:AB->List AB}{rk:AB->Int}{U:List AB}
def mkP (rk:AB->Int)(D:AB->List AB)(r:AB):PN:=⟨r,rk r,D r,[],false⟩
theorem X6 (hU:U.Nodup)(hl:U.length<4294967296)(hnd:∀r∈U,nd r=some (rk r,D r))(hD:∀r∈U,∀d∈D r,d∈U):∀(f:Nat) (ks w:List AB),ks.Nodup->(∀r∈ks,r∈U)->(∀r∈w,r∈U)->w.length+MS D U (ks.map (mkP rk D))<f->w.length+MS D U (ks.map (mkP rk D))<=4294967296->
  ∃rs:List AB,Hk nd f (ks.map (mkP rk D)) w=some (rs.map (mkP rk D))/\rs.Nodup/\(∀r∈rs,r∈U)/\(∀r∈ks,r∈rs)/\(∀r∈w,r∈rs)/\((∀r∈ks,∀d∈D r,d∈ks\/d∈w)->∀r∈rs,∀d∈D r,d∈rs)/\∀r∈rs,r∈ks\/∃r0∈w,X4 D r0 r
 |0,_,_,_,_,_,h,_=>absurd h (LK _)
 |f+1,ks,[],hn,hk,_,_,_=>⟨ks,rfl,hn,hk,(fun _ h=>h),(fun _ h=>nomatch h),(fun h r hr d hd=>(h r hr d hd).elim id fun h=>nomatch h),fun r h=>.inl h⟩
 |f+1,ks,r::w,hn,hk,hw,hf,hb=>by
  have hkk:(ks.map (mkP rk D)).map (·.k)=ks:=by simp[mkP,NM]
  by_cases hr:r∈ks
  ·have h1:(Cp r (ks.map (mkP rk D))).isSome=true:=VT.2 (by rw[hkk];exact hr);simp only[Lg] at hf hb;obtain⟨rs,e1,e2,e3,e4,e5,e6,e7⟩:=X6 hU hl hnd hD f ks w hn hk (fun x hx=>hw x (Lh _ hx)) (by omega) (by omega);refine⟨rs,?_,e2,e3,e4,fun x hx=> ?_,fun h=>e6 fun x hx d hd=> ?_,fun x hx=> ?_⟩
   ·unfold Hk;rw[if_pos h1,e1]
   ·rcases Lm.1 hx with rfl |hx
    ·exact e4 x hr
    exact e5 x hx
   ·rcases h x hx d hd with h |h
    ·exact .inl h
    rcases Lm.1 h with rfl |h
    ·exact .inl hr
    exact .inr h
   rcases e7 x hx with h |⟨r0,h,h2⟩
   ·exact .inl h
   exact .inr ⟨r0,Lh _ h,h2⟩
  have h1:¬(Cp r (ks.map (mkP rk D))).isSome=true:=fun h=>hr (by have:=VT.1 h;rw[hkk] at this;exact this);have hrU:=hw r (Lo ..);have hn2:(ks++[r]).Nodup:=BI.2 ⟨hn,Ng.2 ⟨LT,NZ⟩,fun a ha b hb e=>hr (by rw[<-Ln.1 hb,<-e];exact ha)⟩;have hun:MS D U ((ks++[r]).map (mkP rk D))+(D r).length=MS D U (ks.map (mkP rk D)):=by
   unfold MS;have h2:((ks++[r]).map (mkP rk D)).map (·.k)=ks++[r]:=(by simp[mkP,NM]);rw[hkk,h2,<-lN (fun r=>(D r).length) (fun x=>decide (x∉ks)) r hU hrU (by simpa using hr)];congr 4;funext x;simp[Bool.and_comm]
  have hlen:ks.length<4294967296:=BG (X5 hn hk) hl;simp only[Lg] at hf hb;obtain⟨rs,e1,e2,e3,e4,e5,e6,e7⟩:=X6 hU hl hnd hD f (ks++[r]) ((D r).reverse++w) hn2 (fun x hx=>by
   rcases Ls.1 hx with h |h
   ·exact hk x h
   ·rw[Ln.1 h];exact hrU) (fun x hx=>by
   rcases Ls.1 hx with h |h
   ·exact hD r hrU x (OB.1 h)
   exact hw x (Lh _ h)) (by rw[Lf,Bh];omega) (by rw[Lf,Bh];omega)
  refine⟨rs,?_,e2,e3,fun x hx=>e4 x (LS _ hx),fun x hx=> ?_,fun h=>e6 fun x hx d hd=> ?_,fun x hx=> ?_⟩
  ·unfold Hk;rw[if_neg h1,hnd r hrU,Zo,if_pos ⟨by simp only;omega,by rw[LC];exact hlen⟩];rw[Na] at e1;exact e1
  ·rcases Lm.1 hx with rfl |hx
   ·exact e4 x (LZ _ (Ln.2 rfl))
   exact e5 x (LZ _ hx)
  ·rcases Ls.1 hx with hx |hx
   ·rcases h x hx d hd with h |h
    ·exact .inl (LS _ h)
    rcases Lm.1 h with rfl |h
    ·exact .inl (LZ _ (Ln.2 rfl))
    exact .inr (LZ _ h)
   rw[Ln.1 hx] at hd;exact .inr (LS _ (OB.2 hd))
  rcases e7 x hx with h |⟨r0,h,h2⟩
  ·rcases Ls.1 h with h |h
   ·exact .inl h
   rw[Ln.1 h];exact .inr ⟨r,Lo ..,.refl r⟩
  rcases Ls.1 h with h |h
  ·exact .inr ⟨r,Lo ..,.step (OB.1 h) h2⟩
  exact .inr ⟨r0,Lh _ h,h2⟩
end
def addL (f:AB->List AB)(N:List PN):List PN:=N.map fun p=>{ p with above:=p.above++f p.k }
theorem lO (N:List PN):addL (fun _=>[]) N=N:=by
 unfold addL;simp
theorem lP (f g:AB->List AB)(N:List PN):addL g (addL f N)=addL (fun x=>f x++g x) N:=by
 unfold addL;simp
theorem lQ {f g:AB->List AB}(N:List PN)(h:∀x,f x=g x):addL f N=addL g N:=by rw[show f=g from funext h]
theorem X7 (f:AB->List AB)(N:List PN):(addL f N).map (·.k)=N.map (·.k):=by simp[addL,NM]
theorem lR (d r:AB)(N:List PN):PQ d r N=addL (fun x=>if d==x then[r] else[]) N:=by
 unfold PQ addL;refine Ni fun p _=> ?_;by_cases h:(d==p.k)=true
 ·simp[h]
 simp[h]
theorem lS (r:AB):∀(l:List AB) (N:List PN),(∀d∈l,d∈N.map (·.k))->(∀p∈N,p.above.length+l.length<=4294967296)->GL r l N=some (addL (fun x=>(l.filter (· ==x)).map fun _=>r) N)
 |[],N,_,_=>by
  exact congrArg some ((lQ N (g:=fun _=>[]) fun x=>rfl).trans (lO N)).symm
 |d::l,N,hk,hb=>by
  obtain⟨p,hp⟩:=JJ (hk d (Lo ..));have hpm:=(Iw hp).1;have hb2:=hb p hpm;simp only[Lg] at hb2 hb;unfold GL;rw[hp,Zo,ifp,lS r l _ (by rw[uw];grind) fun p2 hp2=>by
   rw[lR] at hp2;obtain⟨p3,h3,rfl⟩:=LQ.1 hp2;grind]
  rw[lR,lP];grind
def zy_ (D:AB->List AB)(l:List AB)(x:AB):List AB:=l.flatMap fun r=>((D r).filter (· ==x)).map fun _=>r
theorem lU {D:AB->List AB}{l:List AB}{x r:AB}:r∈zy_ D l x↔r∈l/\x∈D r:=by
 unfold zy_;simp
def total (D:AB->List AB)(l:List AB):Nat:=(l.map fun r=>(D r).length).sum
theorem cE (D:AB->List AB):∀(l:List AB) (N:List PN),(∀r∈l,r∈N.map (·.k))->(∀p∈N,p.deps=D p.k/\∀d∈D p.k,d∈N.map (·.k))->(∀p∈N,p.above.length+total D l<=4294967296)->E9 l N=some (addL (zy_ D l) N)
 |[],N,_,_,_=>by
  exact congrArg some ((lQ N (g:=fun _=>[]) fun x=>rfl).trans (lO N)).symm
 |r::l,N,hk,hd,hb=>by
  obtain⟨p,hp⟩:=JJ (hk r (Lo ..));obtain⟨hpm,hpk⟩:=Iw hp;obtain⟨e1,e2⟩:=hd p hpm;rw[hpk] at e1 e2;have ht:total D (r::l)=(D r).length+total D l:=by simp[total]
  have hb2:=hb p hpm;unfold E9;rw[hp,Zo,if_pos (by rw[e1];omega),e1,lS r (D r) N e2 fun q hq=>by have:=hb q hq;omega,Zo,cE D l _ (by rw[X7];grind) (fun q hq=> ?_) fun q hq=> ?_]
  ·rw[lP];rfl
  ·obtain⟨q0,h0,rfl⟩:=LQ.1 hq;rw[X7];exact hd q0 h0
  obtain⟨q0,h0,rfl⟩:=LQ.1 hq;grind
def Er (S:AB->Bool)(P:List PN):List PN:=P.map fun p=>{ p with is:=S p.k }
theorem RD (S:AB->Bool)(r:AB):∀P:List PN,Cp r (Er S P)=(Cp r P).map fun p=>{ p with is:=S p.k }
 |[]=>rfl
 |p::l=>by
  have ih:=RD S r l;grind [Cp,Er]
theorem lV (S:AB->Bool)(d:AB)(P:List PN):Hm d (Er S P)=Er (fun x=>S x||d==x) P:=by
 unfold Hm Er;rw[N8];refine Ni fun p _=> ?_;grind
structure FA (K:List AB) (D:AB->List AB) (rk:AB->Int) (nwB:(AB->Bool)->AB->Bool):Prop where
 loc:∀S T r,r∈K->(∀d∈D r,S d=T d)->nwB S r=nwB T r
 mono:∀S T r,r∈K->(∀d∈D r,rk d<rk r->S d=T d)->(∀d∈D r,rk d=rk r->S d=true->T d=true)->nwB S r=true->nwB T r=true
 rkD:∀r∈K,∀d∈D r,rk d<=rk r
 DK:∀r∈K,∀d∈D r,d∈K
structure FV (K:List AB) (rk:AB->Int) (nwB:(AB->Bool)->AB->Bool) (S:AB->Bool) (done w:List AB) (k:Int):Prop where
 a:∀r∈K,S r=true->nwB S r=true
 b:∀r∈done,nwB S r=true->S r=true\/(r∈w/\rk r=k)
 c:∀r∈K,S r=true->rk r<=k
 d:∀(j:Int) (T:AB->Bool),(∀r∈K,rk r<j->T r=S r)->(∀r∈K,rk r=j->nwB T r=true->T r=true)->∀r∈K,rk r=j->S r=true->T r=true
 e:∀r∈done,r∈K/\rk r<=k
section
variable {K:List AB}{D:AB->List AB}{rk:AB->Int}{nwB:(AB->Bool)->AB->Bool}{S:AB->Bool}{done w:List AB}{k:Int}
theorem FV.pop (_:FA K D rk nwB){r:AB}(h:FV K rk nwB S done (r::w) k)(h2:rk r≠k\/S r=true\/nwB S r=false):FV K rk nwB S done w k:=
 ⟨h.a,fun x hx hn=>by
  rcases h.b x hx hn with h3 |⟨h3,h4⟩
  ·exact .inl h3
  grind,h.c,h.d,h.e⟩
theorem FV.set (hN:FA K D rk nwB){r:AB}{ab:List AB}(h:FV K rk nwB S done (r::w) k)(hr:r∈K)(hk:rk r=k)(hn:nwB S r=true)(hab:∀x,x∈K->r∈D x->x∈ab):FV K rk nwB (fun x=>S x||r==x) done (ab.reverse++w) k where
 a:=fun x hx hs=>by
  have h1:nwB S x=true/\rk x<=k:=by
   simp only[LP] at hs;rcases hs with hs |hs
   ·exact⟨h.a x hx hs,h.c x hx hs⟩
   grind
  refine hN.mono S _ x hx (fun d hd hlt=> ?_) (fun d hd he hs=>by simp[hs]) h1.1
  have:(r==d)=false:=by
   rw[beq_eq_false_iff_ne];intro e;subst e;omega
  simp[this]
 b:=fun x hx hs=>by
  obtain⟨hxK,hxk⟩:=h.e x hx;by_cases hrx:r∈D x
  ·have h1:=hab x hxK hrx;have h2:=hN.rkD x hxK r hrx;grind
  rw[<-hN.loc S _ x hxK fun d hd=>by
   have:(r==d)=false:=by
    rw[beq_eq_false_iff_ne];intro e;subst e;exact hrx hd
   simp[this]] at hs
  rcases h.b x hx hs with h3 |⟨h3,h4⟩
  ·exact .inl (by simp[h3])
  grind
 c:=fun x hx hs=>by
  simp only[LP] at hs;rcases hs with hs |hs
  ·exact h.c x hx hs
  rw[<-eq_of_beq hs];omega
 d:=fun j T h1 h2 x hx hj hs=>by
  have h3:∀y∈K,rk y<j->rk y<k\/k<j:=fun y _ hy=>by omega
  by_cases hjk:k<j
  ·simp only[LP] at hs;rcases hs with hs |hs
   ·have:=h.c x hx hs;omega
   grind
  have h4:∀y∈K,rk y<j->T y=S y:=fun y hy hlt=>by
   rw[h1 y hy hlt]
   have:(r==y)=false:=by
    rw[beq_eq_false_iff_ne];intro e;subst e;omega
   simp[this]
  simp only[LP] at hs;rcases hs with hs |hs
  ·exact h.d j T h4 h2 x hx hj hs
  have:=eq_of_beq hs;subst this;refine h2 r hr hj (hN.mono S T r hr (fun d hd hlt=>(h4 d (hN.DK r hr d hd) (by omega)).symm) (fun d hd he hs=> ?_) hn);exact h.d j T h4 h2 d (hN.DK r hr d hd) (by omega) hs
 e:=h.e
def Ds (P:List PN)(S:AB->Bool):Nat:=((P.filter fun p=> !S p.k).map fun p=>p.above.length).sum
theorem lW {P:List PN}(hn:(P.map (·.k)).Nodup){p:PN}(hp:p∈P)(hs:S p.k=false):Ds P (fun x=>S x||p.k==x)+p.above.length=Ds P S:=by
 unfold Ds;induction P with
 |nil=>cases hp
 |cons q l ih=>
  rw[Lk,Ng] at hn;rcases Lm.1 hp with rfl |hp
  ·grind [List.filter_congr,beq_eq_false_iff_ne,List.mem_map_of_mem]
  grind
theorem VU {nw:List PN->AB->Option Bool}{P:List PN}(hN:FA (P.map (·.k)) D rk nwB)(hnd:(P.map (·.k)).Nodup)(hP:∀p∈P,p.rank=rk p.k/\∀x,x∈p.above↔x∈P.map (·.k)/\p.k∈D x)(hnw:∀S r,r∈P.map (·.k)->nw (Er S P) r=some (nwB S r)):
  ∀(f:Nat) (S:AB->Bool) (w:List AB),(∀r∈w,r∈P.map (·.k))->w.length+Ds P S<f->w.length+Ds P S<=4294967296->FV (P.map (·.k)) rk nwB S done w k->∃S',JI nw k f (Er S P) w=some (Er S' P)/\FV (P.map (·.k)) rk nwB S' done [] k/\Ds P S'<=Ds P S
 |0,_,_,_,h,_,_=>absurd h (LK _)
 |f+1,S,[],_,_,_,hi=>⟨S,rfl,hi,Lc _⟩
 |f+1,S,r::w,hw,hf,hb,hi=>by
  have hrK:=hw r (Lo ..);obtain⟨p,hp⟩:=JJ hrK;obtain⟨hpm,hpk⟩:=Iw hp;obtain⟨hr,hab⟩:=hP p hpm;simp only[Lg] at hf hb;have hw2:∀x∈w,x∈P.map (·.k):=fun x hx=>hw x (Lh _ hx);have e0:Cp r (Er S P)=some { p with is:=S p.k }:=by rw[RD,hp];rfl
  unfold JI;rw[e0,Zo];by_cases hk:rk r=k
  ·have h1:(p.rank != k)=false:=(by rw[hr,hpk,hk];simp);simp only[h1,Nl,if_false];cases hs:S p.k with
   |true=>
    rw[if_pos rfl];obtain⟨S',q1,q2,q3⟩:=VU hN hnd hP hnw f S w hw2 (by omega) (by omega) (hi.pop hN (.inr (.inl (hpk▸hs))));exact⟨S',q1,q2,q3⟩
   |false=>
    rw[if_neg (by simp),hnw S r hrK,Zo];cases hnb:nwB S r with
    |false=>
     rw[if_neg (by simp)];exact VU hN hnd hP hnw f S w hw2 (by omega) (by omega) (hi.pop hN (.inr (.inr hnb)))
    |true=>
     rw[if_pos rfl];have ho:=lW hnd hpm hs;rw[if_pos (show w.length+p.above.length<=4294967296 by omega),lV];rw[hpk] at ho hab;obtain⟨S',q1,q2,q3⟩:=VU hN hnd hP hnw f (fun x=>S x||r==x) (p.above.reverse++w) (fun x hx=>by
      grind) (by grind) (by grind) (hi.set hN hrK hk hnb fun x h1 h2=>(hab x).2 ⟨h1,h2⟩)
     exact⟨S',q1,q2,by omega⟩
  have h1:(p.rank != k)=true:=by rw[hr,hpk];simpa using hk
  simp only[h1,if_true];exact VU hN hnd hP hnw f S w hw2 (by omega) (by omega) (hi.pop hN (.inl hk))
theorem lX {nw:List PN->AB->Option Bool}{P:List PN}{f:Nat}(hN:FA (P.map (·.k)) D rk nwB)(hnd:(P.map (·.k)).Nodup)(hP:∀p∈P,p.rank=rk p.k/\∀x,x∈p.above↔x∈P.map (·.k)/\p.k∈D x)(hnw:∀S r,r∈P.map (·.k)->nw (Er S P) r=some (nwB S r)):
  ∀(l:List AB) (S:AB->Bool) (done:List AB) (k:Int),(∀r∈l,r∈P.map (·.k)/\k<=rk r)->(l.Pairwise fun a b=>rk a<=rk b)->1+Ds P S<f->1+Ds P S<=4294967296->FV (P.map (·.k)) rk nwB S done [] k->∃S' k',Kh nw f l (Er S P)=some (Er S' P)/\FV (P.map (·.k)) rk nwB S' (done++l) [] k'
 |[],S,done,k,_,_,_,_,hi=>⟨S,k,rfl,by rw[LY];exact hi⟩
 |r::l,S,done,k,hl,hp,hf,hb,hi=>by
  obtain⟨hrK,hrk⟩:=hl r (Lo ..);rw[Ot] at hp;obtain⟨p,hpf⟩:=JJ hrK;obtain⟨hpm,hpk⟩:=Iw hpf;have hr:=(hP p hpm).1;rw[hpk] at hr;have hi2:FV (P.map (·.k)) rk nwB S (done++[r]) [r] (rk r):=
   {
    a:=hi.a
    b:=fun x hx hn=>by
     rcases Ls.1 hx with h |h
     ·rcases hi.b x h hn with h |⟨h,_⟩
      ·exact .inl h
      cases h
     grind
    c:=fun x hx hs=>by have:=hi.c x hx hs;omega
    d:=hi.d
    e:=fun x hx=>by
     rcases Ls.1 hx with h |h
     ·obtain⟨h1,h2⟩:=hi.e x h;exact⟨h1,by omega⟩
     grind }
  obtain⟨S',q1,q2,q3⟩:=VU hN hnd hP hnw f S [r] (fun x hx=>by rw[Ln.1 hx];exact hrK) (by omega) (by omega) hi2;obtain⟨S2,k2,q4,q5⟩:=lX hN hnd hP hnw l S' (done++[r]) (rk r) (fun x hx=>⟨(hl x (Lh _ hx)).1,hp.1 x hx⟩) hp.2 (f:=f) (by omega) (by omega) q2;refine⟨S2,k2,?_,by rw[Lq] at q5;exact q5⟩;unfold Kh;rw[RD,hpf,LO,Zo];grind
end
theorem lY {α:Type}(rk:α->Int)(x y:α):GK (fun a b=>GJ (rk a) (rk b)) x y=decide (rk x<rk y):=by
 unfold GK GJ;grind
theorem cF {D:AB->List AB}:∀ {l U:List AB},l.Nodup->(∀r∈l,r∈U)->total D l<=total D U
 |[],_,_,_=>Ll _
 |x::l,U,h1,h2=>by
  rw[Ng] at h1;have hx:=h2 x (Lo ..);have h3:=cF (D:=D) (l:=l) (U:=U.erase x) h1.2 fun r hr=>(OX fun e=>h1.1 (by rw[<-e];exact hr)).2 (h2 r (Lh _ hr));grind [total,List.perm_cons_erase]
structure DP (K:List AB) (rk:AB->Int) (nwB:(AB->Bool)->AB->Bool) (S:AB->Bool):Prop where
 fix:∀r∈K,S r=nwB S r
 low:∀(j:Int) (T:AB->Bool),(∀r∈K,rk r<j->T r=S r)->(∀r∈K,rk r=j->nwB T r=true->T r=true)->∀r∈K,rk r=j->S r=true->T r=true
theorem cG {D:AB->List AB}:∀ {l K:List AB},K.Nodup->(K.map fun x=>(zy_ D l x).length).sum<=total D l
 |[],K,_=>by
  simp only[zy_,In,LB,total]
  have:∀K:List AB,(K.map fun _=>0).sum=0:=fun K=>by
   induction K with |nil=>rfl |cons x l ih=>simpa using ih
  rw[this];exact Ll _
 |r::l,K,hn=>by
  have ih:=cG (D:=D) (l:=l) hn;have h1:∀(ds:List AB) (K:List AB),K.Nodup->(K.map fun x=>(ds.filter (· ==x)).length).sum<=ds.length:=fun ds=>by
   induction ds with
   |nil=>
    intro K _;simp only[List.filter_nil,LB]
    have:∀K:List AB,(K.map fun _=>0).sum=0:=fun K=>by
     induction K with |nil=>rfl |cons x l ih=>simpa using ih
    rw[this];exact Ll _
   |cons d ds ih=>
    intro K hK;have h2:=ih K hK;have h3:∀K:List AB,K.Nodup->(K.map fun x=>((d::ds).filter (· ==x)).length).sum<=(K.map fun x=>(ds.filter (· ==x)).length).sum+1:=fun K=>by
     induction K with
     |nil=>intro _;simp
     |cons x K ihK=>
      intro hK;rw[Ng] at hK;simp only[Lk,BV];by_cases e:(d==x)=true
      ·have h4:(K.map fun x=>((d::ds).filter (· ==x)).length)=K.map fun x=>(ds.filter (· ==x)).length:=Ni fun y hy=>by
        grind
       grind
      grind
    grind
  have h5:=h1 (D r) K hn;have h6:∀K:List AB,(K.map fun x=>(zy_ D (r::l) x).length).sum=(K.map fun x=>((D r).filter (· ==x)).length).sum+(K.map fun x=>(zy_ D l x).length).sum:=fun K=>by
   induction K with
   |nil=>rfl
   |cons x K ih=>
    grind [zy_]
  rw[h6];simp only[total,Lk,BV] at ih⊢;omega
theorem PS {α:Type}{A B:List α}{x:α}{k:Nat}(h:k=A.length):(A++x::B)[k]? =some x:=by
 grind
theorem PT {α:Type}{A B:List α}{x y:α}{k:Nat}(h:k=A.length):(A++x::B).set k y=A++y::B:=by
 simp_all
theorem YB {α:Type}:∀(n i:Nat) (A Y1 X2 M X1 Y2 Z:List α),X2.length=n->Y2.length=n->Y1.length=i->X1.length=i->Eh A.length (A.length+i+n+M.length) n (A++(Y1++X2)++M++(X1++Y2)++Z) i=some (A++(Y1++Y2)++M++(X1++X2)++Z)
 |0,i,A,Y1,X2,M,X1,Y2,Z,h1,h2,_,_=>by
  rw[N6.1 h1,N6.1 h2];rfl
 |n+1,i,A,Y1,x::X2,M,X1,y::Y2,Z,h1,h2,h3,h4=>by
  have e0:A++(Y1++x::X2)++M++(X1++y::Y2)++Z=(A++Y1)++x::(X2++M++X1++y::(Y2++Z)):=by simp
  have e1:(A++Y1)++x::(X2++M++X1++y::(Y2++Z))=((A++Y1)++x::(X2++M++X1))++y::(Y2++Z):=by simp
  have e2:(A++Y1)++y::(X2++M++X1++y::(Y2++Z))=((A++Y1)++y::(X2++M++X1))++y::(Y2++Z):=by simp
  simp only[Lg] at h1 h2;unfold Eh;rw[show A.length+i+(n+1)+M.length+i=(((A++Y1)++x::(X2++M++X1)):List α).length by simp;omega,e0,e1,PS rfl,Zo,<-e1,PS (show A.length+i=(A++Y1).length by simp;omega),Zo,PT (show A.length+i=(A++Y1).length by simp;omega),e2,PT (by simp)];have ih:=YB n (i+1) A (Y1++[y]) X2 M (X1++[x]) Y2 Z (by omega) (by omega) (by simp;omega) (by simp;omega);grind
theorem cK {α:Type}:∀(f:Nat) (A L R Z:List α),L.length+R.length<f->0<L.length->0<R.length->Ei (A.length+L.length) f (A++L++R++Z) L.length R.length=some (A++R++L++Z)
 |0,_,_,_,_,h,_,_=>absurd h (LK _)
 |f+1,A,L,R,Z,hf,hL,hR=>by
  unfold Ei;rw[ifp];by_cases h1:L.length=R.length
  ·rw[if_pos h1]
   have:=YB L.length 0 A [] L [] [] R Z rfl h1.symm rfl rfl;grind
  rw[if_neg h1];by_cases h2:R.length<L.length
  ·rw[if_pos h2];obtain⟨L1,L2,rfl,hL1⟩:∃L1 L2,L=L1++L2/\L1.length=R.length:=⟨L.take R.length,L.drop R.length,(LM _ _).symm,by rw[Lw];omega⟩;rw[Lf] at hf hL h2 h1⊢;have hs:=YB R.length 0 A [] L1 L2 [] R Z hL1 rfl rfl rfl;simp only[LE,NS] at hs;have ih:=cK f (A++R) L2 L1 Z (by omega) (by omega) (by omega);grind
  rw[if_neg h2];obtain⟨R1,R2,rfl,hR2⟩:∃R1 R2,R=R1++R2/\R2.length=L.length:=⟨R.take (R.length-L.length),R.drop (R.length-L.length),(LM _ _).symm,by rw[Nv];omega⟩;rw[Lf] at hf hR h2 h1⊢;have hs:=YB L.length 0 A [] L R1 [] R2 Z rfl hR2 rfl rfl;simp only[LE,NS] at hs;have ih:=cK f A R2 R1 (L++Z) (by omega) (by omega) (by omega);grind
theorem VV {p:Nat->Option Bool}:∀(f i j:Nat),j-i<f->i<=j->(∀k,i<=k->k<j->∃b,p k=some b)->∃r,HK p f i j=some r/\i<=r/\r<=j/\(r=i\/p (r-1)=some true)/\(r=j\/p r=some false)
 |0,_,_,h,_,_=>absurd h (LK _)
 |f+1,i,j,hf,hij,hp=>by
  unfold HK;by_cases h:i<j
  ·obtain⟨b,hb⟩:=hp ((i+j) / 2) (by omega) (by omega);rw[if_pos h,hb,Zo];cases b with
   |true=>
    rw[if_pos rfl];obtain⟨r,h1,h2,h3,h4,h5⟩:=VV f ((i+j) / 2+1) j (by omega) (by omega) fun k hk=>hp k (by omega);refine⟨r,h1,by omega,h3,.inr ?_,h5⟩;grind
   |false=>
    rw[if_neg (by decide)];obtain⟨r,h1,h2,h3,h4,h5⟩:=VV f i ((i+j) / 2) (by omega) (by omega) fun k hk hk2=>hp k hk (by omega);grind
  grind
theorem li {α:Type}{x:α}:∀(R A C:List α),MT R.length (A++x::(R++C)) A.length=some (A++(R++x::C))
 |[],_,_=>rfl
 |y::R,A,C=>by
  have ih:=li (x:=x) R (A++[y]) C;rw[Lf,Lr] at ih;have e1:A++x::(y::R++C)=(A++[x])++y::(R++C):=by simp
  show MT (R.length+1) _ _=_;unfold MT;rw[e1,PS (by simp),Zo,<-e1,PS rfl,Zo,PT rfl,show A++y::(y::R++C)=(A++[y])++y::(R++C) by simp,PT (by simp),ih];simp
theorem lj {α:Type}{y:α}:∀(n:Nat) (R A C:List α),R.length=n->MU n (A++(R++y::C)) (A.length+n)=some (A++y::(R++C))
 |0,R,A,C,h=>by
  rw[N6.1 h];rfl
 |n+1,R,A,C,h=>by
  obtain⟨R',x,rfl⟩:∃R' x,R=R'++[x]:=⟨R.dropLast,R.getLast (fun e=>by rw[e] at h;cases h),(Bi _).symm⟩;have hn:R'.length=n:=by simpa using h
  have ih:=lj (y:=y) n R' A (x::C) hn;show MU (n+1) _ (A.length+n+1)=_;unfold MU;have e1:A++(R'++[x]++y::C)=(A++R')++x::(y::C):=by simp
  have e2:(A++R')++x::(y::C)=(A++R'++[x])++y::C:=by simp
  have e3:(A++R'++[x])++x::C=(A++R')++x::(x::C):=by simp
  rw[e1,PS (by simp[hn]),Zo,e2,PS (by simp[hn];omega),Zo,PT (by simp[hn];omega),e3,PT (by simp[hn]),show A++R'++y::x::C=A++(R'++y::x::C) by simp,ih];simp
theorem ll {α:Type}{A L C:List α}{k:Nat}(h:k<L.length):(A++(L++C))[A.length+k]? =some L[k]:=by
 grind
section
variable {α:Type}{rk:α->Int}{lt:α->α->Bool}(hlt:∀x y,lt x y=decide (rk x<rk y))
theorem S3 {L R:List α}{k k':Nat}(hL:L.Pairwise fun a b=>rk a<=rk b)(hR:R.Pairwise fun a b=>rk a<=rk b)(hk:k<=L.length)(h:∀(h1:0<k) (h3:k'<R.length),rk (L[k-1]'(by omega))<=rk R[k']):∀a∈L.take k,∀b∈R.drop k',rk a<=rk b:=by
 intro a ha b hb;obtain⟨i,hi,rfl⟩:=List.mem_take_iff_getElem.1 ha;obtain⟨j,hj,rfl⟩:=List.mem_drop_iff_getElem.1 hb;have h1:=h (by omega) (by omega);have h2:rk (L[i]'(by omega))<=rk (L[k-1]'(by omega)):=by
  rcases Nf i (k-1) with h3 |h3
  ·exact B0.1 hL i (k-1) _ _ h3
  grind
 have h4:rk (R[k']'(by omega))<=rk (R[k'+j]'(by omega)):=by
  rcases BF j with h3 |h3
  ·subst h3;exact Bu _
  exact B0.1 hR k' (k'+j) _ _ (by omega)
 omega
include hlt in
theorem YC:∀(f:Nat) (A L R Z:List α),L.length+R.length<=f->0<L.length->0<R.length->(L.Pairwise fun a b=>rk a<=rk b)->(R.Pairwise fun a b=>rk a<=rk b)->∃B,symM lt f (A++(L++(R++Z))) A.length (A.length+L.length) (A.length+L.length+R.length)=some (A++(B++Z))/\B.Perm (L++R)/\B.Pairwise fun a b=>rk a<=rk b
 |0,_,_,_,_,h,h1,_,_,_=>by omega
 |f+1,A,L,R,Z,hf,hL0,hR0,hL,hR=>by
  obtain⟨xs,hxs⟩:∃xs,xs=A++(L++(R++Z)):=⟨_,rfl⟩;have hlen:xs.length=A.length+L.length+R.length+Z.length:=by rw[hxs];simp;omega
  have gL:∀k (h:k<L.length),xs[A.length+k]? =some L[k]:=fun k h=>by rw[hxs];exact ll h
  have gR:∀k (h:k<R.length),xs[A.length+L.length+k]? =some R[k]:=fun k h=>by
   rw[hxs,show A++(L++(R++Z))=(A++L)++(R++Z) by simp,show A.length+L.length+k=(A++L).length+k by simp];exact ll h
  rw[<-hxs];unfold symM;rw[if_pos ⟨by omega,by omega,by omega⟩];by_cases h1:L.length=1
  ·rw[ifp];obtain⟨i,b1,b2,b3,b4,b5⟩:=VV (p:=fun h=>(xs[h]?).bind fun x=>(xs[A.length]?).map fun y=>lt x y) (xs.length+1) (A.length+L.length) (A.length+L.length+R.length) (by omega) (by omega) fun k hk hk2=>by
    have e1:=gR (k-(A.length+L.length)) (by omega);rw[show A.length+L.length+(k-(A.length+L.length))=k by omega] at e1;have e2:xs[A.length]? =some _:=gL 0 hL0;exact⟨lt R[k-(A.length+L.length)] L[0],by rw[e1,Zo,e2];rfl⟩
   rw[b1,Zo];obtain⟨k,rfl⟩:∃k,i=A.length+L.length+k:=⟨i-(A.length+L.length),by omega⟩;obtain⟨x,rfl⟩:∃x,L= [x]:=OI.1 h1;refine⟨R.take k++x::R.drop k,?_,?_,?_⟩
   ·have hk:(R.take k).length=k:=by rw[Lw];omega
    have:=li (x:=x) (R.take k) A (R.drop k++Z);rw[hk] at this;rw[hxs,show A.length+[x].length+k-1-A.length=k by simp,show A++([x]++(R++Z))=A++x::(R.take k++(R.drop k++Z)) by rw[<-Lq (R.take k),LM];rfl,this];simp
   ·refine Ip.trans ?_;rw[LM];exact .refl _
   have hx:∀b∈R.drop k,rk x<=rk b:=fun b hb=>S3 (k:=1) (k':=k) hL hR (by simp) (fun _ h3=>by
    rcases b5 with b5 |b5
    ·omega
    have e1:=gR k h3;have e2:xs[A.length]? =some _:=gL 0 hL0;rw[e1,Zo,e2] at b5;have b6:=LI b5;dsimp only at b6;rw[hlt] at b6
    have:=of_decide_eq_false b6;show rk x<=rk R[k];have e3:([x]:List α)[0]=x:=rfl;rw[e3] at this;omega) x (by simp) b hb
   have hy:∀a∈R.take k,rk a<=rk x:=fun a ha=>S3 (k:=k) (k':=0) hR hL (by omega) (fun h0 _=>by
    rcases b4 with b4 |b4
    ·omega
    have e1:=gR (k-1) (by omega);have e2:xs[A.length]? =some _:=gL 0 hL0;rw[show A.length+[x].length+k-1=A.length+[x].length+(k-1) by omega,e1,Zo,e2] at b4;have b6:=LI b4;dsimp only at b6;rw[hlt] at b6
    have:=of_decide_eq_true b6;omega) a ha x (by simp)
   rw[<-LM k R,Ns] at hR;refine Ns.2 ⟨hR.1,Ot.2 ⟨hx,hR.2.1⟩,fun a ha b hb=> ?_⟩;rcases Lm.1 hb with rfl |hb
   ·exact hy a ha
   exact hR.2.2 a ha b hb
  rw[ifn];by_cases h2:R.length=1
  ·rw[ifp];obtain⟨i,b1,b2,b3,b4,b5⟩:=VV (p:=fun h=>(xs[A.length+L.length]?).bind fun x=>(xs[h]?).map fun y=> !lt x y) (xs.length+1) A.length (A.length+L.length) (by omega) (by omega) fun k hk hk2=>by
    have e1:=gL (k-A.length) (by omega);rw[show A.length+(k-A.length)=k by omega] at e1;have e2:xs[A.length+L.length]? =some _:=gR 0 hR0;exact⟨!lt R[0] L[k-A.length],by rw[e2,Zo,e1];rfl⟩
   rw[b1,Zo];obtain⟨k,rfl⟩:∃k,i=A.length+k:=⟨i-A.length,by omega⟩;obtain⟨y,rfl⟩:∃y,R= [y]:=OI.1 h2;refine⟨L.take k++y::L.drop k,?_,?_,?_⟩
   ·have hk:(L.take k).length=k:=by rw[Lw];omega
    have:=lj (y:=y) (L.length-k) (L.drop k) (A++L.take k) Z (by rw[Nv]);rw[Lf,hk] at this;rw[hxs,show A.length+L.length-(A.length+k)=L.length-k by omega,show A.length+L.length=A.length+k+(L.length-k) by omega,show A++(L++([y]++Z))=A++L.take k++(L.drop k++y::Z) by rw[Lq,<-Lq (L.take k),LM];rfl,this];simp
   ·refine Ip.trans ?_;rw[LM];exact OR (l₁:=[y])
   have hx:∀b∈L.drop k,rk y<=rk b:=fun b hb=>S3 (k:=1) (k':=k) hR hL (by simp) (fun _ h3=>by
    rcases b5 with b5 |b5
    ·omega
    have e1:=gL k h3;have e2:xs[A.length+L.length]? =some _:=gR 0 hR0;rw[e2,Zo,e1] at b5;have b6:=LI b5;dsimp only at b6;rw[hlt,Ic] at b6
    have:=of_decide_eq_true b6;show rk ([y]:List α)[0]<=rk L[k];omega) y (by simp) b hb
   have hy:∀a∈L.take k,rk a<=rk y:=fun a ha=>S3 (k:=k) (k':=0) hL hR (by omega) (fun h0 _=>by
    rcases b4 with b4 |b4
    ·omega
    have e1:=gL (k-1) (by omega);have e2:xs[A.length+L.length]? =some _:=gR 0 hR0;rw[show A.length+k-1=A.length+(k-1) by omega,e2,Zo,e1] at b4;have b6:=LI b4;dsimp only at b6;rw[hlt,NJ] at b6
    have:=of_decide_eq_false b6;omega) a ha y (by simp)
   rw[<-LM k L,Ns] at hL;refine Ns.2 ⟨hL.1,Ot.2 ⟨hx,hL.2.1⟩,fun a ha b hb=> ?_⟩;rcases Lm.1 hb with rfl |hb
   ·exact hy a ha
   exact hL.2.2 a ha b hb
  rw[ifn];obtain⟨mid,hmid⟩:∃mid,mid=(A.length+(A.length+L.length+R.length)) / 2:=⟨_,rfl⟩;rw[<-hmid];obtain⟨s0,hs0⟩:∃s0,s0=(if mid<A.length+L.length then mid+(A.length+L.length)-(A.length+L.length+R.length) else A.length):=⟨_,rfl⟩;obtain⟨r0,hr0⟩:∃r0,r0=(if mid<A.length+L.length then mid else A.length+L.length):=⟨_,rfl⟩;rw[<-hs0,<-hr0];have hsr:s0<=r0/\A.length<=s0/\r0<=mid/\r0<=A.length+L.length/\mid-s0<=R.length:=by
   rw[hs0,hr0];split<;>omega
  obtain⟨i,b1,b2,b3,b4,b5⟩:=VV (p:=fun c=>(xs[mid+(A.length+L.length)-1-c]?).bind fun x=>(xs[c]?).map fun y=> !lt x y) (xs.length+1) s0 r0 (by omega) hsr.1 fun k hk hk2=>by
   have e1:=gR (mid-1-k) (by omega);rw[show A.length+L.length+(mid-1-k)=mid+(A.length+L.length)-1-k by omega] at e1;have e2:=gL (k-A.length) (by omega);rw[show A.length+(k-A.length)=k by omega] at e2;exact⟨!lt R[mid-1-k] L[k-A.length],by rw[e1,Zo,e2];rfl⟩
  rw[b1,Zo];obtain⟨k,rfl⟩:∃k,i=A.length+k:=⟨i-A.length,by omega⟩;obtain⟨q,hq⟩:∃q,mid=A.length+k+q:=⟨mid-(A.length+k),by omega⟩;have hk:k<=L.length:=by omega
  have hqR:q<=R.length:=by omega
  have lL1:(L.take k).length=k:=by rw[Lw];omega
  have lR1:(R.take q).length=q:=by rw[Lw];omega
  have lL2:(L.drop k).length=L.length-k:=Nv;have lR2:(R.drop q).length=R.length-q:=Nv;have c1:∀a∈L.take k,∀b∈R.drop q,rk a<=rk b:=S3 hL hR hk fun h0 h3=>by
   rcases b4 with b4 |b4
   ·exfalso;rw[hs0] at b4;split at b4<;>omega
   have e1:=gR q h3;have e2:=gL (k-1) (by omega);rw[show mid+(A.length+L.length)-1-(A.length+k-1)=A.length+L.length+q by omega,e1,Zo,show A.length+k-1=A.length+(k-1) by omega,e2] at b4;have b6:=LI b4;dsimp only at b6;rw[hlt,NJ] at b6
   have:=of_decide_eq_false b6;omega
  have c2:∀a∈R.take q,∀b∈L.drop k,rk a<=rk b:=S3 hR hL hqR fun h0 h3=>by
   rcases b5 with b5 |b5
   ·exfalso;rw[hr0] at b5;split at b5<;>omega
   have e1:=gR (q-1) (by omega);have e2:=gL k h3;rw[show mid+(A.length+L.length)-1-(A.length+k)=A.length+L.length+(q-1) by omega,e1,Zo,e2] at b5;have b6:=LI b5;dsimp only at b6;rw[hlt,Ic] at b6
   have:=of_decide_eq_true b6;omega
  have hL':=hL;have hR':=hR;rw[<-LM k L,Ns] at hL';rw[<-LM q R,Ns] at hR';have hxs':xs=(A++L.take k)++L.drop k++R.take q++(R.drop q++Z):=by
   rw[hxs];conv=>lhs;rw[<-LM k L,<-LM q R]
   simp only[Lq]
  have st1:(if A.length+k<A.length+L.length/\A.length+L.length<mid+(A.length+L.length)-(A.length+k) then Ei (A.length+L.length) (xs.length+1) xs (A.length+L.length-(A.length+k)) (mid+(A.length+L.length)-(A.length+k)-(A.length+L.length)) else some xs)=some (A++(L.take k++(R.take q++(L.drop k++(R.drop q++Z))))):=by
   split
   ·rename_i h
    have:=cK (xs.length+1) (A++L.take k) (L.drop k) (R.take q) (R.drop q++Z) (by omega) (by omega) (by omega);rw[<-hxs',Lf,lL1,lL2,lR1,show A.length+k+(L.length-k)=A.length+L.length by omega] at this;rw[show A.length+L.length-(A.length+k)=L.length-k by omega,show mid+(A.length+L.length)-(A.length+k)-(A.length+L.length)=q by omega,this];simp
   rename_i h;rw[hxs'];rcases BF q with h0 |h0
   ·subst h0;simp only[ON,Nt,LY,LE,Lq]
   have:L.drop k= []:=Nz (by omega);rw[this];simp
  rw[st1,Zo];obtain⟨B1,st2,p1,o1⟩:∃B1,(if A.length<A.length+k/\A.length+k<mid then symM lt f (A++(L.take k++(R.take q++(L.drop k++(R.drop q++Z))))) A.length (A.length+k) mid else some (A++(L.take k++(R.take q++(L.drop k++(R.drop q++Z))))))=some (A++(B1++(L.drop k++(R.drop q++Z))))/\B1.Perm (L.take k++R.take q)/\B1.Pairwise fun a b=>rk a<=rk b:=by
   split
   ·obtain⟨B,q1,q2,q3⟩:=YC f A (L.take k) (R.take q) (L.drop k++(R.drop q++Z)) (by omega) (by omega) (by omega) hL'.1 hR'.1;rw[lL1,lR1,<-hq] at q1;exact⟨B,q1,q2,q3⟩
   refine⟨L.take k++R.take q,by simp,.refl _,Ns.2 ⟨hL'.1,hR'.1,fun a ha b hb=> ?_⟩⟩;rcases BF k with h0 |h0
   ·subst h0;simp at ha
   have:q=0:=(by omega);subst this;simp at hb
  rw[st2,Zo];have lB1:B1.length=k+q:=by rw[p1.length_eq,Lf,lL1,lR1]
  obtain⟨B2,st3,p2,o2⟩:∃B2,(if mid<mid+(A.length+L.length)-(A.length+k)/\mid+(A.length+L.length)-(A.length+k)<A.length+L.length+R.length then symM lt f (A++(B1++(L.drop k++(R.drop q++Z)))) mid (mid+(A.length+L.length)-(A.length+k)) (A.length+L.length+R.length) else some (A++(B1++(L.drop k++(R.drop q++Z)))))=some (A++(B1++(B2++Z)))/\B2.Perm (L.drop k++R.drop q)/\B2.Pairwise fun a b=>rk a<=rk b:=by
   split
   ·obtain⟨B,q1,q2,q3⟩:=YC f (A++B1) (L.drop k) (R.drop q) Z (by omega) (by omega) (by omega) hL'.2.1 hR'.2.1;rw[Lf,lB1,lL2,lR2,show A.length+(k+q)=mid by omega,show mid+(L.length-k)=mid+(A.length+L.length)-(A.length+k) by omega,show mid+(A.length+L.length)-(A.length+k)+(R.length-q)=A.length+L.length+R.length by omega,Lq,Lq] at q1;exact⟨B,q1,q2,q3⟩
   refine⟨L.drop k++R.drop q,by simp,.refl _,Ns.2 ⟨hL'.2.1,hR'.2.1,fun a ha b hb=> ?_⟩⟩;rcases Nf k L.length with h0 |h0
   ·rw[Nz (by omega:R.length<=q)] at hb;cases hb
   rw[Nz h0] at ha;cases ha
  refine⟨B1++B2,by rw[st3,Lq],?_,Ns.2 ⟨o1,o2,fun a ha b hb=> ?_⟩⟩
  ·refine(p1.append p2).trans ?_;have e:(L.take k++R.take q++(L.drop k++R.drop q)).Perm (L.take k++L.drop k++(R.take q++R.drop q)):=by
    rw[Lq,Lq];refine OS _ ?_;rw[<-Lq,<-Lq];exact List.Perm.append_right _ OR
   rw[LM,LM] at e;exact e
  rcases Ls.1 (p1.mem_iff.1 ha) with ha |ha<;>rcases Ls.1 (p2.mem_iff.1 hb) with hb |hb
  ·exact hL'.2.2 a ha b hb
  ·exact c1 a ha b hb
  ·exact c2 a ha b hb
  exact hR'.2.2 a ha b hb
end
section
variable {α:Type}{rk:α->Int}{lt:α->α->Bool}(hlt:∀x y,lt x y=decide (rk x<rk y))
include hlt in
theorem ln {P:List α}:∀(j f:Nat) (A:List α) (x:α) (C:List α),A.length=j->(A.Pairwise fun a b=>rk a<=rk b)->j<f->∃B,Hl lt f (P++(A++x::C)) P.length (P.length+j)=some (P++(B++C))/\B.Perm (A++[x])/\(B.Pairwise fun a b=>rk a<=rk b)
 |_,0,_,_,_,_,_,h=>absurd h (LK _)
 |0,f+1,A,x,C,hA,hp,_=>by
  have:A= []:=N6.1 hA;subst this;refine⟨[x],?_,.refl _,BB _ _⟩;show Hl lt (f+1) _ _ P.length=_;cases P with
  |nil=>rfl
  |cons p P=>
   rw[Lg];unfold Hl;rw[if_neg (Nat.lt_irrefl _)];rfl
 |j+1,f+1,A,x,C,hA,hp,hf=>by
  obtain⟨A',y,rfl⟩:∃A' y,A=A'++[y]:=⟨A.dropLast,A.getLast (fun e=>by rw[e] at hA;cases hA),(Bi _).symm⟩;have hA':A'.length=j:=by simpa using hA
  rw[Ns] at hp;obtain⟨p1,_,p3⟩:=hp;have e1:P++((A'++[y])++x::C)=(P++A'++[y])++x::C:=by simp
  have e2:(P++A'++[y])++x::C=(P++A')++y::(x::C):=by simp
  have e3:(P++A'++[y])++y::C=(P++A')++y::(y::C):=by simp
  show ∃B,Hl lt (f+1) _ P.length (P.length+j+1)=_/\_;unfold Hl;rw[ifp,e1,PS (by simp[hA'];omega),Zo,e2,PS (by simp[hA']),Zo,hlt,<-e2];by_cases h:rk x<rk y
  ·rw[if_pos (by simpa using h),PT (by simp[hA'];omega),e3,PT (by simp[hA']),show P++A'++x::y::C=P++(A'++x::(y::C)) by simp];obtain⟨B,q1,q2,q3⟩:=ln j f A' x (y::C) hA' p1 (by omega);refine⟨B++[y],by rw[q1];simp,?_,?_⟩
   ·refine(q2.append_right [y]).trans ?_;rw[Lq,Lq];exact OS A' (List.Perm.swap y x [])
   grind
  rw[if_neg (by simpa using h)];refine⟨(A'++[y])++[x],by simp,.refl _,?_⟩;rw[Ns];refine⟨Ns.2 ⟨p1,BB _ _,p3⟩,BB _ _,fun a ha b hb=> ?_⟩;rw[Ln.1 hb];rcases Ls.1 ha with ha |ha
  ·have:=p3 a ha y (Ln.2 rfl);omega
  grind
include hlt in
theorem lu {P Z:List α}:∀(C A:List α) (f:Nat),(A.Pairwise fun a b=>rk a<=rk b)->A.length+2*C.length<f->∃B,Iu lt f (P++(A++(C++Z))) P.length (P.length+A.length) (P.length+A.length+C.length)=some (P++(B++Z))/\B.Perm (A++C)/\(B.Pairwise fun a b=>rk a<=rk b)
 |_,_,0,_,h=>absurd h (LK _)
 |[],A,f+1,hp,_=>by
  refine⟨A,?_,by simp,hp⟩;unfold Iu;rw[if_neg (by simp),LE]
 |x::C,A,f+1,hp,hf=>by
  simp only[Lg] at hf;obtain⟨B,q1,q2,q3⟩:=ln (P:=P) hlt A.length (f+1) A x (C++Z) rfl hp (by omega);have hB:B.length=A.length+1:=by rw[q2.length_eq,Lf];rfl
  obtain⟨ys,r1,r2,r3⟩:=lu (P:=P) (Z:=Z) C B f q3 (by omega);refine⟨ys,?_,r2.trans ((q2.append_right C).trans (by simp)),r3⟩;unfold Iu;grind
include hlt in
theorem lv {P C Z:List α}{f:Nat}(hf:2*C.length+1<f):∃B,Iu lt f (P++(C++Z)) P.length (P.length+1) (P.length+C.length)=some (P++(B++Z))/\B.Perm C/\(B.Pairwise fun a b=>rk a<=rk b):=by
 cases C with
 |nil=>
  obtain⟨f,rfl⟩:=sx f;refine⟨[],?_,.refl _,List.Pairwise.nil⟩;unfold Iu;rw[if_neg (by simp)]
 |cons x C=>
  simp only[Lg] at hf
  have:=lu (P:=P) (Z:=Z) hlt C [x] f (BB _ _) (by simp only[Lr];omega);rw[Lr,show P.length+1+C.length=P.length+(C.length+1) by omega] at this;exact this
inductive Iy (rk:α->Int) (bs:Nat):List α->Prop
 |last {T:List α} (h:T.length<=bs) (hT:T.Pairwise fun a b=>rk a<=rk b):Iy rk bs T
 |cons {B Q:List α} (h:B.length=bs) (hB:B.Pairwise fun a b=>rk a<=rk b) (hQ:Iy rk bs Q):Iy rk bs (B++Q)
theorem Iy.front {bs:Nat}{Q:List α}(h:Iy rk bs Q)(hl:bs<=Q.length):∃B Q',Q=B++Q'/\B.length=bs/\(B.Pairwise fun a b=>rk a<=rk b)/\Iy rk bs Q':=by
 cases h with
 |last h hT=>exact⟨Q,[],by simp,by omega,hT,.last (Ll _) List.Pairwise.nil⟩
 |cons h hB hQ=>exact⟨_,_,rfl,h,hB,hQ⟩
theorem Iy.small {bs:Nat}{Q:List α}(h:Iy rk bs Q)(hl:Q.length<=bs):Q.Pairwise fun a b=>rk a<=rk b:=by
 cases h with
 |last h hT=>exact hT
 |cons h hB hQ=>
  grind [List.length_append,List.length_eq_zero_iff]
include hlt in
theorem lz {F:Nat}:∀(c:Nat) (P Q:List α),Q.length<c->41<F->∃Q1 Q2,Gp lt F c (P++Q) P.length (P.length+20)=some (P++(Q1++Q2),P.length+Q1.length)/\(Q1++Q2).Perm Q/\Q2.length<20/\∀T:List α,T.length<=20->(T.Pairwise fun a b=>rk a<=rk b)->Iy rk 20 (Q1++T)
 |0,_,_,h,_=>absurd h (LK _)
 |c+1,P,Q,hc,hF=>by
  unfold Gp;rw[Lf];by_cases h:P.length+20<=P.length+Q.length
  ·rw[if_pos h];have hC:(Q.take 20).length=20:=(by rw[Lw];omega);obtain⟨B,b1,b2,b3⟩:=lv (P:=P) (C:=Q.take 20) (Z:=Q.drop 20) (f:=F) hlt (by omega);rw[LM,hC] at b1;have hB:B.length=20:=(by rw[b2.length_eq,hC]);obtain⟨Q1,Q2,q1,q2,q3,q4⟩:=lz (F:=F) c (P++B) (Q.drop 20) (by rw[Nv];omega) hF;rw[Lf,hB,Lq] at q1;refine⟨B++Q1,Q2,?_,?_,q3,fun T h1 h2=>by rw[Lq];exact .cons hB b3 (q4 T h1 h2)⟩
   ·rw[b1,Zo,q1,Lf,hB];grind
   rw[Lq];refine(b2.append q2).trans ?_;rw[LM]
  rw[if_neg h];exact⟨[],Q,by simp,.refl _,by omega,fun T h1 h2=>.last h1 h2⟩
include hlt in
theorem l9 {F bs:Nat}(hbs:0<bs):∀(c:Nat) (P Q:List α),Iy rk bs Q->Q.length<c->Q.length<=F->∃Q1 Q2,Gq lt F bs c (P++Q) P.length (P.length+2*bs)=some (P++(Q1++Q2),P.length+Q1.length)/\(Q1++Q2).Perm Q/\Q2.length<2*bs/\Iy rk bs Q2/\∀T:List α,T.length<=2*bs->(T.Pairwise fun a b=>rk a<=rk b)->Iy rk (2*bs) (Q1++T)
 |0,_,_,_,h,_=>absurd h (LK _)
 |c+1,P,Q,hQ,hc,hF=>by
  unfold Gq;rw[Lf];by_cases h:P.length+2*bs<=P.length+Q.length
  ·rw[if_pos h];obtain⟨B1,Q',rfl,l1,s1,hQ'⟩:=hQ.front (by omega);rw[Lf] at h hc hF;obtain⟨B2,Q'',rfl,l2,s2,hQ''⟩:=hQ'.front (by omega);rw[Lf] at h hc hF;obtain⟨B,b1,b2,b3⟩:=YC hlt F P B1 B2 Q'' (by omega) (by omega) (by omega) s1 s2;have hB:B.length=2*bs:=(by rw[b2.length_eq,Lf];omega);rw[l1,l2,show P.length+bs+bs=P.length+2*bs by omega] at b1;obtain⟨Q1,Q2,q1,q2,q3,q4,q5⟩:=l9 (F:=F) hbs c (P++B) Q'' hQ'' (by omega) (by omega);rw[Lf,hB,Lq] at q1;refine⟨B++Q1,Q2,?_,?_,q3,q4,fun T h1 h2=>by rw[Lq];exact .cons hB b3 (q5 T h1 h2)⟩
   ·grind
   grind
  rw[if_neg h];exact⟨[],Q,by simp,.refl _,by omega,hQ,fun T h1 h2=>.last h1 h2⟩
include hlt in
theorem mA {F:Nat}:∀(c bs:Nat) (xs:List α),0<bs->Iy rk bs xs->xs.length-bs<c->xs.length<=F->∃ys,Gr lt F c xs bs=some ys/\ys.Perm xs/\(ys.Pairwise fun a b=>rk a<=rk b)
 |0,_,_,_,_,h,_=>absurd h (LK _)
 |c+1,bs,xs,hbs,hx,hc,hF=>by
  unfold Gr;by_cases h:bs<xs.length
  ·rw[if_pos h];obtain⟨Q1,Q2,q1,q2,q3,q4,q5⟩:=l9 (F:=F) hlt hbs (xs.length+1) [] xs hx (by omega) hF;simp only[LE,LB,NC] at q1;have hl:Q1.length+Q2.length=xs.length:=(by rw[<-q2.length_eq,Lf]);rw[q1,Zo];dsimp only;rw[Lf];obtain⟨T,t1,t2,t3⟩:∃T,(if Q1.length+bs<Q1.length+Q2.length then symM lt F (Q1++Q2) Q1.length (Q1.length+bs) (Q1.length+Q2.length) else some (Q1++Q2))=some (Q1++T)/\T.Perm Q2/\(T.Pairwise fun a b=>rk a<=rk b):=by
    split
    ·obtain⟨B,Q',rfl,l1,s1,hQ'⟩:=q4.front (by omega);rw[Lf] at q3 hl;rename_i hh;rw[Lf] at hh;obtain⟨T,b1,b2,b3⟩:=YC hlt F Q1 B Q' [] (by omega) (by omega) (by omega) s1 (hQ'.small (by omega));simp_all [LY,Lf,Nu]
    exact⟨Q2,rfl,.refl _,q4.small (by omega)⟩
   rw[t1,Zo];have lT:=t2.length_eq;obtain⟨ys,r1,r2,r3⟩:=mA (F:=F) c (bs*2) (Q1++T) (by omega) (by grind) (by rw[Lf];omega) (by rw[Lf];omega);exact⟨ys,r1,r2.trans ((t2.append_left Q1).trans q2),r3⟩
  rw[if_neg h];exact⟨xs,rfl,.refl _,hx.small (by omega)⟩
include hlt in
theorem mB {F:Nat}(xs:List α)(hF:xs.length<=F)(hF2:41<F):∃ys,Gt lt F xs=some ys/\ys.Perm xs/\(ys.Pairwise fun a b=>rk a<=rk b):=by
 obtain⟨Q1,Q2,q1,q2,q3,q4⟩:=lz (F:=F) hlt (xs.length+1) [] xs (by omega) hF2;simp only[LE,LB,NC] at q1;have hl:Q1.length+Q2.length=xs.length:=by rw[<-q2.length_eq,Lf]
 obtain⟨T,t1,t2,t3⟩:=lv (P:=Q1) (C:=Q2) (Z:=[]) (f:=F) hlt (by omega);rw[LY,LY] at t1;have lT:=t2.length_eq;obtain⟨ys,r1,r2,r3⟩:=mA (F:=F) hlt (xs.length+1) 20 (Q1++T) (by omega) (q4 T (by omega) t3) (by rw[Lf];omega) (by rw[Lf];omega);refine⟨ys,?_,r2.trans ((t2.append_left Q1).trans q2),r3⟩;unfold Gt;grind
end
end Go.Proofs.YtnmkbmefohakmaaGreat.Ab
