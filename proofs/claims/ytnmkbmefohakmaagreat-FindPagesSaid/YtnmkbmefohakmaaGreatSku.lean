/-
 Sorting so that equals stay, told plainly: parts swapped and turned over, two rising parts merged. No program in sight.
-/
import Derived.Test.YtnmkbmefohakmaaGreatSkd
namespace Go.Proofs.YtnmkbmefohakmaaGreat.Ab
open Go.RowKit
inductive Rch (D:GRef->List GRef):GRef->GRef->Prop
 |refl (r:GRef):Rch D r r
 |step {r d e:GRef} (h:d∈D r) (h2:Rch D d e):Rch D r e
theorem Rch.trans {D:GRef->List GRef}{a b c:GRef}(h:Rch D a b)(h2:Rch D b c):Rch D a c:=by
 induction h with
 |refl=>exact h2
 |step h _ ih=>exact .step h (ih h2)
theorem us_ {r:GRef}{N:List PN}:(jd_ r N).isSome=true↔r∈N.map (·.k):=by
 constructor
 ·intro h
  obtain⟨p,hp⟩:=Option.isSome_iff_exists.1 h;obtain⟨h1,h2⟩:=zr_ hp;exact List.mem_map.2 ⟨p,h1,h2⟩
 ·intro h
  obtain⟨p,hp⟩:=xo_ h;rw[hp];rfl
theorem ut_ {α:Type}[DecidableEq α](g:α->Nat)(p:α->Bool)(r:α):∀ {U:List α},U.Nodup->r∈U->p r=true->((U.filter fun x=>p x&&decide (x≠r)).map g).sum+g r=((U.filter p).map g).sum
 |[],_,h,_=>by cases h
 |x::l,hn,h,hp=>by
  rw[List.nodup_cons] at hn;by_cases e:x=r
  ·subst e
   have h1:(l.filter fun y=>p y&&decide (y≠x))=l.filter p:=by
    refine List.filter_congr fun y hy=> ?_
    have:y≠x:=fun e=>hn.1 (e▸hy)
    simp[this]
   rw[List.filter_cons,List.filter_cons,h1];simp[hp];omega
  ·have h2:r∈l:=by
    rcases List.mem_cons.1 h with h |h
    ·exact absurd h.symm e
    ·exact h
   have ih:=ut_ g p r hn.2 h2 hp;rw[List.filter_cons,List.filter_cons];cases hx:p x with
   |true=>simp[e];simp at ih;omega
   |false=>simpa using ih
def uu_ (D:GRef->List GRef)(U:List GRef)(N:List PN):Nat:=((U.filter fun r=>decide (r∉N.map (·.k))).map fun r=>(D r).length).sum
theorem uv_ {α:Type}[DecidableEq α]:∀ {l U:List α},l.Nodup->(∀x∈l,x∈U)->l.length<=U.length
 |[],_,_,_=>Nat.zero_le _
 |x::l,U,hn,h=>by
  rw[List.nodup_cons] at hn;have h1:x∈U:=h x (List.mem_cons_self ..);have h2:=uv_ (l:=l) (U:=U.erase x) hn.2 fun y hy=>(List.mem_erase_of_ne fun e=>hn.1 (by rw[<-e];exact hy)).2 (h y (List.mem_cons_of_mem _ hy));rw[List.length_erase_of_mem h1] at h2
  have:=List.length_pos_of_mem h1
  simp only[List.length_cons];omega
section
variable {nd:GRef->Option (Int × List GRef)}{D:GRef->List GRef}{rk:GRef->Int}{U:List GRef}
def mkP (rk:GRef->Int)(D:GRef->List GRef)(r:GRef):PN:=⟨r,rk r,D r,[],false⟩
theorem wA_ (hU:U.Nodup)(hl:U.length<4294967296)(hnd:∀r∈U,nd r=some (rk r,D r))(hD:∀r∈U,∀d∈D r,d∈U):∀(f:Nat) (ks w:List GRef),ks.Nodup->(∀r∈ks,r∈U)->(∀r∈w,r∈U)->w.length+uu_ D U (ks.map (mkP rk D))<f->w.length+uu_ D U (ks.map (mkP rk D))<=4294967296->
  ∃rs:List GRef,zG_ nd f (ks.map (mkP rk D)) w=some (rs.map (mkP rk D))/\rs.Nodup/\(∀r∈rs,r∈U)/\(∀r∈ks,r∈rs)/\(∀r∈w,r∈rs)/\((∀r∈ks,∀d∈D r,d∈ks\/d∈w)->∀r∈rs,∀d∈D r,d∈rs)/\∀r∈rs,r∈ks\/∃r0∈w,Rch D r0 r
 |0,_,_,_,_,_,h,_=>absurd h (Nat.not_lt_zero _)
 |f+1,ks,[],hn,hk,_,_,_=>⟨ks,rfl,hn,hk,(fun _ h=>h),(fun _ h=>nomatch h),(fun h r hr d hd=>(h r hr d hd).elim id fun h=>nomatch h),fun r h=>.inl h⟩
 |f+1,ks,r::w,hn,hk,hw,hf,hb=>by
  have hkk:(ks.map (mkP rk D)).map (·.k)=ks:=by simp[mkP,Function.comp_def]
  by_cases hr:r∈ks
  ·have h1:(jd_ r (ks.map (mkP rk D))).isSome=true:=us_.2 (by rw[hkk];exact hr)
   simp only[List.length_cons] at hf hb;obtain⟨rs,e1,e2,e3,e4,e5,e6,e7⟩:=wA_ hU hl hnd hD f ks w hn hk (fun x hx=>hw x (List.mem_cons_of_mem _ hx)) (by omega) (by omega);refine⟨rs,?_,e2,e3,e4,fun x hx=> ?_,fun h=>e6 fun x hx d hd=> ?_,fun x hx=> ?_⟩
   ·unfold zG_
    rw[if_pos h1,e1]
   ·rcases List.mem_cons.1 hx with rfl |hx
    ·exact e4 x hr
    ·exact e5 x hx
   ·rcases h x hx d hd with h |h
    ·exact .inl h
    ·rcases List.mem_cons.1 h with rfl |h
     ·exact .inl hr
     ·exact .inr h
   ·rcases e7 x hx with h |⟨r0,h,h2⟩
    ·exact .inl h
    ·exact .inr ⟨r0,List.mem_cons_of_mem _ h,h2⟩
  ·have h1:¬(jd_ r (ks.map (mkP rk D))).isSome=true:=fun h=>hr (by have:=us_.1 h;rw[hkk] at this;exact this)
   have hrU:=hw r (List.mem_cons_self ..);have hn2:(ks++[r]).Nodup:=List.nodup_append.2 ⟨hn,List.nodup_cons.2 ⟨List.not_mem_nil,List.nodup_nil⟩,fun a ha b hb e=>hr (by rw[<-List.mem_singleton.1 hb,<-e];exact ha)⟩;have hun:uu_ D U ((ks++[r]).map (mkP rk D))+(D r).length=uu_ D U (ks.map (mkP rk D)):=by
    unfold uu_;have h2:((ks++[r]).map (mkP rk D)).map (·.k)=ks++[r]:=by simp[mkP,Function.comp_def]
    rw[hkk,h2,<-ut_ (fun r=>(D r).length) (fun x=>decide (x∉ks)) r hU hrU (by simpa using hr)];congr 4
    funext x;simp[Bool.and_comm]
   have hlen:ks.length<4294967296:=Nat.lt_of_le_of_lt (uv_ hn hk) hl;simp only[List.length_cons] at hf hb;obtain⟨rs,e1,e2,e3,e4,e5,e6,e7⟩:=wA_ hU hl hnd hD f (ks++[r]) ((D r).reverse++w) hn2 (fun x hx=>by
    rcases List.mem_append.1 hx with h |h
    ·exact hk x h
    ·rw[List.mem_singleton.1 h]
     exact hrU) (fun x hx=>by
    rcases List.mem_append.1 hx with h |h
    ·exact hD r hrU x (List.mem_reverse.1 h)
    ·exact hw x (List.mem_cons_of_mem _ h)) (by rw[List.length_append,List.length_reverse];omega) (by rw[List.length_append,List.length_reverse];omega)
   refine⟨rs,?_,e2,e3,fun x hx=>e4 x (List.mem_append_left _ hx),fun x hx=> ?_,fun h=>e6 fun x hx d hd=> ?_,fun x hx=> ?_⟩
   ·unfold zG_
    rw[if_neg h1,hnd r hrU,Zo,if_pos ⟨by simp only;omega,by rw[List.length_map];exact hlen⟩];rw[List.map_append] at e1;exact e1
   ·rcases List.mem_cons.1 hx with rfl |hx
    ·exact e4 x (List.mem_append_right _ (List.mem_singleton.2 rfl))
    ·exact e5 x (List.mem_append_right _ hx)
   ·rcases List.mem_append.1 hx with hx |hx
    ·rcases h x hx d hd with h |h
     ·exact .inl (List.mem_append_left _ h)
     ·rcases List.mem_cons.1 h with rfl |h
      ·exact .inl (List.mem_append_right _ (List.mem_singleton.2 rfl))
      ·exact .inr (List.mem_append_right _ h)
    ·rw[List.mem_singleton.1 hx] at hd
     exact .inr (List.mem_append_left _ (List.mem_reverse.2 hd))
   ·rcases e7 x hx with h |⟨r0,h,h2⟩
    ·rcases List.mem_append.1 h with h |h
     ·exact .inl h
     ·rw[List.mem_singleton.1 h]
      exact .inr ⟨r,List.mem_cons_self ..,.refl r⟩
    ·rcases List.mem_append.1 h with h |h
     ·exact .inr ⟨r,List.mem_cons_self ..,.step (List.mem_reverse.1 h) h2⟩
     ·exact .inr ⟨r0,List.mem_cons_of_mem _ h,h2⟩
end
def addL (f:GRef->List GRef)(N:List PN):List PN:=N.map fun p=>{ p with above:=p.above++f p.k }
theorem hC_ (N:List PN):addL (fun _=>[]) N=N:=by
 unfold addL;refine(List.map_congr_left fun p _=> ?_).trans (List.map_id _);simp
theorem dH_ (f g:GRef->List GRef)(N:List PN):addL g (addL f N)=addL (fun x=>f x++g x) N:=by
 unfold addL;rw[List.map_map];refine List.map_congr_left fun p _=> ?_;simp
theorem kw_ {f g:GRef->List GRef}(N:List PN)(h:∀x,f x=g x):addL f N=addL g N:=by rw[show f=g from funext h]
theorem pS_ (f:GRef->List GRef)(N:List PN):(addL f N).map (·.k)=N.map (·.k):=by simp[addL,Function.comp_def]
theorem pT_ (d r:GRef)(N:List PN):dB_ d r N=addL (fun x=>if d==x then[r] else[]) N:=by
 unfold dB_ addL;refine List.map_congr_left fun p _=> ?_;by_cases h:(d==p.k)=true
 ·simp[h]
 ·simp[h]
theorem dI_ (r:GRef):∀(l:List GRef) (N:List PN),(∀d∈l,d∈N.map (·.k))->(∀p∈N,p.above.length+l.length<=4294967296)->aboD r l N=some (addL (fun x=>(l.filter (· ==x)).map fun _=>r) N)
 |[],N,_,_=>by
  exact congrArg some ((kw_ N (g:=fun _=>[]) fun x=>rfl).trans (hC_ N)).symm
 |d::l,N,hk,hb=>by
  obtain⟨p,hp⟩:=xo_ (hk d (List.mem_cons_self ..));have hpm:=(zr_ hp).1;have hb2:=hb p hpm;simp only[List.length_cons] at hb2 hb;unfold aboD;rw[hp,Zo,if_pos (by omega),dI_ r l _ (by rw[c0_];exact fun x hx=>hk x (List.mem_cons_of_mem _ hx)) fun p2 hp2=>by
   rw[pT_] at hp2;obtain⟨p3,h3,rfl⟩:=List.mem_map.1 hp2
   have:=hb p3 h3
   simp only[List.length_append];split<;>simp <;>omega]
  rw[pT_,dH_];congr 1
  refine kw_ N fun x=> ?_;rw[List.filter_cons];split<;>simp
def vs_ (D:GRef->List GRef)(l:List GRef)(x:GRef):List GRef:=l.flatMap fun r=>((D r).filter (· ==x)).map fun _=>r
theorem pU_ {D:GRef->List GRef}{l:List GRef}{x r:GRef}:r∈vs_ D l x↔r∈l/\x∈D r:=by
 unfold vs_;rw[List.mem_flatMap];constructor
 ·rintro⟨s,h1,h2⟩
  obtain⟨d,h3,rfl⟩:=List.mem_map.1 h2;obtain⟨h4,h5⟩:=List.mem_filter.1 h3;rw[eq_of_beq h5] at h4;exact⟨h1,h4⟩
 ·rintro⟨h1,h2⟩
  exact⟨r,h1,List.mem_map.2 ⟨x,List.mem_filter.2 ⟨h2,beq_self_eq_true _⟩,rfl⟩⟩
def total (D:GRef->List GRef)(l:List GRef):Nat:=(l.map fun r=>(D r).length).sum
theorem dJ_ (D:GRef->List GRef):∀(l:List GRef) (N:List PN),(∀r∈l,r∈N.map (·.k))->(∀p∈N,p.deps=D p.k/\∀d∈D p.k,d∈N.map (·.k))->(∀p∈N,p.above.length+total D l<=4294967296)->aboM l N=some (addL (vs_ D l) N)
 |[],N,_,_,_=>by
  exact congrArg some ((kw_ N (g:=fun _=>[]) fun x=>rfl).trans (hC_ N)).symm
 |r::l,N,hk,hd,hb=>by
  obtain⟨p,hp⟩:=xo_ (hk r (List.mem_cons_self ..));obtain⟨hpm,hpk⟩:=zr_ hp;obtain⟨e1,e2⟩:=hd p hpm;rw[hpk] at e1 e2;have ht:total D (r::l)=(D r).length+total D l:=by simp[total]
  have hb2:=hb p hpm;unfold aboM;rw[hp,Zo,if_pos (by rw[e1];omega),e1,dI_ r (D r) N e2 fun q hq=>by have:=hb q hq;omega,Zo,dJ_ D l _ (by rw[pS_];exact fun x hx=>hk x (List.mem_cons_of_mem _ hx)) (fun q hq=> ?_) fun q hq=> ?_]
  ·rw[dH_]
   rfl
  ·obtain⟨q0,h0,rfl⟩:=List.mem_map.1 hq
   rw[pS_];exact hd q0 h0
  ·obtain⟨q0,h0,rfl⟩:=List.mem_map.1 hq
   have:=hb q0 h0
   have h2:(((D r).filter (· ==q0.k)).map fun _=>r).length<=(D r).length:=by rw[List.length_map];exact List.length_filter_le _ _
   simp only[List.length_append];omega
def x5_ (S:GRef->Bool)(P:List PN):List PN:=P.map fun p=>{ p with is:=S p.k }
theorem yj_ (S:GRef->Bool)(r:GRef):∀P:List PN,jd_ r (x5_ S P)=(jd_ r P).map fun p=>{ p with is:=S p.k }
 |[]=>rfl
 |p::l=>by
  have ih:=yj_ S r l;show(if r==p.k then some _ else jd_ r (x5_ S l))=(if r==p.k then some p else jd_ r l).map _
  split
  ·rfl
  ·exact ih
theorem sE_ (S:GRef->Bool)(d:GRef)(P:List PN):setIs d (x5_ S P)=x5_ (fun x=>S x||d==x) P:=by
 unfold setIs x5_;rw[List.map_map];refine List.map_congr_left fun p _=> ?_;simp only[Function.comp];by_cases h:(d==p.k)=true
 ·rw[if_pos h,h,Bool.or_true]
 ·rw[if_neg h,show(d==p.k)=false by simpa using h,Bool.or_false]
structure NowB (K:List GRef) (D:GRef->List GRef) (rk:GRef->Int) (nwB:(GRef->Bool)->GRef->Bool):Prop where
 loc:∀S T r,r∈K->(∀d∈D r,S d=T d)->nwB S r=nwB T r
 mono:∀S T r,r∈K->(∀d∈D r,rk d<rk r->S d=T d)->(∀d∈D r,rk d=rk r->S d=true->T d=true)->nwB S r=true->nwB T r=true
 rkD:∀r∈K,∀d∈D r,rk d<=rk r
 DK:∀r∈K,∀d∈D r,d∈K
structure KInv (K:List GRef) (rk:GRef->Int) (nwB:(GRef->Bool)->GRef->Bool) (S:GRef->Bool) (done w:List GRef) (k:Int):Prop where
 a:∀r∈K,S r=true->nwB S r=true
 b:∀r∈done,nwB S r=true->S r=true\/(r∈w/\rk r=k)
 c:∀r∈K,S r=true->rk r<=k
 d:∀(j:Int) (T:GRef->Bool),(∀r∈K,rk r<j->T r=S r)->(∀r∈K,rk r=j->nwB T r=true->T r=true)->∀r∈K,rk r=j->S r=true->T r=true
 e:∀r∈done,r∈K/\rk r<=k
section
variable {K:List GRef}{D:GRef->List GRef}{rk:GRef->Int}{nwB:(GRef->Bool)->GRef->Bool}{S:GRef->Bool}{done w:List GRef}{k:Int}
theorem KInv.set (hN:NowB K D rk nwB){r:GRef}{ab:List GRef}(h:KInv K rk nwB S done (r::w) k)(hr:r∈K)(hk:rk r=k)(hn:nwB S r=true)(hab:∀x,x∈K->r∈D x->x∈ab):KInv K rk nwB (fun x=>S x||r==x) done (ab.reverse++w) k where
 a:=fun x hx hs=>by
  have h1:nwB S x=true/\rk x<=k:=by
   simp only[Bool.or_eq_true] at hs;rcases hs with hs |hs
   ·exact⟨h.a x hx hs,h.c x hx hs⟩
   ·rw[<-eq_of_beq hs]
    exact⟨hn,by omega⟩
  refine hN.mono S _ x hx (fun d hd hlt=> ?_) (fun d hd he hs=>by simp[hs]) h1.1
  have:(r==d)=false:=by
   rw[beq_eq_false_iff_ne];intro e;subst e;omega
  simp[this]
 b:=fun x hx hs=>by
  obtain⟨hxK,hxk⟩:=h.e x hx;by_cases hrx:r∈D x
  ·have h1:=hab x hxK hrx
   have h2:=hN.rkD x hxK r hrx;exact .inr ⟨List.mem_append_left _ (List.mem_reverse.2 h1),by omega⟩
  ·rw[<-hN.loc S _ x hxK fun d hd=>by
    have:(r==d)=false:=by
     rw[beq_eq_false_iff_ne];intro e;subst e;exact hrx hd
    simp[this]] at hs
   rcases h.b x hx hs with h3 |⟨h3,h4⟩
   ·exact .inl (by simp[h3])
   ·rcases List.mem_cons.1 h3 with rfl |h3
    ·exact .inl (by simp)
    ·exact .inr ⟨List.mem_append_right _ h3,h4⟩
 c:=fun x hx hs=>by
  simp only[Bool.or_eq_true] at hs;rcases hs with hs |hs
  ·exact h.c x hx hs
  ·rw[<-eq_of_beq hs]
   omega
 d:=fun j T h1 h2 x hx hj hs=>by
  have h3:∀y∈K,rk y<j->rk y<k\/k<j:=fun y _ hy=>by omega
  by_cases hjk:k<j
  ·simp only[Bool.or_eq_true] at hs
   rcases hs with hs |hs
   ·have:=h.c x hx hs
    omega
   ·have:=eq_of_beq hs
    subst this;omega
  ·have h4:∀y∈K,rk y<j->T y=S y:=fun y hy hlt=>by
    rw[h1 y hy hlt]
    have:(r==y)=false:=by
     rw[beq_eq_false_iff_ne];intro e;subst e;omega
    simp[this]
   simp only[Bool.or_eq_true] at hs;rcases hs with hs |hs
   ·exact h.d j T h4 h2 x hx hj hs
   ·have:=eq_of_beq hs
    subst this;refine h2 r hr hj (hN.mono S T r hr (fun d hd hlt=>(h4 d (hN.DK r hr d hd) (by omega)).symm) (fun d hd he hs=> ?_) hn);exact h.d j T h4 h2 d (hN.DK r hr d hd) (by omega) hs
 e:=h.e
def owed (P:List PN)(S:GRef->Bool):Nat:=((P.filter fun p=> !S p.k).map fun p=>p.above.length).sum
theorem sF_ {P:List PN}(hn:(P.map (·.k)).Nodup){p:PN}(hp:p∈P)(hs:S p.k=false):owed P (fun x=>S x||p.k==x)+p.above.length=owed P S:=by
 unfold owed;induction P with
 |nil=>cases hp
 |cons q l ih=>
  rw[List.map_cons,List.nodup_cons] at hn;rcases List.mem_cons.1 hp with rfl |hp
  ·have h1:(l.filter fun x=> !(S x.k||p.k==x.k))=l.filter fun x=> !S x.k:=by
    refine List.filter_congr fun y hy=> ?_
    have:(p.k==y.k)=false:=by
     rw[beq_eq_false_iff_ne];intro e;exact hn.1 (by rw[e];exact List.mem_map_of_mem hy)
    simp[this]
   rw[List.filter_cons,List.filter_cons,h1];simp[hs];omega
  ·have:=ih hn.2 hp
   dsimp only at this;have hne:(p.k==q.k)=false:=by
    rw[beq_eq_false_iff_ne];intro e;exact hn.1 (by rw[<-e];exact List.mem_map_of_mem hp)
   have h1:∀b:Bool,(!(b||p.k==q.k))= !b:=fun b=>by rw[hne,Bool.or_false]
   rw[List.filter_cons,List.filter_cons];simp only[h1];cases hq:S q.k with
   |true=>exact this
   |false=>
    simp only[Bool.not_false,if_true,List.map_cons,List.sum_cons];omega
end
theorem sG_ {α:Type}(rk:α->Int)(x y:α):ltC (fun a b=>cmpI (rk a) (rk b)) x y=decide (rk x<rk y):=by
 unfold ltC cmpI;by_cases h:rk x<rk y
 ·simp[h]
 ·simp only[h,if_false,decide_false,decide_eq_false_iff_not]
  split<;>omega
section
variable {α:Type}{rk:α->Int}{lt:α->α->Bool}(hlt:∀x y,lt x y=decide (rk x<rk y))
include hlt
end
theorem dK_ {D:GRef->List GRef}:∀ {l U:List GRef},l.Nodup->(∀r∈l,r∈U)->total D l<=total D U
 |[],_,_,_=>Nat.zero_le _
 |x::l,U,h1,h2=>by
  rw[List.nodup_cons] at h1;have hx:=h2 x (List.mem_cons_self ..);have h3:=dK_ (D:=D) (l:=l) (U:=U.erase x) h1.2 fun r hr=>(List.mem_erase_of_ne fun e=>h1.1 (by rw[<-e];exact hr)).2 (h2 r (List.mem_cons_of_mem _ hr));have h4:total D U=total D (x::U.erase x):=((List.perm_cons_erase hx).map fun r=>(D r).length).sum_nat;rw[h4]
  simp only[total,List.map_cons,List.sum_cons] at h3⊢;omega
structure Least (K:List GRef) (rk:GRef->Int) (nwB:(GRef->Bool)->GRef->Bool) (S:GRef->Bool):Prop where
 fix:∀r∈K,S r=nwB S r
 low:∀(j:Int) (T:GRef->Bool),(∀r∈K,rk r<j->T r=S r)->(∀r∈K,rk r=j->nwB T r=true->T r=true)->∀r∈K,rk r=j->S r=true->T r=true
theorem uw_ {D:GRef->List GRef}:∀ {l K:List GRef},K.Nodup->(K.map fun x=>(vs_ D l x).length).sum<=total D l
 |[],K,_=>by
  simp only[vs_,List.flatMap_nil,List.length_nil,total]
  have:∀K:List GRef,(K.map fun _=>0).sum=0:=fun K=>by
   induction K with
   |nil=>rfl
   |cons x l ih=>simpa using ih
  rw[this];exact Nat.zero_le _
 |r::l,K,hn=>by
  have ih:=uw_ (D:=D) (l:=l) hn;have h1:∀(ds:List GRef) (K:List GRef),K.Nodup->(K.map fun x=>(ds.filter (· ==x)).length).sum<=ds.length:=fun ds=>by
   induction ds with
   |nil=>
    intro K _;simp only[List.filter_nil,List.length_nil]
    have:∀K:List GRef,(K.map fun _=>0).sum=0:=fun K=>by
     induction K with
     |nil=>rfl
     |cons x l ih=>simpa using ih
    rw[this];exact Nat.zero_le _
   |cons d ds ih=>
    intro K hK;have h2:=ih K hK;have h3:∀K:List GRef,K.Nodup->(K.map fun x=>((d::ds).filter (· ==x)).length).sum<=(K.map fun x=>(ds.filter (· ==x)).length).sum+1:=fun K=>by
     induction K with
     |nil=>intro _;simp
     |cons x K ihK=>
      intro hK;rw[List.nodup_cons] at hK;simp only[List.map_cons,List.sum_cons];by_cases e:(d==x)=true
      ·have h4:(K.map fun x=>((d::ds).filter (· ==x)).length)=K.map fun x=>(ds.filter (· ==x)).length:=List.map_congr_left fun y hy=>by
        rw[List.filter_cons_of_neg (p:=fun z=>z==y)];intro e2;exact hK.1 (by rw[<-eq_of_beq e,eq_of_beq e2];exact hy)
       rw[h4,List.filter_cons_of_pos (p:=fun z=>z==x) e];simp only[List.length_cons];omega
      ·rw[List.filter_cons_of_neg (p:=fun z=>z==x) e]
       have:=ihK hK.2
       omega
    have:=h3 K hK
    simp only[List.length_cons];omega
  have h5:=h1 (D r) K hn;have h6:∀K:List GRef,(K.map fun x=>(vs_ D (r::l) x).length).sum=(K.map fun x=>((D r).filter (· ==x)).length).sum+(K.map fun x=>(vs_ D l x).length).sum:=fun K=>by
   induction K with
   |nil=>rfl
   |cons x K ih=>
    have h7:(vs_ D (r::l) x).length=((D r).filter (· ==x)).length+(vs_ D l x).length:=by simp[vs_]
    simp only[List.map_cons,List.sum_cons];omega
  rw[h6];simp only[total,List.map_cons,List.sum_cons] at ih⊢;omega
theorem kO_ {α:Type}{A B:List α}{x:α}{k:Nat}(h:k=A.length):(A++x::B)[k]? =some x:=by
 subst h;rw[List.getElem?_append_right (Nat.le_refl _),Nat.sub_self];rfl
theorem vN_ {α:Type}{A B:List α}{x y:α}{k:Nat}(h:k=A.length):(A++x::B).set k y=A++y::B:=by
 subst h;rw[List.set_append_right _ _ (Nat.le_refl _),Nat.sub_self];rfl
theorem w8_ {α:Type}:∀(n i:Nat) (A Y1 X2 M X1 Y2 Z:List α),X2.length=n->Y2.length=n->Y1.length=i->X1.length=i->swpR A.length (A.length+i+n+M.length) n (A++(Y1++X2)++M++(X1++Y2)++Z) i=some (A++(Y1++Y2)++M++(X1++X2)++Z)
 |0,i,A,Y1,X2,M,X1,Y2,Z,h1,h2,_,_=>by
  rw[List.length_eq_zero_iff.1 h1,List.length_eq_zero_iff.1 h2];rfl
 |n+1,i,A,Y1,x::X2,M,X1,y::Y2,Z,h1,h2,h3,h4=>by
  have e0:A++(Y1++x::X2)++M++(X1++y::Y2)++Z=(A++Y1)++x::(X2++M++X1++y::(Y2++Z)):=by simp
  have e1:(A++Y1)++x::(X2++M++X1++y::(Y2++Z))=((A++Y1)++x::(X2++M++X1))++y::(Y2++Z):=by simp
  have e2:(A++Y1)++y::(X2++M++X1++y::(Y2++Z))=((A++Y1)++y::(X2++M++X1))++y::(Y2++Z):=by simp
  simp only[List.length_cons] at h1 h2;unfold swpR;rw[show A.length+i+(n+1)+M.length+i=(((A++Y1)++x::(X2++M++X1)):List α).length by simp;omega,e0,e1,kO_ rfl,Zo,<-e1,kO_ (show A.length+i=(A++Y1).length by simp;omega),Zo,vN_ (show A.length+i=(A++Y1).length by simp;omega),e2,vN_ (by simp)]
  have ih:=w8_ n (i+1) A (Y1++[y]) X2 M (X1++[x]) Y2 Z (by omega) (by omega) (by simp;omega) (by simp;omega);have e3:A++Y1++y::(X2++M++X1)++x::(Y2++Z)=A++(Y1++[y]++X2)++M++(X1++[x]++Y2)++Z:=by simp
  have e4:A++(Y1++[y]++Y2)++M++(X1++[x]++X2)++Z=A++(Y1++y::Y2)++M++(X1++x::X2)++Z:=by simp
  rw[e3];rw[e4] at ih;rw[show A.length+i+(n+1)+M.length=A.length+(i+1)+n+M.length by omega];exact ih
theorem ux_ {α:Type}:∀(f:Nat) (A L R Z:List α),L.length+R.length<f->0<L.length->0<R.length->rotM (A.length+L.length) f (A++L++R++Z) L.length R.length=some (A++R++L++Z)
 |0,_,_,_,_,h,_,_=>absurd h (Nat.not_lt_zero _)
 |f+1,A,L,R,Z,hf,hL,hR=>by
  unfold rotM;rw[if_pos (by omega)];by_cases h1:L.length=R.length
  ·rw[if_pos h1]
   have:=w8_ L.length 0 A [] L [] [] R Z rfl h1.symm rfl rfl
   simp only[List.nil_append,List.length_nil,Nat.add_zero,List.append_nil] at this;rw[show A.length+L.length-L.length=A.length by omega];exact this
  ·rw[if_neg h1]
   by_cases h2:R.length<L.length
   ·rw[if_pos h2]
    obtain⟨L1,L2,rfl,hL1⟩:∃L1 L2,L=L1++L2/\L1.length=R.length:=⟨L.take R.length,L.drop R.length,(List.take_append_drop _ _).symm,by rw[List.length_take];omega⟩;rw[List.length_append] at hf hL h2 h1⊢;have hs:=w8_ R.length 0 A [] L1 L2 [] R Z hL1 rfl rfl rfl;simp only[List.nil_append,Nat.add_zero] at hs
    have ih:=ux_ f (A++R) L2 L1 Z (by omega) (by omega) (by omega);rw[show A.length+(L1.length+L2.length)-(L1.length+L2.length)=A.length by omega,show A.length+(L1.length+L2.length)=A.length+R.length+L2.length by omega,show A++(L1++L2)++R++Z=A++L1++L2++R++Z by simp,hs,Zo,show L1.length+L2.length-R.length=L2.length by omega,<-hL1]
    rw[List.length_append,<-hL1] at ih;rw[ih];simp
   ·rw[if_neg h2]
    obtain⟨R1,R2,rfl,hR2⟩:∃R1 R2,R=R1++R2/\R2.length=L.length:=⟨R.take (R.length-L.length),R.drop (R.length-L.length),(List.take_append_drop _ _).symm,by rw[List.length_drop];omega⟩;rw[List.length_append] at hf hR h2 h1⊢;have hs:=w8_ L.length 0 A [] L R1 [] R2 Z rfl hR2 rfl rfl;simp only[List.nil_append,Nat.add_zero] at hs
    have ih:=ux_ f A R2 R1 (L++Z) (by omega) (by omega) (by omega);rw[show A.length+L.length-L.length=A.length by omega,show A.length+L.length+(R1.length+R2.length)-L.length=A.length+L.length+R1.length by omega,show A++L++(R1++R2)++Z=A++L++R1++R2++Z by simp,hs,Zo,show R1.length+R2.length-L.length=R1.length by omega]
    rw[hR2,<-List.append_assoc] at ih;rw[ih];simp
theorem w9_ {p:Nat->Option Bool}:∀(f i j:Nat),j-i<f->i<=j->(∀k,i<=k->k<j->∃b,p k=some b)->∃r,bsL p f i j=some r/\i<=r/\r<=j/\(r=i\/p (r-1)=some true)/\(r=j\/p r=some false)
 |0,_,_,h,_,_=>absurd h (Nat.not_lt_zero _)
 |f+1,i,j,hf,hij,hp=>by
  unfold bsL;by_cases h:i<j
  ·obtain⟨b,hb⟩:=hp ((i+j) / 2) (by omega) (by omega)
   rw[if_pos h,hb,Zo];cases b with
   |true=>
    rw[if_pos rfl];obtain⟨r,h1,h2,h3,h4,h5⟩:=w9_ f ((i+j) / 2+1) j (by omega) (by omega) fun k hk=>hp k (by omega);refine⟨r,h1,by omega,h3,.inr ?_,h5⟩;rcases h4 with rfl |h4
    ·exact hb
    ·exact h4
   |false=>
    rw[if_neg (by decide)];obtain⟨r,h1,h2,h3,h4,h5⟩:=w9_ f i ((i+j) / 2) (by omega) (by omega) fun k hk hk2=>hp k hk (by omega);refine⟨r,h1,h2,by omega,h4,.inr ?_⟩;rcases h5 with rfl |h5
    ·exact hb
    ·exact h5
  ·rw[if_neg h]
   exact⟨i,rfl,Nat.le_refl _,hij,.inl rfl,.inl (by omega)⟩
theorem hD_ {α:Type}{x:α}:∀(R A C:List α),upS R.length (A++x::(R++C)) A.length=some (A++(R++x::C))
 |[],_,_=>rfl
 |y::R,A,C=>by
  have ih:=hD_ (x:=x) R (A++[y]) C;rw[List.length_append,List.length_singleton] at ih;have e1:A++x::(y::R++C)=(A++[x])++y::(R++C):=by simp
  show upS (R.length+1) _ _=_;unfold upS;rw[e1,kO_ (by simp),Zo,<-e1,kO_ rfl,Zo,vN_ rfl,show A++y::(y::R++C)=(A++[y])++y::(R++C) by simp,vN_ (by simp),ih];simp
theorem hE_ {α:Type}{y:α}:∀(n:Nat) (R A C:List α),R.length=n->dnS n (A++(R++y::C)) (A.length+n)=some (A++y::(R++C))
 |0,R,A,C,h=>by
  rw[List.length_eq_zero_iff.1 h];rfl
 |n+1,R,A,C,h=>by
  obtain⟨R',x,rfl⟩:∃R' x,R=R'++[x]:=⟨R.dropLast,R.getLast (fun e=>by rw[e] at h;cases h),(List.dropLast_concat_getLast _).symm⟩;have hn:R'.length=n:=by simpa using h
  have ih:=hE_ (y:=y) n R' A (x::C) hn;show dnS (n+1) _ (A.length+n+1)=_;unfold dnS;have e1:A++(R'++[x]++y::C)=(A++R')++x::(y::C):=by simp
  have e2:(A++R')++x::(y::C)=(A++R'++[x])++y::C:=by simp
  have e3:(A++R'++[x])++x::C=(A++R')++x::(x::C):=by simp
  rw[e1,kO_ (by simp[hn]),Zo,e2,kO_ (by simp[hn];omega),Zo,vN_ (by simp[hn];omega),e3,vN_ (by simp[hn]),show A++R'++y::x::C=A++(R'++y::x::C) by simp,ih];simp
theorem gt1 {α:Type}{A L C:List α}{k:Nat}(h:k<L.length):(A++(L++C))[A.length+k]? =some L[k]:=by
 rw[List.getElem?_append_right (by omega),Nat.add_sub_cancel_left,List.getElem?_append_left h,List.getElem?_eq_getElem h]
section
variable {α:Type}{rk:α->Int}{lt:α->α->Bool}(hlt:∀x y,lt x y=decide (rk x<rk y))
theorem ms_ {L R:List α}{k k':Nat}(hL:L.Pairwise fun a b=>rk a<=rk b)(hR:R.Pairwise fun a b=>rk a<=rk b)(hk:k<=L.length)(h:∀(h1:0<k) (h3:k'<R.length),rk (L[k-1]'(by omega))<=rk R[k']):∀a∈L.take k,∀b∈R.drop k',rk a<=rk b:=by
 intro a ha b hb;obtain⟨i,hi,rfl⟩:=List.mem_take_iff_getElem.1 ha;obtain⟨j,hj,rfl⟩:=List.mem_drop_iff_getElem.1 hb;have h1:=h (by omega) (by omega);have h2:rk (L[i]'(by omega))<=rk (L[k-1]'(by omega)):=by
  rcases Nat.lt_or_ge i (k-1) with h3 |h3
  ·exact List.pairwise_iff_getElem.1 hL i (k-1) _ _ h3
  ·have:i=k-1:=by omega
   subst this;exact Int.le_refl _
 have h4:rk (R[k']'(by omega))<=rk (R[k'+j]'(by omega)):=by
  rcases Nat.eq_zero_or_pos j with h3 |h3
  ·subst h3
   exact Int.le_refl _
  ·exact List.pairwise_iff_getElem.1 hR k' (k'+j) _ _ (by omega)
 exact Int.le_trans h2 (Int.le_trans h1 h4)
include hlt in
theorem ka_:∀(f:Nat) (A L R Z:List α),L.length+R.length<=f->0<L.length->0<R.length->(L.Pairwise fun a b=>rk a<=rk b)->(R.Pairwise fun a b=>rk a<=rk b)->∃B,symM lt f (A++(L++(R++Z))) A.length (A.length+L.length) (A.length+L.length+R.length)=some (A++(B++Z))/\B.Perm (L++R)/\B.Pairwise fun a b=>rk a<=rk b
 |0,_,_,_,_,h,h1,_,_,_=>by omega
 |f+1,A,L,R,Z,hf,hL0,hR0,hL,hR=>by
  obtain⟨xs,hxs⟩:∃xs,xs=A++(L++(R++Z)):=⟨_,rfl⟩;have hlen:xs.length=A.length+L.length+R.length+Z.length:=by rw[hxs];simp;omega
  have gL:∀k (h:k<L.length),xs[A.length+k]? =some L[k]:=fun k h=>by rw[hxs];exact gt1 h
  have gR:∀k (h:k<R.length),xs[A.length+L.length+k]? =some R[k]:=fun k h=>by
   rw[hxs,show A++(L++(R++Z))=(A++L)++(R++Z) by simp,show A.length+L.length+k=(A++L).length+k by simp];exact gt1 h
  rw[<-hxs];unfold symM;rw[if_pos ⟨by omega,by omega,by omega⟩];by_cases h1:L.length=1
  ·rw[if_pos (by omega)]
   obtain⟨i,b1,b2,b3,b4,b5⟩:=w9_ (p:=fun h=>(xs[h]?).bind fun x=>(xs[A.length]?).map fun y=>lt x y) (xs.length+1) (A.length+L.length) (A.length+L.length+R.length) (by omega) (by omega) fun k hk hk2=>by
    have e1:=gR (k-(A.length+L.length)) (by omega);rw[show A.length+L.length+(k-(A.length+L.length))=k by omega] at e1;have e2:xs[A.length]? =some _:=gL 0 hL0;exact⟨lt R[k-(A.length+L.length)] L[0],by rw[e1,Zo,e2];rfl⟩
   rw[b1,Zo];obtain⟨k,rfl⟩:∃k,i=A.length+L.length+k:=⟨i-(A.length+L.length),by omega⟩;obtain⟨x,rfl⟩:∃x,L= [x]:=List.length_eq_one_iff.1 h1;refine⟨R.take k++x::R.drop k,?_,?_,?_⟩
   ·have hk:(R.take k).length=k:=by rw[List.length_take];omega
    have:=hD_ (x:=x) (R.take k) A (R.drop k++Z)
    rw[hk] at this;rw[hxs,show A.length+[x].length+k-1-A.length=k by simp,show A++([x]++(R++Z))=A++x::(R.take k++(R.drop k++Z)) by rw[<-List.append_assoc (R.take k),List.take_append_drop];rfl,this];simp
   ·refine List.perm_middle.trans ?_
    rw[List.take_append_drop];exact .refl _
   ·have hx:∀b∈R.drop k,rk x<=rk b:=fun b hb=>ms_ (k:=1) (k':=k) hL hR (by simp) (fun _ h3=>by
     rcases b5 with b5 |b5
     ·omega
     ·have e1:=gR k h3
      have e2:xs[A.length]? =some _:=gL 0 hL0;rw[e1,Zo,e2] at b5;have b6:=Option.some.inj b5;dsimp only at b6;rw[hlt] at b6
      have:=of_decide_eq_false b6
      show rk x<=rk R[k];have e3:([x]:List α)[0]=x:=rfl;rw[e3] at this;omega) x (by simp) b hb
    have hy:∀a∈R.take k,rk a<=rk x:=fun a ha=>ms_ (k:=k) (k':=0) hR hL (by omega) (fun h0 _=>by
     rcases b4 with b4 |b4
     ·omega
     ·have e1:=gR (k-1) (by omega)
      have e2:xs[A.length]? =some _:=gL 0 hL0;rw[show A.length+[x].length+k-1=A.length+[x].length+(k-1) by omega,e1,Zo,e2] at b4;have b6:=Option.some.inj b4;dsimp only at b6;rw[hlt] at b6
      have:=of_decide_eq_true b6
      omega) a ha x (by simp)
    rw[<-List.take_append_drop k R,List.pairwise_append] at hR;refine List.pairwise_append.2 ⟨hR.1,List.pairwise_cons.2 ⟨hx,hR.2.1⟩,fun a ha b hb=> ?_⟩;rcases List.mem_cons.1 hb with rfl |hb
    ·exact hy a ha
    ·exact hR.2.2 a ha b hb
  ·rw[if_neg (by omega)]
   by_cases h2:R.length=1
   ·rw[if_pos (by omega)]
    obtain⟨i,b1,b2,b3,b4,b5⟩:=w9_ (p:=fun h=>(xs[A.length+L.length]?).bind fun x=>(xs[h]?).map fun y=> !lt x y) (xs.length+1) A.length (A.length+L.length) (by omega) (by omega) fun k hk hk2=>by
     have e1:=gL (k-A.length) (by omega);rw[show A.length+(k-A.length)=k by omega] at e1;have e2:xs[A.length+L.length]? =some _:=gR 0 hR0;exact⟨!lt R[0] L[k-A.length],by rw[e2,Zo,e1];rfl⟩
    rw[b1,Zo];obtain⟨k,rfl⟩:∃k,i=A.length+k:=⟨i-A.length,by omega⟩;obtain⟨y,rfl⟩:∃y,R= [y]:=List.length_eq_one_iff.1 h2;refine⟨L.take k++y::L.drop k,?_,?_,?_⟩
    ·have hk:(L.take k).length=k:=by rw[List.length_take];omega
     have:=hE_ (y:=y) (L.length-k) (L.drop k) (A++L.take k) Z (by rw[List.length_drop])
     rw[List.length_append,hk] at this;rw[hxs,show A.length+L.length-(A.length+k)=L.length-k by omega,show A.length+L.length=A.length+k+(L.length-k) by omega,show A++(L++([y]++Z))=A++L.take k++(L.drop k++y::Z) by rw[List.append_assoc,<-List.append_assoc (L.take k),List.take_append_drop];rfl,this];simp
    ·refine List.perm_middle.trans ?_
     rw[List.take_append_drop];exact List.perm_append_comm (l₁:=[y])
    ·have hx:∀b∈L.drop k,rk y<=rk b:=fun b hb=>ms_ (k:=1) (k':=k) hR hL (by simp) (fun _ h3=>by
      rcases b5 with b5 |b5
      ·omega
      ·have e1:=gL k h3
       have e2:xs[A.length+L.length]? =some _:=gR 0 hR0;rw[e2,Zo,e1] at b5;have b6:=Option.some.inj b5;dsimp only at b6;rw[hlt,Bool.not_eq_false'] at b6
       have:=of_decide_eq_true b6
       show rk ([y]:List α)[0]<=rk L[k];omega) y (by simp) b hb
     have hy:∀a∈L.take k,rk a<=rk y:=fun a ha=>ms_ (k:=k) (k':=0) hL hR (by omega) (fun h0 _=>by
      rcases b4 with b4 |b4
      ·omega
      ·have e1:=gL (k-1) (by omega)
       have e2:xs[A.length+L.length]? =some _:=gR 0 hR0;rw[show A.length+k-1=A.length+(k-1) by omega,e2,Zo,e1] at b4;have b6:=Option.some.inj b4;dsimp only at b6;rw[hlt,Bool.not_eq_true'] at b6
       have:=of_decide_eq_false b6
       omega) a ha y (by simp)
     rw[<-List.take_append_drop k L,List.pairwise_append] at hL;refine List.pairwise_append.2 ⟨hL.1,List.pairwise_cons.2 ⟨hx,hL.2.1⟩,fun a ha b hb=> ?_⟩;rcases List.mem_cons.1 hb with rfl |hb
     ·exact hy a ha
     ·exact hL.2.2 a ha b hb
   ·rw[if_neg (by omega)]
    obtain⟨mid,hmid⟩:∃mid,mid=(A.length+(A.length+L.length+R.length)) / 2:=⟨_,rfl⟩;rw[<-hmid];obtain⟨s0,hs0⟩:∃s0,s0=(if mid<A.length+L.length then mid+(A.length+L.length)-(A.length+L.length+R.length) else A.length):=⟨_,rfl⟩
    obtain⟨r0,hr0⟩:∃r0,r0=(if mid<A.length+L.length then mid else A.length+L.length):=⟨_,rfl⟩
    rw[<-hs0,<-hr0];have hsr:s0<=r0/\A.length<=s0/\r0<=mid/\r0<=A.length+L.length/\mid-s0<=R.length:=by
     rw[hs0,hr0];split<;>omega
    obtain⟨i,b1,b2,b3,b4,b5⟩:=w9_ (p:=fun c=>(xs[mid+(A.length+L.length)-1-c]?).bind fun x=>(xs[c]?).map fun y=> !lt x y) (xs.length+1) s0 r0 (by omega) hsr.1 fun k hk hk2=>by
     have e1:=gR (mid-1-k) (by omega);rw[show A.length+L.length+(mid-1-k)=mid+(A.length+L.length)-1-k by omega] at e1;have e2:=gL (k-A.length) (by omega);rw[show A.length+(k-A.length)=k by omega] at e2;exact⟨!lt R[mid-1-k] L[k-A.length],by rw[e1,Zo,e2];rfl⟩
    rw[b1,Zo];obtain⟨k,rfl⟩:∃k,i=A.length+k:=⟨i-A.length,by omega⟩;obtain⟨q,hq⟩:∃q,mid=A.length+k+q:=⟨mid-(A.length+k),by omega⟩;have hk:k<=L.length:=by omega
    have hqR:q<=R.length:=by omega
    have lL1:(L.take k).length=k:=by rw[List.length_take];omega
    have lR1:(R.take q).length=q:=by rw[List.length_take];omega
    have lL2:(L.drop k).length=L.length-k:=List.length_drop;have lR2:(R.drop q).length=R.length-q:=List.length_drop;have c1:∀a∈L.take k,∀b∈R.drop q,rk a<=rk b:=ms_ hL hR hk fun h0 h3=>by
     rcases b4 with b4 |b4
     ·exfalso
      rw[hs0] at b4;split at b4<;>omega
     ·have e1:=gR q h3
      have e2:=gL (k-1) (by omega);rw[show mid+(A.length+L.length)-1-(A.length+k-1)=A.length+L.length+q by omega,e1,Zo,show A.length+k-1=A.length+(k-1) by omega,e2] at b4;have b6:=Option.some.inj b4;dsimp only at b6;rw[hlt,Bool.not_eq_true'] at b6
      have:=of_decide_eq_false b6
      omega
    have c2:∀a∈R.take q,∀b∈L.drop k,rk a<=rk b:=ms_ hR hL hqR fun h0 h3=>by
     rcases b5 with b5 |b5
     ·exfalso
      rw[hr0] at b5;split at b5<;>omega
     ·have e1:=gR (q-1) (by omega)
      have e2:=gL k h3;rw[show mid+(A.length+L.length)-1-(A.length+k)=A.length+L.length+(q-1) by omega,e1,Zo,e2] at b5;have b6:=Option.some.inj b5;dsimp only at b6;rw[hlt,Bool.not_eq_false'] at b6
      have:=of_decide_eq_true b6
      omega
    have hL':=hL;have hR':=hR;rw[<-List.take_append_drop k L,List.pairwise_append] at hL';rw[<-List.take_append_drop q R,List.pairwise_append] at hR';have hxs':xs=(A++L.take k)++L.drop k++R.take q++(R.drop q++Z):=by
     rw[hxs];conv=>lhs;rw[<-List.take_append_drop k L,<-List.take_append_drop q R]
     simp only[List.append_assoc]
    have st1:(if A.length+k<A.length+L.length/\A.length+L.length<mid+(A.length+L.length)-(A.length+k) then rotM (A.length+L.length) (xs.length+1) xs (A.length+L.length-(A.length+k)) (mid+(A.length+L.length)-(A.length+k)-(A.length+L.length)) else some xs)=some (A++(L.take k++(R.take q++(L.drop k++(R.drop q++Z))))):=by
     split
     ·rename_i h
      have:=ux_ (xs.length+1) (A++L.take k) (L.drop k) (R.take q) (R.drop q++Z) (by omega) (by omega) (by omega)
      rw[<-hxs',List.length_append,lL1,lL2,lR1,show A.length+k+(L.length-k)=A.length+L.length by omega] at this;rw[show A.length+L.length-(A.length+k)=L.length-k by omega,show mid+(A.length+L.length)-(A.length+k)-(A.length+L.length)=q by omega,this];simp
     ·rename_i h
      rw[hxs'];rcases Nat.eq_zero_or_pos q with h0 |h0
      ·subst h0
       simp only[List.take_zero,List.drop_zero,List.append_nil,List.nil_append,List.append_assoc]
      ·have:L.drop k= []:=List.drop_eq_nil_of_le (by omega)
       rw[this];simp
    rw[st1,Zo]
    obtain⟨B1,st2,p1,o1⟩:∃B1,(if A.length<A.length+k/\A.length+k<mid then symM lt f (A++(L.take k++(R.take q++(L.drop k++(R.drop q++Z))))) A.length (A.length+k) mid else some (A++(L.take k++(R.take q++(L.drop k++(R.drop q++Z))))))=some (A++(B1++(L.drop k++(R.drop q++Z))))/\B1.Perm (L.take k++R.take q)/\B1.Pairwise fun a b=>rk a<=rk b:=by
     split
     ·obtain⟨B,q1,q2,q3⟩:=ka_ f A (L.take k) (R.take q) (L.drop k++(R.drop q++Z)) (by omega) (by omega) (by omega) hL'.1 hR'.1
      rw[lL1,lR1,<-hq] at q1;exact⟨B,q1,q2,q3⟩
     ·refine⟨L.take k++R.take q,by simp,.refl _,List.pairwise_append.2 ⟨hL'.1,hR'.1,fun a ha b hb=> ?_⟩⟩
      rcases Nat.eq_zero_or_pos k with h0 |h0
      ·subst h0
       simp at ha
      ·have:q=0:=by omega
       subst this;simp at hb
    rw[st2,Zo];have lB1:B1.length=k+q:=by rw[p1.length_eq,List.length_append,lL1,lR1]
    obtain⟨B2,st3,p2,o2⟩:∃B2,(if mid<mid+(A.length+L.length)-(A.length+k)/\mid+(A.length+L.length)-(A.length+k)<A.length+L.length+R.length then symM lt f (A++(B1++(L.drop k++(R.drop q++Z)))) mid (mid+(A.length+L.length)-(A.length+k)) (A.length+L.length+R.length) else some (A++(B1++(L.drop k++(R.drop q++Z)))))=some (A++(B1++(B2++Z)))/\B2.Perm (L.drop k++R.drop q)/\B2.Pairwise fun a b=>rk a<=rk b:=by
     split
     ·obtain⟨B,q1,q2,q3⟩:=ka_ f (A++B1) (L.drop k) (R.drop q) Z (by omega) (by omega) (by omega) hL'.2.1 hR'.2.1
      rw[List.length_append,lB1,lL2,lR2,show A.length+(k+q)=mid by omega,show mid+(L.length-k)=mid+(A.length+L.length)-(A.length+k) by omega,show mid+(A.length+L.length)-(A.length+k)+(R.length-q)=A.length+L.length+R.length by omega,List.append_assoc,List.append_assoc] at q1;exact⟨B,q1,q2,q3⟩
     ·refine⟨L.drop k++R.drop q,by simp,.refl _,List.pairwise_append.2 ⟨hL'.2.1,hR'.2.1,fun a ha b hb=> ?_⟩⟩
      rcases Nat.lt_or_ge k L.length with h0 |h0
      ·rw[List.drop_eq_nil_of_le (by omega:R.length<=q)] at hb
       cases hb
      ·rw[List.drop_eq_nil_of_le h0] at ha
       cases ha
    refine⟨B1++B2,by rw[st3,List.append_assoc],?_,List.pairwise_append.2 ⟨o1,o2,fun a ha b hb=> ?_⟩⟩
    ·refine(p1.append p2).trans ?_
     have e:(L.take k++R.take q++(L.drop k++R.drop q)).Perm (L.take k++L.drop k++(R.take q++R.drop q)):=by
      rw[List.append_assoc,List.append_assoc];refine List.Perm.append_left _ ?_;rw[<-List.append_assoc,<-List.append_assoc];exact List.Perm.append_right _ List.perm_append_comm
     rw[List.take_append_drop,List.take_append_drop] at e;exact e
    ·rcases List.mem_append.1 (p1.mem_iff.1 ha) with ha |ha<;>rcases List.mem_append.1 (p2.mem_iff.1 hb) with hb |hb
     ·exact hL'.2.2 a ha b hb
     ·exact c1 a ha b hb
     ·exact c2 a ha b hb
     ·exact hR'.2.2 a ha b hb
end
end Go.Proofs.YtnmkbmefohakmaaGreat.Ab
