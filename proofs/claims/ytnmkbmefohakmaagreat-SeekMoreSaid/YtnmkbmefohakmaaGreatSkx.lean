/-
 Sorting by a comparison, so that equals stay: any number.
-/
import Derived.Test.YtnmkbmefohakmaaGreatWlq
set_option linter.all false
namespace Go.Proofs.YtnmkbmefohakmaaGreat.Ab
open Go.RowKit IntKind
def FY (l:List AT):List AA:=l.flatMap fun t=>t.rels.map fun g=>⟨t.name,g.name⟩
def MZ (l:List AT):List (AA × Ac):=l.flatMap fun t=>t.rels.map fun g=>(⟨t.name,g.name⟩,g)
section
variable {K V:Type}[BEq K][LawfulBEq K]
omit [LawfulBEq K] in
theorem nK {k:K}{v:V}:∀ {m:List (K × V)},Ar k m=false->mset k v m=m++[(k,v)]
 |[],_=>rfl
 |p::r,h=>by
  have h1:(k==p.1)=false:=by
   cases hk:(k==p.1) with |false=>rfl |true=>simp[Ar,mget,hk] at h
  have h2:Ar k r=false:=by simpa [Ar,mget,h1] using h
  rw[mset,if_neg (by rw[h1];decide),nK h2];rfl
theorem Pb {k:K}:∀ {m:List (K × V)},Ar k m=true↔k∈m.map (·.1)
 |[]=>by simp[Ar,mget]
 |p::r=>by
  have ih:=Pb (k:=k) (m:=r);unfold Ar at ih⊢;simp only[mget,Lk,Lm];grind
theorem nL {k:K}{v:V}:∀ {m:List (K × V)},(m.map (·.1)).Nodup->(k,v)∈m->mget k m=some v
 |[],_,h=>by cases h
 |p::r,hn,h=>by
  rw[Lk,Ng] at hn;simp only[mget];rcases Lm.1 h with rfl |h
  ·rw[if_pos (beq_self_eq_true _)]
  rw[if_neg,nL hn.2 h];grind
omit [LawfulBEq K] in
theorem nM {k:K}{v:V}{p:K × V}:∀ {m:List (K × V)},p∈mset k v m->p=(k,v)\/p∈m
 |[],h=>.inl (Ln.1 h)
 |q::r,h=>by
  rw[mset] at h;split at h
  ·grind
  rcases Lm.1 h with h |h
  ·grind
  rcases nM h with h |h
  ·exact .inl h
  exact .inr (Lh _ h)
end
theorem nN {a:ByteArray}:∀(l:List Ac) (R:List (AA × Ac)),(R.map (·.1)).Nodup->(KI a l R).2=false->(KI a l R).1=R++l.map (fun g=>(⟨a,g.name⟩,g))/\((KI a l R).1.map (·.1)).Nodup
 |[],R,hn,_=>⟨by simp[KI],hn⟩
 |g::r,R,hn,h=>by
  unfold KI at h⊢;cases hh:Ar (⟨a,g.name⟩:AA) R with
  |true=>rw[hh,if_pos rfl] at h;cases h
  |false=>
   rw[hh,if_neg (by decide)] at h;rw[if_neg (by decide)];rw[nK hh] at h⊢;obtain⟨h1,h2⟩:=nN r (R++[(⟨a,g.name⟩,g)]) (by
    rw[Na,BI];refine⟨hn,by simp,fun x hx y hy=> ?_⟩;simp only[Lk,LD,Ln] at hy;rintro rfl;rw[hy] at hx;rw[<-Pb (V:=Ac),hh] at hx;cases hx) h
   exact⟨by rw[h1];simp,h2⟩
theorem dU {k m:ByteArray}{v:Int}{T:List (ByteArray × Int)}:qg_ k 0 (mset m v T)=if k=m then v else qg_ k 0 T:=by
 have:mget k (mset m v T)=if k=m then some v else mget k T:=by
  induction T with
  |nil=>simp only[mset,mget,beq_iff_eq]
  |cons p r ih=>
   simp only[mset];by_cases h:m==p.1
   ·rw[if_pos h];obtain rfl:=eq_of_beq h;simp only[mget,beq_iff_eq];split<;>rfl
   rw[if_neg h];simp only[mget,ih,beq_iff_eq];grind
 unfold qg_;rw[this];split<;>rfl
theorem nO:∀(l:List AT) (T:List (ByteArray × Int)) (R:List (AA × Ac)),(R.map (·.1)).Nodup->(xc_ l T R).2.2=0->(xc_ l T R).2.1=R++MZ l/\((xc_ l T R).2.1.map (·.1)).Nodup/\(l.map (·.name)).Nodup/\∀t∈l,¬0<qg_ t.name 0 T
 |[],T,R,hn,_=>⟨by simp[xc_,MZ],hn,by simp,fun _ h=>nomatch h⟩
 |t::l,T,R,hn,h=>by
  unfold xc_ at h⊢;by_cases ht:0<qg_ t.name 0 T
  ·grind
  rw[decide_eq_false ht,if_neg (by decide)] at h⊢;dsimp only at h⊢;have hc:=nN (a:=t.name) t.rels R hn;generalize KI t.name t.rels R=p at hc h;obtain⟨R1,b⟩:=p;cases b with
  |true=>rw[if_pos rfl] at h;cases h
  |false=>
   rw[if_neg (show ¬(R1,false).2=true from fun h=>by cases h)] at h⊢;obtain⟨c1,c2⟩:=hc rfl;dsimp only at c1 c2 h⊢;obtain⟨d1,d2,d3,d4⟩:=nO l (mset t.name 1 T) R1 c2 h;refine⟨by rw[d1,c1];simp[MZ],d2,?_,fun u hu=> ?_⟩
   ·rw[Lk,Ng];refine⟨fun hm=> ?_,d3⟩;obtain⟨u,hu,e⟩:=LQ.1 hm
    have:=d4 u hu;rw[dU,if_pos e] at this;exact this (by decide)
   rcases Lm.1 hu with rfl |hu
   ·exact ht
   grind [dU,absurd]
theorem nP (a:ByteArray):∀(l:List AT) (T:List (ByteArray × Int)) (R:List (AA × Ac)),(xc_ l T R).2.2=0->(qg_ a 0 (xc_ l T R).1≠0↔qg_ a 0 T≠0\/a∈l.map (·.name))
 |[],T,R,_=>by simp[xc_]
 |t::l,T,R,h=>by
  unfold xc_ at h⊢;by_cases ht:0<qg_ t.name 0 T
  ·grind
  rw[decide_eq_false ht,if_neg (by decide)] at h⊢;dsimp only at h⊢;generalize KI t.name t.rels R=p at h;obtain⟨R1,b⟩:=p;cases b with
  |true=>rw[if_pos rfl] at h;cases h
  |false=>
   rw[if_neg (show ¬(R1,false).2=true from fun h=>by cases h)] at h⊢;rw[nP a l _ R1 h,dU,Lk,Lm];grind
theorem nQ {n:Nat}{S:AC}{a:ByteArray}(hS:Fw S)(hn:1000<n):∀(l:List Ac) (ns:List AA),(∀g∈l,FR g)->ns.length+l.length<=1000000000->∃r,PY n S a l ns=some r/\∀os,r= .inl os->os=ns++l.map (fun g=>⟨a,g.name⟩)/\∀g∈l,MY S a g
 |[],ns,_,_=>⟨_,rfl,fun os h=>by grind⟩
 |g::l,ns,hb,hl=>by
  simp only[Lg] at hl;obtain⟨e,e1,e2⟩:=wL (a:=a) hS (hb g (Lo ..)) hn;unfold PY;rw[ifp,e1,Zo];split
  ·rename_i he;obtain⟨r,r1,r2⟩:=nQ (a:=a) hS hn l (ns++[⟨a,g.name⟩]) (fun x hx=>hb x (Lh _ hx)) (by grind);grind
  simp
theorem nR {n:Nat}{S:AC}(hS:Fw S)(hn:1000<n):∀(l:List AT) (ns:List AA),(∀t∈l,t.rels.length<=200/\∀g∈t.rels,FR g)->ns.length+200*l.length<=1000000000->∃r,PZ n S l ns=some r/\∀os,r= .inl os->os=ns++FY l/\∀t∈l,∀g∈t.rels,MY S t.name g
 |[],ns,_,_=>⟨_,rfl,fun os h=>by cases h;exact⟨by simp[FY],fun _ h=>nomatch h⟩⟩
 |t::l,ns,hb,hl=>by
  simp only[Lg] at hl;obtain⟨b1,b2⟩:=hb t (Lo ..);obtain⟨r,e1,e2⟩:=nQ (a:=t.name) hS hn t.rels ns b2 (by omega);unfold PZ;rw[e1,Zo];cases r with
  |inr e=>simp
  |inl os1=>
   obtain⟨q1,q2⟩:=e2 os1 rfl;obtain⟨r,r1,r2⟩:=nR hS hn l os1 (fun x hx=>hb x (Lh _ hx)) (by grind);refine⟨r,r1,fun os h=> ?_⟩;obtain⟨s1,s2⟩:=r2 os h;refine⟨by rw[s1,q1];simp[FY],fun x hx=> ?_⟩;grind
theorem nS {α:Type}:∀(f:Nat) (xs:List α) (i j:Nat),(i<j->j<xs.length)->j-i<f->∃ys,GN f xs i j=some ys/\ys.Perm xs
 |0,_,_,_,_,h=>absurd h (LK _)
 |f+1,xs,i,j,hj,hf=>by
  unfold GN;split
  ·rename_i hij;have h1:=hj hij;rw[Ld h1,Ld (show i<xs.length by omega),Zo,Zo];obtain⟨ys,e1,e2⟩:=nS f ((xs.set i xs[j]).set j xs[i]) (i+1) (j-1) (fun _=>by grind) (by omega);exact⟨ys,e1,e2.trans (List.set_set_perm (by omega) h1)⟩
  exact⟨xs,rfl,.refl _⟩
theorem nU {n:Nat}{S:AC}:∀(os:List AA) (W:List (AA × List AG)),(∀m∈os,RW n S m=some (FW S m))->∃W',RP n S os W=some W'/\(∀k,mget k W'=if k∈os then some (FW S k) else mget k W)/\∀p∈W',p∈W\/p.2=FW S p.1
 |[],W,_=>⟨W,rfl,fun k=>by simp,fun p h=>.inl h⟩
 |m::os,W,h=>by
  unfold RP;rw[h m (Lo ..),Zo];obtain⟨W',e1,e2,e3⟩:=nU os (mset m (FW S m) W) fun x hx=>h x (Lh _ hx);refine⟨W',e1,fun k=> ?_,fun p hp=> ?_⟩
  ·rw[e2 k];by_cases hk:k∈os
   ·grind
   rw[if_neg hk];have hs:mget k (mset m (FW S m) W)=if k=m then some (FW S m) else mget k W:=by
    clear e2 e3 e1;induction W with
    |nil=>simp only[mset,mget,beq_iff_eq]
    |cons p r ih=>
     simp only[mset];by_cases h:m==p.1
     ·rw[if_pos h];obtain rfl:=eq_of_beq h;simp only[mget,beq_iff_eq];split<;>rfl
     rw[if_neg h];simp only[mget,ih,beq_iff_eq];grind
   grind
  rcases e3 p hp with h |h
  ·rcases nM h with rfl |h
   ·exact .inr rfl
   exact .inl h
  exact .inr h
structure Vu (l:List AT) (S:AC):Prop where
 rels:S.rels=MZ l
 keys:(S.rels.map (·.1)).Nodup
 tys:(l.map (·.name)).Nodup
 typ:∀a,qg_ a 0 S.types≠0↔a∈l.map (·.name)
structure Es (l:List AT) (S:AC):Prop extends Vu l S where
 nms:∀t∈l,∀g∈t.rels,MY S t.name g
 rk0:∀k,0<=Ca S.ranks k
 rk:∀m∈FY l,∀w∈FW S m,Ca S.ranks w.to1+w.taken<=Ca S.ranks m
 rkT:∀k,Ca S.ranks k<=((FY l).length:Int)
 low:∀rk':AA->Int,(∀k,0<=rk' k/\rk' k<=((FY l).length:Int))->(∀m∈FY l,∀w∈FW S m,rk' w.to1+w.taken<=rk' m)->∀k,Ca S.ranks k<=rk' k
theorem wP {l:List AT}(h:JG l):(FY l).length<=40200:=by
 have key:∀l:List AT,(∀t∈l,t.rels.length<=200)->(FY l).length<=200*l.length:=fun l=>by
  induction l with
  |nil=>intro _;exact Lc _
  |cons t r ih=>
   grind [List.mem_cons_self,List.mem_cons_of_mem,FY,List.length_append,List.length_map,List.length_cons]
 have h1:=key l fun t ht=>(h.2 t ht).1;have h2:=h.1;omega
theorem nV {l:List AT}{m:AA}:m∈FY l↔∃t∈l,∃g∈t.rels,m=⟨t.name,g.name⟩:=by
 simp[FY,eq_comm]
theorem dV {l:List AT}{p:AA × Ac}:p∈MZ l↔∃t∈l,∃g∈t.rels,p=(⟨t.name,g.name⟩,g):=by
 simp[MZ,eq_comm]
theorem Vv (l:List AT):(MZ l).map (·.1)=FY l:=by
 induction l with
 |nil=>rfl
 |cons t r ih=>
  simp_all [FY,MZ,Na,N8]
theorem nW {l:List AT}{R:List (AA × Ac)}(hR:R=MZ l)(hn:(R.map (·.1)).Nodup){t:AT}{g:Ac}(ht:t∈l)(hg:g∈t.rels):mget (⟨t.name,g.name⟩:AA) R=some g:=
 nL hn (by rw[hR];exact dV.2 ⟨t,ht,g,hg,rfl⟩)
theorem wQ {l:List AT}(hl:JG l){n:Nat}(hn:2000000000<n):∃r,I6 n l=some r/\∀S,r= .inl S->Es l S:=by
 have hk:=wP hl;have hl1:=hl.1;unfold I6;rw[if_pos ⟨by omega,fun t ht=>by have:=(hl.2 t ht).1;omega⟩];cases hc:((xc_ l [] []).2.2==0) with
 |false=>simp
 |true=>
  rw[if_pos rfl];have c4:∀a,qg_ a 0 (xc_ l [] []).1≠0↔a∈l.map (·.name):=fun a=>(nP a l [] [] (eq_of_beq hc)).trans (by simp[qg_,mget]);obtain⟨c1,c2,c3,_⟩:=nO l [] [] (by simp) (eq_of_beq hc);rw[LE] at c1;generalize (xc_ l [] []).1=T at *;generalize (xc_ l [] []).2.1=R at *;have hS:Fw ⟨T,R,[]⟩:=fun p hp=>by
   have hp:p∈R:=hp;rw[c1] at hp;obtain⟨t,ht,g,hg,rfl⟩:=dV.1 hp;exact(hl.2 t ht).2 g hg
  obtain⟨r,e1,e2⟩:=nR (n:=n) hS (by omega) l [] hl.2 (by simp only[LB];omega);rw[e1,Zo];cases r with
  |inr e=>exact⟨_,rfl,fun _ h=>nomatch h⟩
  |inl os=>
   obtain⟨q1,q2⟩:=e2 os rfl;rw[LE] at q1;cases os with
   |nil=>
    refine⟨_,rfl,fun S h=> ?_⟩;cases h;exact⟨⟨c1,c2,c3,c4⟩,q2,fun k=>Bu _,fun m hm=>(by rw[<-q1] at hm;cases hm),fun k=>Oq _,fun rk' h _ k=>(h k).1⟩
   |cons m r=>
    rw[Hy];obtain⟨ys,y1,y2⟩:=nS n (m::r) 0 r.length (fun _=>by rw[Lg];omega) (by grind);rw[y1,Zo];have hyk:∀k,k∈ys↔k∈FY l:=fun k=>(by rw[<-q1];exact y2.mem_iff);have hyl:ys.length<=40200:=(by rw[y2.length_eq,q1];exact hk);have hW:∀k∈ys,RW n ⟨T,R,[]⟩ k=some (FW ⟨T,R,[]⟩ k)/\(FW ⟨T,R,[]⟩ k).length<=60000:=fun k hk=>by
     obtain⟨t,ht,g,hg,rfl⟩:=nV.1 ((hyk k).1 hk);have e:qg_ (⟨t.name,g.name⟩:AA) DX R=g:=(by unfold qg_;rw[nW c1 c2 ht hg];rfl);refine wN hS (by omega) ?_;show ∀x∈(qg_ (⟨t.name,g.name⟩:AA) DX R).expr,_;rw[e];exact(q2 t ht g hg).2
    obtain⟨W,w1,w2,w3⟩:=nU (n:=n) (S:=⟨T,R,[]⟩) ys [] fun k hk=>(hW k hk).1;have hWk:∀k∈ys,qg_ k [] W=FW ⟨T,R,[]⟩ k:=fun k hk=>(by unfold qg_;rw[w2,if_pos hk];rfl);have hWn:∀k,k∉ys->qg_ k [] W= []:=fun k hk=>(by unfold qg_;rw[w2,if_neg hk];rfl);have hWa:∀k,(qg_ k [] W).length<=60000/\∀w∈qg_ k [] W,w.taken=0\/w.taken=1:=fun k=>by
     by_cases hk:k∈ys
     ·rw[hWk k hk];exact⟨(hW k hk).2,nE _ k⟩
     grind
    rw[w1,Zo,if_pos];rotate_left
    ·refine⟨fun k hk=>by rw[w2,if_pos hk];rfl,fun p hp=> ?_,by omega⟩;rcases w3 p hp with h |h
     ·cases h
     rw[h];unfold FW;by_cases hk:p.1∈ys
     ·have:=(hW p.1 hk).2;unfold FW at this;omega
     have hd:qg_ p.1 [] W= []:=hWn _ hk;have hm:Ar p.1 W=true:=Pb.2 (LH hp);unfold Ar at hm;rw[w2,if_neg hk] at hm;cases hm
    obtain⟨rr,k1,k2⟩:=nG (os:=ys) hWa (by omega) n [] (fun k=>⟨Bu _,Oq _⟩) (by
     have:ys.length*ys.length<=40200*40200:=BL hyl hyl;omega)
    rw[k1,Zo];cases rr with
    |none=>simp
    |some K=>
     refine⟨_,rfl,fun S h=> ?_⟩;cases h;obtain⟨p1,p2⟩:=k2 K rfl;have hlen:ys.length=(FY l).length:=(by rw[y2.length_eq,q1]);refine⟨⟨c1,c2,c3,c4⟩,q2,fun k=>(p1 k).1,fun k hk w hw=> ?_,fun k=>by rw[<-hlen];exact(p1 k).2,fun rk' h1 h2=> ?_⟩
     ·have hky:=(hyk k).2 hk;exact p2 k hky w (by rw[hWk k hky];exact hw)
     obtain⟨K',e1,e2⟩:=nI (os:=ys) (W:=W) (rk':=rk') (by omega) (fun k=>by rw[hlen];exact(h1 k).2) (fun m hm w hw=>⟨(hWa m).2 w hw,by rw[hWk m hm] at hw;exact h2 m ((hyk m).1 hm) w hw⟩) n [] (some K) (fun k=>⟨Bu _,(h1 k).1⟩) k1;cases e1;exact e2
def HK (p:Nat->Option Bool):Nat->Nat->Nat->Option Nat
 |0,_,_=>none
 |f+1,i,j=>if i<j then(p ((i+j) / 2)).bind fun b=>if b then HK p f ((i+j) / 2+1) j else HK p f i ((i+j) / 2) else some i
def MT {α:Type}:Nat->List α->Nat->Option (List α)
 |0,xs,_=>some xs
 |c+1,xs,k=>(xs[k+1]?).bind fun x=>(xs[k]?).bind fun y=>MT c ((xs.set k x).set (k+1) y) (k+1)
def MU {α:Type}:Nat->List α->Nat->Option (List α)
 |0,xs,_=>some xs
 |_+1,_,0=>none
 |c+1,xs,k+1=>(xs[k]?).bind fun x=>(xs[k+1]?).bind fun y=>MU c ((xs.set (k+1) x).set k y) k
def symM {α:Type}(lt:α->α->Bool):Nat->List α->Nat->Nat->Nat->Option (List α)
 |0,_,_,_,_=>none
 |f+1,xs,a,m,b=>if a<m/\m<b/\b<=xs.length then (if m-a=1 then(HK (fun h=>(xs[h]?).bind fun x=>(xs[a]?).map fun y=>lt x y) (xs.length+1) m b).bind fun i=>MT (i-1-a) xs a else if b-m=1 then(HK (fun h=>(xs[m]?).bind fun x=>(xs[h]?).map fun y=> !lt x y) (xs.length+1) a m).bind fun i=>MU (m-i) xs m else(HK (fun c=>(xs[(a+b) / 2+m-1-c]?).bind fun x=>(xs[c]?).map fun y=> !lt x y) (xs.length+1) (if (a+b) / 2<m then(a+b) / 2+m-b else a) (if (a+b) / 2<m then(a+b) / 2 else m)).bind fun s=>(if s<m/\m<(a+b) / 2+m-s then Ei m (xs.length+1) xs (m-s) ((a+b) / 2+m-s-m) else some xs).bind fun xs1=>(if a<s/\s<(a+b) / 2 then symM lt f xs1 a s ((a+b) / 2) else some xs1).bind fun xs2=>if (a+b) / 2<(a+b) / 2+m-s/\(a+b) / 2+m-s<b then symM lt f xs2 ((a+b) / 2) ((a+b) / 2+m-s) b else some xs2) else none
theorem cI {p:Nat->Option Bool}:∀ {f i j r:Nat},HK p f i j=some r->i<=j->i<=r/\r<=j
 |0,_,_,_,h,_=>by cases h
 |f+1,i,j,r,h,hij=>by
  unfold HK at h;split at h
  ·obtain⟨b,_,h⟩:=AJ h;split at h
   ·have:=cI h (by omega);omega
   have:=cI h (by omega);omega
  cases h;omega
theorem lc {α:Type}:∀ {c k:Nat} {xs ys:List α},MT c xs k=some ys->ys.length=xs.length/\∀z∈ys,z∈xs
 |0,_,_,_,h=>by cases h;exact⟨rfl,fun _ h=>h⟩
 |c+1,k,xs,ys,h=>by
  unfold MT at h;obtain⟨x,h1,h⟩:=AJ h;obtain⟨y,h2,h⟩:=AJ h;obtain⟨h3,h4⟩:=lc h;grind
theorem lg {α:Type}:∀ {c k:Nat} {xs ys:List α},MU c xs k=some ys->ys.length=xs.length/\∀z∈ys,z∈xs
 |0,_,_,_,h=>by cases h;exact⟨rfl,fun _ h=>h⟩
 |_+1,0,_,_,h=>by cases h
 |c+1,k+1,xs,ys,h=>by
  unfold MU at h;obtain⟨x,h1,h⟩:=AJ h;obtain⟨y,h2,h⟩:=AJ h;obtain⟨h3,h4⟩:=lg h;grind
theorem RF {α:Type}{lt:α->α->Bool}:∀ {f a m b:Nat} {xs ys:List α},symM lt f xs a m b=some ys->ys.length=xs.length/\∀z∈ys,z∈xs
 |0,_,_,_,_,_,h=>by cases h
 |f+1,a,m,b,xs,ys,h=>by
  unfold symM at h;split at h;rotate_left
  ·cases h
  split at h
  ·obtain⟨i,_,h⟩:=AJ h;exact lc h
  split at h
  ·obtain⟨i,_,h⟩:=AJ h;exact lg h
  obtain⟨s,_,h⟩:=AJ h;obtain⟨xs1,h1,h⟩:=AJ h;obtain⟨xs2,h2,h⟩:=AJ h;have e1:xs1.length=xs.length/\∀z∈xs1,z∈xs:=by
   split at h1
   ·exact⟨X9 h1,fun z hz=>YA h1 hz⟩
   grind
  have e2:xs2.length=xs1.length/\∀z∈xs2,z∈xs1:=by
   split at h2
   ·exact RF h2
   grind
  have e3:ys.length=xs2.length/\∀z∈ys,z∈xs2:=by
   split at h
   ·exact RF h
   grind
  grind
theorem Ht {u v:Nat}(h:u+v<4611686018427387904):i64.wrap (sh (u64.wrap ((u+v:Nat):Int)) 1)=(((u+v) / 2:Nat):Int):=by
 have e1:u64.wrap ((u+v:Nat):Int)=((u+v:Nat):Int):=IntWalk.u64_in _ (by omega);have e2:sh ((u+v:Nat):Int) 1=(((u+v) / 2:Nat):Int):=by
  unfold sh;show((u+v:Nat):Int).fdiv 2=_;rw[Int.fdiv_eq_ediv_of_nonneg _ (by omega)];omega
 rw[e1,e2];exact Iv
section
variable {g:FuncId}{caps:List AV}{S:AB->Prop}{cf:AB->AB->Int}{ids:List Nat}{hp0:Hp}{br:Bool}{i ver L:Nat}
set_option maxRecDepth 4000 in
theorem lh (hc:Is Tryz.prog g caps (fun r:AB=>.d (.ag (AF r)) br) S cf ids hp0)(hi:i∉ids)(hL2:L<4294967296):∀(f:Nat) {xs R:List AB} {a m b nx:Nat} {hp:Hp},(∀j∈ids,hp j=hp0 j)->hp i=CL xs ver br->(∀x∈xs,S x)->xs.length=L->symM (GK cf) f xs a m b=some R->
  AK Tryz.prog 146 [.so i ver 0 L,.v (.int .i64 (a:Int)),.v (.int .i64 (m:Int)),.v (.int .i64 (b:Int)),.fn g caps] hp nx fun v hp2 nx2=>v= .tu []/\hp2=upd i (CL R ver br) hp/\nx<=nx2:=by
 intro f;induction f with
 |zero=>intro xs R a m b nx hp _ _ _ _ h;cases h
 |succ f ih=>
  intro xs R a m b nx hp hh hx hS hL hR;unfold symM at hR;split at hR;rotate_left
  ·cases hR
  rename_i hamb;obtain⟨ham,hmb,hbL⟩:=hamb;refine zq Tryz.func146 ?_;refine AW (AW ?_);refine ZT 1 ?_;by_cases h1:m-a=1
  ·rw[if_pos h1] at hR;obtain⟨p,hb,hR⟩:=AJ hR;have c1:(((m-a:Nat):Int)==1)=true:=(by rw[h1];rfl);refine Z1 (Y2 (Dt (a:=m) (b:=a) (by omega) (by omega)) c1) ?_;refine EV (c:=true) rfl rfl ?_;refine D3 ?_;refine AW (CN ?_);refine DS (α:={ x:Nat × Nat × Nat × Nat // x.1<=x.2.1/\a<x.1/\x.2.1<=L/\nx<=x.2.2.1/\HK (fun h=>(xs[h]?).bind fun x=>(xs[a]?).map fun y=>GK cf x y) x.2.2.2 x.1 x.2.1=some p })
    (fun x=>⟨upd 0 (.so i ver 0 L) (upd 1 (.v (.int .i64 (a:Int))) (upd 4 (.fn g caps) (upd 10 (.v (.int .i64 (x.1.1:Int))) (upd 11 (.v (.int .i64 (x.1.2.1:Int))) AQ)))),hp,x.1.2.2.1⟩) (fun x=>x.1.2.2.2) ⟨(m,b,nx+4+2+2,xs.length+1),by show m<=b;omega,by show a<m;omega,by show b<=L;omega,by show nx<=nx+4+2+2;omega,hb⟩ ?_ ?_
   ·exact CH
   rintro⟨⟨u,v,nx1,f1⟩,g0,g1,g2,g3,g4⟩;dsimp only at g0 g1 g2 g3 g4;obtain⟨f1,rfl⟩:∃f',f1=f'+1:=by
    cases f1 with |zero=>cases g4 |succ f=>exact⟨f,rfl⟩
   unfold HK at g4;refine AW (AW ?_);refine ZT 1 ?_;by_cases huv:u<v
   ·rw[if_pos huv] at g4;obtain⟨bb,g5,g4⟩:=AJ g4;obtain⟨x,e1,g5⟩:=AJ g5;obtain⟨y,e2,rfl⟩:=La.1 g5;have c2:(decide ((u:Int)<(v:Int)))=true:=Cb;refine Ep c2 ?_;refine CN ?_;refine AW (ZT 1 ?_);refine Z1 (Y2 (Ej (a:=u) (b:=v) (by omega)) (Ht (u:=u) (v:=v) (by omega))) ?_;obtain⟨w,ew⟩:∃w,w=(u+v) / 2:=⟨_,rfl⟩;have hw:u<=w/\w<v:=(by omega);rw[<-ew] at e1 g4⊢;have lx:=(Lb.1 e1).1;have ly:=(Lb.1 e2).1;refine AW (ZT 1 ?_);have wf:=Y2 hx (Y4 (Cs AF e1) (Cs AF e2) (show(w<L)=True from FB) (show(a<L)=True from FB));refine Z1 wf ?_;obtain⟨nx3,q1,q2⟩:=hc x y (hS x (Lt e1)) (hS y (Lt e2)) (nx1+3+7+11);refine Ms (δ:=[]) (q2 _ hh) ?_;refine PP ?_;refine ZT 1 ?_;rcases hlt:GK cf x y with _ |_
    ·rw[hlt,if_neg (by simp)] at g4;have c4:(decide (cf x y<0))=false:=hlt;refine Z1 c4 ?_;exact⟨⟨(u,w,_,f1),hw.1,g1,by show w<=L;omega,by show nx<=nx3+2;omega,g4⟩,CH,LF f1⟩
    rw[hlt,if_pos rfl] at g4;have c4:(decide (cf x y<0))=true:=hlt;refine Z1 (Y2 c4 (As (n:=w))) ?_;exact⟨⟨(w+1,v,_,f1),by show w+1<=v;omega,by show a<w+1;omega,g2,by show nx<=nx3+3;omega,g4⟩,CH,LF f1⟩
   rw[if_neg huv] at g4;have g4:=LI g4;subst g4;have c2:(decide ((u:Int)<(v:Int)))=false:=Cr;refine Ep c2 ?_;refine ET ?_;refine CN ?_;refine DS (α:={ x:Nat × List AB × Nat // x.1<=u-1/\nx<=x.2.2/\x.2.1.length=L/\MT (u-1-x.1) x.2.1 x.1=some R })
    (fun x=>⟨upd 0 (.so i ver 0 L) (upd 10 (.v (.int .i64 (u:Int))) (upd 13 (.v (.int .i64 (x.1.1:Int))) AQ)),upd i (CL x.1.2.1 ver br) hp,x.1.2.2⟩) (fun x=>u-1-x.1.1) ⟨(a,xs,nx1+3+2),by show a<=u-1;omega,by show nx<=nx1+3+2;omega,hL,hR⟩ ?_ ?_
   ·rw[FE hx];exact CH
   rintro⟨⟨k,ys,nx2⟩,t1,t2,t3,t4⟩;dsimp only at t1 t2 t3 t4;have c3:i64.wrap ((u:Int)-1)=((u-1:Nat):Int):=Dt (a:=u) (b:=1) (by omega) (by omega);refine AW (AW ?_);refine ZT 1 ?_;by_cases hk:k<u-1
   ·have c4:(decide ((k:Int)<((u-1:Nat):Int)))=true:=Cb;obtain⟨q,hq⟩:∃q,u-1-k=q+1:=⟨u-1-k-1,by omega⟩;rw[hq] at t4;unfold MT at t4;obtain⟨x,e1,t4⟩:=AJ t4;obtain⟨y,e2,t4⟩:=AJ t4;have lx:=(Lb.1 e1).1;refine Z1 (Y2 c3 c4) ?_;refine AN ?_;refine AW (CN ?_);refine ZT 1 ?_;have e3:((ys.map AF).set k (AF x))[k+1]? =some (AF x):=by
     rw[BO (by omega)];exact Cs AF e1
    refine Z1 (Y6 (As (n:=k)) (Cs AF e1) (Cs AF e2) e3 (show(k+1<L)=True from FB) (show(k<L)=True from FB)) ?_;refine DR (by rfl) ?_;refine Z0 ?_;refine ZT 1 ?_;refine Z1 (As (n:=k)) ?_;refine⟨⟨(k+1,(ys.set k x).set (k+1) y,_),by show k+1<=u-1;omega,?_,by simpa using t3,by grind⟩,Fz ?_ C7,by show u-1-(k+1)<u-1-k;omega⟩
    ·grind
    rw[EL,EL];show upd i (some (.rw (((ys.set k x).set (k+1) y).map AF) 3 ver br false)) hp=_;rw[NO,NO]
   have c4:(decide ((k:Int)<((u-1:Nat):Int)))=false:=Cr;rw[show u-1-k=0 by omega] at t4;cases t4;refine Z1 (Y2 c3 c4) ?_;refine AN ?_;refine AN ?_;exact⟨_,_,rfl,⟨fun _=>.inr rfl⟩,rfl,rfl,by show nx<=nx2+4;omega⟩
  rw[if_neg h1] at hR;have c1:(((m-a:Nat):Int)==1)=false:=by simp;omega
  refine Z1 (Y2 (Dt (a:=m) (b:=a) (by omega) (by omega)) c1) ?_;refine DF (c:=false) rfl rfl ?_;refine AN ?_;refine AW (AW ?_);refine ZT 1 ?_;by_cases h2:b-m=1
  ·rw[if_pos h2] at hR;obtain⟨p,hb,hR⟩:=AJ hR;have c1:(((b-m:Nat):Int)==1)=true:=(by rw[h2];rfl);refine Z1 (Y2 (Dt (a:=b) (b:=m) (by omega) (by omega)) c1) ?_;refine EV (c:=true) rfl rfl ?_;refine D3 ?_;refine AW (CN ?_);refine DS (α:={ x:Nat × Nat × Nat × Nat // x.1<=x.2.1/\x.2.1<=m/\nx<=x.2.2.1/\HK (fun h=>(xs[m]?).bind fun x=>(xs[h]?).map fun y=> !GK cf x y) x.2.2.2 x.1 x.2.1=some p })
    (fun x=>⟨upd 0 (.so i ver 0 L) (upd 2 (.v (.int .i64 (m:Int))) (upd 4 (.fn g caps) (upd 14 (.v (.int .i64 (x.1.1:Int))) (upd 15 (.v (.int .i64 (x.1.2.1:Int))) AQ)))),hp,x.1.2.2.1⟩) (fun x=>x.1.2.2.2) ⟨(a,m,nx+4+4+2+2,xs.length+1),by show a<=m;omega,Lc m,by show nx<=nx+4+4+2+2;omega,hb⟩ ?_ ?_
   ·exact CH
   rintro⟨⟨u,v,nx1,f1⟩,g0,g2,g3,g4⟩;dsimp only at g0 g2 g3 g4;obtain⟨f1,rfl⟩:∃f',f1=f'+1:=by
    cases f1 with |zero=>cases g4 |succ f=>exact⟨f,rfl⟩
   unfold HK at g4;refine AW (AW ?_);refine ZT 1 ?_;by_cases huv:u<v
   ·rw[if_pos huv] at g4;obtain⟨bb,g5,g4⟩:=AJ g4;obtain⟨x,e1,g5⟩:=AJ g5;obtain⟨y,e2,rfl⟩:=La.1 g5;have c2:(decide ((u:Int)<(v:Int)))=true:=Cb;refine Ep c2 ?_;refine CN ?_;refine AW (ZT 1 ?_);refine Z1 (Y2 (Ej (a:=u) (b:=v) (by omega)) (Ht (u:=u) (v:=v) (by omega))) ?_;obtain⟨w,ew⟩:∃w,w=(u+v) / 2:=⟨_,rfl⟩;have hw:u<=w/\w<v:=(by omega);rw[<-ew] at e2 g4⊢;have lx:=(Lb.1 e1).1;have ly:=(Lb.1 e2).1;refine AW (ZT 1 ?_);have wf:=Y2 hx (Y4 (Cs AF e1) (Cs AF e2) (show(w<L)=True from FB) (show(m<L)=True from FB));refine Z1 wf ?_;obtain⟨nx3,q1,q2⟩:=hc x y (hS x (Lt e1)) (hS y (Lt e2)) (nx1+3+7+12);refine Ms (δ:=[]) (q2 _ hh) ?_;refine PP ?_;refine ZT 1 ?_;rcases hlt:GK cf x y with _ |_
    ·rw[hlt,if_pos (by rfl)] at g4;have c4:(decide (cf x y<0))=false:=hlt;refine Z1 (Y2 c4 (As (n:=w))) ?_;exact⟨⟨(w+1,v,_,f1),by show w+1<=v;omega,g2,by show nx<=nx3+3;omega,g4⟩,CH,LF f1⟩
    rw[hlt,if_neg (by simp)] at g4;have c4:(decide (cf x y<0))=true:=hlt;refine Z1 c4 ?_;exact⟨⟨(u,w,_,f1),hw.1,by show w<=m;omega,by show nx<=nx3+2;omega,g4⟩,CH,LF f1⟩
   rw[if_neg huv] at g4;have g4:=LI g4;subst g4;have c2:(decide ((u:Int)<(v:Int)))=false:=Cr;refine Ep c2 ?_;refine ET ?_;refine CN ?_;refine DS (α:={ x:Nat × List AB × Nat // u<=x.1/\x.1<=m/\nx<=x.2.2/\x.2.1.length=L/\MU (x.1-u) x.2.1 x.1=some R })
    (fun x=>⟨upd 0 (.so i ver 0 L) (upd 14 (.v (.int .i64 (u:Int))) (upd 17 (.v (.int .i64 (x.1.1:Int))) AQ)),upd i (CL x.1.2.1 ver br) hp,x.1.2.2⟩) (fun x=>x.1.1-u) ⟨(m,xs,nx1+3+2),by show u<=m;omega,Lc m,by show nx<=nx1+3+2;omega,hL,hR⟩ ?_ ?_
   ·rw[FE hx];exact CH
   rintro⟨⟨k,ys,nx2⟩,t0,t1,t2,t3,t4⟩;dsimp only at t0 t1 t2 t3 t4;refine AW (AW ?_);refine ZT 1 ?_;by_cases hk:u<k
   ·obtain⟨k,rfl⟩:∃k',k=k'+1:=⟨k-1,by omega⟩;have c4:(decide (((k+1:Nat):Int) > (u:Int)))=true:=Cb;have c5:(decide ((u:Int)<((k+1:Nat):Int)))=true:=Cb;obtain⟨q,hq⟩:∃q,k+1-u=q+1:=⟨k-u,by omega⟩;rw[hq] at t4;unfold MU at t4;obtain⟨x,e1,t4⟩:=AJ t4;obtain⟨y,e2,t4⟩:=AJ t4;have lx:=(Lb.1 e2).1;refine Z1 (Y2 c4 c5) ?_;refine AN ?_;refine AW (CN ?_);refine ZT 1 ?_;have e3:((ys.map AF).set (k+1) (AF x))[k]? =some (AF x):=by
     rw[BO (by omega)];exact Cs AF e1
    refine Z1 (Y6 (HJ (n:=k) (by omega)) (Cs AF e1) (Cs AF e2) e3 (show(k+1<L)=True from FB) (show(k<L)=True from FB)) ?_;refine DR (by rfl) ?_;refine Z0 ?_;refine ZT 1 ?_;refine Z1 (HJ (n:=k) (by omega)) ?_;refine⟨⟨(k,(ys.set (k+1) x).set k y,_),by show u<=k;omega,by show k<=m;omega,?_,by simpa using t3,by rw[show k-u=q by omega];exact t4⟩,Fz ?_ C7,by show k-u<k+1-u;omega⟩
    ·grind
    rw[EL,EL];show upd i (some (.rw (((ys.set (k+1) x).set k y).map AF) 3 ver br false)) hp=_;rw[NO,NO]
   have c4:(decide ((k:Int) > (u:Int)))=false:=Cr;have c5:(decide ((u:Int)<(k:Int)))=false:=Cr;rw[show k-u=0 by omega] at t4;cases t4;refine Z1 (Y2 c4 c5) ?_;refine AN ?_;refine AN ?_;exact⟨_,_,rfl,⟨fun _=>.inr rfl⟩,rfl,rfl,by show nx<=nx2+3;omega⟩
  rw[if_neg h2] at hR;have c1:(((b-m:Nat):Int)==1)=false:=by simp;omega
  refine Z1 (Y2 (Dt (a:=b) (b:=m) (by omega) (by omega)) c1) ?_;refine DF (c:=false) rfl rfl ?_;refine AN ?_;obtain⟨mid,hmid⟩:∃mid,mid=(a+b) / 2:=⟨_,rfl⟩;rw[<-hmid] at hR;have hmb2:a<=mid/\mid<b:=by omega
  obtain⟨s0,hs0⟩:∃s0,s0=(if mid<m then mid+m-b else a):=⟨_,rfl⟩;obtain⟨r0,hr0⟩:∃r0,r0=(if mid<m then mid else m):=⟨_,rfl⟩;rw[<-hs0,<-hr0] at hR;obtain⟨st,hb,hR⟩:=AJ hR;have hmm:i64.wrap (sh (u64.wrap ((a+b:Nat):Int)) 1)=(mid:Int):=by
   rw[Ht (by omega),hmid]
  have hsr:s0<=r0/\a<=s0/\r0<=mid/\r0<=m/\mid+m-s0<=b:=by
   rw[hs0,hr0];split<;>omega
  have hst:=cI hb hsr.1;refine AW (ZT 1 ?_);refine Z1 (Y2 (Ej (a:=a) (b:=b) (by omega)) hmm) ?_;refine AW (ZT 1 ?_);refine Z1 (Ej (a:=mid) (b:=m) (by omega)) ?_;refine Az ?_;refine AW (EI (α:={ k:Nat // nx<=k }) (fun y=>⟨upd 0 (.so i ver 0 L) (upd 1 (.v (.int .i64 (a:Int))) (upd 2 (.v (.int .i64 (m:Int))) (upd 3 (.v (.int .i64 (b:Int))) (upd 4 (.fn g caps) (upd 18 (.v (.int .i64 (mid:Int))) (upd 19 (.v (.int .i64 ((mid+m:Nat):Int))) (upd 20 (.v (.int .i64 (s0:Int))) (upd 21 (.v (.int .i64 (r0:Int))) AQ)))))))),hp,y.1⟩) ?_ ?_)
  ·refine AW (ZT 1 ?_);by_cases hm2:mid<m
   ·have c3:(decide ((m:Int) > (mid:Int)))=true:=Cb;have c4:(decide ((mid:Int)<(m:Int)))=true:=Cb;rw[if_pos hm2] at hs0 hr0;refine Z1 (Y2 c3 c4) ?_;refine EV (c:=true) rfl rfl ?_;refine ZT 1 ?_;refine Z1 (Dt (a:=mid+m) (b:=b) (by omega) (by omega)) ?_;rw[<-hs0,hr0];exact⟨⟨nx+4+4+7+4+2+3+4+2,by omega⟩,CH ⟩
   have c3:(decide ((m:Int) > (mid:Int)))=false:=Cr;have c4:(decide ((mid:Int)<(m:Int)))=false:=Cr;rw[if_neg hm2] at hs0 hr0;refine Z1 (Y2 c3 c4) ?_;refine DF (c:=false) rfl rfl ?_;refine AN ?_;rw[hs0,hr0];exact⟨⟨nx+4+4+7+4+2+3+2+2,by omega⟩,CH ⟩
  rintro⟨nxj,hj⟩;refine AW (ZT 1 ?_);have c0:i64.wrap (((mid+m:Nat):Int)-1)=((mid+m-1:Nat):Int):=Dt (a:=mid+m) (b:=1) (by omega) (by omega);refine Z1 c0 ?_;refine AW (CN ?_);refine DS (α:={ x:Nat × Nat × Nat × Nat // x.1<=x.2.1/\s0<=x.1/\x.2.1<=r0/\nx<=x.2.2.1/\HK (fun c=>(xs[mid+m-1-c]?).bind fun x=>(xs[c]?).map fun y=> !GK cf x y) x.2.2.2 x.1 x.2.1=some st })
   (fun x=>⟨upd 0 (.so i ver 0 L) (upd 1 (.v (.int .i64 (a:Int))) (upd 2 (.v (.int .i64 (m:Int))) (upd 3 (.v (.int .i64 (b:Int))) (upd 4 (.fn g caps) (upd 18 (.v (.int .i64 (mid:Int))) (upd 19 (.v (.int .i64 ((mid+m:Nat):Int))) (upd 20 (.v (.int .i64 (x.1.1:Int))) (upd 21 (.v (.int .i64 (x.1.2.1:Int))) (upd 22 (.v (.int .i64 ((mid+m-1:Nat):Int))) AQ))))))))),hp,x.1.2.2.1⟩) (fun x=>x.1.2.2.2) ⟨(s0,r0,nxj+3,xs.length+1),hsr.1,Lc s0,Lc r0,by show nx<=nxj+3;omega,hb⟩ ?_ ?_
  ·exact CH
  rintro⟨⟨u,v,nx1,f1⟩,g0,g1,g2,g3,g4⟩;dsimp only at g0 g1 g2 g3 g4;obtain⟨f1,rfl⟩:∃f',f1=f'+1:=by
   cases f1 with |zero=>cases g4 |succ f=>exact⟨f,rfl⟩
  unfold HK at g4;refine AW (AW ?_);refine ZT 1 ?_;by_cases huv:u<v
  ·rw[if_pos huv] at g4;obtain⟨bb,g5,g4⟩:=AJ g4;obtain⟨x,e1,g5⟩:=AJ g5;obtain⟨y,e2,rfl⟩:=La.1 g5;have c2:(decide ((u:Int)<(v:Int)))=true:=Cb;refine Ep c2 ?_;refine CN ?_;refine AW (ZT 1 ?_);refine Z1 (Y2 (Ej (a:=u) (b:=v) (by omega)) (Ht (u:=u) (v:=v) (by omega))) ?_;obtain⟨w,ew⟩:∃w,w=(u+v) / 2:=⟨_,rfl⟩;have hw:u<=w/\w<v:=(by omega);rw[<-ew] at e1 e2 g4⊢;have lx:=(Lb.1 e1).1;have ly:=(Lb.1 e2).1;refine AW (ZT 1 ?_);have wf:=Y2 (Dt (a:=mid+m-1) (b:=w) (by omega) (by omega)) (Y5 hx (Cs AF e1) (Cs AF e2) (show(mid+m-1-w<L)=True from FB) (show(w<L)=True from FB));refine Z1 wf ?_;obtain⟨nx3,q1,q2⟩:=hc x y (hS x (Lt e1)) (hS y (Lt e2)) (nx1+3+7+14);refine Ms (δ:=[]) (q2 _ hh) ?_;refine PP ?_;refine ZT 1 ?_;rcases hlt:GK cf x y with _ |_
   ·rw[hlt,if_pos (by rfl)] at g4;have c4:(decide (cf x y<0))=false:=hlt;refine Z1 (Y2 c4 (As (n:=w))) ?_;exact⟨⟨(w+1,v,_,f1),by show w+1<=v;omega,by show s0<=w+1;omega,g2,by show nx<=nx3+3;omega,g4⟩,CH,LF f1⟩
   rw[hlt,if_neg (by simp)] at g4;have c4:(decide (cf x y<0))=true:=hlt;refine Z1 c4 ?_;exact⟨⟨(u,w,_,f1),hw.1,g1,by show w<=r0;omega,by show nx<=nx3+2;omega,g4⟩,CH,LF f1⟩
  rw[if_neg huv] at g4;have g4:=LI g4;subst g4;have c2:(decide ((u:Int)<(v:Int)))=false:=Cr;refine Ep c2 ?_;obtain⟨xs1,hR1,hR⟩:=AJ hR;obtain⟨xs2,hR2,hR⟩:=AJ hR;refine AW (ZT 1 ?_);refine Z1 (Dt (a:=mid+m) (b:=u) (by omega) (by omega)) ?_;obtain⟨e,he⟩:∃e,e=mid+m-u:=⟨_,rfl⟩;rw[<-he] at hR1 hR⊢;have hxs1:xs1.length=xs.length/\∀z∈xs1,z∈xs:=by
   split at hR1
   ·exact⟨X9 hR1,fun z hz=>YA hR1 hz⟩
   grind
  have hxs2:xs2.length=xs1.length/\∀z∈xs2,z∈xs1:=by
   split at hR2
   ·exact RF hR2
   grind
  have hhu:∀ys:List AB,∀j∈ids,upd i (CL ys ver br) hp j=hp0 j:=fun ys j hj=>by
   grind [Ad]
  refine AW (EI (α:={ k:Nat // nx<=k }) (fun y=>⟨upd 0 (.so i ver 0 L) (upd 1 (.v (.int .i64 (a:Int))) (upd 3 (.v (.int .i64 (b:Int))) (upd 4 (.fn g caps) (upd 18 (.v (.int .i64 (mid:Int))) (upd 20 (.v (.int .i64 (u:Int))) (upd 24 (.v (.int .i64 (e:Int))) AQ)))))),upd i (CL xs1 ver br) hp,y.1⟩) ?_ ?_)
  ·refine AW (ZT 1 ?_);by_cases k1:u<m
   ·have c5:(decide ((u:Int)<(m:Int)))=true:=Cb;by_cases k2:m<e
    ·have c6:(decide ((m:Int)<(e:Int)))=true:=Cb;refine Z1 (Y2 c5 c6) ?_;refine AN ?_;rw[if_pos ⟨k1,k2⟩] at hR1;refine CG ((RE (cmp:=.fn g caps) hx hL hL2 (by omega) (by omega) (by omega) hR1).mono ?_);rintro v2 hp2 nx2 ⟨rfl,rfl,hle⟩;dsimp only at hle;refine Z0 ?_;exact⟨⟨nx2,by omega⟩,CH⟩
    have c6:(decide ((m:Int)<(e:Int)))=false:=Cr;refine Z1 (Y2 c5 c6) ?_;rw[if_neg (fun h=>k2 h.2)] at hR1;cases hR1;refine DF (c:=false) rfl rfl ?_;refine AN ?_;exact⟨⟨_,by omega⟩,Fz (FE hx) C7⟩
   have c5:(decide ((u:Int)<(m:Int)))=false:=Cr;refine Z1 c5 ?_;rw[if_neg (fun h=>k1 h.1)] at hR1;cases hR1;refine DF (c:=false) rfl rfl ?_;refine AN ?_;exact⟨⟨_,by omega⟩,Fz (FE hx) C7⟩
  rintro⟨nxa,hna⟩;have hx1:upd i (CL xs1 ver br) hp i=CL xs1 ver br:=Ah _ _ _;have hx2:upd i (CL xs2 ver br) hp i=CL xs2 ver br:=Ah _ _ _;refine AW (EI (α:={ k:Nat // nx<=k }) (fun y=>⟨upd 0 (.so i ver 0 L) (upd 3 (.v (.int .i64 (b:Int))) (upd 4 (.fn g caps) (upd 18 (.v (.int .i64 (mid:Int))) (upd 24 (.v (.int .i64 (e:Int))) AQ)))),upd i (CL xs2 ver br) hp,y.1⟩) ?_ ?_)
  ·refine AW (ZT 1 ?_);by_cases k1:a<u
   ·have c5:(decide ((a:Int)<(u:Int)))=true:=Cb;by_cases k2:u<mid
    ·have c6:(decide ((u:Int)<(mid:Int)))=true:=Cb;refine Z1 (Y2 c5 c6) ?_;refine AN ?_;rw[if_pos ⟨k1,k2⟩] at hR2;refine CG ((ih (hhu xs1) hx1 (fun z hz=>hS z (hxs1.2 z hz)) (hxs1.1.trans hL) hR2).mono ?_);rintro v2 hp2 nx2 ⟨rfl,rfl,hle⟩;dsimp only at hle;refine Z0 ?_;rw[EL];exact⟨⟨nx2,by omega⟩,CH⟩
    have c6:(decide ((u:Int)<(mid:Int)))=false:=Cr;refine Z1 (Y2 c5 c6) ?_;rw[if_neg (fun h=>k2 h.2)] at hR2;cases hR2;refine DF (c:=false) rfl rfl ?_;refine AN ?_;exact⟨⟨_,by omega⟩,CH⟩
   have c5:(decide ((a:Int)<(u:Int)))=false:=Cr;refine Z1 c5 ?_;rw[if_neg (fun h=>k1 h.1)] at hR2;cases hR2;refine DF (c:=false) rfl rfl ?_;refine AN ?_;exact⟨⟨_,by omega⟩,CH⟩
  rintro⟨nxb,hnb⟩;refine AW (ZT 1 ?_);by_cases k1:mid<e
  ·have c5:(decide ((mid:Int)<(e:Int)))=true:=Cb;by_cases k2:e<b
   ·have c6:(decide ((e:Int)<(b:Int)))=true:=Cb;refine Z1 (Y2 c5 c6) ?_;refine AN ?_;rw[if_pos ⟨k1,k2⟩] at hR;refine CG ((ih (hhu xs2) hx2 (fun z hz=>hS z (hxs1.2 z (hxs2.2 z hz))) (hxs2.1.trans (hxs1.1.trans hL)) hR).mono ?_);rintro v2 hp2 nx2 ⟨rfl,rfl,hle⟩;dsimp only at hle;refine Z0 ?_;rw[EL];exact⟨_,_,rfl,⟨fun _=>.inr rfl⟩,rfl,rfl,by show nx<=nx2;omega⟩
   have c6:(decide ((e:Int)<(b:Int)))=false:=Cr;refine Z1 (Y2 c5 c6) ?_;rw[if_neg (fun h=>k2 h.2)] at hR;cases hR;refine DF (c:=false) rfl rfl ?_;refine AN ?_;exact⟨_,_,rfl,⟨fun _=>.inr rfl⟩,rfl,rfl,by show nx<=nxb+5+3;omega⟩
  have c5:(decide ((mid:Int)<(e:Int)))=false:=Cr;refine Z1 c5 ?_;rw[if_neg (fun h=>k1 h.1)] at hR;cases hR;refine DF (c:=false) rfl rfl ?_;refine AN ?_;exact⟨_,_,rfl,⟨fun _=>.inr rfl⟩,rfl,rfl,by show nx<=nxb+8;omega⟩
end
def Gp {α:Type}(lt:α->α->Bool)(F:Nat):Nat->List α->Nat->Nat->Option (List α × Nat)
 |0,_,_,_=>none
 |c+1,xs,a,b=>if b<=xs.length then(Iu lt F xs a (a+1) b).bind fun ys=>Gp lt F c ys b (b+20) else some (xs,a)
def Gq {α:Type}(lt:α->α->Bool)(F bs:Nat):Nat->List α->Nat->Nat->Option (List α × Nat)
 |0,_,_,_=>none
 |c+1,xs,a,b=>if b<=xs.length then(symM lt F xs a (a+bs) b).bind fun ys=>Gq lt F bs c ys b (b+2*bs) else some (xs,a)
def Gr {α:Type}(lt:α->α->Bool)(F:Nat):Nat->List α->Nat->Option (List α)
 |0,_,_=>none
 |c+1,xs,bs=>if bs<xs.length then(Gq lt F bs (xs.length+1) xs 0 (2*bs)).bind fun p=>(if p.2+bs<p.1.length then symM lt F p.1 p.2 (p.2+bs) p.1.length else some p.1).bind fun zs=>Gr lt F c zs (bs*2) else some xs
def Gt {α:Type}(lt:α->α->Bool)(F:Nat)(xs:List α):Option (List α):=(Gp lt F (xs.length+1) xs 0 20).bind fun p=>(Iu lt F p.1 p.2 (p.2+1) p.1.length).bind fun zs=>Gr lt F (xs.length+1) zs 20
theorem VW {α:Type}{lt:α->α->Bool}{a b:Nat}:∀ {F i:Nat} {xs ys:List α},Iu lt F xs a i b=some ys->ys.length=xs.length/\∀z∈ys,z∈xs
 |0,_,_,_,h=>by cases h
 |F+1,i,xs,ys,h=>by
  unfold Iu at h;split at h
  ·obtain⟨zs,h1,h⟩:=AJ h;have e:=VW h;exact⟨e.1.trans (lA h1),fun z hz=>lD h1 (e.2 z hz)⟩
  cases h;exact⟨rfl,fun _ h=>h⟩
theorem cL {α:Type}{lt:α->α->Bool}{F:Nat}:∀ {c a b:Nat} {xs:List α} {p:List α × Nat},Gp lt F c xs a b=some p->a<=xs.length->(p.1.length=xs.length/\∀z∈p.1,z∈xs)/\p.2<=xs.length
 |0,_,_,_,_,h,_=>by cases h
 |c+1,a,b,xs,p,h,ha=>by
  unfold Gp at h;split at h
  ·obtain⟨ys,h1,h⟩:=AJ h;have e1:=VW h1;have e2:=cL h (by omega);exact⟨⟨e2.1.1.trans e1.1,fun z hz=>e1.2 z (e2.1.2 z hz)⟩,by omega⟩
  cases h;exact⟨⟨rfl,fun _ h=>h⟩,ha⟩
theorem cM {α:Type}{lt:α->α->Bool}{F bs:Nat}:∀ {c a b:Nat} {xs:List α} {p:List α × Nat},Gq lt F bs c xs a b=some p->a<=xs.length->(p.1.length=xs.length/\∀z∈p.1,z∈xs)/\p.2<=xs.length
 |0,_,_,_,_,h,_=>by cases h
 |c+1,a,b,xs,p,h,ha=>by
  unfold Gq at h;split at h
  ·obtain⟨ys,h1,h⟩:=AJ h;have e1:=RF h1;have e2:=cM h (by omega);exact⟨⟨e2.1.1.trans e1.1,fun z hz=>e1.2 z (e2.1.2 z hz)⟩,by omega⟩
  cases h;exact⟨⟨rfl,fun _ h=>h⟩,ha⟩
theorem VX {n:Nat}(h:n<1152921504606846976):i64.wrap (2*(n:Int))=((2*n:Nat):Int):=by
 rw[show 2*(n:Int)=((2*n:Nat):Int) by omega];exact Iv
theorem cO {n:Nat}(h:n<1152921504606846976):i64.wrap ((n:Int)*2)=((n*2:Nat):Int):=by
 rw[show(n:Int)*2=((n*2:Nat):Int) by omega];exact Iv
section
variable {g:FuncId}{caps:List AV}{S:AB->Prop}{cf:AB->AB->Int}{ids:List Nat}{hp0:Hp}{br:Bool}{i ver L:Nat}
set_option maxRecDepth 4000 in
theorem RG (hc:Is Tryz.prog g caps (fun r:AB=>.d (.ag (AF r)) br) S cf ids hp0)(hi:i∉ids){xs R:List AB}{F nx:Nat}{hp:Hp}(hh:∀j∈ids,hp j=hp0 j)(hx:hp i=CL xs ver br)(hS:∀x∈xs,S x)(hL:xs.length=L)(hL2:L<4294967296)
  (hR:Gt (GK cf) F xs=some R):
  AK Tryz.prog 124 [.so i ver 0 L,.v (.int .i64 (L:Int)),.fn g caps] hp nx fun v hp2 nx2=>v= .tu []/\hp2=upd i (CL R ver br) hp/\nx<=nx2:=by
 unfold Gt at hR;obtain⟨⟨ys0,a0⟩,hB,hR⟩:=AJ hR;obtain⟨zs0,hZ,hR⟩:=AJ hR;dsimp only at hZ hR;have hhu:∀ys:List AB,∀j∈ids,upd i (CL ys ver br) hp j=hp0 j:=fun ys j hj=>by
  have hne:j≠i:=fun h=>hi (by rw[<-h];exact hj);rw[Ad _ _ hne];exact hh j hj
 have hxu:∀ys:List AB,upd i (CL ys ver br) hp i=CL ys ver br:=fun ys=>Ah _ _ _;have lB:=cL hB (Ll _);have lZ:=VW hZ;refine zq Tryz.func124 ?_;refine D3 ?_;refine AW (CN ?_)
 refine DS (α:={ x:List AB × Nat × Nat × Nat × Nat // x.2.1<=L/\x.2.2.1<=L+20/\nx<=x.2.2.2.1/\(x.1.length=L/\∀z∈x.1,S z)/\Gp (GK cf) F x.2.2.2.2 x.1 x.2.1 x.2.2.1=some (ys0,a0) })
  (fun x=>⟨upd 0 (.so i ver 0 L) (upd 1 (.v (.int .i64 (L:Int))) (upd 2 (.fn g caps) (upd 6 (.v (.int .i64 20)) (upd 7 (.v (.int .i64 (x.1.2.1:Int))) (upd 8 (.v (.int .i64 (x.1.2.2.1:Int))) AQ))))),upd i (CL x.1.1 ver br) hp,x.1.2.2.2.1⟩) (fun x=>x.1.2.2.2.2) ⟨(xs,0,20,nx+1+3,xs.length+1),Ll _,by show 20<=L+20;omega,by show nx<=nx+1+3;omega,⟨hL,hS⟩,hB⟩ ?_ ?_
 ·rw[FE hx];exact CH
 rintro⟨⟨ys,a,b,nx1,f1⟩,g0,g1,g2,g3,g4⟩;dsimp only at g0 g1 g2 g3 g4;obtain⟨f1,rfl⟩:∃f',f1=f'+1:=by
  cases f1 with |zero=>cases g4 |succ f=>exact⟨f,rfl⟩
 unfold Gp at g4;refine AW (AW ?_);refine ZT 1 ?_;by_cases hb:b<=L
 ·rw[ifp] at g4;obtain⟨ys1,h1,g4⟩:=AJ g4;have l1:=VW h1;have c1:(decide ((b:Int)<=(L:Int)))=true:=Cb;refine Ep c1 ?_;refine CN ?_;refine Az ?_;refine CG ((lE (a:=a) (b:=b) hc hi (hhu ys) (hxu ys) g3.2 g3.1 (by omega) (by omega) h1).mono ?_);rintro v2 hp2 nx2 ⟨rfl,rfl,hle⟩;dsimp only at hle;refine Z0 ?_;refine ZT 1 ?_;have c2:i64.wrap ((b:Int)+20)=((b+20:Nat):Int):=Ej (a:=b) (b:=20) (by omega);refine Z1 c2 ?_;rw[EL];exact⟨⟨(ys1,b,b+20,_,f1),hb,by show b+20<=L+20;omega,by show nx<=nx2+2+4;omega,⟨l1.1.trans g3.1,fun z hz=>g3.2 z (l1.2 z hz)⟩,g4⟩,CH,LF f1⟩
 rw[ifn] at g4;cases g4;have c1:(decide ((b:Int)<=(L:Int)))=false:=Cr;refine Ep c1 ?_;refine Az ?_;rw[g3.1] at hZ;refine CG ((lE (a:=a0) (b:=L) hc hi (hhu ys0) (hxu ys0) g3.2 g3.1 (by omega) (by omega) hZ).mono ?_);rintro v2 hp2 nx2 ⟨rfl,rfl,hle⟩;dsimp only at hle;refine Z0 ?_;refine CN ?_;rw[EL];refine DS (α:={ x:List AB × Nat × Nat × Nat // x.2.1<9223372036854775808 / 16/\nx<=x.2.2.1/\(x.1.length=L/\∀z∈x.1,S z)/\Gr (GK cf) F x.2.2.2 x.1 x.2.1=some R })
  (fun x=>⟨upd 0 (.so i ver 0 L) (upd 1 (.v (.int .i64 (L:Int))) (upd 2 (.fn g caps) (upd 6 (.v (.int .i64 (x.1.2.1:Int))) AQ))),upd i (CL x.1.1 ver br) hp,x.1.2.2.1⟩) (fun x=>x.1.2.2.2) ⟨(zs0,20,nx2,xs.length+1),by show(20:Nat)<9223372036854775808 / 16;decide,by show nx<=nx2;omega,⟨lZ.1.trans g3.1,fun z hz=>g3.2 z (lZ.2 z hz)⟩,hR⟩ ?_ ?_
 ·exact CH
 rintro⟨⟨us,bs,nx3,f2⟩,t0,t1,t2,t3⟩;dsimp only at t0 t1 t2 t3;obtain⟨f2,rfl⟩:∃f',f2=f'+1:=by
  cases f2 with |zero=>cases t3 |succ f=>exact⟨f,rfl⟩
 unfold Gr at t3;refine AW (AW ?_);refine ZT 1 ?_;by_cases hbs:bs<L;rotate_left
 ·rw[ifn] at t3;cases t3;have c1:(decide ((bs:Int)<(L:Int)))=false:=Cr;refine Ep c1 ?_;exact⟨_,_,rfl,⟨fun _=>.inr rfl⟩,rfl,rfl,by show nx<=nx3+3;omega⟩
 rw[ifp] at t3;obtain⟨⟨vs,a1⟩,h1,t3⟩:=AJ t3;obtain⟨ws,h2,t3⟩:=AJ t3;dsimp only at h2 t3;have l1:=cM h1 (Ll _);have c1:(decide ((bs:Int)<(L:Int)))=true:=Cb;refine Ep c1 ?_;refine CN ?_;refine AW (ZT 1 ?_);refine Z1 (VX (n:=bs) (by omega)) ?_;refine AW (CN ?_);refine DS (α:={ x:List AB × Nat × Nat × Nat × Nat // x.2.1<=L/\x.2.2.1<=L+2*bs/\nx<=x.2.2.2.1/\(x.1.length=L/\∀z∈x.1,S z)/\Gq (GK cf) F bs x.2.2.2.2 x.1 x.2.1 x.2.2.1=some (vs,a1) })
  (fun x=>⟨upd 0 (.so i ver 0 L) (upd 1 (.v (.int .i64 (L:Int))) (upd 2 (.fn g caps) (upd 6 (.v (.int .i64 (bs:Int))) (upd 7 (.v (.int .i64 (x.1.2.1:Int))) (upd 8 (.v (.int .i64 (x.1.2.2.1:Int))) AQ))))),upd i (CL x.1.1 ver br) hp,x.1.2.2.2.1⟩) (fun x=>x.1.2.2.2.2) ⟨(us,0,2*bs,nx3+3+4,us.length+1),Ll _,by show 2*bs<=L+2*bs;omega,by show nx<=nx3+3+4;omega,t2,h1⟩ ?_ ?_
 ·exact CH
 rintro⟨⟨qs,a,b,nx4,f3⟩,u0,u1,u2,u3,u4⟩;dsimp only at u0 u1 u2 u3 u4;obtain⟨f3,rfl⟩:∃f',f3=f'+1:=by
  cases f3 with |zero=>cases u4 |succ f=>exact⟨f,rfl⟩
 unfold Gq at u4;refine AW (AW ?_);refine ZT 1 ?_;by_cases hb:b<=L
 ·rw[ifp] at u4;obtain⟨qs1,h3,u4⟩:=AJ u4;have l2:=RF h3;have c2:(decide ((b:Int)<=(L:Int)))=true:=Cb;refine Ep c2 ?_;refine CN ?_;refine AW (ZT 1 ?_);refine Z1 (Ej (a:=a) (b:=bs) (by omega)) ?_;refine CG ((lh hc hi hL2 F (hhu qs) (hxu qs) u3.2 u3.1 h3).mono ?_);rintro v2 hp2 nx5 ⟨rfl,rfl,hle5⟩;dsimp only at hle5;have c3:i64.wrap ((b:Int)+((2*bs:Nat):Int))=((b+2*bs:Nat):Int):=Ej (a:=b) (b:=2*bs) (by omega);refine Z0 ?_;refine ZT 1 ?_;refine Z1 (Y2 (VX (n:=bs) (by omega)) c3) ?_;rw[EL];exact⟨⟨(qs1,b,b+2*bs,_,f3),hb,by show b+2*bs<=L+2*bs;omega,by show nx<=nx5+2+5;omega,⟨l2.1.trans u3.1,fun z hz=>u3.2 z (l2.2 z hz)⟩,u4⟩,CH,LF f3⟩
 rw[ifn] at u4;cases u4;have c2:(decide ((b:Int)<=(L:Int)))=false:=Cr;refine Ep c2 ?_;refine AW ?_;rw[u3.1] at h2;have l2:ws.length=vs.length/\∀z∈ws,z∈vs:=by
  split at h2
  ·exact RF h2
  cases h2;exact⟨rfl,fun _ h=>h⟩
 refine EI (α:={ k:Nat // nx<=k }) (fun y=>⟨upd 0 (.so i ver 0 L) (upd 1 (.v (.int .i64 (L:Int))) (upd 2 (.fn g caps) (upd 6 (.v (.int .i64 (bs:Int))) AQ))),upd i (CL ws ver br) hp,y.1⟩) ?_ ?_
 ·refine AW (ZT 1 ?_);refine Z1 (Ej (a:=a1) (b:=bs) (by omega)) ?_;refine AW (ZT 1 ?_);by_cases k1:a1+bs<L
  ·have c5:(decide (((a1+bs:Nat):Int)<(L:Int)))=true:=Cb;refine Ep c5 ?_;rw[if_pos k1] at h2;refine CG ((lh hc hi hL2 F (hhu vs) (hxu vs) u3.2 u3.1 h2).mono ?_);rintro v2 hp2 nx5 ⟨rfl,rfl,hle5⟩;dsimp only at hle5;refine Z0 ?_;rw[EL];exact⟨⟨nx5,by omega⟩,CH⟩
  have c5:(decide (((a1+bs:Nat):Int)<(L:Int)))=false:=Cr;refine Z1 c5 ?_;rw[if_neg k1] at h2;cases h2;refine DF (c:=false) rfl rfl ?_;refine AN ?_;exact⟨⟨_,by omega⟩,CH⟩
 rintro⟨nx6,h6⟩;refine ZT 1 ?_;refine Z1 (cO (n:=bs) (by omega)) ?_;exact⟨⟨(ws,bs*2,_,f2),by show bs*2<9223372036854775808 / 16;omega,by show nx<=nx6+3;omega,⟨l2.1.trans u3.1,fun z hz=>u3.2 z (l2.2 z hz)⟩,t3⟩,CH,LF f2⟩
theorem RH (hc:Is Tryz.prog g caps (fun r:AB=>.d (.ag (AF r)) br) S cf ids hp0)(hi:i∉ids){xs R:List AB}{F nx:Nat}{hp:Hp}(hh:∀j∈ids,hp j=hp0 j)(hx:hp i=CL xs ver br)(hS:∀x∈xs,S x)(hL:xs.length=L)(hL2:L<4294967296)
  (hR:Gt (GK cf) F xs=some R):
  AK Tryz.prog 97 [.so i ver 0 L,.fn g caps] hp nx fun v hp2 nx2=>v= .tu []/\hp2=upd i (CL R ver br) hp/\nx<=nx2:=by
 refine zr Tryz.func97 ?_;refine Z0 ?_;refine CG (AK.mono (RG hc hi hh hx hS hL hL2 hR) fun v hp2 nx2 h=> ?_);obtain⟨rfl,rfl,h⟩:=h;have h:nx+5<=nx2:=h;refine Z0 ?_;exact⟨_,_,rfl,⟨fun _=>.inr rfl⟩,rfl,rfl,by show nx<=nx2;omega⟩
end
end Go.Proofs.YtnmkbmefohakmaaGreat.Ab
