/-
 Schemas that hold together: any types that are read hold together, or their error is told. No program in sight.
-/
import Derived.Test.YtnmkbmefohakmaaGreatWlp
namespace Go.Proofs.YtnmkbmefohakmaaGreat.Ab
open Go.RowKit
def vS_ (S:WellSchema)(m:WellName):List WellWay:=if (qk_ m zGR S.rels).expr= [] then vu_ (qk_ m zGR S.rels).subs else((qk_ m zGR S.rels).expr.foldl (stkW S m.typ) []).flatten
theorem dU_:∀l:List GSub,(vu_ l).length<=l.length
 |[]=>Nat.le_refl _
 |s::r=>by
  have:=dU_ r
  rw[v8_];split
  ·rw[List.length_cons];omega
  ·rw[List.length_cons,List.length_cons];omega
theorem p5_ {n:Nat}{S:WellSchema}{m:WellName}(hS:vR_ S)(hn:100000<n)(hp:∀x∈(qk_ m zGR S.rels).expr,stpP S m.typ x):fC_ n S m=some (vS_ S m)/\(vS_ S m).length<=60000:=by
 have hb:=dT_ hS m;unfold fC_ vS_;rw[show(⟨ByteArray.empty,[],[]⟩:GRel)=zGR from rfl];generalize qk_ m zGR S.rels=g at hb hp⊢;obtain⟨nm,ss,ex⟩:=g;obtain⟨hb1,hb2,hx,_⟩:=hb;dsimp only at hb1 hb2 hx hp⊢;cases ex with
 |nil=>
  rw[if_pos rfl];exact⟨if_pos (by omega),Nat.le_trans (dU_ ss) (by omega)⟩
 |cons e r=>
  obtain rfl:ss= []:=by
   rcases hx with h |h
   ·exact h
   ·cases h
  rw[if_neg (by simp)];obtain⟨q1,q2,q3,q4⟩:=gt_ (n:=n) (a:=m.typ) (ex:=e::r) hS (by omega) (e::r) [] hp (fun _ h=>nomatch h) (by simp only[List.length_nil];omega) (by simp only[szW,List.map_nil,List.sum_nil];omega);have f:qw_ n S m.typ (e::r) n (([]:List (List WellWay)),0)=_:=zT_ n S m.typ (e::r) (by omega) n [] 0 (Nat.zero_le _) (by omega)
  rw[List.drop_zero,q1] at f;have hl:((e::r).foldl (stkW S m.typ) []).flatten.length<=60000:=by
   rw[List.length_flatten];exact q4
  refine⟨?_,hl⟩;show jH_ n S m.typ (e::r)=_;unfold jH_;rw[f,Zo];unfold catW;rw[if_pos ⟨by omega,by omega⟩];rfl
theorem wD_:∀l:List GSub,∀w∈vu_ l,w.taken=0\/w.taken=1
 |[],_,h=>by cases h
 |s::r,w,h=>by
  rw[v8_] at h;split at h
  ·exact wD_ r w h
  ·rcases List.mem_cons.1 h with rfl |h
   ·exact .inl rfl
   ·exact wD_ r w h
theorem dV_ {S:WellSchema}{a:ByteArray}:∀(l:List GStep) (st:List (List WellWay)),(∀ws∈st,∀w∈ws,w.taken=0\/w.taken=1)->∀ws∈l.foldl (stkW S a) st,∀w∈ws,w.taken=0\/w.taken=1
 |[],_,h=>h
 |x::l,st,h=>by
  rw[List.foldl_cons];refine dV_ l _ ?_;unfold stkW;split
  ·intro ws hws w hw
   rcases List.mem_append.1 hws with h1 |h1
   ·exact h ws h1 w hw
   ·rw[List.mem_singleton.1 h1] at hw
    unfold uW_ at hw;split at hw
    ·rw[List.mem_singleton.1 hw];exact .inl rfl
    ·obtain⟨s,_,rfl⟩:=List.mem_map.1 hw
     exact .inl rfl
  ·split
   ·rename_i h2
    obtain⟨p,u,v,rfl⟩:=p4_ h2;intro ws hws w hw;have hlen:(p++[u,v]).length=p.length+2:=by rw[List.length_append];rfl
    rw[hlen] at hws;simp at hws;rcases hws with h1 |rfl
    ·exact h ws (List.mem_append_left _ h1) w hw
    ·rcases List.mem_append.1 hw with h3 |h3
     ·exact h u (by simp) w h3
     ·obtain⟨y,hy,rfl⟩:=List.mem_map.1 h3
      unfold tknW;split
      ·exact .inr rfl
      ·exact h v (by simp) y hy
   ·exact h
theorem mz_ (S:WellSchema)(m:WellName):∀w∈vS_ S m,w.taken=0\/w.taken=1:=by
 unfold vS_;split
 ·exact wD_ _
 ·intro w hw
  obtain⟨ws,h1,h2⟩:=List.mem_flatten.1 hw;exact dV_ _ [] (fun _ h=>nomatch h) ws h1 w h2
theorem dW_ {m k:WellName}{v:Int}{K:List (WellName × Int)}:qk_ k 0 (mset m v K)=if k=m then v else qk_ k 0 K:=by
 have:mget k (mset m v K)=if k=m then some v else mget k K:=by
  induction K with
  |nil=>
   simp only[mset,mget,beq_iff_eq]
  |cons p r ih=>
   simp only[mset];by_cases h:m==p.1
   ·rw[if_pos h]
    obtain rfl:=eq_of_beq h;simp only[mget,beq_iff_eq];split<;>rfl
   ·rw[if_neg h]
    simp only[mget,ih,beq_iff_eq];by_cases h2:k=p.1
    ·rw[if_pos h2,if_pos h2,if_neg]
     rintro rfl;exact h (by rw[h2];exact beq_self_eq_true _)
    ·rw[if_neg h2,if_neg h2]
 unfold qk_;rw[this];split<;>rfl
abbrev rkK (K:List (WellName × Int))(m:WellName):Int:=qk_ m 0 K
theorem kx_ {m:WellName}{L:Int}:∀(ws:List WellWay) (K:List (WellName × Int)) (b:Bool) (c:Int),0<=c->(∀w∈ws,w.taken=0\/w.taken=1)->(∀k,0<=rkK K k/\rkK K k<=L+c)->L+c+ws.length<4611686018427387904->
  (∀k,k≠m->rkK (vt_ m ws (K,b)).1 k=rkK K k)/\rkK K m<=rkK (vt_ m ws (K,b)).1 m/\rkK (vt_ m ws (K,b)).1 m<=L+c+ws.length/\((vt_ m ws (K,b)).2=false->b=false/\(vt_ m ws (K,b)).1=K/\∀w∈ws,rkK K w.to+w.taken<=rkK K m)/\((vt_ m ws (K,b)).2=true->b=true\/rkK K m<rkK (vt_ m ws (K,b)).1 m)
 |[],K,b,c,hc,_,hK,_=>⟨fun _ _=>rfl,Int.le_refl _,by have:=(hK m).2;show rkK K m<=L+c+((0:Nat):Int);omega,fun h=>⟨h,rfl,fun _ h=>nomatch h⟩,fun h=>.inl h⟩
 |w::ws,K,b,c,hc,ht,hK,hl=>by
  simp only[List.length_cons,Int.natCast_add,Int.natCast_one] at hl⊢;have hw:=ht w (List.mem_cons_self ..);have ht2:∀w∈ws,w.taken=0\/w.taken=1:=fun y hy=>ht y (List.mem_cons_of_mem _ hy);have h1:=hK w.to;have h2:=hK m;have hwr:IntKind.i64.wrap (rkK K w.to+w.taken)=rkK K w.to+w.taken:=IntWalk.i64_in _ (by omega);unfold vt_;rw[hwr]
  by_cases hlt:rkK K m<rkK K w.to+w.taken
  ·rw[decide_eq_true hlt,if_pos rfl]
   dsimp only;have hm:rkK (mset m (rkK K w.to+w.taken) K) m=rkK K w.to+w.taken:=by rw[rkK,dW_,if_pos rfl]
   have ho:∀k,k≠m->rkK (mset m (rkK K w.to+w.taken) K) k=rkK K k:=fun k hk=>by rw[rkK,dW_,if_neg hk]
   obtain⟨q1,q2,q3,q4,q5⟩:=kx_ (m:=m) (L:=L) ws (mset m (rkK K w.to+w.taken) K) true (c+1) (by omega) ht2 (fun k=>by
    by_cases hk:k=m
    ·subst hk;rw[hm];omega
    ·rw[ho k hk];have:=hK k;omega) (by omega)
   refine⟨fun k hk=>(q1 k hk).trans (ho k hk),by omega,by omega,fun h=> ?_,fun _=>.inr (by omega)⟩
   have:=(q4 h).1
   cases this
  ·rw[decide_eq_false hlt,if_neg (by decide)]
   obtain⟨q1,q2,q3,q4,q5⟩:=kx_ (m:=m) (L:=L) ws K b c hc ht2 hK (by omega);refine⟨q1,q2,by omega,fun h=> ?_,q5⟩;obtain⟨r1,r2,r3⟩:=q4 h;refine⟨r1,r2,fun y hy=> ?_⟩;rcases List.mem_cons.1 hy with rfl |hy
   ·omega
   ·exact r3 y hy
def totK (os:List WellName)(K:List (WellName × Int)):Nat:=(os.map fun m=>(rkK K m).toNat).sum
theorem p6_ {os:List WellName}{K K':List (WellName × Int)}(h:∀k,rkK K k<=rkK K' k):totK os K<=totK os K':=by
 unfold totK;induction os with
 |nil=>exact Nat.le_refl _
 |cons m r ih=>
  rw[List.map_cons,List.map_cons,List.sum_cons,List.sum_cons]
  have:=h m
  omega
theorem tot_lt {os:List WellName}{K K':List (WellName × Int)}(h:∀k,rkK K k<=rkK K' k){m:WellName}(hm:m∈os)(h0:0<=rkK K m)(hlt:rkK K m<rkK K' m):totK os K<totK os K':=by
 induction os with
 |nil=>cases hm
 |cons x r ih=>
  have hr:=p6_ (os:=r) h;unfold totK at hr ih⊢;rw[List.map_cons,List.map_cons,List.sum_cons,List.sum_cons]
  have:=h x
  rcases List.mem_cons.1 hm with rfl |hm
  ·omega
  ·have:=ih hm
   omega
theorem c9_ {os:List WellName}{K:List (WellName × Int)}{L:Nat}(h:∀k,rkK K k<=(L:Int)):totK os K<=os.length*L:=by
 unfold totK;induction os with
 |nil=>exact Nat.zero_le _
 |cons m r ih=>
  rw[List.map_cons,List.sum_cons,List.length_cons,Nat.succ_mul]
  have:=h m
  omega
theorem gu_ {os:List WellName}{W:List (WellName × List WellWay)}{L:Nat}(hW:∀m,(qk_ m [] W).length<=60000/\∀w∈qk_ m [] W,w.taken=0\/w.taken=1)(hL:L<=1000000000):
  ∀(ns:List WellName) (K:List (WellName × Int)) (b:Bool),(∀m∈ns,m∈os)->(∀k,0<=rkK K k/\rkK K k<=(L:Int))->∀s,dQ_ W (L:Int) ns (K,b)=some s->
   (∀k,0<=rkK s.1 k/\rkK s.1 k<=(L:Int))/\(∀k,rkK K k<=rkK s.1 k)/\(s.2=false->b=false/\s.1=K/\∀m∈ns,∀w∈qk_ m [] W,rkK K w.to+w.taken<=rkK K m)/\(s.2=true->b=true\/totK os K<totK os s.1)
 |[],K,b,_,hK,s,h=>by
  cases h;exact⟨hK,fun _=>Int.le_refl _,fun h=>⟨h,rfl,fun _ h=>nomatch h⟩,fun h=>.inl h⟩
 |m::ns,K,b,hm,hK,s,h=>by
  obtain⟨w1,w2⟩:=hW m;obtain⟨q1,q2,q3,q4,q5⟩:=kx_ (m:=m) (L:=(L:Int)) (qk_ m [] W) K b 0 (Int.le_refl _) w2 (fun k=>by have:=hK k;omega) (by omega);unfold dQ_ at h;generalize vt_ m (qk_ m [] W) (K,b)=s1 at q1 q2 q3 q4 q5 h;obtain⟨K1,b1⟩:=s1;dsimp only at q1 q2 q3 q4 q5 h;split at h
  ·cases h
  ·rename_i hlim
   have hlim:rkK K1 m<=(L:Int):=by simpa using hlim
   have hle:∀k,rkK K k<=rkK K1 k:=fun k=>by
    by_cases hk:k=m
    ·subst hk;exact q2
    ·rw[q1 k hk];exact Int.le_refl _
   obtain⟨r1,r2,r3,r4⟩:=gu_ hW hL ns K1 b1 (fun x hx=>hm x (List.mem_cons_of_mem _ hx)) (fun k=>by
    have h1:=hle k;have h2:=hK k;refine⟨by omega,?_⟩;by_cases hk:k=m
    ·subst hk;exact hlim
    ·rw[q1 k hk];exact h2.2) s h
   refine⟨r1,fun k=>Int.le_trans (hle k) (r2 k),fun hs=> ?_,fun hs=> ?_⟩
   ·obtain⟨x1,x2,x3⟩:=r3 hs
    obtain⟨y1,y2,y3⟩:=q4 x1;subst y2;refine⟨y1,x2,fun z hz=> ?_⟩;rcases List.mem_cons.1 hz with rfl |hz
    ·exact y3
    ·exact x3 z hz
   ·rcases r4 hs with h1 |h1
    ·rcases q5 h1 with h2 |h2
     ·exact .inl h2
     ·exact .inr (Nat.lt_of_lt_of_le (tot_lt hle (hm m (List.mem_cons_self ..)) (hK m).1 h2) (p6_ r2))
    ·exact .inr (Nat.lt_of_le_of_lt (p6_ hle) h1)
def rankP_ (os:List WellName)(W:List (WellName × List WellWay))(K:List (WellName × Int)):Prop:=(∀k,0<=rkK K k)/\∀m∈os,∀w∈qk_ m [] W,rkK K w.to+w.taken<=rkK K m
theorem gv_ {os:List WellName}{W:List (WellName × List WellWay)}(hW:∀m,(qk_ m [] W).length<=60000/\∀w∈qk_ m [] W,w.taken=0\/w.taken=1)(hL:os.length<=1000000000):
  ∀(c:Nat) (K:List (WellName × Int)),(∀k,0<=rkK K k/\rkK K k<=(os.length:Int))->os.length*os.length-totK os K<c->∃r,dR_ W (os.length:Int) os c K=some r/\∀K',r=some K'->rankP_ os W K'
 |0,_,_,h=>absurd h (Nat.not_lt_zero _)
 |c+1,K,hK,hc=>by
  unfold dR_;cases hp:dQ_ W (os.length:Int) os (K,false) with
  |none=>exact⟨none,rfl,fun _ h=>nomatch h⟩
  |some s=>
   obtain⟨r1,r2,r3,r4⟩:=gu_ (os:=os) hW hL os K false (fun _ h=>h) hK s hp;dsimp only;cases hs:s.2 with
   |false=>
    obtain⟨_,x2,x3⟩:=r3 hs;rw[if_neg (by decide)];refine⟨_,rfl,fun K' h=> ?_⟩;cases h;exact⟨fun k=>(r1 k).1,by rw[x2];exact x3⟩
   |true=>
    rw[if_pos rfl];rcases r4 hs with h |h
    ·cases h
    ·have:=c9_ (os:=os) (fun k=>(r1 k).2)
     exact gv_ hW hL c s.1 r1 (by omega)
def zv_ (l:List GType):List WellName:=l.flatMap fun t=>t.rels.map fun g=>⟨t.name,g.name⟩
def vT_ (l:List GType):List (WellName × GRel):=l.flatMap fun t=>t.rels.map fun g=>(⟨t.name,g.name⟩,g)
section
variable {K V:Type}[BEq K][LawfulBEq K]
omit [LawfulBEq K] in
theorem hK_ {k:K}{v:V}:∀ {m:List (K × V)},mhas k m=false->mset k v m=m++[(k,v)]
 |[],_=>rfl
 |p::r,h=>by
  have h1:(k==p.1)=false:=by
   cases hk:(k==p.1) with
   |false=>rfl
   |true=>simp[mhas,mget,hk] at h
  have h2:mhas k r=false:=by simpa [mhas,mget,h1] using h
  rw[mset,if_neg (by rw[h1];decide),hK_ h2];rfl
theorem kf_ {k:K}:∀ {m:List (K × V)},mhas k m=true↔k∈m.map (·.1)
 |[]=>by simp[mhas,mget]
 |p::r=>by
  have ih:=kf_ (k:=k) (m:=r);unfold mhas at ih⊢;simp only[mget,List.map_cons,List.mem_cons];by_cases h:k==p.1
  ·rw[if_pos h]
   simp[eq_of_beq h]
  ·rw[if_neg h,ih]
   constructor
   ·exact .inr
   ·rintro(h2 |h2)
    ·rw[h2] at h
     exact absurd (beq_self_eq_true _) h
    ·exact h2
theorem gw_ {k:K}{v:V}:∀ {m:List (K × V)},(m.map (·.1)).Nodup->(k,v)∈m->mget k m=some v
 |[],_,h=>by cases h
 |p::r,hn,h=>by
  rw[List.map_cons,List.nodup_cons] at hn;simp only[mget];rcases List.mem_cons.1 h with rfl |h
  ·rw[if_pos (beq_self_eq_true _)]
  ·rw[if_neg,gw_ hn.2 h]
   intro e;exact hn.1 (eq_of_beq e▸List.mem_map_of_mem h)
omit [LawfulBEq K] in
theorem hL_ {k:K}{v:V}{p:K × V}:∀ {m:List (K × V)},p∈mset k v m->p=(k,v)\/p∈m
 |[],h=>.inl (List.mem_singleton.1 h)
 |q::r,h=>by
  rw[mset] at h;split at h
  ·rcases List.mem_cons.1 h with h |h
   ·exact .inl h
   ·exact .inr (List.mem_cons_of_mem _ h)
  ·rcases List.mem_cons.1 h with h |h
   ·exact .inr (h▸List.mem_cons_self ..)
   ·rcases hL_ h with h |h
    ·exact .inl h
    ·exact .inr (List.mem_cons_of_mem _ h)
end
theorem gx_ {a:ByteArray}:∀(l:List GRel) (R:List (WellName × GRel)),(R.map (·.1)).Nodup->(uV_ a l R).2=false->(uV_ a l R).1=R++l.map (fun g=>(⟨a,g.name⟩,g))/\((uV_ a l R).1.map (·.1)).Nodup
 |[],R,hn,_=>⟨by simp[uV_],hn⟩
 |g::r,R,hn,h=>by
  unfold uV_ at h⊢;cases hh:mhas (⟨a,g.name⟩:WellName) R with
  |true=>rw[hh,if_pos rfl] at h;cases h
  |false=>
   rw[hh,if_neg (by decide)] at h;rw[if_neg (by decide)];rw[hK_ hh] at h⊢;obtain⟨h1,h2⟩:=gx_ r (R++[(⟨a,g.name⟩,g)]) (by
    rw[List.map_append,List.nodup_append];refine⟨hn,by simp,fun x hx y hy=> ?_⟩;simp only[List.map_cons,List.map_nil,List.mem_singleton] at hy;rintro rfl;rw[hy] at hx;rw[<-kf_ (V:=GRel),hh] at hx;cases hx) h
   exact⟨by rw[h1];simp,h2⟩
theorem gy_ {k m:ByteArray}{v:Int}{T:List (ByteArray × Int)}:qk_ k 0 (mset m v T)=if k=m then v else qk_ k 0 T:=by
 have:mget k (mset m v T)=if k=m then some v else mget k T:=by
  induction T with
  |nil=>simp only[mset,mget,beq_iff_eq]
  |cons p r ih=>
   simp only[mset];by_cases h:m==p.1
   ·rw[if_pos h]
    obtain rfl:=eq_of_beq h;simp only[mget,beq_iff_eq];split<;>rfl
   ·rw[if_neg h]
    simp only[mget,ih,beq_iff_eq];by_cases h2:k=p.1
    ·rw[if_pos h2,if_pos h2,if_neg]
     rintro rfl;exact h (by rw[h2];exact beq_self_eq_true _)
    ·rw[if_neg h2,if_neg h2]
 unfold qk_;rw[this];split<;>rfl
theorem gz_:∀(l:List GType) (T:List (ByteArray × Int)) (R:List (WellName × GRel)),(R.map (·.1)).Nodup->(za_ l T R).2.2=0->(za_ l T R).2.1=R++vT_ l/\((za_ l T R).2.1.map (·.1)).Nodup/\(l.map (·.name)).Nodup/\∀t∈l,¬0<qk_ t.name 0 T
 |[],T,R,hn,_=>⟨by simp[za_,vT_],hn,by simp,fun _ h=>nomatch h⟩
 |t::l,T,R,hn,h=>by
  unfold za_ at h⊢;by_cases ht:0<qk_ t.name 0 T
  ·rw[decide_eq_true ht,if_pos rfl] at h
   cases h
  ·rw[decide_eq_false ht,if_neg (by decide)] at h⊢
   dsimp only at h⊢;have hc:=gx_ (a:=t.name) t.rels R hn;generalize uV_ t.name t.rels R=p at hc h;obtain⟨R1,b⟩:=p;cases b with
   |true=>rw[if_pos rfl] at h;cases h
   |false=>
    rw[if_neg (show ¬(R1,false).2=true from fun h=>by cases h)] at h⊢;obtain⟨c1,c2⟩:=hc rfl;dsimp only at c1 c2 h⊢;obtain⟨d1,d2,d3,d4⟩:=gz_ l (mset t.name 1 T) R1 c2 h;refine⟨by rw[d1,c1];simp[vT_],d2,?_,fun u hu=> ?_⟩
    ·rw[List.map_cons,List.nodup_cons]
     refine⟨fun hm=> ?_,d3⟩;obtain⟨u,hu,e⟩:=List.mem_map.1 hm
     have:=d4 u hu
     rw[gy_,if_pos e] at this;exact this (by decide)
    ·rcases List.mem_cons.1 hu with rfl |hu
     ·exact ht
     ·have:=d4 u hu
      rw[gy_] at this;split at this
      ·exact absurd (by decide) this
      ·exact this
theorem uH_ {n:Nat}{S:WellSchema}{a:ByteArray}(hS:vR_ S)(hn:1000<n):∀(l:List GRel) (ns:List WellName),(∀g∈l,RelB g)->ns.length+l.length<=1000000000->∃r,kP_ n S a l ns=some r/\∀os,r= .inl os->os=ns++l.map (fun g=>⟨a,g.name⟩)/\∀g∈l,nmsP S a g
 |[],ns,_,_=>⟨_,rfl,fun os h=>by cases h;exact⟨by simp,fun _ h=>nomatch h⟩⟩
 |g::l,ns,hb,hl=>by
  simp only[List.length_cons] at hl;obtain⟨e,e1,e2⟩:=mx_ (a:=a) hS (hb g (List.mem_cons_self ..)) hn;unfold kP_;rw[if_pos (by omega),e1,Zo];split
  ·rename_i he
   obtain⟨r,r1,r2⟩:=uH_ (a:=a) hS hn l (ns++[⟨a,g.name⟩]) (fun x hx=>hb x (List.mem_cons_of_mem _ hx)) (by rw[List.length_append,List.length_singleton];omega);refine⟨r,r1,fun os h=> ?_⟩;obtain⟨q1,q2⟩:=r2 os h;refine⟨by rw[q1];simp,fun x hx=> ?_⟩;rcases List.mem_cons.1 hx with rfl |hx
   ·exact e2 (eq_of_beq he)
   ·exact q2 x hx
  ·exact⟨_,rfl,fun _ h=>nomatch h⟩
theorem uI_ {n:Nat}{S:WellSchema}(hS:vR_ S)(hn:1000<n):∀(l:List GType) (ns:List WellName),(∀t∈l,t.rels.length<=200/\∀g∈t.rels,RelB g)->ns.length+200*l.length<=1000000000->∃r,kQ_ n S l ns=some r/\∀os,r= .inl os->os=ns++zv_ l/\∀t∈l,∀g∈t.rels,nmsP S t.name g
 |[],ns,_,_=>⟨_,rfl,fun os h=>by cases h;exact⟨by simp[zv_],fun _ h=>nomatch h⟩⟩
 |t::l,ns,hb,hl=>by
  simp only[List.length_cons] at hl;obtain⟨b1,b2⟩:=hb t (List.mem_cons_self ..);obtain⟨r,e1,e2⟩:=uH_ (a:=t.name) hS hn t.rels ns b2 (by omega);unfold kQ_;rw[e1,Zo];cases r with
  |inr e=>exact⟨_,rfl,fun _ h=>nomatch h⟩
  |inl os1=>
   obtain⟨q1,q2⟩:=e2 os1 rfl;obtain⟨r,r1,r2⟩:=uI_ hS hn l os1 (fun x hx=>hb x (List.mem_cons_of_mem _ hx)) (by rw[q1,List.length_append,List.length_map];omega);refine⟨r,r1,fun os h=> ?_⟩;obtain⟨s1,s2⟩:=r2 os h;refine⟨by rw[s1,q1];simp[zv_],fun x hx=> ?_⟩;rcases List.mem_cons.1 hx with rfl |hx
   ·exact q2
   ·exact s2 x hx
theorem dX_ {α:Type}:∀(f:Nat) (xs:List α) (i j:Nat),(i<j->j<xs.length)->j-i<f->∃ys,revR f xs i j=some ys/\ys.Perm xs
 |0,_,_,_,_,h=>absurd h (Nat.not_lt_zero _)
 |f+1,xs,i,j,hj,hf=>by
  unfold revR;split
  ·rename_i hij
   have h1:=hj hij;rw[List.getElem?_eq_getElem h1,List.getElem?_eq_getElem (show i<xs.length by omega),Zo,Zo];obtain⟨ys,e1,e2⟩:=dX_ f ((xs.set i xs[j]).set j xs[i]) (i+1) (j-1) (fun _=>by rw[List.length_set,List.length_set];omega) (by omega);exact⟨ys,e1,e2.trans (List.set_set_perm (by omega) h1)⟩
  ·exact⟨xs,rfl,.refl _⟩
theorem gA_ {n:Nat}{S:WellSchema}:∀(os:List WellName) (W:List (WellName × List WellWay)),(∀m∈os,fC_ n S m=some (vS_ S m))->∃W',fA_ n S os W=some W'/\(∀k,mget k W'=if k∈os then some (vS_ S k) else mget k W)/\∀p∈W',p∈W\/p.2=vS_ S p.1
 |[],W,_=>⟨W,rfl,fun k=>by simp,fun p h=>.inl h⟩
 |m::os,W,h=>by
  unfold fA_;rw[h m (List.mem_cons_self ..),Zo];obtain⟨W',e1,e2,e3⟩:=gA_ os (mset m (vS_ S m) W) fun x hx=>h x (List.mem_cons_of_mem _ hx);refine⟨W',e1,fun k=> ?_,fun p hp=> ?_⟩
  ·rw[e2 k]
   by_cases hk:k∈os
   ·rw[if_pos hk,if_pos (List.mem_cons_of_mem _ hk)]
   ·rw[if_neg hk]
    have hs:mget k (mset m (vS_ S m) W)=if k=m then some (vS_ S m) else mget k W:=by
     clear e2 e3 e1;induction W with
     |nil=>simp only[mset,mget,beq_iff_eq]
     |cons p r ih=>
      simp only[mset];by_cases h:m==p.1
      ·rw[if_pos h]
       obtain rfl:=eq_of_beq h;simp only[mget,beq_iff_eq];split<;>rfl
      ·rw[if_neg h]
       simp only[mget,ih,beq_iff_eq];by_cases h2:k=p.1
       ·rw[if_pos h2,if_pos h2,if_neg]
        rintro rfl;exact h (by rw[h2];exact beq_self_eq_true _)
       ·rw[if_neg h2,if_neg h2]
    rw[hs];by_cases hm:k=m
    ·subst hm
     rw[if_pos rfl,if_pos (List.mem_cons_self ..)]
    ·rw[if_neg hm,if_neg]
     intro hx;rcases List.mem_cons.1 hx with h |h
     ·exact hm h
     ·exact hk h
  ·rcases e3 p hp with h |h
   ·rcases hL_ h with rfl |h
    ·exact .inr rfl
    ·exact .inl h
   ·exact .inr h
structure WellP (l:List GType) (S:WellSchema):Prop where
 rels:S.rels=vT_ l
 keys:(S.rels.map (·.1)).Nodup
 tys:(l.map (·.name)).Nodup
 nms:∀t∈l,∀g∈t.rels,nmsP S t.name g
 rk0:∀k,0<=rkK S.ranks k
 rk:∀m∈zv_ l,∀w∈vS_ S m,rkK S.ranks w.to+w.taken<=rkK S.ranks m
theorem sK_ {l:List GType}(h:kK_ l):(zv_ l).length<=40200:=by
 have key:∀l:List GType,(∀t∈l,t.rels.length<=200)->(zv_ l).length<=200*l.length:=fun l=>by
  induction l with
  |nil=>intro _;exact Nat.le_refl _
  |cons t r ih=>
   intro h;have h1:=h t (List.mem_cons_self ..);have h2:=ih fun x hx=>h x (List.mem_cons_of_mem _ hx);have e:zv_ (t::r)=t.rels.map (fun g=>⟨t.name,g.name⟩)++zv_ r:=by simp[zv_]
   rw[e,List.length_append,List.length_map,List.length_cons];omega
 have h1:=key l fun t ht=>(h.2 t ht).1;have h2:=h.1;omega
theorem hM_ {l:List GType}{m:WellName}:m∈zv_ l↔∃t∈l,∃g∈t.rels,m=⟨t.name,g.name⟩:=by
 simp[zv_,eq_comm]
theorem uJ_ {l:List GType}{p:WellName × GRel}:p∈vT_ l↔∃t∈l,∃g∈t.rels,p=(⟨t.name,g.name⟩,g):=by
 simp[vT_,eq_comm]
theorem gB_ (l:List GType):(vT_ l).map (·.1)=zv_ l:=by
 induction l with
 |nil=>rfl
 |cons t r ih=>
  have e1:zv_ (t::r)=t.rels.map (fun g=>⟨t.name,g.name⟩)++zv_ r:=by simp[zv_]
  have e2:vT_ (t::r)=t.rels.map (fun g=>(⟨t.name,g.name⟩,g))++vT_ r:=by simp[vT_]
  rw[e1,e2,List.map_append,ih,List.map_map];rfl
theorem tp_ {l:List GType}{R:List (WellName × GRel)}(hR:R=vT_ l)(hn:(R.map (·.1)).Nodup){t:GType}{g:GRel}(ht:t∈l)(hg:g∈t.rels):mget (⟨t.name,g.name⟩:WellName) R=some g:=
 gw_ hn (by rw[hR];exact uJ_.2 ⟨t,ht,g,hg,rfl⟩)
theorem gC_ {l:List GType}(hl:kK_ l){n:Nat}(hn:2000000000<n):∃r,ke_ n l=some r/\∀S,r= .inl S->WellP l S:=by
 have hk:=sK_ hl;have hl1:=hl.1;unfold ke_;rw[if_pos ⟨by omega,fun t ht=>by have:=(hl.2 t ht).1;omega⟩];cases hc:((za_ l [] []).2.2==0) with
 |false=>exact⟨_,rfl,fun _ h=>nomatch h⟩
 |true=>
  rw[if_pos rfl];obtain⟨c1,c2,c3,_⟩:=gz_ l [] [] (by simp) (eq_of_beq hc);rw[List.nil_append] at c1;generalize (za_ l [] []).1=T at *;generalize (za_ l [] []).2.1=R at *;have hS:vR_ ⟨T,R,[]⟩:=fun p hp=>by
   have hp:p∈R:=hp;rw[c1] at hp;obtain⟨t,ht,g,hg,rfl⟩:=uJ_.1 hp;exact(hl.2 t ht).2 g hg
  obtain⟨r,e1,e2⟩:=uI_ (n:=n) hS (by omega) l [] hl.2 (by simp only[List.length_nil];omega);rw[e1,Zo];cases r with
  |inr e=>exact⟨_,rfl,fun _ h=>nomatch h⟩
  |inl os=>
   obtain⟨q1,q2⟩:=e2 os rfl;rw[List.nil_append] at q1;cases os with
   |nil=>
    refine⟨_,rfl,fun S h=> ?_⟩;cases h;exact⟨c1,c2,c3,q2,fun k=>Int.le_refl _,fun m hm=>by rw[<-q1] at hm;cases hm⟩
   |cons m r=>
    rw[wellR];obtain⟨ys,y1,y2⟩:=dX_ n (m::r) 0 r.length (fun _=>by rw[List.length_cons];omega) (by rw[<-q1,List.length_cons] at hk;omega);rw[y1,Zo];have hyk:∀k,k∈ys↔k∈zv_ l:=fun k=>by rw[<-q1];exact y2.mem_iff
    have hyl:ys.length<=40200:=by rw[y2.length_eq,q1];exact hk
    have hW:∀k∈ys,fC_ n ⟨T,R,[]⟩ k=some (vS_ ⟨T,R,[]⟩ k)/\(vS_ ⟨T,R,[]⟩ k).length<=60000:=fun k hk=>by
     obtain⟨t,ht,g,hg,rfl⟩:=hM_.1 ((hyk k).1 hk);have e:qk_ (⟨t.name,g.name⟩:WellName) zGR R=g:=by unfold qk_;rw[tp_ c1 c2 ht hg];rfl
     refine p5_ hS (by omega) ?_;show ∀x∈(qk_ (⟨t.name,g.name⟩:WellName) zGR R).expr,_;rw[e];exact(q2 t ht g hg).2
    obtain⟨W,w1,w2,w3⟩:=gA_ (n:=n) (S:=⟨T,R,[]⟩) ys [] fun k hk=>(hW k hk).1;have hWk:∀k∈ys,qk_ k [] W=vS_ ⟨T,R,[]⟩ k:=fun k hk=>by unfold qk_;rw[w2,if_pos hk];rfl
    have hWn:∀k,k∉ys->qk_ k [] W= []:=fun k hk=>by unfold qk_;rw[w2,if_neg hk];rfl
    have hWa:∀k,(qk_ k [] W).length<=60000/\∀w∈qk_ k [] W,w.taken=0\/w.taken=1:=fun k=>by
     by_cases hk:k∈ys
     ·rw[hWk k hk]
      exact⟨(hW k hk).2,mz_ _ k⟩
     ·rw[hWn k hk]
      exact⟨Nat.zero_le _,fun _ h=>nomatch h⟩
    rw[w1,Zo,if_pos];rotate_left
    ·refine⟨fun k hk=>by rw[w2,if_pos hk];rfl,fun p hp=> ?_,by omega⟩
     rcases w3 p hp with h |h
     ·cases h
     ·rw[h]
      unfold vS_;by_cases hk:p.1∈ys
      ·have:=(hW p.1 hk).2
       unfold vS_ at this;omega
      ·have hd:qk_ p.1 [] W= []:=hWn _ hk
       have hm:mhas p.1 W=true:=kf_.2 (List.mem_map_of_mem hp);unfold mhas at hm;rw[w2,if_neg hk] at hm;cases hm
    obtain⟨rr,k1,k2⟩:=gv_ (os:=ys) hWa (by omega) n [] (fun k=>⟨Int.le_refl _,Int.natCast_nonneg _⟩) (by
     have:ys.length*ys.length<=40200*40200:=Nat.mul_le_mul hyl hyl
     omega)
    rw[k1,Zo];cases rr with
    |none=>exact⟨_,rfl,fun _ h=>nomatch h⟩
    |some K=>
     refine⟨_,rfl,fun S h=> ?_⟩;cases h;obtain⟨p1,p2⟩:=k2 K rfl;refine⟨c1,c2,c3,q2,p1,fun k hk w hw=> ?_⟩;have hky:=(hyk k).2 hk;exact p2 k hky w (by rw[hWk k hky];exact hw)
end Go.Proofs.YtnmkbmefohakmaaGreat.Ab
