/-
 Sorting so that equals stay: two rising parts are merged.
-/
import Derived.Test.YtnmkbmefohakmaaGreatWlp
set_option linter.all false
namespace Go.Proofs.YtnmkbmefohakmaaGreat.Ab
open Go.RowKit IntKind
def Er (S:AC)(m:AA):List AJ:=if (qf_ m CX S.rels).expr= [] then Ft (qf_ m CX S.rels).subs else((qf_ m CX S.rels).expr.foldl (Dc S m.typ) []).flatten
theorem rH:∀l:List AN,(Ft l).length<=l.length
 |[]=>Lc _
 |s::r=>by
  have:=rH r;grind [TA,List.length_cons]
variable {K:List (AA × Int)}{l:List AG}{m:AA}{os:List AA}
theorem rI {n:Nat}{S:AC}(b:GZ S)(u:100000<n)(hp:∀x∈(qf_ m CX S.rels).expr,Jz S m.typ x):Qv n S m=some (Er S m)/\(Er S m).length<=60000:=by
 have c:=JS b m;unfold Qv Er;rw[show(⟨ByteArray.empty,[],[]⟩:AW)=CX from rfl];generalize qf_ m CX S.rels=g at c hp⊢;have⟨nm,d,j⟩:=g;have⟨k,o,p,_⟩:=c;dsimp only at k o p hp⊢;cases j with
 |nil=>
  rw[if_pos rfl];exact⟨ifp,Lv (rH d) (by omega)⟩
 |cons e r=>
  obtain rfl:d= []:=by
   grind
  rw[if_neg (by simp)];have⟨q,v,w,s⟩:=rG (n:=n) (a:=m.typ) (ex:=e::r) b (by omega) (e::r) [] hp (fun _ h=>nomatch h) (by simp only[Lu];omega) (by simp only[JT,Lw,List.sum_nil];omega);have f:Q0 n S m.typ (e::r) n (([]:List (List AJ)),0)=_:=vz_ n S m.typ (e::r) (by omega) n [] 0 (Lg _) (by omega);rw[LJ,q] at f;have t:((e::r).foldl (Dc S m.typ) []).flatten.length<=60000:=by
   rw[List.length_flatten];exact s
  refine⟨?_,t⟩;show Xw n S m.typ (e::r)=_;unfold Xw;rw[f,Zo];unfold PV;grind
theorem iF:∀l:List AN,∀w∈Ft l,w.taken=0\/w.taken=1
 |[],_,h=>by cases h
 |s::r,w,h=>by
  rw[TA] at h;split at h
  ·exact iF r w h
  rcases Lr.1 h with rfl |h
  ·exact .inl rfl
  exact iF r w h
theorem rJ {S:AC}{a:ByteArray}:∀(l:List AS) (f:List (List AJ)),(∀b∈f,∀w∈b,w.taken=0\/w.taken=1)->∀b∈l.foldl (Dc S a) f,∀w∈b,w.taken=0\/w.taken=1
 |[],_,h=>h
 |x::l,f,h=>by
  rw[Bs];refine rJ l _ ?_;unfold Dc;split
  ·intro b c w d;rcases Ly.1 c with e |e
   ·exact h b e w d
   rw[Lt.1 e] at d;unfold GB at d;grind
  split
  ·rename_i k;obtain⟨p,u,v,rfl⟩:=rF k;intro b c w d;have n:(p++[u,v]).length=p.length+2:=(by rw[Ld];rfl);rw[n] at c;simp at c;rcases c with e |rfl
   ·grind
   rcases Ly.1 d with j |j
   ·exact h u (by simp) w j
   obtain⟨y,o,rfl⟩:=LO.1 j;unfold DP;grind
  exact h
theorem ai (S:AC)(m:AA):∀w∈Er S m,w.taken=0\/w.taken=1:=by
 grind [Er,iF,List.mem_flatten,rJ]
theorem iG {k:AA}{v:Int}:qf_ k 0 (mset m v K)=if k=m then v else qf_ k 0 K:=by
 have:mget k (mset m v K)=if k=m then some v else mget k K:=by
  induction K with
  |nil=>
   simp only[mset,mget,beq_iff_eq]
  |cons p r a=>
   simp only[mset];by_cases h:m==p.1
   ·rw[if_pos h];obtain rfl:=eq_of_beq h;simp only[mget,beq_iff_eq];split<;>rfl
   rw[if_neg h];simp only[mget,a,beq_iff_eq];grind
 unfold qf_;rw[this];split<;>rfl
abbrev Cv (K:List (AA × Int))(m:AA):Int:=qf_ m 0 K
theorem iH {m:AA}{L:Int}:∀(a:List AJ) (K:List (AA × Int)) (b:Bool) (c:Int),0<=c->(∀w∈a,w.taken=0\/w.taken=1)->(∀k,0<=Cv K k/\Cv K k<=L+c)->L+c+a.length<4611686018427387904->
  (∀k,k≠m->Cv (vx_ m a (K,b)).1 k=Cv K k)/\Cv K m<=Cv (vx_ m a (K,b)).1 m/\Cv (vx_ m a (K,b)).1 m<=L+c+a.length/\((vx_ m a (K,b)).2=false->b=false/\(vx_ m a (K,b)).1=K/\∀w∈a,Cv K w.to+w.taken<=Cv K m)/\((vx_ m a (K,b)).2=true->b=true\/Cv K m<Cv (vx_ m a (K,b)).1 m)
 |[],K,b,c,f,_,d,_=>⟨fun _ _=>rfl,Bp _,by have:=(d m).2;show Cv K m<=L+c+((0:Nat):Int);omega,fun h=>⟨h,rfl,fun _ h=>nomatch h⟩,fun h=>.inl h⟩
 |w::a,K,b,c,f,j,d,p=>by
  simp only[Lh,Int.natCast_add,Int.natCast_one] at p⊢;have B:=j w (Lo ..);have n:∀w∈a,w.taken=0\/w.taken=1:=fun y q=>j y (Lj _ q);have C:=d w.to;have E:=d m;have r:i64.wrap (Cv K w.to+w.taken)=Cv K w.to+w.taken:=IntWalk.i64_in _ (by omega);unfold vx_;rw[r]
  by_cases o:Cv K m<Cv K w.to+w.taken
  ·rw[decide_eq_true o,if_pos rfl];dsimp only;have s:Cv (mset m (Cv K w.to+w.taken) K) m=Cv K w.to+w.taken:=(by rw[Cv,iG,if_pos rfl]);have t:∀k,k≠m->Cv (mset m (Cv K w.to+w.taken) K) k=Cv K k:=fun k e=>(by rw[Cv,iG,if_neg e]);have⟨u,v,x,z,A⟩:=iH (m:=m) (L:=L) a (mset m (Cv K w.to+w.taken) K) true (c+1) (by omega) n (fun k=>by
    by_cases e:k=m
    ·subst e;rw[s];omega
    rw[t k e];have:=d k;omega) (by omega)
   grind
  rw[decide_eq_false o,if_neg (by decide)];have⟨u,v,x,z,A⟩:=iH (m:=m) (L:=L) a K b c f n d (by omega);grind
def GC (os:List AA)(K:List (AA × Int)):Nat:=(os.map fun m=>(Cv K m).toNat).sum
theorem iI {a:List (AA × Int)}(h:∀k,Cv K k<=Cv a k):GC os K<=GC os a:=by
 unfold GC;induction os with
 |nil=>exact Lc _
 |cons m r b=>
  grind
theorem S7 {a:List (AA × Int)}(h:∀k,Cv K k<=Cv a k)(b:m∈os)(e:0<=Cv K m)(f:Cv K m<Cv a m):GC os K<GC os a:=by
 induction os with
 |nil=>cases b
 |cons x r c=>
  have d:=iI (os:=r) h;unfold GC at d c⊢;grind
theorem lD_ {L:Nat}(h:∀k,Cv K k<=(L:Int)):GC os K<=os.length*L:=by
 unfold GC;induction os with
 |nil=>exact Lg _
 |cons m r a=>
  rw[Li,BJ,Lh,OJ]
  have:=h m;omega
theorem rK {os:List AA}{W:List (AA × List AJ)}{L:Nat}(t:∀m,(qf_ m [] W).length<=60000/\∀w∈qf_ m [] W,w.taken=0\/w.taken=1)(B:L<=1000000000):
  ∀(a:List AA) (K:List (AA × Int)) (b:Bool),(∀m∈a,m∈os)->(∀k,0<=Cv K k/\Cv K k<=(L:Int))->∀s,PX W (L:Int) a (K,b)=some s->
   (∀k,0<=Cv s.1 k/\Cv s.1 k<=(L:Int))/\(∀k,Cv K k<=Cv s.1 k)/\(s.2=false->b=false/\s.1=K/\∀m∈a,∀w∈qf_ m [] W,Cv K w.to+w.taken<=Cv K m)/\(s.2=true->b=true\/GC os K<GC os s.1)
 |[],K,b,_,e,s,h=>by
  cases h;grind
 |m::a,K,b,u,e,s,h=>by
  have⟨J,C⟩:=t m;have⟨f,o,v,y,p⟩:=iH (m:=m) (L:=(L:Int)) (qf_ m [] W) K b 0 (Bp _) C (fun k=>by have:=e k;omega) (by omega);unfold PX at h;generalize vx_ m (qf_ m [] W) (K,b)=E at f o v y p h;have⟨q,F⟩:=E;dsimp only at f o v y p h;split at h
  ·cases h
  rename_i r;have r:Cv q m<=(L:Int):=by simpa using r
  have j:∀k,Cv K k<=Cv q k:=fun k=>by
   by_cases c:k=m
   ·subst c;exact o
   rw[f k c];exact Bp _
  have⟨G,z,M,H⟩:=rK t B a q F (fun x I=>u x (Lj _ I)) (fun k=>by
   have n:=j k;have d:=e k;refine⟨by omega,?_⟩;by_cases c:k=m
   ·subst c;exact r
   rw[f k c];exact d.2) s h
  refine⟨G,fun k=>NG (j k) (z k),fun A=> ?_,fun A=> ?_⟩
  ·grind
  rcases H A with n |n
  ·rcases p n with d |d
   ·exact .inl d
   exact .inr (LF (S7 j (u m (Lo ..)) (e m).1 d) (iI z))
  exact .inr (BM (iI j) n)
def S8 (os:List AA)(W:List (AA × List AJ))(K:List (AA × Int)):Prop:=(∀k,0<=Cv K k/\Cv K k<=(os.length:Int))/\∀m∈os,∀w∈qf_ m [] W,Cv K w.to+w.taken<=Cv K m
theorem rL {os:List AA}{W:List (AA × List AJ)}(d:∀m,(qf_ m [] W).length<=60000/\∀w∈qf_ m [] W,w.taken=0\/w.taken=1)(e:os.length<=1000000000):
  ∀(c:Nat) (K:List (AA × Int)),(∀k,0<=Cv K k/\Cv K k<=(os.length:Int))->os.length*os.length-GC os K<c->∃r,Mj W (os.length:Int) os c K=some r/\∀a,r=some a->S8 os W a
 |0,_,_,h=>absurd h (LN _)
 |c+1,K,j,u=>by
  unfold Mj;cases n:PX W (os.length:Int) os (K,false) with
  |none=>simp
  |some s=>
   have⟨b,v,o,p⟩:=rK (os:=os) d e os K false (fun _ h=>h) j s n;dsimp only;cases f:s.2 with
   |false=>
    have⟨_,q,t⟩:=o f;rw[if_neg (by decide)];refine⟨_,rfl,fun a h=> ?_⟩;cases h;exact⟨b,by rw[q];exact t⟩
   |true=>
    rw[if_pos rfl];rcases p f with h |h
    ·cases h
    have:=lD_ (os:=os) (fun k=>(b k).2);exact rL d e c s.1 b (by omega)
theorem iJ {m:AA}{rk':AA->Int}(b:∀k,rk' k<=1000000000):∀(a:List AJ) (s:List (AA × Int) × Bool),(∀w∈a,(w.taken=0\/w.taken=1)/\rk' w.to+w.taken<=rk' m)->(∀k,0<=Cv s.1 k/\Cv s.1 k<=rk' k)->∀k,0<=Cv (vx_ m a s).1 k/\Cv (vx_ m a s).1 k<=rk' k
 |[],_,_,h=>h
 |w::a,s,c,h=>by
  have⟨j,n⟩:=c w (Lo ..);have d:=fun x f=>c x (Lj _ f);have o:0<=qf_ w.to 0 s.1/\qf_ w.to 0 s.1<=rk' w.to:=h w.to;have p:=b w.to;have e:i64.wrap (qf_ w.to 0 s.1+w.taken)=qf_ w.to 0 s.1+w.taken:=IntWalk.i64_in _ (by omega);unfold vx_;rw[e];split
  ·refine iJ b a _ d fun k=> ?_
   have q:Cv (mset m (qf_ w.to 0 s.1+w.taken) s.1) k=if k=m then qf_ w.to 0 s.1+w.taken else qf_ k 0 s.1:=iG
   grind
  exact iJ b a s d h
theorem rM {W:List (AA × List AJ)}{L:Nat}{rk':AA->Int}(e:L<=1000000000)(c:∀k,rk' k<=(L:Int)):∀(a:List AA) (s:List (AA × Int) × Bool),(∀m∈a,∀w∈qf_ m [] W,(w.taken=0\/w.taken=1)/\rk' w.to+w.taken<=rk' m)->(∀k,0<=Cv s.1 k/\Cv s.1 k<=rk' k)->∃b,PX W (L:Int) a s=some b/\∀k,0<=Cv b.1 k/\Cv b.1 k<=rk' k
 |[],s,_,h=>⟨s,rfl,h⟩
 |m::a,s,d,h=>by
  have f:=iJ (m:=m) (rk':=rk') (fun k=>by have:=c k;omega) (qf_ m [] W) s (d m (Lo ..)) h;unfold PX;rw[if_neg (by grind)];exact rM e c a _ (fun x j=>d x (Lj _ j)) f
theorem iK {W:List (AA × List AJ)}{os:List AA}{rk':AA->Int}(a:os.length<=1000000000)(b:∀k,rk' k<=(os.length:Int))(d:∀m∈os,∀w∈qf_ m [] W,(w.taken=0\/w.taken=1)/\rk' w.to+w.taken<=rk' m):∀(c:Nat) (K:List (AA × Int)) (r:Option (List (AA × Int))),(∀k,0<=Cv K k/\Cv K k<=rk' k)->Mj W (os.length:Int) os c K=some r->∃e,r=some e/\∀k,Cv e k<=rk' k
 |0,_,_,_,h=>by cases h
 |c+1,K,r,f,h=>by
  have⟨s,j,n⟩:=rM a b os (K,false) d f;unfold Mj at h;rw[j] at h;dsimp only at h;split at h
  ·exact iK a b d c s.1 r n h
  grind
def DY (l:List AG):List AA:=l.flatMap fun t=>t.rels.map fun g=>⟨t.name,g.name⟩
def Pb (l:List AG):List (AA × AW):=l.flatMap fun t=>t.rels.map fun g=>(⟨t.name,g.name⟩,g)
section
variable {K V:Type}[BEq K][LawfulBEq K]
omit [LawfulBEq K] in
theorem iL {k:K}{v:V}:∀ {m:List (K × V)},Av k m=false->mset k v m=m++[(k,v)]
 |[],_=>rfl
 |p::r,h=>by
  have a:(k==p.1)=false:=by
   cases b:(k==p.1) with |false=>rfl |true=>simp[Av,mget,b] at h
  have c:Av k r=false:=by simpa [Av,mget,a] using h
  rw[mset,if_neg (by rw[a];decide),iL c];rfl
theorem Mk {k:K}:∀ {m:List (K × V)},Av k m=true↔k∈m.map (·.1)
 |[]=>by simp[Av,mget]
 |p::r=>by
  have a:=Mk (k:=k) (m:=r);unfold Av at a⊢;simp only[mget,Li,Lr];grind
theorem rO {k:K}{v:V}:∀ {m:List (K × V)},(m.map (·.1)).Nodup->(k,v)∈m->mget k m=some v
 |[],_,h=>by cases h
 |p::r,a,h=>by
  rw[Li,Na] at a;simp only[mget];rcases Lr.1 h with rfl |h
  ·rw[if_pos (beq_self_eq_true _)]
  rw[if_neg,rO a.2 h];grind
omit [LawfulBEq K] in
theorem rP {k:K}{v:V}{p:K × V}:∀ {m:List (K × V)},p∈mset k v m->p=(k,v)\/p∈m
 |[],h=>.inl (Lt.1 h)
 |q::r,h=>by
  rw[mset] at h;split at h
  ·grind
  rcases Lr.1 h with h |h
  ·grind
  rcases rP h with h |h
  ·exact .inl h
  exact .inr (Lj _ h)
end
theorem rQ {a:ByteArray}:∀(l:List AW) (R:List (AA × AW)),(R.map (·.1)).Nodup->(IL a l R).2=false->(IL a l R).1=R++l.map (fun g=>(⟨a,g.name⟩,g))/\((IL a l R).1.map (·.1)).Nodup
 |[],R,c,_=>⟨by simp[IL],c⟩
 |g::r,R,c,h=>by
  unfold IL at h⊢;cases b:Av (⟨a,g.name⟩:AA) R with
  |true=>rw[b,if_pos rfl] at h;cases h
  |false=>
   rw[b,if_neg (by decide)] at h;rw[if_neg (by decide)];rw[iL b] at h⊢;have⟨f,j⟩:=rQ r (R++[(⟨a,g.name⟩,g)]) (by
    rw[Nc,BP];refine⟨c,by simp,fun x d y e=> ?_⟩;simp only[Li,Lw,Lt] at e;rintro rfl;rw[e] at d;rw[<-Mk (V:=AW),b] at d;cases d) h
   exact⟨by rw[f];simp,j⟩
theorem aj {k m:ByteArray}{v:Int}{T:List (ByteArray × Int)}:qf_ k 0 (mset m v T)=if k=m then v else qf_ k 0 T:=by
 have:mget k (mset m v T)=if k=m then some v else mget k T:=by
  induction T with
  |nil=>simp only[mset,mget,beq_iff_eq]
  |cons p r a=>
   simp only[mset];by_cases h:m==p.1
   ·rw[if_pos h];obtain rfl:=eq_of_beq h;simp only[mget,beq_iff_eq];split<;>rfl
   rw[if_neg h];simp only[mget,a,beq_iff_eq];grind
 unfold qf_;rw[this];split<;>rfl
theorem iM:∀(l:List AG) (T:List (ByteArray × Int)) (R:List (AA × AW)),(R.map (·.1)).Nodup->(jf_ l T R).2.2=0->(jf_ l T R).2.1=R++Pb l/\((jf_ l T R).2.1.map (·.1)).Nodup/\(l.map (·.name)).Nodup/\∀t∈l,¬0<qf_ t.name 0 T
 |[],T,R,d,_=>⟨by simp[jf_,Pb],d,by simp,fun _ h=>nomatch h⟩
 |t::l,T,R,d,h=>by
  unfold jf_ at h⊢;by_cases f:0<qf_ t.name 0 T
  ·grind
  rw[decide_eq_false f,if_neg (by decide)] at h⊢;dsimp only at h⊢;have j:=rQ (a:=t.name) t.rels R d;generalize IL t.name t.rels R=p at j h;have⟨k,b⟩:=p;cases b with
  |true=>rw[if_pos rfl] at h;cases h
  |false=>
   rw[if_neg (show ¬(k,false).2=true from fun h=>by cases h)] at h⊢;have⟨n,o⟩:=j rfl;dsimp only at n o h⊢;have⟨q,r,s,v⟩:=iM l (mset t.name 1 T) k o h;refine⟨by rw[q,n];simp[Pb],r,?_,fun u c=> ?_⟩
   ·rw[Li,Na];refine⟨fun w=> ?_,s⟩;have⟨u,c,e⟩:=LO.1 w
    have:=v u c;rw[aj,if_pos e] at this;exact this (by decide)
   rcases Lr.1 c with rfl |c
   ·exact f
   grind [aj,absurd]
theorem iN (a:ByteArray):∀(l:List AG) (T:List (ByteArray × Int)) (R:List (AA × AW)),(jf_ l T R).2.2=0->(qf_ a 0 (jf_ l T R).1≠0↔qf_ a 0 T≠0\/a∈l.map (·.name))
 |[],T,R,_=>by simp[jf_]
 |t::l,T,R,h=>by
  unfold jf_ at h⊢;by_cases d:0<qf_ t.name 0 T
  ·grind
  rw[decide_eq_false d,if_neg (by decide)] at h⊢;dsimp only at h⊢;generalize IL t.name t.rels R=p at h;have⟨c,b⟩:=p;cases b with
  |true=>rw[if_pos rfl] at h;cases h
  |false=>
   rw[if_neg (show ¬(c,false).2=true from fun h=>by cases h)] at h⊢;rw[iN a l _ c h,aj,Li,Lr];grind
theorem rR {n:Nat}{S:AC}{a:ByteArray}(c:GZ S)(d:1000<n):∀(l:List AW) (b:List AA),(∀g∈l,EV g)->b.length+l.length<=1000000000->∃r,PY n S a l b=some r/\∀os,r= .inl os->os=b++l.map (fun g=>⟨a,g.name⟩)/\∀g∈l,IM S a g
 |[],b,_,_=>⟨_,rfl,fun os h=>by grind⟩
 |g::l,b,f,j=>by
  simp only[Lh] at j;have⟨e,k,p⟩:=rh_ (a:=a) c (f g (Lo ..)) d;unfold PY;rw[ifp,k,Zo];split
  ·rename_i q;have⟨r,s,t⟩:=rR (a:=a) c d l (b++[⟨a,g.name⟩]) (fun x o=>f x (Lj _ o)) (by grind);grind
  simp
theorem iO {n:Nat}{S:AC}(c:GZ S)(d:1000<n):∀(l:List AG) (b:List AA),(∀t∈l,t.rels.length<=200/\∀g∈t.rels,EV g)->b.length+200*l.length<=1000000000->∃r,PZ n S l b=some r/\∀os,r= .inl os->os=b++DY l/\∀t∈l,∀g∈t.rels,IM S t.name g
 |[],b,_,_=>⟨_,rfl,fun os h=>by cases h;exact⟨by simp[DY],fun _ h=>nomatch h⟩⟩
 |t::l,b,f,o=>by
  simp only[Lh] at o;have⟨z,p⟩:=f t (Lo ..);have⟨r,q,s⟩:=rR (a:=t.name) c d t.rels b p (by omega);unfold PZ;rw[q,Zo];cases r with
  |inr e=>simp
  |inl j=>
   have⟨u,A⟩:=s j rfl;have⟨r,v,w⟩:=iO c d l j (fun x k=>f x (Lj _ k)) (by grind);refine⟨r,v,fun os h=> ?_⟩;have⟨y,B⟩:=w os h;refine⟨by rw[y,u];simp[DY],fun x k=> ?_⟩;grind
theorem iP {α:Type}:∀(f:Nat) (a:List α) (i j:Nat),(i<j->j<a.length)->j-i<f->∃b,G2 f a i j=some b/\b.Perm a
 |0,_,_,_,_,h=>absurd h (LN _)
 |f+1,a,i,j,d,o=>by
  unfold G2;split
  ·rename_i e;have c:=d e;rw[Le c,Le (show i<a.length by omega),Zo,Zo];have⟨b,k,n⟩:=iP f ((a.set i a[j]).set j a[i]) (i+1) (j-1) (fun _=>by grind) (by omega);exact⟨b,k,n.trans (List.set_set_perm (by omega) c)⟩
  exact⟨a,rfl,.refl _⟩
theorem iQ {n:Nat}{S:AC}:∀(os:List AA) (W:List (AA × List AJ)),(∀m∈os,Qv n S m=some (Er S m))->∃a,S6 n S os W=some a/\(∀k,mget k a=if k∈os then some (Er S k) else mget k W)/\∀p∈a,p∈W\/p.2=Er S p.1
 |[],W,_=>⟨W,rfl,fun k=>by simp,fun p h=>.inl h⟩
 |m::os,W,h=>by
  unfold S6;rw[h m (Lo ..),Zo];have⟨a,b,c,d⟩:=iQ os (mset m (Er S m) W) fun x e=>h x (Lj _ e);refine⟨a,b,fun k=> ?_,fun p f=> ?_⟩
  ·rw[c k];by_cases j:k∈os
   ·grind
   rw[if_neg j];have q:mget k (mset m (Er S m) W)=if k=m then some (Er S m) else mget k W:=by
    clear c d b;induction W with
    |nil=>simp only[mset,mget,beq_iff_eq]
    |cons p r o=>
     simp only[mset];by_cases h:m==p.1
     ·rw[if_pos h];obtain rfl:=eq_of_beq h;simp only[mget,beq_iff_eq];split<;>rfl
     rw[if_neg h];simp only[mget,o,beq_iff_eq];grind
   grind
  rcases d p f with h |h
  ·rcases rP h with rfl |h
   ·exact .inr rfl
   exact .inl h
  exact .inr h
structure HS (l:List AG) (S:AC):Prop where
 rels:S.rels=Pb l
 keys:(S.rels.map (·.1)).Nodup
 tys:(l.map (·.name)).Nodup
 typ:∀a,qf_ a 0 S.types≠0↔a∈l.map (·.name)
structure EC (l:List AG) (S:AC):Prop extends HS l S where
 nms:∀t∈l,∀g∈t.rels,IM S t.name g
 rk0:∀k,0<=Cv S.ranks k
 rk:∀m∈DY l,∀w∈Er S m,Cv S.ranks w.to+w.taken<=Cv S.ranks m
 rkT:∀k,Cv S.ranks k<=((DY l).length:Int)
 low:∀rk':AA->Int,(∀k,0<=rk' k/\rk' k<=((DY l).length:Int))->(∀m∈DY l,∀w∈Er S m,rk' w.to+w.taken<=rk' m)->∀k,Cv S.ranks k<=rk' k
theorem rS (h:Ew l):(DY l).length<=40200:=by
 have a:∀l:List AG,(∀t∈l,t.rels.length<=200)->(DY l).length<=200*l.length:=fun l=>by
  induction l with
  |nil=>intro _;exact Lc _
  |cons t r c=>
   grind [List.mem_cons_self,List.mem_cons_of_mem,DY,List.length_append,List.length_map,List.length_cons]
 have d:=a l fun t b=>(h.2 t b).1;have e:=h.1;omega
theorem iR:m∈DY l↔∃t∈l,∃g∈t.rels,m=⟨t.name,g.name⟩:=by
 simp[DY,eq_comm]
theorem iS {p:AA × AW}:p∈Pb l↔∃t∈l,∃g∈t.rels,p=(⟨t.name,g.name⟩,g):=by
 simp[Pb,eq_comm]
theorem Ux (l:List AG):(Pb l).map (·.1)=DY l:=by
 induction l with
 |nil=>rfl
 |cons t r a=>
  simp_all [DY,Pb,Nc,Bj]
theorem Xu {R:List (AA × AW)}(a:R=Pb l)(b:(R.map (·.1)).Nodup){t:AG}{g:AW}(c:t∈l)(d:g∈t.rels):mget (⟨t.name,g.name⟩:AA) R=some g:=
 rO b (by rw[a];exact iS.2 ⟨t,c,g,d,rfl⟩)
theorem rj_ (o:Ew l){n:Nat}(hn:2000000000<n):∃r,Pa n l=some r/\∀S,r= .inl S->EC l S:=by
 have b:=rS o;have Z:=o.1;unfold Pa;rw[if_pos ⟨by omega,fun t j=>by have:=(o.2 t j).1;omega⟩];cases J:((jf_ l [] []).2.2==0) with
 |false=>simp
 |true=>
  rw[if_pos rfl];have M:∀a,qf_ a 0 (jf_ l [] []).1≠0↔a∈l.map (·.name):=fun a=>(iN a l [] [] (eq_of_beq J)).trans (by simp[qf_,mget]);have⟨q,z,N,_⟩:=iM l [] [] (by simp) (eq_of_beq J);rw[LA] at q;generalize (jf_ l [] []).1=T at *;generalize (jf_ l [] []).2.1=R at *;have O:GZ ⟨T,R,[]⟩:=fun p f=>by
   have f:p∈R:=f;rw[q] at f;obtain⟨t,j,g,v,rfl⟩:=iS.1 f;exact(o.2 t j).2 g v
  have⟨r,A,B⟩:=iO (n:=n) O (by omega) l [] o.2 (by simp only[Lu];omega);rw[A,Zo];cases r with
  |inr e=>exact⟨_,rfl,fun _ h=>nomatch h⟩
  |inl os=>
   have⟨s,C⟩:=B os rfl;rw[LA] at s;cases os with
   |nil=>
    refine⟨_,rfl,fun S h=> ?_⟩;cases h;exact⟨⟨q,z,N,M⟩,C,fun k=>Bp _,fun m d=>(by rw[<-s] at d;cases d),fun k=>Iu _,fun E h _ k=>(h k).1⟩
   |cons m r=>
    rw[JQ];have⟨c,y1,F⟩:=iP n (m::r) 0 r.length (fun _=>by rw[Lh];omega) (by grind);rw[y1,Zo];have G:∀k,k∈c↔k∈DY l:=fun k=>(by rw[<-s];exact F.mem_iff);have P:c.length<=40200:=(by rw[F.length_eq,s];exact b);have H:∀k∈c,Qv n ⟨T,R,[]⟩ k=some (Er ⟨T,R,[]⟩ k)/\(Er ⟨T,R,[]⟩ k).length<=60000:=fun k b=>by
     obtain⟨t,j,g,v,rfl⟩:=iR.1 ((G k).1 b);have e:qf_ (⟨t.name,g.name⟩:AA) CX R=g:=(by unfold qf_;rw[Xu q z j v];rfl);refine rI O (by omega) ?_;show ∀x∈(qf_ (⟨t.name,g.name⟩:AA) CX R).expr,_;rw[e];exact(C t j g v).2
    have⟨W,w1,y,w3⟩:=iQ (n:=n) (S:=⟨T,R,[]⟩) c [] fun k b=>(H k b).1;have I:∀k∈c,qf_ k [] W=Er ⟨T,R,[]⟩ k:=fun k b=>(by unfold qf_;rw[y,if_pos b];rfl);have Y:∀k,k∉c->qf_ k [] W= []:=fun k b=>(by unfold qf_;rw[y,if_neg b];rfl);have Q:∀k,(qf_ k [] W).length<=60000/\∀w∈qf_ k [] W,w.taken=0\/w.taken=1:=fun k=>by
     by_cases b:k∈c
     ·rw[I k b];exact⟨(H k b).2,ai _ k⟩
     grind
    rw[w1,Zo,if_pos];rotate_left
    ·refine⟨fun k b=>by rw[y,if_pos b];rfl,fun p f=> ?_,by omega⟩;rcases w3 p f with h |h
     ·cases h
     rw[h];unfold Er;by_cases b:p.1∈c
     ·have:=(H p.1 b).2;unfold Er at this;omega
     have hd:qf_ p.1 [] W= []:=Y _ b;have d:Av p.1 W=true:=Mk.2 (LH f);unfold Av at d;rw[y,if_neg b] at d;cases d
    have⟨rr,k1,k2⟩:=rL (os:=c) Q (by omega) n [] (fun k=>⟨Bp _,Iu _⟩) (by
     have:c.length*c.length<=40200*40200:=Bm P P;omega)
    rw[k1,Zo];cases rr with
    |none=>simp
    |some K=>
     refine⟨_,rfl,fun S h=> ?_⟩;cases h;have⟨p1,p2⟩:=k2 K rfl;have U:c.length=(DY l).length:=(by rw[F.length_eq,s]);refine⟨⟨q,z,N,M⟩,C,fun k=>(p1 k).1,fun k b w u=> ?_,fun k=>by rw[<-U];exact(p1 k).2,fun E h1 h2=> ?_⟩
     ·have X:=(G k).2 b;exact p2 k X w (by rw[I k X];exact u)
     have⟨K',A,B⟩:=iK (os:=c) (W:=W) (rk':=E) (by omega) (fun k=>by rw[U];exact(h1 k).2) (fun m d w u=>⟨(Q m).2 w u,by rw[I m d] at u;exact h2 m ((G m).1 d) w u⟩) n [] (some K) (fun k=>⟨Bp _,(h1 k).1⟩) k1;cases A;exact B
def II (p:Nat->Option Bool):Nat->Nat->Nat->Option Nat
 |0,_,_=>none
 |f+1,i,j=>if i<j then(p ((i+j) / 2)).bind fun b=>if b then II p f ((i+j) / 2+1) j else II p f i ((i+j) / 2) else some i
def PR {α:Type}:Nat->List α->Nat->Option (List α)
 |0,a,_=>some a
 |c+1,a,k=>(a[k+1]?).bind fun x=>(a[k]?).bind fun y=>PR c ((a.set k x).set (k+1) y) (k+1)
def PS {α:Type}:Nat->List α->Nat->Option (List α)
 |0,a,_=>some a
 |_+1,_,0=>none
 |c+1,a,k+1=>(a[k]?).bind fun x=>(a[k+1]?).bind fun y=>PS c ((a.set (k+1) x).set k y) k
def symM {α:Type}(e:α->α->Bool):Nat->List α->Nat->Nat->Nat->Option (List α)
 |0,_,_,_,_=>none
 |f+1,d,a,m,b=>if a<m/\m<b/\b<=d.length then (if m-a=1 then(II (fun h=>(d[h]?).bind fun x=>(d[a]?).map fun y=>e x y) (d.length+1) m b).bind fun i=>PR (i-1-a) d a else if b-m=1 then(II (fun h=>(d[m]?).bind fun x=>(d[h]?).map fun y=> !e x y) (d.length+1) a m).bind fun i=>PS (m-i) d m else(II (fun c=>(d[(a+b) / 2+m-1-c]?).bind fun x=>(d[c]?).map fun y=> !e x y) (d.length+1) (if (a+b) / 2<m then(a+b) / 2+m-b else a) (if (a+b) / 2<m then(a+b) / 2 else m)).bind fun s=>(if s<m/\m<(a+b) / 2+m-s then FQ m (d.length+1) d (m-s) ((a+b) / 2+m-s-m) else some d).bind fun j=>(if a<s/\s<(a+b) / 2 then symM e f j a s ((a+b) / 2) else some j).bind fun k=>if (a+b) / 2<(a+b) / 2+m-s/\(a+b) / 2+m-s<b then symM e f k ((a+b) / 2) ((a+b) / 2+m-s) b else some k) else none
theorem gD {p:Nat->Option Bool}:∀ {f i j r:Nat},II p f i j=some r->i<=j->i<=r/\r<=j
 |0,_,_,_,h,_=>by cases h
 |f+1,i,j,r,h,a=>by
  unfold II at h;split at h
  ·have⟨b,_,h⟩:=AL h;split at h
   ·have:=gD h (by omega);omega
   have:=gD h (by omega);omega
  cases h;omega
theorem p8 {α:Type}:∀ {c k:Nat} {a b:List α},PR c a k=some b->b.length=a.length/\∀z∈b,z∈a
 |0,_,_,_,h=>by cases h;exact⟨rfl,fun _ h=>h⟩
 |c+1,k,a,b,h=>by
  unfold PR at h;have⟨x,d,h⟩:=AL h;have⟨y,e,h⟩:=AL h;have⟨f,j⟩:=p8 h;grind
theorem p9 {α:Type}:∀ {c k:Nat} {a b:List α},PS c a k=some b->b.length=a.length/\∀z∈b,z∈a
 |0,_,_,_,h=>by cases h;exact⟨rfl,fun _ h=>h⟩
 |_+1,0,_,_,h=>by cases h
 |c+1,k+1,a,b,h=>by
  unfold PS at h;have⟨x,d,h⟩:=AL h;have⟨y,e,h⟩:=AL h;have⟨f,j⟩:=p9 h;grind
theorem Sx {α:Type}{o:α->α->Bool}:∀ {f a m b:Nat} {c d:List α},symM o f c a m b=some d->d.length=c.length/\∀z∈d,z∈c
 |0,_,_,_,_,_,h=>by cases h
 |f+1,a,m,b,c,d,h=>by
  unfold symM at h;split at h;rotate_left
  ·cases h
  split at h
  ·have⟨i,_,h⟩:=AL h;exact p8 h
  split at h
  ·have⟨i,_,h⟩:=AL h;exact p9 h
  have⟨s,_,h⟩:=AL h;have⟨e,k,h⟩:=AL h;have⟨j,n,h⟩:=AL h;have q:e.length=c.length/\∀z∈e,z∈c:=by
   split at k
   ·exact⟨aU k,fun z p=>aV k p⟩
   grind
  have r:j.length=e.length/\∀z∈j,z∈e:=by
   split at n
   ·exact Sx n
   grind
  have t:d.length=j.length/\∀z∈d,z∈j:=by
   split at h
   ·exact Sx h
   grind
  grind
theorem JL {u v:Nat}(h:u+v<4611686018427387904):i64.wrap (sh (u64.wrap ((u+v:Nat):Int)) 1)=(((u+v) / 2:Nat):Int):=by
 have a:u64.wrap ((u+v:Nat):Int)=((u+v:Nat):Int):=IntWalk.u64_in _ (by omega);have b:sh ((u+v:Nat):Int) 1=(((u+v) / 2:Nat):Int):=by
  unfold sh;show((u+v:Nat):Int).fdiv 2=_;rw[OG _ (by omega)];omega
 rw[a,b];exact JG
section
variable {g:FuncId}{caps:List AV}{S:AB->Prop}{cf:AB->AB->Int}{ids:List Nat}{hp0:Hp}{br:Bool}{i ver L:Nat}
set_option maxRecDepth 4000 in
theorem qB (hc:Ju Tryz.prog g caps (fun r:AB=>.d (.ag (AH r)) br) S cf ids hp0)(hi:i∉ids)(a5:L<4294967296):∀(f:Nat) {F R:List AB} {a m b s:Nat} {G:Hp},(∀j∈ids,G j=hp0 j)->G i=Ca F ver br->(∀x∈F,S x)->F.length=L->symM (G0 cf) f F a m b=some R->
  AU Tryz.prog 146 [.so i ver 0 L,.v (.int .i64 (a:Int)),.v (.int .i64 (m:Int)),.v (.int .i64 (b:Int)),.fn g caps] G s fun v aq M=>v= .tu []/\aq=upd i (Ca R ver br) G/\s<=M:=by
 intro f;induction f with
 |zero=>intro F R a m b s G _ _ _ _ h;cases h
 |succ f ih=>
  intro F R a m b s G hh hx hS hL t;unfold symM at t;split at t;rotate_left
  ·cases t
  rename_i a6;have⟨ba,bd,be⟩:=a6;refine zq Tryz.func146 ?_;refine AT (AT ?_);refine ZT 1 ?_;by_cases h1:m-a=1
  ·rw[if_pos h1] at t;have⟨p,hb,t⟩:=AL t;have c1:(((m-a:Nat):Int)==1)=true:=(by rw[h1];rfl);refine Z1 (Y2 (EA (a:=m) (b:=a) (by omega) (by omega)) c1) ?_;refine ET (c:=true) rfl rfl ?_;refine EE ?_;refine AT (CS ?_);refine DQ (α:={ x:Nat × Nat × Nat × Nat // x.1<=x.2.1/\a<x.1/\x.2.1<=L/\s<=x.2.2.1/\II (fun h=>(F[h]?).bind fun x=>(F[a]?).map fun y=>G0 cf x y) x.2.2.2 x.1 x.2.1=some p })
    (fun x=>⟨upd 0 (.so i ver 0 L) (upd 1 (.v (.int .i64 (a:Int))) (upd 4 (.fn g caps) (upd 10 (.v (.int .i64 (x.1.1:Int))) (upd 11 (.v (.int .i64 (x.1.2.1:Int))) AK)))),G,x.1.2.2.1⟩) (fun x=>x.1.2.2.2) ⟨(m,b,s+4+2+2,F.length+1),by show m<=b;omega,by show a<m;omega,by show b<=L;omega,by show s<=s+4+2+2;omega,hb⟩ ?_ ?_
   ·exact CT
   rintro⟨⟨u,v,Y,A⟩,g0,g1,g2,g3,d⟩;dsimp only at g0 g1 g2 g3 d;obtain⟨A,rfl⟩:∃f',A=f'+1:=by
    cases A with |zero=>cases d |succ f=>exact⟨f,rfl⟩
   unfold II at d;refine AT (AT ?_);refine ZT 1 ?_;by_cases Z:u<v
   ·rw[if_pos Z] at d;have⟨bb,N,d⟩:=AL d;have⟨x,C,N⟩:=AL N;obtain⟨y,H,rfl⟩:=La.1 N;have O:(decide ((u:Int)<(v:Int)))=true:=Cp;refine Fb O ?_;refine CS ?_;refine AT (ZT 1 ?_);refine Z1 (Y2 (FR (a:=u) (b:=v) (by omega)) (JL (u:=u) (v:=v) (by omega))) ?_;obtain⟨w,ew⟩:∃w,w=(u+v) / 2:=⟨_,rfl⟩;have hw:u<=w/\w<v:=(by omega);rw[<-ew] at C d⊢;have lx:=(Lb.1 C).1;have ly:=(Lb.1 H).1;refine AT (ZT 1 ?_);have wf:=Y2 hx (Y4 (Cr AH C) (Cr AH H) (show(w<L)=True from Fu) (show(a<L)=True from Fu));refine Z1 wf ?_;have⟨aa,q1,q2⟩:=hc x y (hS x (Lz C)) (hS y (Lz H)) (Y+3+7+11);refine Pv (δ:=[]) (q2 _ hh) ?_;refine Qk ?_;refine ZT 1 ?_;rcases J:G0 cf x y with _ |_
    ·rw[J,if_neg (by simp)] at d;have B:(decide (cf x y<0))=false:=J;refine Z1 B ?_;exact⟨⟨(u,w,_,A),hw.1,g1,by show w<=L;omega,by show s<=aa+2;omega,d⟩,CT,Ls A⟩
    rw[J,if_pos rfl] at d;have B:(decide (cf x y<0))=true:=J;refine Z1 (Y2 B (Al (n:=w))) ?_;exact⟨⟨(w+1,v,_,A),by show w+1<=v;omega,by show a<w+1;omega,g2,by show s<=aa+3;omega,d⟩,CT,Ls A⟩
   rw[if_neg Z] at d;have d:=LM d;subst d;have O:(decide ((u:Int)<(v:Int)))=false:=C6;refine Fb O ?_;refine EZ ?_;refine CS ?_;refine DQ (α:={ x:Nat × List AB × Nat // x.1<=u-1/\s<=x.2.2/\x.2.1.length=L/\PR (u-1-x.1) x.2.1 x.1=some R })
    (fun x=>⟨upd 0 (.so i ver 0 L) (upd 10 (.v (.int .i64 (u:Int))) (upd 13 (.v (.int .i64 (x.1.1:Int))) AK)),upd i (Ca x.1.2.1 ver br) G,x.1.2.2⟩) (fun x=>u-1-x.1.1) ⟨(a,F,Y+3+2),by show a<=u-1;omega,by show s<=Y+3+2;omega,hL,t⟩ ?_ ?_
   ·rw[Fv hx];exact CT
   rintro⟨⟨k,Q,M⟩,t1,t2,t3,E⟩;dsimp only at t1 t2 t3 E;have c3:i64.wrap ((u:Int)-1)=((u-1:Nat):Int):=EA (a:=u) (b:=1) (by omega) (by omega);refine AT (AT ?_);refine ZT 1 ?_;by_cases hk:k<u-1
   ·have B:(decide ((k:Int)<((u-1:Nat):Int)))=true:=Cp;obtain⟨q,hq⟩:∃q,u-1-k=q+1:=⟨u-1-k-1,by omega⟩;rw[hq] at E;unfold PR at E;have⟨x,C,E⟩:=AL E;have⟨y,H,E⟩:=AL E;have lx:=(Lb.1 C).1;refine Z1 (Y2 c3 B) ?_;refine AP ?_;refine AT (CS ?_);refine ZT 1 ?_;have e3:((Q.map AH).set k (AH x))[k+1]? =some (AH x):=by
     rw[Ou (by omega)];exact Cr AH C
    refine Z1 (Y6 (Al (n:=k)) (Cr AH C) (Cr AH H) e3 (show(k+1<L)=True from Fu) (show(k<L)=True from Fu)) ?_;refine DF (by rfl) ?_;refine Z0 ?_;refine ZT 1 ?_;refine Z1 (Al (n:=k)) ?_;refine⟨⟨(k+1,(Q.set k x).set (k+1) y,_),by show k+1<=u-1;omega,?_,by simpa using t3,by grind⟩,Gd ?_ DS,by show u-1-(k+1)<u-1-k;omega⟩
    ·grind
    rw[Em,Em];show upd i (some (.rw (((Q.set k x).set (k+1) y).map AH) 3 ver br false)) G=_;rw[NK,NK]
   have B:(decide ((k:Int)<((u-1:Nat):Int)))=false:=C6;rw[show u-1-k=0 by omega] at E;cases E;refine Z1 (Y2 c3 B) ?_;refine AP ?_;refine AP ?_;exact⟨_,_,rfl,⟨fun _=>.inr rfl⟩,rfl,rfl,by show s<=M+4;omega⟩
  rw[if_neg h1] at t;have c1:(((m-a:Nat):Int)==1)=false:=by simp;omega
  refine Z1 (Y2 (EA (a:=m) (b:=a) (by omega) (by omega)) c1) ?_;refine DN (c:=false) rfl rfl ?_;refine AP ?_;refine AT (AT ?_);refine ZT 1 ?_;by_cases h2:b-m=1
  ·rw[if_pos h2] at t;have⟨p,hb,t⟩:=AL t;have c1:(((b-m:Nat):Int)==1)=true:=(by rw[h2];rfl);refine Z1 (Y2 (EA (a:=b) (b:=m) (by omega) (by omega)) c1) ?_;refine ET (c:=true) rfl rfl ?_;refine EE ?_;refine AT (CS ?_);refine DQ (α:={ x:Nat × Nat × Nat × Nat // x.1<=x.2.1/\x.2.1<=m/\s<=x.2.2.1/\II (fun h=>(F[m]?).bind fun x=>(F[h]?).map fun y=> !G0 cf x y) x.2.2.2 x.1 x.2.1=some p })
    (fun x=>⟨upd 0 (.so i ver 0 L) (upd 2 (.v (.int .i64 (m:Int))) (upd 4 (.fn g caps) (upd 14 (.v (.int .i64 (x.1.1:Int))) (upd 15 (.v (.int .i64 (x.1.2.1:Int))) AK)))),G,x.1.2.2.1⟩) (fun x=>x.1.2.2.2) ⟨(a,m,s+4+4+2+2,F.length+1),by show a<=m;omega,Lc m,by show s<=s+4+4+2+2;omega,hb⟩ ?_ ?_
   ·exact CT
   rintro⟨⟨u,v,Y,A⟩,g0,g2,g3,d⟩;dsimp only at g0 g2 g3 d;obtain⟨A,rfl⟩:∃f',A=f'+1:=by
    cases A with |zero=>cases d |succ f=>exact⟨f,rfl⟩
   unfold II at d;refine AT (AT ?_);refine ZT 1 ?_;by_cases Z:u<v
   ·rw[if_pos Z] at d;have⟨bb,N,d⟩:=AL d;have⟨x,C,N⟩:=AL N;obtain⟨y,H,rfl⟩:=La.1 N;have O:(decide ((u:Int)<(v:Int)))=true:=Cp;refine Fb O ?_;refine CS ?_;refine AT (ZT 1 ?_);refine Z1 (Y2 (FR (a:=u) (b:=v) (by omega)) (JL (u:=u) (v:=v) (by omega))) ?_;obtain⟨w,ew⟩:∃w,w=(u+v) / 2:=⟨_,rfl⟩;have hw:u<=w/\w<v:=(by omega);rw[<-ew] at H d⊢;have lx:=(Lb.1 C).1;have ly:=(Lb.1 H).1;refine AT (ZT 1 ?_);have wf:=Y2 hx (Y4 (Cr AH C) (Cr AH H) (show(w<L)=True from Fu) (show(m<L)=True from Fu));refine Z1 wf ?_;have⟨aa,q1,q2⟩:=hc x y (hS x (Lz C)) (hS y (Lz H)) (Y+3+7+12);refine Pv (δ:=[]) (q2 _ hh) ?_;refine Qk ?_;refine ZT 1 ?_;rcases J:G0 cf x y with _ |_
    ·rw[J,if_pos (by rfl)] at d;have B:(decide (cf x y<0))=false:=J;refine Z1 (Y2 B (Al (n:=w))) ?_;exact⟨⟨(w+1,v,_,A),by show w+1<=v;omega,g2,by show s<=aa+3;omega,d⟩,CT,Ls A⟩
    rw[J,if_neg (by simp)] at d;have B:(decide (cf x y<0))=true:=J;refine Z1 B ?_;exact⟨⟨(u,w,_,A),hw.1,by show w<=m;omega,by show s<=aa+2;omega,d⟩,CT,Ls A⟩
   rw[if_neg Z] at d;have d:=LM d;subst d;have O:(decide ((u:Int)<(v:Int)))=false:=C6;refine Fb O ?_;refine EZ ?_;refine CS ?_;refine DQ (α:={ x:Nat × List AB × Nat // u<=x.1/\x.1<=m/\s<=x.2.2/\x.2.1.length=L/\PS (x.1-u) x.2.1 x.1=some R })
    (fun x=>⟨upd 0 (.so i ver 0 L) (upd 14 (.v (.int .i64 (u:Int))) (upd 17 (.v (.int .i64 (x.1.1:Int))) AK)),upd i (Ca x.1.2.1 ver br) G,x.1.2.2⟩) (fun x=>x.1.1-u) ⟨(m,F,Y+3+2),by show u<=m;omega,Lc m,by show s<=Y+3+2;omega,hL,t⟩ ?_ ?_
   ·rw[Fv hx];exact CT
   rintro⟨⟨k,Q,M⟩,t0,t1,t2,t3,E⟩;dsimp only at t0 t1 t2 t3 E;refine AT (AT ?_);refine ZT 1 ?_;by_cases hk:u<k
   ·obtain⟨k,rfl⟩:∃k',k=k'+1:=⟨k-1,by omega⟩;have B:(decide (((k+1:Nat):Int) > (u:Int)))=true:=Cp;have I:(decide ((u:Int)<((k+1:Nat):Int)))=true:=Cp;obtain⟨q,hq⟩:∃q,k+1-u=q+1:=⟨k-u,by omega⟩;rw[hq] at E;unfold PS at E;have⟨x,C,E⟩:=AL E;have⟨y,H,E⟩:=AL E;have lx:=(Lb.1 H).1;refine Z1 (Y2 B I) ?_;refine AP ?_;refine AT (CS ?_);refine ZT 1 ?_;have e3:((Q.map AH).set (k+1) (AH x))[k]? =some (AH x):=by
     rw[Ou (by omega)];exact Cr AH C
    refine Z1 (Y6 (GV (n:=k) (by omega)) (Cr AH C) (Cr AH H) e3 (show(k+1<L)=True from Fu) (show(k<L)=True from Fu)) ?_;refine DF (by rfl) ?_;refine Z0 ?_;refine ZT 1 ?_;refine Z1 (GV (n:=k) (by omega)) ?_;refine⟨⟨(k,(Q.set (k+1) x).set k y,_),by show u<=k;omega,by show k<=m;omega,?_,by simpa using t3,by rw[show k-u=q by omega];exact E⟩,Gd ?_ DS,by show k-u<k+1-u;omega⟩
    ·grind
    rw[Em,Em];show upd i (some (.rw (((Q.set (k+1) x).set k y).map AH) 3 ver br false)) G=_;rw[NK,NK]
   have B:(decide ((k:Int) > (u:Int)))=false:=C6;have I:(decide ((u:Int)<(k:Int)))=false:=C6;rw[show k-u=0 by omega] at E;cases E;refine Z1 (Y2 B I) ?_;refine AP ?_;refine AP ?_;exact⟨_,_,rfl,⟨fun _=>.inr rfl⟩,rfl,rfl,by show s<=M+3;omega⟩
  rw[if_neg h2] at t;have c1:(((b-m:Nat):Int)==1)=false:=by simp;omega
  refine Z1 (Y2 (EA (a:=b) (b:=m) (by omega) (by omega)) c1) ?_;refine DN (c:=false) rfl rfl ?_;refine AP ?_;obtain⟨o,av⟩:∃o,o=(a+b) / 2:=⟨_,rfl⟩;rw[<-av] at t;have bg:a<=o/\o<b:=by omega
  obtain⟨T,ag⟩:∃T,T=(if o<m then o+m-b else a):=⟨_,rfl⟩;obtain⟨U,ak⟩:∃U,U=(if o<m then o else m):=⟨_,rfl⟩;rw[<-ag,<-ak] at t;have⟨st,hb,t⟩:=AL t;have a7:i64.wrap (sh (u64.wrap ((a+b:Nat):Int)) 1)=(o:Int):=by
   rw[JL (by omega),av]
  have aE:T<=U/\a<=T/\U<=o/\U<=m/\o+m-T<=b:=by
   rw[ag,ak];split<;>omega
  have bl:=gD hb aE.1;refine AT (ZT 1 ?_);refine Z1 (Y2 (FR (a:=a) (b:=b) (by omega)) a7) ?_;refine AT (ZT 1 ?_);refine Z1 (FR (a:=o) (b:=m) (by omega)) ?_;refine Ay ?_;refine AT (D3 (α:={ k:Nat // s<=k }) (fun y=>⟨upd 0 (.so i ver 0 L) (upd 1 (.v (.int .i64 (a:Int))) (upd 2 (.v (.int .i64 (m:Int))) (upd 3 (.v (.int .i64 (b:Int))) (upd 4 (.fn g caps) (upd 18 (.v (.int .i64 (o:Int))) (upd 19 (.v (.int .i64 ((o+m:Nat):Int))) (upd 20 (.v (.int .i64 (T:Int))) (upd 21 (.v (.int .i64 (U:Int))) AK)))))))),G,y.1⟩) ?_ ?_)
  ·refine AT (ZT 1 ?_);by_cases a0:o<m
   ·have c3:(decide ((m:Int) > (o:Int)))=true:=Cp;have B:(decide ((o:Int)<(m:Int)))=true:=Cp;rw[if_pos a0] at ag ak;refine Z1 (Y2 c3 B) ?_;refine ET (c:=true) rfl rfl ?_;refine ZT 1 ?_;refine Z1 (EA (a:=o+m) (b:=b) (by omega) (by omega)) ?_;rw[<-ag,ak];exact⟨⟨s+4+4+7+4+2+3+4+2,by omega⟩,CT ⟩
   have c3:(decide ((m:Int) > (o:Int)))=false:=C6;have B:(decide ((o:Int)<(m:Int)))=false:=C6;rw[if_neg a0] at ag ak;refine Z1 (Y2 c3 B) ?_;refine DN (c:=false) rfl rfl ?_;refine AP ?_;rw[ag,ak];exact⟨⟨s+4+4+7+4+2+3+2+2,by omega⟩,CT ⟩
  rintro⟨a1,hj⟩;refine AT (ZT 1 ?_);have c0:i64.wrap (((o+m:Nat):Int)-1)=((o+m-1:Nat):Int):=EA (a:=o+m) (b:=1) (by omega) (by omega);refine Z1 c0 ?_;refine AT (CS ?_);refine DQ (α:={ x:Nat × Nat × Nat × Nat // x.1<=x.2.1/\T<=x.1/\x.2.1<=U/\s<=x.2.2.1/\II (fun c=>(F[o+m-1-c]?).bind fun x=>(F[c]?).map fun y=> !G0 cf x y) x.2.2.2 x.1 x.2.1=some st })
   (fun x=>⟨upd 0 (.so i ver 0 L) (upd 1 (.v (.int .i64 (a:Int))) (upd 2 (.v (.int .i64 (m:Int))) (upd 3 (.v (.int .i64 (b:Int))) (upd 4 (.fn g caps) (upd 18 (.v (.int .i64 (o:Int))) (upd 19 (.v (.int .i64 ((o+m:Nat):Int))) (upd 20 (.v (.int .i64 (x.1.1:Int))) (upd 21 (.v (.int .i64 (x.1.2.1:Int))) (upd 22 (.v (.int .i64 ((o+m-1:Nat):Int))) AK))))))))),G,x.1.2.2.1⟩) (fun x=>x.1.2.2.2) ⟨(T,U,a1+3,F.length+1),aE.1,Lc T,Lc U,by show s<=a1+3;omega,hb⟩ ?_ ?_
  ·exact CT
  rintro⟨⟨u,v,Y,A⟩,g0,g1,g2,g3,d⟩;dsimp only at g0 g1 g2 g3 d;obtain⟨A,rfl⟩:∃f',A=f'+1:=by
   cases A with |zero=>cases d |succ f=>exact⟨f,rfl⟩
  unfold II at d;refine AT (AT ?_);refine ZT 1 ?_;by_cases Z:u<v
  ·rw[if_pos Z] at d;have⟨bb,N,d⟩:=AL d;have⟨x,C,N⟩:=AL N;obtain⟨y,H,rfl⟩:=La.1 N;have O:(decide ((u:Int)<(v:Int)))=true:=Cp;refine Fb O ?_;refine CS ?_;refine AT (ZT 1 ?_);refine Z1 (Y2 (FR (a:=u) (b:=v) (by omega)) (JL (u:=u) (v:=v) (by omega))) ?_;obtain⟨w,ew⟩:∃w,w=(u+v) / 2:=⟨_,rfl⟩;have hw:u<=w/\w<v:=(by omega);rw[<-ew] at C H d⊢;have lx:=(Lb.1 C).1;have ly:=(Lb.1 H).1;refine AT (ZT 1 ?_);have wf:=Y2 (EA (a:=o+m-1) (b:=w) (by omega) (by omega)) (Y5 hx (Cr AH C) (Cr AH H) (show(o+m-1-w<L)=True from Fu) (show(w<L)=True from Fu));refine Z1 wf ?_;have⟨aa,q1,q2⟩:=hc x y (hS x (Lz C)) (hS y (Lz H)) (Y+3+7+14);refine Pv (δ:=[]) (q2 _ hh) ?_;refine Qk ?_;refine ZT 1 ?_;rcases J:G0 cf x y with _ |_
   ·rw[J,if_pos (by rfl)] at d;have B:(decide (cf x y<0))=false:=J;refine Z1 (Y2 B (Al (n:=w))) ?_;exact⟨⟨(w+1,v,_,A),by show w+1<=v;omega,by show T<=w+1;omega,g2,by show s<=aa+3;omega,d⟩,CT,Ls A⟩
   rw[J,if_neg (by simp)] at d;have B:(decide (cf x y<0))=true:=J;refine Z1 B ?_;exact⟨⟨(u,w,_,A),hw.1,g1,by show w<=U;omega,by show s<=aa+2;omega,d⟩,CT,Ls A⟩
  rw[if_neg Z] at d;have d:=LM d;subst d;have O:(decide ((u:Int)<(v:Int)))=false:=C6;refine Fb O ?_;have⟨ab,X,t⟩:=AL t;have⟨ao,ad,t⟩:=AL t;refine AT (ZT 1 ?_);refine Z1 (EA (a:=o+m) (b:=u) (by omega) (by omega)) ?_;obtain⟨e,he⟩:∃e,e=o+m-u:=⟨_,rfl⟩;rw[<-he] at X t⊢;have ar:ab.length=F.length/\∀z∈ab,z∈F:=by
   split at X
   ·exact⟨aU X,fun z hz=>aV X hz⟩
   grind
  have a2:ao.length=ab.length/\∀z∈ao,z∈ab:=by
   split at ad
   ·exact Sx ad
   grind
  have a3:∀Q:List AB,∀j∈ids,upd i (Ca Q ver br) G j=hp0 j:=fun Q j hj=>by
   grind [Ai]
  refine AT (D3 (α:={ k:Nat // s<=k }) (fun y=>⟨upd 0 (.so i ver 0 L) (upd 1 (.v (.int .i64 (a:Int))) (upd 3 (.v (.int .i64 (b:Int))) (upd 4 (.fn g caps) (upd 18 (.v (.int .i64 (o:Int))) (upd 20 (.v (.int .i64 (u:Int))) (upd 24 (.v (.int .i64 (e:Int))) AK)))))),upd i (Ca ab ver br) G,y.1⟩) ?_ ?_)
  ·refine AT (ZT 1 ?_);by_cases k1:u<m
   ·have I:(decide ((u:Int)<(m:Int)))=true:=Cp;by_cases k2:m<e
    ·have P:(decide ((m:Int)<(e:Int)))=true:=Cp;refine Z1 (Y2 I P) ?_;refine AP ?_;rw[if_pos ⟨k1,k2⟩] at X;refine CR ((Sw (cmp:=.fn g caps) hx hL a5 (by omega) (by omega) (by omega) X).mono ?_);rintro v2 aq M ⟨rfl,rfl,ap⟩;dsimp only at ap;refine Z0 ?_;exact⟨⟨M,by omega⟩,CT⟩
    have P:(decide ((m:Int)<(e:Int)))=false:=C6;refine Z1 (Y2 I P) ?_;rw[if_neg (fun h=>k2 h.2)] at X;cases X;refine DN (c:=false) rfl rfl ?_;refine AP ?_;exact⟨⟨_,by omega⟩,Gd (Fv hx) DS⟩
   have I:(decide ((u:Int)<(m:Int)))=false:=C6;refine Z1 I ?_;rw[if_neg (fun h=>k1 h.1)] at X;cases X;refine DN (c:=false) rfl rfl ?_;refine AP ?_;exact⟨⟨_,by omega⟩,Gd (Fv hx) DS⟩
  rintro⟨bo,bs⟩;have a8:upd i (Ca ab ver br) G i=Ca ab ver br:=Ap _ _ _;have a9:upd i (Ca ao ver br) G i=Ca ao ver br:=Ap _ _ _;refine AT (D3 (α:={ k:Nat // s<=k }) (fun y=>⟨upd 0 (.so i ver 0 L) (upd 3 (.v (.int .i64 (b:Int))) (upd 4 (.fn g caps) (upd 18 (.v (.int .i64 (o:Int))) (upd 24 (.v (.int .i64 (e:Int))) AK)))),upd i (Ca ao ver br) G,y.1⟩) ?_ ?_)
  ·refine AT (ZT 1 ?_);by_cases k1:a<u
   ·have I:(decide ((a:Int)<(u:Int)))=true:=Cp;by_cases k2:u<o
    ·have P:(decide ((u:Int)<(o:Int)))=true:=Cp;refine Z1 (Y2 I P) ?_;refine AP ?_;rw[if_pos ⟨k1,k2⟩] at ad;refine CR ((ih (a3 ab) a8 (fun z hz=>hS z (ar.2 z hz)) (ar.1.trans hL) ad).mono ?_);rintro v2 aq M ⟨rfl,rfl,ap⟩;dsimp only at ap;refine Z0 ?_;rw[Em];exact⟨⟨M,by omega⟩,CT⟩
    have P:(decide ((u:Int)<(o:Int)))=false:=C6;refine Z1 (Y2 I P) ?_;rw[if_neg (fun h=>k2 h.2)] at ad;cases ad;refine DN (c:=false) rfl rfl ?_;refine AP ?_;exact⟨⟨_,by omega⟩,CT⟩
   have I:(decide ((a:Int)<(u:Int)))=false:=C6;refine Z1 I ?_;rw[if_neg (fun h=>k1 h.1)] at ad;cases ad;refine DN (c:=false) rfl rfl ?_;refine AP ?_;exact⟨⟨_,by omega⟩,CT⟩
  rintro⟨a4,bx⟩;refine AT (ZT 1 ?_);by_cases k1:o<e
  ·have I:(decide ((o:Int)<(e:Int)))=true:=Cp;by_cases k2:e<b
   ·have P:(decide ((e:Int)<(b:Int)))=true:=Cp;refine Z1 (Y2 I P) ?_;refine AP ?_;rw[if_pos ⟨k1,k2⟩] at t;refine CR ((ih (a3 ao) a9 (fun z hz=>hS z (ar.2 z (a2.2 z hz))) (a2.1.trans (ar.1.trans hL)) t).mono ?_);rintro v2 aq M ⟨rfl,rfl,ap⟩;dsimp only at ap;refine Z0 ?_;rw[Em];exact⟨_,_,rfl,⟨fun _=>.inr rfl⟩,rfl,rfl,by show s<=M;omega⟩
   have P:(decide ((e:Int)<(b:Int)))=false:=C6;refine Z1 (Y2 I P) ?_;rw[if_neg (fun h=>k2 h.2)] at t;cases t;refine DN (c:=false) rfl rfl ?_;refine AP ?_;exact⟨_,_,rfl,⟨fun _=>.inr rfl⟩,rfl,rfl,by show s<=a4+5+3;omega⟩
  have I:(decide ((o:Int)<(e:Int)))=false:=C6;refine Z1 I ?_;rw[if_neg (fun h=>k1 h.1)] at t;cases t;refine DN (c:=false) rfl rfl ?_;refine AP ?_;exact⟨_,_,rfl,⟨fun _=>.inr rfl⟩,rfl,rfl,by show s<=a4+8;omega⟩
end
end Go.Proofs.YtnmkbmefohakmaaGreat.Ab
