/-
 The document's reader of schemas: its place, its error, signs.
-/
import Derived.Test.YtnmkbmefohakmaaGreatSk5
set_option linter.all false
namespace Go.Proofs.YtnmkbmefohakmaaGreat.Ab
open Go.RowKit IntKind
def Ir (n:Nat)(G:AM)(r:AB):Option (Int × List AB):=(bh n G.schema r.obj.type_ r.rel).bind fun k=>(Qu n G r).map fun d=>(k,d)
def Hk (nd:AB->Option (Int × List AB)):Nat->List PN->List AB->Option (List PN)
  |0,_,_=>none
  |_+1,N,[]=>some N
  |f+1,N,r::w=>if (Cp r N).isSome then Hk nd f N w else(nd r).bind fun p=>if w.length+p.2.length<=4294967296/\N.length<4294967296 then Hk nd f (N++[⟨r,p.1,p.2,[],false⟩]) (p.2.reverse++w) else none
structure RS where
  hp:Hp
  nx:Nat
  N:List Nd
  oid:Nat
  over:Nat
  ver:Nat
  es:List AB
  n:Nat
  c:Nat
abbrev ordN (N:List Nd):List AB:=N.map (·.k)
abbrev HI (G:AM)(s1 s2 s3:AV)(m oid over:Nat)(N:List Nd):AO:=.bx [.d (.pt (Aq G) 0) true,s1,s2,s3,.mo m,Aa oid over ((ordN N).map AF)]
structure bt (nd:AB->Option (Int × List AB)) (G:AM) (hp0:Hp) (nx0 q m wid oid0:Nat) (N0:List Nd) (s1 s2 s3:AV) (R:List PN) (x:RS):Prop where
  new:∀j,x.nx<=j->x.hp j=none
  box:x.hp q=some (HI G s1 s2 s3 m x.oid x.over x.N)
  row:x.N≠[]->x.hp x.oid=CD 3 x.over false ((ordN x.N).map AF)
  work:x.hp wid=some (.rw (x.es.map AF) 3 x.ver false false)
  len:x.n<=x.es.length
  nodes:C0 x.hp m x.N
  abo:∀n∈x.N,n.above= []
  small:x.n<=4294967296
  sep:x.N≠[]->x.oid≠wid
  own:x.N≠[]->(N0≠[]/\x.oid=oid0)\/nx0<=x.oid
  keep:∀i,hp0 i≠none->i≠q->i≠m->(N0≠[]->i≠oid0)->x.hp i=hp0 i
  wnew:nx0<=wid
  nxs:nx0<=x.nx
  mod:Hk nd x.c (DW x.N) (x.es.take x.n).reverse=some R
structure Q6 (G:AM) (hp0:Hp) (nx0 q m oid0:Nat) (N0:List Nd) (s1 s2 s3:AV) (R:List PN) (hp:Hp) (nx:Nat):Prop where
  ex:∃N oid over,DW N=R/\C0 hp m N/\(∀n∈N,n.above= [])/\hp q=some (HI G s1 s2 s3 m oid over N)/\(N≠[]->hp oid=CD 3 over false ((ordN N).map AF))/\(N≠[]->(N0≠[]/\oid=oid0)\/nx0<=oid)
  keep:∀i,hp0 i≠none->i≠q->i≠m->(N0≠[]->i≠oid0)->hp i=hp0 i
  new:∀j,nx<=j->hp j=none
  nxs:nx0<=nx
def MQ (q m nx i:Nat):Nat:=if i=q then 1 else if i=m then 2 else if i<nx then 0 else i+3-nx
theorem kx {r:AB}{n:Nd}:∀ {N:List Nd},Fe r N=none->n.k=r->Fe r (N++[n])=some n
  |[],_,h=>by
    subst h;show(if n.k==n.k then some n else none)=some n;rw[if_pos (beq_self_eq_true _)]
  |x::l,h,hk=>by
    unfold Fe at h;split at h
    · cases h
    · rename_i e
      show(if r==x.k then some x else Fe r (l++[n]))=some n;rw[if_neg e];exact kx h hk
def KE (a b c d e i:Nat):Nat:=if i=a then 1 else if i=b then 2 else if i=c then 3 else if i=d then 4 else if i=e then 5 else 0
theorem Kg {n nx:Nat}{fr fr':Fr}{hp:Hp}(h:∀t,fr' t= .un\/fr' t=fr t):A6 n ⟨fr',hp,nx⟩ ⟨fr,hp,nx⟩:=.weak ⟨h,fun _=>.inr rfl,Lc _⟩
def CV (a b c d i:Nat):Nat:=if i=a then 1 else if i=b then 2 else if i=c then 3 else if i=d then 4 else 0
set_option maxRecDepth 4000 in
theorem uk {hp:Hp}{nx q m oid over n c:Nat}{vr:AV}{G:AM}{r0:AB}{s1 s2 s3:AV}{N:List Nd}{R:List PN}(hf:∀j,nx<=j->hp j=none)
    (hq:hp q=some (HI G s1 s2 s3 m oid over N)) (ho:N≠[]->hp oid=CD 3 over false ((ordN N).map AF)) (hN:C0 hp m N) (ha:∀n∈N,n.above= []) (hR:Hk (Ir n G) c (DW N) [r0]=some R) (hv:De vr=some [.v (.string r0.obj.type_),.v (.string r0.obj.id_),.v (.string r0.rel)]):
    AK Tryz.prog 66 [.pt q 0,vr] hp nx fun v hp2 nx2=>v= .tu []/\Q6 G hp nx q m oid N s1 s2 s3 R hp2 nx2:=by
  refine zq Tryz.func66 ?_;have w:=Y2 (E8 hf hq) (Y2 hv hq);refine AW (ZT 1 ?_);refine MP w ?_;refine CN ?_;have hoN:N≠[]->oid<nx:=fun h=>CR hf ((ho h).trans (Gn (by simpa using h)));refine DS (α:={ x:RS // bt (Ir n G) G hp nx q m (nx+1+1) oid N s1 s2 s3 R x }) (fun x=>⟨upd 0 (.pt q 0) (upd 4 (.so (nx+1+1) x.1.ver 0 x.1.n) AQ),x.1.hp,x.1.nx⟩) (fun x=>x.1.c) ⟨⟨upd (nx+1+1) (some (.rw [AF r0] 3 0 false false)) hp,nx+1+3,N,oid,over,0,[r0],1,c⟩,?_⟩ ?_ ?_
  · have e:∀i,i<nx->upd (nx+1+1) (some (AO.rw [AF r0] 3 0 false false)) hp i=hp i:=fun i hi=>AR
    exact{
            new:=fun j hj=>by
              have hj:nx+1+3<=j:=hj;show upd (nx+1+1) _ hp j=none;rw[AR];exact hf j (by omega)
            box:=(e q (CR hf hq)).trans hq
            row:=fun h=>(e oid (hoN h)).trans (ho h)
            work:=Ah ..
            len:=Lc _
            nodes:=hN.upd_new (hf _ (by omega))
            abo:=ha
            small:=by show 1<=4294967296;omega
            sep:=fun h=>by have:=hoN h;show oid≠nx+1+1;omega
            own:=fun h=>.inl ⟨h,rfl⟩
            keep:=fun i hi _ _ _=>e i (by
              rcases Nf i nx with h |h
              · exact h
              · exact absurd (hf i h) hi)
            wnew:=by omega
            nxs:=by show nx<=nx+1+3;omega
            mod:=hR }
  · refine .weak ⟨fun t=> ?_,fun i=> ?_,Lc _⟩
    · show upd 0 _ _ t=AV.un\/_
      by_cases h0:t=0
      · subst h0
        exact .inr rfl
      · by_cases h4:t=4
        · subst h4
          exact .inr rfl
        · refine .inl ?_
          rw[Ad _ _ h0,Ad _ _ h4];rfl
    · show upd (nx+1+1) _ hp i=none\/upd (nx+1+1) _ hp i=upd (nx+1+1) _ (upd nx _ hp) i
      by_cases h1:i=nx+1+1
      · subst h1
        exact .inr (by rw[Ah,Ah])
      · by_cases h2:i=nx
        · subst h2
          exact .inl (by rw[Ad _ _ h1];exact hf i (Lc _))
        · exact .inr (by rw[Ad _ _ h1,Ad _ _ h1,Ad _ _ h2])
  · rintro⟨x,h⟩
    have hm:=h.mod;obtain⟨f,hc⟩:∃f,x.c=f+1:=by
      cases e:x.c with |zero=>rw[e] at hm;cases hm |succ f=>exact⟨f,rfl⟩
    rw[hc] at hm;refine ET ?_;rcases hn:x.n with _ |k
    · have h1:(decide (((0:Nat):Int) > 0))=false:=rfl
      refine HG hn ?_;refine⟨_,x.hp,rfl,⟨fun _=>.inr rfl⟩,rfl,?_⟩;rw[hn] at hm;have hR2:DW x.N=R:=LI hm;exact⟨⟨x.N,x.oid,x.over,hR2,h.nodes,h.abo,h.box,h.row,h.own⟩,h.keep,fun j hj=>h.new j (Lp (by show x.nx<=x.nx+3;omega) hj),by have:=h.nxs;show nx<=x.nx+3;omega⟩
    · have h1:(decide (((k+1:Nat):Int) > 0))=true:=Cb
      have h2:(decide ((0:Int)<((k+1:Nat):Int)))=true:=Cb;refine ZT 1 ?_;refine Z1 (Y3 hn h1 h2) ?_;refine CN ?_;refine AW ?_;have hk:k<x.es.length:=(by have:=h.len;omega);obtain⟨r,hr⟩:∃r,x.es[k]? =some r:=⟨_,Ld hk⟩;have h3:i64.wrap (((k+1:Nat):Int)-1)=(k:Int):=by
        have:=h.small;rw[show(((k+1:Nat):Int)-1)=(k:Int) by omega];exact IntWalk.i64_in _ (by omega)
      have h4:(k<k+1)=True:=eq_true (LF k);have h5:=Cs AF hr;have h6:=h.work;have htk:(x.es.take (k+1)).reverse=r::(x.es.take k).reverse:=by
        rw[Bn,hr];simp
      rw[hn,htk] at hm;refine ZT 1 ?_;refine Z1 (Y5 hn h3 h4 h5 h6) ?_;refine AW (ZT 1 ?_);have h7:(k<=k+1)=True:=eq_true (Bj k);have h8:(nx+1+1=x.nx+3+6)=False:=eq_false (by have:=CR h.new h.work;omega);refine Z1 (Y6 hn h3 h4 h7 h8 h6) ?_;refine AW (AW ?_);refine ZT 1 ?_;have h9:(q=x.nx+3+6)=False:=eq_false (by have:=CR h.new h.box;omega);have h10:(m=x.nx+3+6)=False:=eq_false (by have:=CR h.new h.nodes.map;omega);rcases hfd:Fe r x.N with _ |n0
      · refine Z1 (Y5 h9 h10 h.box h.nodes.map (bp hfd)) ?_
        refine DR (by rfl) ?_;refine GI ?_;refine AW (ZT 1 ?_);refine Z1 (Y5 h9 h10 h.box h.nodes.map (bp hfd)) ?_;simp only[Hk,IZ,hfd,Option.map_none,Option.isSome_none,Nl,if_false] at hm;obtain⟨⟨rk,dp⟩,hnd,hm⟩:=AJ hm;obtain⟨rk',hrk,hnd⟩:=AJ hnd;obtain⟨dp',hdp,hnd⟩:=La.1 hnd;cases hnd;split at hm;rotate_left
        · cases hm
        rename_i hsm;refine Ea (ua hrk) ?_;refine Z1 (Y5 h9 h10 h.box h.nodes.map (bp hfd)) ?_;refine Ea (uZ hdp) ?_;have hput:=uj hfd ⟨⟨r,rk,dp,[],false⟩,x.nx+3+8+6+7+25,0,0⟩ rfl;have h11:(m=x.nx+3+8+6+7+25)=False:=eq_false (by have:=CR h.new h.nodes.map;omega);refine Z1 (Y6 h9 h10 h11 h.box h.nodes.map hput) ?_;have hqm:q≠m:=fun e=>by
          have e1:=h.box;rw[e,h.nodes.map] at e1;cases e1
        have lq:=CR h.new h.box;have lm:=CR h.new h.nodes.map;have g1:MQ q m x.nx q=1:=(by simp[MQ]);have g2:MQ q m x.nx m=2:=(by simp[MQ,Ne.symm hqm]);have g3:MQ q m x.nx (x.nx+3+6)=12:=(by unfold MQ;rw[ifn,ifn,ifn];omega);have g4:MQ q m x.nx (x.nx+3+8+6+7+25)=52:=(by unfold MQ;rw[ifn,ifn,ifn];omega);refine JH (MQ q m x.nx) _ rfl (by simp only[Nc,Nk,LE,LJ,Lk,LD,HH,g1,g2,g3,g4];rfl) (by rfl) ?_;refine Z0 ?_;generalize e6:upd m _ _=hp6;have old6:∀i,i<x.nx->i≠m->hp6 i=x.hp i:=fun i h1 h2=>(by rw[<-e6,Ad _ _ h2,AR,AR,AR]);have m6:hp6 m=some (.mo (FT (x.N++[⟨⟨r,rk,dp,[],false⟩,x.nx+3+8+6+7+25,0,0⟩])) false):=(by rw[<-e6,Ah]);have i6:hp6 (x.nx+3+8+6+7+25)=some (.bx [.v (.int .i64 rk),.d (.sl (dp.map AF)) false,.v (.slice none 0 0),.v (.bool false)]):=(by rw[<-e6,AR,Ah]);have c6:hp6 (x.nx+3+6)=some (.bx [.v (.string r.obj.type_),.v (.string r.obj.id_),.v (.string r.rel)]):=(by rw[<-e6,AR,AR,Ah]);have n6:∀j,x.nx+3+8+6+7+27<=j->hp6 j=none:=fun j hj=>(by rw[<-e6,AR,AR,AR,AR];exact h.new j (by omega));have oN:x.N≠[]->x.oid<x.nx:=fun h0=>CR h.new ((h.row h0).trans (Gn (by simpa using h0)));obtain⟨o',eo,ho',hoB,hoO⟩:∃o',Aa x.oid x.over ((ordN x.N).map AF)=Aa o' x.over ((ordN x.N).map AF)/\hp6 o'=CD 3 x.over false ((ordN x.N).map AF)/\(∀j,j<100->o'≠x.nx+3+8+6+7+27+j)/\(x.N≠[]->o'=x.oid):=by
          rcases hN0:x.N with _ |⟨n1,N1⟩
          · exact⟨x.nx+3+8+6+7+27+1000,rfl,n6 _ (by omega),fun j hj=>by omega,fun h=>absurd rfl h⟩
          · rw[<-hN0]
            have h0:x.N≠[]:=by rw[hN0];exact fun h=>by cases h
            have:=oN h0;refine⟨x.oid,rfl,?_,fun j hj=>by omega,fun _=>rfl⟩;rw[old6 _ this fun e=>by
              have e1:=h.row h0;rw[e,h.nodes.map,Gn (by simpa using h0)] at e1;cases e1]
            exact h.row h0
        have q6:hp6 q=some (.bx [.d (.pt (Aq G) 0) true,s1,s2,s3,.mo m,Aa o' x.over ((ordN x.N).map AF)]):=by
          rw[old6 q lq hqm,h.box,HI,eo]
        refine AW (ZT 1 ?_);obtain⟨A,eA⟩:∃A,A=Cw (x.nx+3+8+6+7+27+7) o' ((ordN x.N).map AF):=⟨_,rfl⟩;have hA:∀(i:Nat) (y:AO),hp6 i=some y->(∀es sz v b f,y≠ .rw es sz v b f)->i≠A:=fun i y hi hy e=>by
          rw[e,eA] at hi;cases hL:(ordN x.N).map AF with
          |nil=>
            rw[hL] at hi
            have:=n6 (x.nx+3+8+6+7+27+7) (by omega);rw[show hp6 (x.nx+3+8+6+7+27+7)=some y from hi] at this;cases this
          |cons c0 l0=>
            rw[hL] at hi ho';rw[show hp6 o'=some y from hi] at ho';cases ho';exact hy _ _ _ _ _ rfl
        have hqA:q≠A:=hA _ _ q6 fun _ _ _ _ _ e=>(by cases e);have hcA:x.nx+3+6≠A:=hA _ _ c6 fun _ _ _ _ _ e=>(by cases e);have hmo:m≠A:=hA _ _ m6 fun _ _ _ _ _ e=>(by cases e);have hiA:x.nx+3+8+6+7+25≠A:=hA _ _ i6 fun _ _ _ _ _ e=>(by cases e);have hsA:x.nx+3+8+6+7+27+6≠A:=by
          rw[eA];cases hL:(ordN x.N).map AF with |nil=>show x.nx+3+8+6+7+27+6≠x.nx+3+8+6+7+27+7;omega |cons _ _=>exact(hoB 6 (by omega)).symm
        have w7:=Y2 (show(q=Cw (x.nx+3+8+6+7+27+7) o' ((ordN x.N).map AF))=False from eq_false (eA▸hqA)) (Y2 (Y6 q6 c6 ho' (show(o'=x.nx+3+8+6+7+27+6)=False from eq_false (hoB 6 (by omega))) (show(q=x.nx+3+8+6+7+27+6)=False from EU) (show(x.nx+3+6=x.nx+3+8+6+7+27+6)=False from EU)) (show(x.N.length+1<=4294967296)=True from eq_true (by have:=hsm.2;simp only[LC] at this;omega)));refine Z1 w7 ?_;rw[<-eA];have g1:CV q A (x.nx+3+6) (x.nx+3+8+6+7+27+6) q=1:=(by simp[CV]);have g2:CV q A (x.nx+3+6) (x.nx+3+8+6+7+27+6) A=2:=(by simp[CV,Ne.symm hqA]);have g3:CV q A (x.nx+3+6) (x.nx+3+8+6+7+27+6) (x.nx+3+6)=3:=(by unfold CV;rw[ifn,if_neg hcA,if_pos rfl]);have g4:CV q A (x.nx+3+6) (x.nx+3+8+6+7+27+6) (x.nx+3+8+6+7+27+6)=4:=(by unfold CV;rw[ifn,if_neg hsA,ifn,if_pos rfl]);refine JH (CV q A (x.nx+3+6) (x.nx+3+8+6+7+27+6)) _ rfl (by simp only[Nc,Nk,LE,LJ,Lk,LD,HH,g1,g2,g3,g4];rfl) (by rfl) ?_;refine Z0 ?_;generalize e7:upd q _ _=hp7;have lw:=CR h.new h.work;have hwA:nx+1+1≠A:=by
          rw[eA];rcases hN0:x.N with _ |⟨n1,N1⟩
          · show _≠x.nx+3+8+6+7+27+7
            omega
          · have h0:x.N≠[]:=by rw[hN0];exact fun h=>by cases h
            show nx+1+1≠o';rw[hoO h0];exact(h.sep h0).symm
        have hwm:nx+1+1≠m:=fun e=>by
          have e1:=h.work;rw[e,h.nodes.map] at e1;cases e1
        have hwq:nx+1+1≠q:=fun e=>by
          have e1:=h.work;rw[e,h.box] at e1;cases e1
        have q7:hp7 q=some (HI G s1 s2 s3 m A (C8 x.over ((ordN x.N).map AF)) (x.N++[⟨⟨r,rk,dp,[],false⟩,x.nx+3+8+6+7+25,0,0⟩])):=by
          rw[<-e7,Ah,HI,JC (by simp)];simp
        have m7:hp7 m=some (.mo (FT (x.N++[⟨⟨r,rk,dp,[],false⟩,x.nx+3+8+6+7+25,0,0⟩])) false):=(by rw[<-e7,Ad _ _ (Ne.symm hqm),Ad _ _ hmo,AR,m6]);have i7:hp7 (x.nx+3+8+6+7+25)=some (.bx [.v (.int .i64 rk),.d (.sl (dp.map AF)) false,.v (.slice none 0 0),.v (.bool false)]):=(by rw[<-e7,AR,Ad _ _ hiA,AR,i6]);have c7:hp7 (x.nx+3+6)=some (.bx [.v (.string r.obj.type_),.v (.string r.obj.id_),.v (.string r.rel)]):=(by rw[<-e7,AR,Ad _ _ hcA,AR,c6]);have w7:hp7 (nx+1+1)=some (.rw (x.es.map AF) 3 x.ver false false):=(by rw[<-e7,Ad _ _ hwq,Ad _ _ hwA,AR,old6 _ lw hwm,h6]);have hfd2:Fe r (x.N++[⟨⟨r,rk,dp,[],false⟩,x.nx+3+8+6+7+25,0,0⟩])=some ⟨⟨r,rk,dp,[],false⟩,x.nx+3+8+6+7+25,0,0⟩:=kx hfd rfl;refine ZT 1 ?_;have hck:ED 3 (dp.map AF)=true:=K4 (f:=AF) (fun _=>rfl) _;refine Z1 (Y2 (Y6 q7 m7 i7 c7 w7 (Kf hfd2)) (Y4 (show(k<=x.es.length)=True from FB) hck (B7 k) (show(k+dp.length<=4294967296)=True from eq_true (by have:=hsm.1;simp only[Bh,Lw] at this;omega)))) ?_;have g1:KE (nx+1+1) q m (x.nx+3+6) (x.nx+3+8+6+7+25) (nx+1+1)=1:=(by simp[KE]);have g2:KE (nx+1+1) q m (x.nx+3+6) (x.nx+3+8+6+7+25) q=2:=(by simp[KE,Ne.symm hwq]);have g3:KE (nx+1+1) q m (x.nx+3+6) (x.nx+3+8+6+7+25) m=3:=(by simp[KE,Ne.symm hwm,Ne.symm hqm]);have g4:KE (nx+1+1) q m (x.nx+3+6) (x.nx+3+8+6+7+25) (x.nx+3+6)=4:=(by unfold KE;rw[ifn,ifn,ifn,if_pos rfl]);have g5:KE (nx+1+1) q m (x.nx+3+6) (x.nx+3+8+6+7+25) (x.nx+3+8+6+7+25)=5:=(by unfold KE;rw[ifn,ifn,ifn,ifn,if_pos rfl]);refine JH (KE (nx+1+1) q m (x.nx+3+6) (x.nx+3+8+6+7+25)) _ rfl (by simp only[Nc,Nk,LE,LJ,Lk,LD,HH,g1,g2,g3,g4,g5];rfl) (by rfl) ?_;refine Z0 ?_;have hnm:∀n∈x.N,hp7 n.id=some (KC n):=fun n hn=>by
          have e1:=h.nodes.box n hn;have l1:=CR h.new e1;have n1:n.id≠m:=fun e=>by
            rw[e,h.nodes.map] at e1;cases e1
          have n2:n.id≠q:=fun e=>by
            rw[e,h.box] at e1;cases e1
          have n3:=hA n.id _ ((old6 _ l1 n1).trans e1) fun _ _ _ _ _ e=>(by cases e);rw[<-e7,Ad _ _ n2,Ad _ _ n3,AR,old6 _ l1 n1,e1]
        refine⟨⟨⟨_,_,x.N++[⟨⟨r,rk,dp,[],false⟩,x.nx+3+8+6+7+25,0,0⟩],A,C8 x.over ((ordN x.N).map AF),x.ver+1,x.es.take k++dp,k+dp.length,f⟩,?_⟩,Kg C7,by show f<x.c;omega⟩;have hAlt:A<x.nx+3+8+6+7+27+8/\(x.N= []->x.nx<=A)/\(x.N≠[]->A=x.oid):=by
          rw[eA];rcases hN0:x.N with _ |⟨n1,N1⟩
          · exact⟨by show x.nx+3+8+6+7+27+7<_;omega,fun _=>by show _<=x.nx+3+8+6+7+27+7;omega,fun h=>absurd rfl h⟩
          · have h0:x.N≠[]:=by rw[hN0];exact fun h=>by cases h
            have:=oN h0;rw[<-hoO h0] at this;exact⟨by show o'<_;omega,fun h=>(by cases h),fun _=>hoO h0⟩
        have hlen:(x.es.take k).length=k:=(by rw[Lw];omega);exact{
                new:=fun j hj=>by
                  have hj:x.nx+3+8+6+7+27+11+12<=j:=hj
                  have:=hAlt.1;show upd (nx+1+1) _ hp7 j=none;rw[AR,<-e7,AR,AR,AR,n6 _ (by omega)]
                box:=(Ad _ _ (Ne.symm hwq)).trans q7
                row:=fun _=>by
                  show upd (nx+1+1) _ hp7 A=_;rw[Ad _ _ (Ne.symm hwA),<-e7,Ad _ _ (Ne.symm hqA),Ah,UL (by simp)];simp
                work:=by
                  show upd (nx+1+1) _ hp7 (nx+1+1)=_;rw[Ah,Na,Be]
                len:=by
                  show k+dp.length<=(x.es.take k++dp).length;rw[Lf,hlen];exact Lc _
                nodes:={
                           map:=(Ad _ _ (Ne.symm hwm)).trans m7
                           box:=fun n hn=>by
                             have hw8:∀i (y:AO),hp7 i=some y->(∀es sz v b f,y≠ .rw es sz v b f)->upd (nx+1+1) (some (AO.rw (List.take k (List.map AF x.es)++List.map AF dp) 3 (x.ver+1) false false)) hp7 i=some y:=fun i y hi hy=>by
                               rw[Ad _ _ fun e=>by
                                 rw[e,w7] at hi;cases hi;exact hy _ _ _ _ _ rfl]
                               exact hi
                             rcases Ls.1 hn with hn |hn
                             · exact hw8 _ _ (hnm n hn) fun _ _ _ _ _ e=>by cases e
                             · rw[Ln.1 hn]
                               exact hw8 _ _ i7 fun _ _ _ _ _ e=>by cases e
                           row:=fun n hn ha=>absurd (by
                             rcases Ls.1 hn with hn |hn
                             · exact h.abo n hn
                             · rw[Ln.1 hn]) ha
                           keys:=by
                             rw[Na];refine BI.2 ⟨h.nodes.keys,Ng.2 ⟨LT,NZ⟩,fun a ha b hb=> ?_⟩;obtain⟨n1,h1,rfl⟩:=LQ.1 ha;rw[Ln.1 hb];exact ku hfd n1 h1
                           ids:=by
                             rw[Na];refine BI.2 ⟨h.nodes.ids,Ng.2 ⟨LT,NZ⟩,fun a ha b hb=> ?_⟩;obtain⟨n1,h1,rfl⟩:=LQ.1 ha;rw[Ln.1 hb]
                             have:=CR h.new (h.nodes.box n1 h1);show n1.id≠x.nx+3+8+6+7+25;omega
                           rids:=fun n hn _ _ ha=>absurd (by
                             rcases Ls.1 hn with hn |hn
                             · exact h.abo n hn
                             · rw[Ln.1 hn]) ha }
                abo:=fun n hn=>by
                  rcases Ls.1 hn with hn |hn
                  · exact h.abo n hn
                  · rw[Ln.1 hn]
                small:=by
                  show k+dp.length<=_
                  have:=hsm.1;simp only[Bh,Lw] at this;omega
                sep:=fun _=>Ne.symm hwA
                own:=fun _=>by
                  show(N≠[]/\A=oid)\/nx<=A;rcases hN0:x.N with _ |⟨n1,N1⟩
                  · have:=hAlt.2.1 hN0
                    have:=h.nxs;exact .inr (by omega)
                  · have h0:x.N≠[]:=by rw[hN0];exact fun h=>by cases h
                    rw[hAlt.2.2 h0];exact h.own h0
                keep:=fun i hi hiq him hio=>by
                  have hi0:i<nx:=by
                    rcases Nf i nx with h |h
                    · exact h
                    · exact absurd (hf i h) hi
                  have hn0:=h.nxs;have hiA:i≠A:=by
                    rcases hN0:x.N with _ |⟨n1,N1⟩
                    · have:=hAlt.2.1 hN0
                      omega
                    · have h0:x.N≠[]:=by rw[hN0];exact fun h=>by cases h
                      rw[hAlt.2.2 h0];rcases h.own h0 with⟨h1,h2⟩ |h1
                      · rw[h2]
                        exact hio h1
                      · omega
                  show upd (nx+1+1) _ hp7 i=hp i;rw[AR,<-e7,Ad _ _ hiq,Ad _ _ hiA,AR,old6 i (by omega) him];exact h.keep i hi hiq him hio
                wnew:=h.wnew
                nxs:=by
                  have:=h.nxs;show nx<=x.nx+3+8+6+7+27+11+12;omega
                mod:=by
                  show Hk (Ir n G) f (DW (x.N++_)) (List.take (k+dp.length) (x.es.take k++dp)).reverse=some R;rw[Ny (by rw[Lf,hlen];exact Lc _),O3];simpa [DW] using hm }
      · refine Z1 (Y5 h9 h10 h.box h.nodes.map (Kf hfd)) ?_
        refine DR (by rfl) ?_;refine GI ?_;simp only[Hk,IZ,hfd,LO,Ia,if_true] at hm;generalize eh:upd (x.nx+3+6) _ _=hpf;have old:∀i,i<x.nx->hpf i=x.hp i:=fun i hi=>(by rw[<-eh,AR,AR]);refine⟨⟨⟨_,_,x.N,x.oid,x.over,x.ver,x.es,k,f⟩,?_⟩,Kg (Cv rfl (Cv (by show AV.so _ _ 0 (k-0)=AV.so _ _ 0 k;rw[B7]) (KP _))),by show f<x.c;omega⟩;have lr:x.N≠[]->x.oid<x.nx:=fun h0=>CR h.new ((h.row h0).trans (Gn (by simpa using h0)));exact{
                new:=fun j hj=>by
                  have hj:x.nx+3+8+6+7<=j:=hj;show hpf j=none;rw[<-eh,AR,AR];exact h.new j (by omega)
                box:=(old _ (CR h.new h.box)).trans h.box
                row:=fun h0=>(old _ (lr h0)).trans (h.row h0)
                work:=(old _ (CR h.new h.work)).trans h.work
                len:=by show k<=x.es.length;omega
                nodes:=h.nodes.more (old _ (CR h.new h.nodes.map)) (fun n hn=>old _ (CR h.new (h.nodes.box n hn))) fun n hn ha=>absurd (h.abo n hn) ha
                abo:=h.abo
                small:=by have:=h.small;show k<=_;omega
                sep:=h.sep
                own:=h.own
                keep:=fun i hi h1 h2 h3=>(old _ (by
                  rcases Nf i x.nx with h0 |h0
                  · exact h0
                  · have:=h.nxs
                    exact absurd (hf i (by omega)) hi)).trans (h.keep i hi h1 h2 h3)
                wnew:=h.wnew
                nxs:=by have:=h.nxs;show nx<=x.nx+3+8+6+7;omega
                mod:=hm }
def VQ (_:Nat)(x:Int):Option Bool:=some (x != x)
theorem kj {n:Nat}{x:Int}{r:Bool}(H:VQ n x=some r):AI Tryz.prog 125 [D.v (.int .i64 x)] (D.v (.bool r)) true:=by
 unfold VQ at H;refine zP #[.tmp 2] Tryz.func125 ?_;refine AN ?_;cases H;exact CC
def Xw (n:Nat)(x:Int)(y:Int):Option Int:=(VQ n x).bind fun t8=>(VQ n y).bind fun t10=>(if t8 then (if t10 then some 0 else some (-1)) else (if t10 then some 1 else (if decide (x<y) then some (-1) else (if decide (y<x) then some 1 else some 0))))
theorem ue {n:Nat}{x:Int}{y:Int}{r:Int}(H:Xw n x y=some r):AI Tryz.prog 99 [D.v (.int .i64 x),D.v (.int .i64 y)] (D.v (.int .i64 r)) true:=by
 unfold Xw at H;refine zP #[.tmp 4] Tryz.func99 ?_;refine ZT 1 ?_;obtain⟨t8,b1,H2⟩:=AJ H;refine Z0 ?_;refine DB (kj b1) ?_;obtain⟨t10,b3,H4⟩:=AJ H2;refine Z0 ?_;refine DB (kj b3) ?_;refine Z0 ?_;obtain⟨c5,H6⟩ |⟨c5,H6⟩:=CM H4
 ·refine Z1 c5 ?_;obtain⟨c7,H8⟩ |⟨c7,H8⟩:=CM H6
  ·refine Z1 (Y2 c5 c7) ?_;cases H8;exact CC
  refine Z1 (Y2 c5 c7) ?_;cases H8;exact CC
 refine Z1 c5 ?_;obtain⟨c9,H10⟩ |⟨c9,H10⟩:=CM H6
 ·refine Z1 (Y2 c5 c9) ?_;cases H10;exact CC
 have w224_:=Y2 c5 c9;refine Z1 w224_ ?_;obtain⟨w225_,H12⟩ |⟨w225_,H12⟩:=DU w224_ H10
 ·refine Z1 w225_ ?_;cases H12;exact CC
 refine Z1 w225_ ?_;obtain⟨w226_,H14⟩ |⟨w226_,H14⟩:=DU w225_ H12
 ·refine Z1 w226_ ?_;cases H14;exact CC
 refine Z1 w226_ ?_;cases H14;exact CC
def GJ (x y:Int):Int:=if x<y then -1 else if y<x then 1 else 0
theorem ul (n:Nat)(x y:Int):Xw n x y=some (GJ x y):=by
 unfold Xw VQ GJ;simp only[bne_self_eq_false,Zo,Nl,if_false,decide_eq_true_eq];split
 ·rfl
 split<;>rfl
theorem bu {hp:Hp}{nx q c m ida idb:Nat}{a b:AB}{ba bb:Bool}{ra rb:Int}{g o x1 x2 x3 y1 y2 y3:AV}{s1 s2 s3:AV}{es:List (Value × AV)}{dl:Bool}
  (hc:hp c=some (.bx [.pt q 0])) (hq:hp q=some (.bx [g,s1,s2,s3,.mo m,o])) (hm:hp m=some (.mo es dl)) (la:Db es a ida) (lb:Db es b idb)
  (ha:hp ida=some (.bx [.v (.int .i64 ra),x1,x2,x3])) (hb:hp idb=some (.bx [.v (.int .i64 rb),y1,y2,y3])):
  AK Tryz.prog 98 [.d (.ag (AF a)) ba,.d (.ag (AF b)) bb,.pt c 0] hp nx fun v hp2 nx2=>v= .v (.int .i64 (GJ ra rb))/\hp2=hp/\nx2=nx+3+20:=by
 refine AK.fresh (fun hf=> ?_) ⟨Tryz.f98,Tryz.func98,by kernel_rfl,by kernel_rfl⟩;refine zr Tryz.func98 ?_;have w:=And.intro (show(nx=nx+1)=False from EU)<|And.intro (E8 hf hc) (Y3 (Y6 (E8 hf hq) (E8 hf hm) (E8 hf ha) (E8 hf hb) (Kd hf hc) (Kd hf hq)) (Y6 (Kd hf hm) (Kd hf ha) (Kd hf hb) hc hq hm) (Y4 la lb ha hb));refine Z1 w ?_;refine Ea (ue (ul 0 ra rb)) ?_;refine GU w ?_;exact⟨_,hp,rfl,bn hf,rfl,rfl,rfl⟩
def Is {α:Type}(P:Program)(f:FuncId)(caps:List AV)(ld:α->AV)(S:α->Prop)(cf:α->α->Int)(ids:List Nat)(hp0:Hp):Prop:=∀(x y:α),S x->S y->∀(nx:Nat),∃nx',nx<=nx'/\∀hp:Hp,(∀i∈ids,hp i=hp0 i)->AK P f ([ld x,ld y]++caps) hp nx fun v2 hp2 nx2=>v2= .v (.int .i64 (cf x y))/\hp2=hp/\nx2=nx'
theorem um {hp:Hp}{q c m:Nat}{b:Bool}{g o s1 s2 s3:AV}{es:List (Value × AV)}{dl:Bool}{rk:AB->Int}{ids:List Nat}
  (hc:hp c=some (.bx [.pt q 0])) (hq:hp q=some (.bx [g,s1,s2,s3,.mo m,o])) (hm:hp m=some (.mo es dl)):
  Is Tryz.prog 98 [.pt c 0] (fun r:AB=>.d (.ag (AF r)) b) (fun r=>∃id x1 x2 x3,Db es r id/\hp id=some (.bx [.v (.int .i64 (rk r)),x1,x2,x3])/\id∈ids) (fun a b=>GJ (rk a) (rk b)) (c::q::m::ids) hp:=by
 rintro x y ⟨ia,x1,x2,x3,la,ha,ia2⟩ ⟨ib,y1,y2,y3,lb,hb,ib2⟩ nx;refine⟨nx+3+20,by omega,fun hp1 h1=> ?_⟩;exact bu (by rw[h1 c (by simp)];exact hc) (by rw[h1 q (by simp)];exact hq) (by rw[h1 m (by simp)];exact hm) la lb (by rw[h1 ia (by simp[ia2])];exact ha) (by rw[h1 ib (by simp[ib2])];exact hb)
def GK {α:Type}(cf:α->α->Int)(x y:α):Bool:=decide (cf x y<0)
def Hl {α:Type}(lt:α->α->Bool):Nat->List α->Nat->Nat->Option (List α)
 |0,_,_,_=>none
 |_+1,xs,_,0=>some xs
 |f+1,xs,a,j+1=>if a<j+1 then(xs[j+1]?).bind fun x=>(xs[j]?).bind fun y=>if lt x y then Hl lt f ((xs.set (j+1) y).set j x) a j else some xs else some xs
def Iu {α:Type}(lt:α->α->Bool):Nat->List α->Nat->Nat->Nat->Option (List α)
 |0,_,_,_,_=>none
 |f+1,xs,a,i,b=>if i<b then(Hl lt (f+1) xs a i).bind fun ys=>Iu lt f ys a (i+1) b else some xs
theorem lA {α:Type}{lt:α->α->Bool}{a:Nat}:∀ {f:Nat} {xs ys:List α} {j:Nat},Hl lt f xs a j=some ys->ys.length=xs.length
 |0,_,_,_,h=>by cases h
 |_+1,xs,_,0,h=>by cases h;rfl
 |f+1,xs,ys,j+1,h=>by
  unfold Hl at h;split at h
  ·obtain⟨x,h1,h⟩:=AJ h;obtain⟨y,h2,h⟩:=AJ h;split at h
   ·rw[lA h];simp
   cases h;rfl
  cases h;rfl
theorem lC {α:Type}{xs:List α}{i j:Nat}{x y z:α}(h1:xs[i]? =some x)(h2:xs[j]? =some y)(h:z∈(xs.set i y).set j x):z∈xs:=by
 rcases Bs h with h |h
 ·rcases Bs h with h |h
  ·exact h
  rw[h];exact Lt h2
 rw[h];exact Lt h1
theorem lD {α:Type}{lt:α->α->Bool}{a:Nat}{z:α}:∀ {f:Nat} {xs ys:List α} {j:Nat},Hl lt f xs a j=some ys->z∈ys->z∈xs
 |0,_,_,_,h=>by cases h
 |_+1,xs,_,0,h=>by cases h;exact id
 |f+1,xs,ys,j+1,h=>by
  unfold Hl at h;split at h
  ·obtain⟨x,h1,h⟩:=AJ h;obtain⟨y,h2,h⟩:=AJ h;split at h
   ·exact fun hz=>lC h1 h2 (lD h hz)
   cases h;exact id
  cases h;exact id
abbrev CL (xs:List AB)(ver:Nat)(br:Bool):Option AO:=some (.rw (xs.map AF) 3 ver br false)
theorem Iv {n:Nat}(h:n<4611686018427387904:=by omega):i64.wrap (n:Int)=(n:Int):=IntWalk.i64_in _ (by omega)
theorem HJ {n:Nat}(h:n<4611686018427387904):i64.wrap (((n+1:Nat):Int)-1)=(n:Int):=by
 rw[show(((n+1:Nat):Int)-1)=(n:Int) by omega];exact Iv h
theorem As {n:Nat}(h:n+1<4611686018427387904:=by omega):i64.wrap ((n:Int)+1)=((n+1:Nat):Int):=by
 rw[show(n:Int)+1=((n+1:Nat):Int) by omega];exact Iv h
theorem Fz {n nx:Nat}{fr fr':Fr}{hp hp':Hp}(e:hp'=hp)(h:∀t,fr' t= .un\/fr' t=fr t):A6 n ⟨fr',hp',nx⟩ ⟨fr,hp,nx⟩:=by
 subst e;exact Kg h
section
variable {g:FuncId}{caps:List AV}{S:AB->Prop}{cf:AB->AB->Int}{ids:List Nat}{hp0:Hp}{br:Bool}{i ver L:Nat}
set_option maxRecDepth 4000 in
theorem lE (hc:Is Tryz.prog g caps (fun r:AB=>.d (.ag (AF r)) br) S cf ids hp0)(hi:i∉ids){xs R:List AB}{f a b nx:Nat}{hp:Hp}(hh:∀j∈ids,hp j=hp0 j)(hx:hp i=CL xs ver br)(hS:∀x∈xs,S x)(hL:xs.length=L)(ha:a<4611686018427387904-1)(hb:b<4611686018427387904)
  (hR:Iu (GK cf) f xs a (a+1) b=some R):
  AK Tryz.prog 128 [.so i ver 0 L,.v (.int .i64 (a:Int)),.v (.int .i64 (b:Int)),.fn g caps] hp nx fun v hp2 nx2=>v= .tu []/\hp2=upd i (CL R ver br) hp/\nx<=nx2:=by
 refine zq Tryz.func128 ?_;refine AW (ZT 1 ?_);refine Z1 (As (show a+1<_ by omega)) ?_;refine CN ?_;refine DS (α:={ x:Nat × List AB × Nat × Nat // nx<=x.2.2.1/\(∀y∈x.2.1,S y)/\x.2.1.length=L/\Iu (GK cf) x.2.2.2 x.2.1 a x.1 b=some R })
  (fun x=>⟨upd 0 (.so i ver 0 L) (upd 1 (.v (.int .i64 (a:Int))) (upd 2 (.v (.int .i64 (b:Int))) (upd 3 (.fn g caps) (upd 8 (.v (.int .i64 (x.1.1:Int))) AQ)))),upd i (CL x.1.2.1 ver br) hp,x.1.2.2.1⟩) (fun x=>x.1.2.2.2) ⟨(a+1,xs,nx+3,f),by show nx<=nx+3;omega,hS,hL,hR⟩ ?_ ?_
 ·rw[FE hx];exact CH
 rintro⟨⟨k,ys,nx1,f⟩,h1,h2,h3,h4⟩;dsimp only at h1 h2 h3 h4;obtain⟨f,rfl⟩:∃f',f=f'+1:=by
  cases f with |zero=>cases h4 |succ f=>exact⟨f,rfl⟩
 unfold Iu at h4;refine AW (AW ?_);refine ZT 1 ?_;by_cases hk:k<b;rotate_left
 ·rw[if_neg hk] at h4;cases h4;have c1:(decide ((k:Int)<(b:Int)))=false:=Cr;refine Ep c1 ?_;exact⟨_,_,rfl,⟨fun _=>.inr rfl⟩,rfl,rfl,by show nx<=nx1+3;omega⟩
 rw[if_pos hk] at h4;obtain⟨zs,h4,h5⟩:=AJ h4;have c1:(decide ((k:Int)<(b:Int)))=true:=Cb;refine Ep c1 ?_;refine AW (CN ?_);refine Az ?_;refine CN ?_;refine DS (α:={ x:Nat × List AB × Nat × Nat // nx<=x.2.2.1/\x.1<b/\(∀y∈x.2.1,S y)/\x.2.1.length=L/\Hl (GK cf) x.2.2.2 x.2.1 a x.1=some zs })
  (fun x=>⟨upd 0 (.so i ver 0 L) (upd 1 (.v (.int .i64 (a:Int))) (upd 2 (.v (.int .i64 (b:Int))) (upd 3 (.fn g caps) (upd 8 (.v (.int .i64 (k:Int))) (upd 9 (.v (.int .i64 (x.1.1:Int))) AQ))))),upd i (CL x.1.2.1 ver br) hp,x.1.2.2.1⟩) (fun x=>x.1.2.2.2) ⟨(k,ys,nx1+3+2,f+1),by show nx<=nx1+3+2;omega,hk,h2,h3,h4⟩ ?_ ?_
 ·exact CH
 rintro⟨⟨j,us,nx2,f2⟩,g1,g0,g2,g3,g4⟩;dsimp only at g0 g1 g2 g3 g4;obtain⟨f2,rfl⟩:∃f',f2=f'+1:=by
  cases f2 with |zero=>cases g4 |succ f=>exact⟨f,rfl⟩
 refine AW (AW ?_);refine ZT 1 ?_;rcases j with _ |j
 ·have c2:(decide (((0:Nat):Int) > (a:Int)))=false:=Cr;have c3:(decide ((a:Int)<0))=false:=Cr;cases g4;refine Z1 (Y2 c2 c3) ?_;refine DR (by rfl) ?_;refine GI ?_;refine ZT 1 ?_;refine Z1 (As (show k+1<_ by omega)) ?_;refine⟨⟨(k+1,zs,_,f),?_,g2,g3,h5⟩,CH,LF f⟩;show nx<=nx2+17+3;omega
 by_cases hj:a<j+1
 ·have c2:(decide (((j+1:Nat):Int) > (a:Int)))=true:=Cb;have c3:(decide ((a:Int)<((j+1:Nat):Int)))=true:=Cb;unfold Hl at g4;rw[if_pos hj] at g4;obtain⟨x,e1,g4⟩:=AJ g4;obtain⟨y,e2,g4⟩:=AJ g4;have l1:(j+1<L)=True:=eq_true (by have:=(Lb.1 e1).1;omega);have l2:(j<L)=True:=eq_true (by have:=(Lb.1 e2).1;omega);have w:=Y2 c2 (Y6 c3 l1 l2 (HJ (show j<4611686018427387904 by omega)) (Cs AF e1) (Cs AF e2));refine Z1 w ?_;obtain⟨nx3,q1,q2⟩:=hc x y (g2 x (Lt e1)) (g2 y (Lt e2)) (nx2+17);refine Ms (δ:=[]) (q2 _ (qP hh hi)) ?_;refine PP ?_;refine ZT 1 ?_;rcases hlt:GK cf x y with _ |_
  ·rw[hlt] at g4;cases g4;have c4:(decide (cf x y<0))=false:=hlt;refine Z1 c4 ?_;refine ZT 1 ?_;refine Z1 (As (show k+1<_ by omega)) ?_;refine⟨⟨(k+1,zs,_,f),?_,g2,g3,h5⟩,CH,LF f⟩;show nx<=nx3+3;omega
  rw[hlt,if_pos rfl] at g4;have c4:(decide (cf x y<0))=true:=hlt;refine Z1 c4 ?_;refine AW (CN ?_);refine ZT 1 ?_;have e3:((us.map AF).set (j+1) (AF y))[j]? =some (AF y):=by
   rw[BO (by omega)];exact Cs AF e2
  refine Z1 (Y2 w e3) ?_;refine DR (by rfl) ?_;refine Z0 ?_;refine ZT 1 ?_;refine Z1 (HJ (show j<4611686018427387904 by omega)) ?_;refine⟨⟨(j,(us.set (j+1) y).set j x,_,f2),?_,by show j<b;omega,fun z hz=>g2 z (lC e1 e2 hz),by simpa using g3,g4⟩,Fz ?_ C7,LF f2⟩
  ·show nx<=nx3+18+3;omega
  rw[EL,EL];show upd i (some (.rw (((us.set (j+1) y).set j x).map AF) 3 ver br false)) hp=_;rw[NO,NO]
 have c2:(decide (((j+1:Nat):Int) > (a:Int)))=false:=Cr;have c3:(decide ((a:Int)<((j+1:Nat):Int)))=false:=Cr;unfold Hl at g4;rw[if_neg hj] at g4;cases g4;refine Z1 (Y2 c2 c3) ?_;refine DR (by rfl) ?_;refine GI ?_;refine ZT 1 ?_;refine Z1 (As (show k+1<_ by omega)) ?_;refine⟨⟨(k+1,zs,_,f),?_,g2,g3,h5⟩,CH,LF f⟩;show nx<=nx2+17+3;omega
end
structure CE where
 kind:Int
 at_:Int
 text:ByteArray
 deriving DecidableEq,Inhabited
abbrev Ag (x:CE):List D:=[D.v (.int .i64 x.kind),D.v (.int .i64 x.at_),D.v (.string x.text)]
structure Ae where
 l:List CE
 p:Nat
 long:Int
 e:Int
 bad:Int
 deep:Nat
 out:List AY
 from_:Int
abbrev Ai (x:Ae)(bl:Bool)(ov:AV):AO:=.bx [.d (.sl (x.l.map Ag)) bl,.v (.int .i64 (x.p:Int)),.v (.int .i64 x.long),.v (.int .i64 x.e),.v (.int .i64 x.bad),.v (.int .i64 (x.deep:Int)),ov,.v (.int .i64 x.from_)]
def HD (x:Ae):Int:=match x.l[x.p]? with |some t=>t.at_ |none=>x.long
def isM (x:Ae)(s:ByteArray):Bool:=match x.l[x.p]? with |some t=>t.kind==2&&t.text.toList==s.toList |none=>false
section
variable {x:Ae}{bl:Bool}{ov:AV}{q nx:Nat}{hp:Hp}
theorem VE (hq:hp q=some (Ai x bl ov))(_:x.l.length<4611686018427387904):AK Tryz.prog 84 [.pt q 0] hp nx fun v hp2 nx2=>v= .v (.int .i64 (HD x))/\hp2=hp/\nx<=nx2:=by
 refine zr Tryz.func84 ?_;unfold HD;by_cases h:x.p<x.l.length
 ·have c1:(decide ((x.p:Int)<(x.l.length:Int)))=true:=Cb;have e1:x.l[x.p]? =some x.l[x.p]:=Ld h;have e2:(x.l.map Ag)[x.p]? =some [D.v (.int .i64 x.l[x.p].kind),D.v (.int .i64 x.l[x.p].at_),D.v (.string x.l[x.p].text)]:=Cs Ag e1;rw[e1];refine Z1 (Y3 hq c1 e2) ?_;refine DR (by rfl) ?_;refine Z1 (Y5 hq c1 e2 (Cx .i64 (show(0:Int)<=(x.p:Int) by omega)) (show((x.p:Int)).toNat=x.p from Lv _)) ?_;refine DR (by rfl) ?_;refine Z0 ?_;exact⟨_,_,rfl,⟨fun _=>.inr rfl⟩,rfl,rfl,by show nx<=nx+1+10+12;omega⟩
 have c1:(decide ((x.p:Int)<(x.l.length:Int)))=false:=Cr;rw[LX (by omega)];refine Z1 (Y2 hq c1) ?_;refine DR (by rfl) ?_;refine Z1 (Y2 hq c1) ?_;exact⟨_,_,rfl,⟨fun _=>.inr rfl⟩,rfl,rfl,by show nx<=nx+1+10+5;omega⟩
set_option maxRecDepth 8000 in
theorem Hd {t:ByteArray}(hq:hp q=some (Ai x bl ov))(_:x.l.length<4611686018427387904):AK Tryz.prog 56 [.pt q 0,.v (.string t)] hp nx fun v hp2 nx2=>v= .v (.bool (isM x t))/\hp2=hp/\nx<=nx2:=by
 refine zr Tryz.func56 ?_;unfold isM;by_cases h:x.p<x.l.length
 ·have c1:(decide ((x.p:Int)<(x.l.length:Int)))=true:=Cb;have e1:x.l[x.p]? =some x.l[x.p]:=Ld h;have e2:(x.l.map Ag)[x.p]? =some [D.v (.int .i64 x.l[x.p].kind),D.v (.int .i64 x.l[x.p].at_),D.v (.string x.l[x.p].text)]:=Cs Ag e1;have w:=Y2 hq (Y4 c1 e2 (Cx .i64 (show(0:Int)<=(x.p:Int) by omega)) (show((x.p:Int)).toNat=x.p from Lv _));rw[e1];dsimp only;cases hk:(x.l[x.p].kind==2) with
  |true=>
   refine Z1 (Y2 hk w) ?_;refine DR (by rfl) ?_;refine Z0 ?_;exact⟨.v (.bool (x.l[x.p].text.toList==t.toList)),_,rfl,⟨fun _=>.inr rfl⟩,rfl,rfl,by show nx<=nx+1+40;omega⟩
  |false=>
   refine Z1 (Y2 hk w) ?_;refine DR (by rfl) ?_;refine Z0 ?_;exact⟨.v (.bool false),_,rfl,⟨fun _=>.inr rfl⟩,rfl,rfl,by show nx<=nx+1+40;omega⟩
 have c1:(decide ((x.p:Int)<(x.l.length:Int)))=false:=Cr;rw[LX (by omega)];refine Z1 (Y2 hq c1) ?_;refine DR (by rfl) ?_;refine Z0 ?_;exact⟨_,_,rfl,⟨fun _=>.inr rfl⟩,rfl,rfl,by show nx<=nx+1+40;omega⟩
def jw_ (x:Ae)(c:Int):Ae:=if x.e==0 then{ x with e:=c,bad:=HD x } else x
theorem KU {c:Int}(hq:hp q=some (Ai x bl ov))(hl:x.l.length<4611686018427387904):AK Tryz.prog 54 [.pt q 0,.v (.int .i64 c)] hp nx fun v hp2 nx2=>v= .tu []/\hp2=upd q (some (Ai (jw_ x c) bl ov)) hp/\nx<=nx2:=by
 refine zr Tryz.func54 ?_;unfold jw_;cases he:(x.e==0) with
 |true=>
  rw[if_pos rfl];refine Z1 (Y2 hq he) ?_;refine CG ((VE hq hl).mono ?_);rintro v hp2 nx2 ⟨rfl,rfl,hle⟩;dsimp only at hle;refine Z1 hq ?_;exact⟨_,_,rfl,⟨fun _=>.inr rfl⟩,rfl,by show upd q _ (upd q _ hp2)=upd q _ hp2;rw[EL],by dsimp only;omega⟩
 |false=>
  rw[if_neg (by decide)];refine Z1 (Y2 hq he) ?_;exact⟨_,_,rfl,⟨fun _=>.inr rfl⟩,rfl,(FE hq).symm,by show nx<=nx+5;omega⟩
def DV (x:Ae)(t:ByteArray):Ae:=if x.e==0 then(if isM x t then{ x with p:=x.p+1 } else jw_ x 9) else x
theorem Qm {t:ByteArray}(hq:hp q=some (Ai x bl ov))(hl:x.l.length<4611686018427387904)(hp1:x.p<4611686018427387903):AK Tryz.prog 58 [.pt q 0,.v (.string t)] hp nx fun v hp2 nx2=>v= .tu []/\hp2=upd q (some (Ai (DV x t) bl ov)) hp/\nx<=nx2:=by
 refine zr Tryz.func58 ?_;unfold DV;cases he:(x.e==0) with
 |true=>
  have he2:(x.e != 0)=false:=by rw[bne,he];rfl
  rw[if_pos rfl];refine Z1 (Y2 hq he2) ?_;refine CG ((Hd hq hl).mono ?_);rintro v hp2 nx2 ⟨rfl,rfl,hle⟩;dsimp only at hle;cases hi:isM x t with
  |true=>
   rw[if_pos rfl];refine Z1 (Y2 hq (As (n:=x.p))) ?_;exact⟨_,_,rfl,⟨fun _=>.inr rfl⟩,rfl,rfl,by dsimp only;omega⟩
  |false=>
   rw[if_neg (by decide)];refine Z0 ?_;refine CG ((KU hq hl).mono ?_);rintro v hp3 nx3 ⟨rfl,rfl,hle3⟩;dsimp only at hle3;refine Z0 ?_;exact⟨_,_,rfl,⟨fun _=>.inr rfl⟩,rfl,rfl,by dsimp only;omega⟩
 |false=>
  have he2:(x.e != 0)=true:=by rw[bne,he];rfl
  rw[if_neg (by decide)];refine Z1 (Y2 hq he2) ?_;exact⟨_,_,rfl,⟨fun _=>.inr rfl⟩,rfl,(FE hq).symm,by dsimp only;omega⟩
end
end Go.Proofs.YtnmkbmefohakmaaGreat.Ab
