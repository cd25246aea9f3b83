/-
 The document's reader of schemas: its place, its error, signs.
-/
import Derived.Test.YtnmkbmefohakmaaGreatSk5
namespace Go.Proofs.YtnmkbmefohakmaaGreat.Ab
open Go.RowKit
def bo_ (n:Nat)(G:SeekGraph)(r:GRef):Option (Int × List GRef):=(x1_ n G.schema r.obj.type_ r.rel).bind fun k=>(jr_ n G r).map fun d=>(k,d)
def zG_ (nd:GRef->Option (Int × List GRef)):Nat->List PN->List GRef->Option (List PN)
  |0,_,_=>none
  |_+1,N,[]=>some N
  |f+1,N,r::w=>if (jd_ r N).isSome then zG_ nd f N w else(nd r).bind fun p=>if w.length+p.2.length<=4294967296/\N.length<4294967296 then zG_ nd f (N++[⟨r,p.1,p.2,[],false⟩]) (p.2.reverse++w) else none
structure RS where
  hp:Hp
  nx:Nat
  N:List Nd
  oid:Nat
  over:Nat
  ver:Nat
  es:List GRef
  n:Nat
  c:Nat
abbrev ordN (N:List Nd):List GRef:=N.map (·.k)
abbrev boxQ (G:SeekGraph)(s1 s2 s3:AV)(m oid over:Nat)(N:List Nd):AO:=.bx [.d (.pt (eSeekGraph G) 0) true,s1,s2,s3,.mo m,accV oid over ((ordN N).map eGRef)]
structure RInv (nd:GRef->Option (Int × List GRef)) (G:SeekGraph) (hp0:Hp) (nx0 q m wid oid0:Nat) (N0:List Nd) (s1 s2 s3:AV) (R:List PN) (x:RS):Prop where
  new:∀j,x.nx<=j->x.hp j=none
  box:x.hp q=some (boxQ G s1 s2 s3 m x.oid x.over x.N)
  row:x.N≠[]->x.hp x.oid=accO 3 x.over false ((ordN x.N).map eGRef)
  work:x.hp wid=some (.rw (x.es.map eGRef) 3 x.ver false false)
  len:x.n<=x.es.length
  nodes:InvN x.hp m x.N
  abo:∀n∈x.N,n.above= []
  small:x.n<=4294967296
  sep:x.N≠[]->x.oid≠wid
  own:x.N≠[]->(N0≠[]/\x.oid=oid0)\/nx0<=x.oid
  keep:∀i,hp0 i≠none->i≠q->i≠m->(N0≠[]->i≠oid0)->x.hp i=hp0 i
  wnew:nx0<=wid
  nxs:nx0<=x.nx
  mod:zG_ nd x.c (pns x.N) (x.es.take x.n).reverse=some R
structure ReachP (G:SeekGraph) (hp0:Hp) (nx0 q m oid0:Nat) (N0:List Nd) (s1 s2 s3:AV) (R:List PN) (hp:Hp) (nx:Nat):Prop where
  ex:∃N oid over,pns N=R/\InvN hp m N/\(∀n∈N,n.above= [])/\hp q=some (boxQ G s1 s2 s3 m oid over N)/\(N≠[]->hp oid=accO 3 over false ((ordN N).map eGRef))/\(N≠[]->(N0≠[]/\oid=oid0)\/nx0<=oid)
  keep:∀i,hp0 i≠none->i≠q->i≠m->(N0≠[]->i≠oid0)->hp i=hp0 i
  new:∀j,nx<=j->hp j=none
  nxs:nx0<=nx
def nwq (q m nx i:Nat):Nat:=if i=q then 1 else if i=m then 2 else if i<nx then 0 else i+3-nx
theorem dy_ {r:GRef}{n:Nd}:∀ {N:List Nd},zw_ r N=none->n.k=r->zw_ r (N++[n])=some n
  |[],_,h=>by
    subst h;show(if n.k==n.k then some n else none)=some n
    rw[if_pos (beq_self_eq_true _)]
  |x::l,h,hk=>by
    unfold zw_ at h;split at h
    · cases h
    · rename_i e
      show(if r==x.k then some x else zw_ r (l++[n]))=some n
      rw[if_neg e];exact dy_ h hk
def nw5 (a b c d e i:Nat):Nat:=if i=a then 1 else if i=b then 2 else if i=c then 3 else if i=d then 4 else if i=e then 5 else 0
theorem wkI {n nx:Nat}{fr fr':Fr}{hp:Hp}(h:∀t,fr' t= .un\/fr' t=fr t):WeakR n ⟨fr',hp,nx⟩ ⟨fr,hp,nx⟩:=.weak ⟨h,fun _=>.inr rfl,Nat.le_refl _⟩
def nw4 (a b c d i:Nat):Nat:=if i=a then 1 else if i=b then 2 else if i=c then 3 else if i=d then 4 else 0
set_option maxRecDepth 4000 in
theorem sA_ {hp:Hp}{nx q m oid over n c:Nat}{vr:AV}{G:SeekGraph}{r0:GRef}{s1 s2 s3:AV}{N:List Nd}{R:List PN}(hf:∀j,nx<=j->hp j=none)
    (hq:hp q=some (boxQ G s1 s2 s3 m oid over N)) (ho:N≠[]->hp oid=accO 3 over false ((ordN N).map eGRef)) (hN:InvN hp m N) (ha:∀n∈N,n.above= []) (hR:zG_ (bo_ n G) c (pns N) [r0]=some R) (hv:qP_ vr=some [.v (.string r0.obj.type_),.v (.string r0.obj.id_),.v (.string r0.rel)]):
    InlOK Tryz.prog 66 [.pt q 0,vr] hp nx fun v hp2 nx2=>v= .tu []/\ReachP G hp nx q m oid N s1 s2 s3 R hp2 nx2:=by
  refine qX_ qf_ Tryz.func66 (by rfl) (by kernel_rfl) (by kernel_rfl) (by exact Nat.le_of_ble_eq_true rfl) ?_;have w:=And.intro (jQ_ hf hq) (And.intro hv hq);refine zsq (ZT 1 ?_);refine Z1 w ?_;refine zsq (ZT 1 ?_);refine Z1 w ?_;refine zbk ?_;have hoN:N≠[]->oid<nx:=fun h=>qm_ hf ((ho h).trans (jc_ (by simpa using h)))
  refine zlp (α:={ x:RS // RInv (bo_ n G) G hp nx q m (nx+1+1) oid N s1 s2 s3 R x }) (fun x=>⟨upd 0 (.pt q 0) (upd 4 (.so (nx+1+1) x.1.ver 0 x.1.n) noFr),x.1.hp,x.1.nx⟩) (fun x=>x.1.c) ⟨⟨upd (nx+1+1) (some (.rw [eGRef r0] 3 0 false false)) hp,nx+1+3,N,oid,over,0,[r0],1,c⟩,?_⟩ ?_ ?_
  · have e:∀i,i<nx->upd (nx+1+1) (some (AO.rw [eGRef r0] 3 0 false false)) hp i=hp i:=fun i hi=>qb_ _ _ (by omega)
    exact{
            new:=fun j hj=>by
              have hj:nx+1+3<=j:=hj;show upd (nx+1+1) _ hp j=none;rw[qb_ _ _ (by omega)];exact hf j (by omega)
            box:=(e q (qm_ hf hq)).trans hq
            row:=fun h=>(e oid (hoN h)).trans (ho h)
            work:=qd_ ..
            len:=Nat.le_refl _
            nodes:=hN.upd_new (hf _ (by omega))
            abo:=ha
            small:=by show 1<=4294967296;omega
            sep:=fun h=>by have:=hoN h;show oid≠nx+1+1;omega
            own:=fun h=>.inl ⟨h,rfl⟩
            keep:=fun i hi _ _ _=>e i (by
              rcases Nat.lt_or_ge i nx with h |h
              · exact h
              · exact absurd (hf i h) hi)
            wnew:=by omega
            nxs:=by show nx<=nx+1+3;omega
            mod:=hR }
  · refine .weak ⟨fun t=> ?_,fun i=> ?_,Nat.le_refl _⟩
    · show upd 0 _ _ t=AV.un\/_
      by_cases h0:t=0
      · subst h0
        exact .inr rfl
      · by_cases h4:t=4
        · subst h4
          exact .inr rfl
        · refine .inl ?_
          rw[qb_ _ _ h0,qb_ _ _ h4];rfl
    · show upd (nx+1+1) _ hp i=none\/upd (nx+1+1) _ hp i=upd (nx+1+1) _ (upd nx _ hp) i
      by_cases h1:i=nx+1+1
      · subst h1
        exact .inr (by rw[qd_,qd_])
      · by_cases h2:i=nx
        · subst h2
          exact .inl (by rw[qb_ _ _ h1];exact hf i (Nat.le_refl _))
        · exact .inr (by rw[qb_ _ _ h1,qb_ _ _ h1,qb_ _ _ h2])
  · rintro⟨x,h⟩
    have hm:=h.mod;obtain⟨f,hc⟩:∃f,x.c=f+1:=by
      cases e:x.c with
      |zero=>rw[e] at hm;cases hm
      |succ f=>exact⟨f,rfl⟩
    rw[hc] at hm;refine zsq (zsq ?_);refine ZT 1 ?_;refine Z0 ?_;rcases hn:x.n with _ |k
    · have h1:(decide (((0:Nat):Int) > 0))=false:=rfl
      refine ZT 1 ?_;refine Z1 hn ?_;refine⟨_,x.hp,rfl,⟨fun _=>.inr rfl⟩,rfl,?_⟩;rw[hn] at hm;have hR2:pns x.N=R:=Option.some.inj hm;exact⟨⟨x.N,x.oid,x.over,hR2,h.nodes,h.abo,h.box,h.row,h.own⟩,h.keep,fun j hj=>h.new j (Nat.le_trans (by show x.nx<=x.nx+3;omega) hj),by have:=h.nxs;show nx<=x.nx+3;omega⟩
    · have h1:(decide (((k+1:Nat):Int) > 0))=true:=decide_eq_true (by omega)
      have h2:(decide ((0:Int)<((k+1:Nat):Int)))=true:=decide_eq_true (by omega);refine ZT 1 ?_;refine Z1 (And.intro hn (And.intro h1 h2)) ?_;refine zbk ?_;refine zsq ?_;have hk:k<x.es.length:=by have:=h.len;omega
      obtain⟨r,hr⟩:∃r,x.es[k]? =some r:=⟨_,List.getElem?_eq_getElem hk⟩;have h3:IntKind.i64.wrap (((k+1:Nat):Int)-1)=(k:Int):=by
        have:=h.small
        rw[show(((k+1:Nat):Int)-1)=(k:Int) by omega];exact IntWalk.i64_in _ (by omega)
      have h4:(k<k+1)=True:=eq_true (Nat.lt_succ_self k);have h5:=qn_ eGRef hr;have h6:=h.work;have htk:(x.es.take (k+1)).reverse=r::(x.es.take k).reverse:=by
        rw[List.take_add_one,hr];simp
      rw[hn,htk] at hm;refine ZT 1 ?_;refine Z1 (And.intro hn (And.intro h3 (And.intro h4 (And.intro h5 h6)))) ?_;refine zsq (ZT 1 ?_);have h7:(k<=k+1)=True:=eq_true (Nat.le_succ k);have h8:(nx+1+1=x.nx+3+6)=False:=eq_false (by have:=qm_ h.new h.work;omega);refine Z1 (And.intro hn (And.intro h3 (And.intro h4 (And.intro h7 (And.intro h8 h6))))) ?_
      refine zsq (zsq ?_);refine ZT 1 ?_;have h9:(q=x.nx+3+6)=False:=eq_false (by have:=qm_ h.new h.box;omega);have h10:(m=x.nx+3+6)=False:=eq_false (by have:=qm_ h.new h.nodes.map;omega);rcases hfd:zw_ r x.N with _ |n0
      · refine Z1 (And.intro h9 (And.intro h10 (And.intro h.box (And.intro h.nodes.map (bn_ hfd))))) ?_
        refine qj_ (by rfl) ?_;refine Z0 ?_;refine ZT 1 ?_;refine Z0 ?_;refine zsq (ZT 1 ?_);refine Z1 (And.intro h9 (And.intro h10 (And.intro h.box (And.intro h.nodes.map (bn_ hfd))))) ?_;simp only[zG_,jF_,hfd,Option.map_none,Option.isSome_none,Bool.false_eq_true,if_false] at hm;obtain⟨⟨rk,dp⟩,hnd,hm⟩:=zbi hm;obtain⟨rk',hrk,hnd⟩:=zbi hnd
        obtain⟨dp',hdp,hnd⟩:=Option.map_eq_some_iff.1 hnd;cases hnd;split at hm;rotate_left
        · cases hm
        rename_i hsm;refine ZD0 (wy_ hrk) ?_;refine Z1 (And.intro h9 (And.intro h10 (And.intro h.box (And.intro h.nodes.map (bn_ hfd))))) ?_;refine ZD0 (w5_ hdp) ?_;have hput:=cW_ hfd ⟨⟨r,rk,dp,[],false⟩,x.nx+3+8+6+7+25,0,0⟩ rfl;have h11:(m=x.nx+3+8+6+7+25)=False:=eq_false (by have:=qm_ h.new h.nodes.map;omega)
        refine Z1 (And.intro h9 (And.intro h10 (And.intro h11 (And.intro h.box (And.intro h.nodes.map hput))))) ?_;have hqm:q≠m:=fun e=>by
          have e1:=h.box;rw[e,h.nodes.map] at e1;cases e1
        have lq:=qm_ h.new h.box;have lm:=qm_ h.new h.nodes.map;have g1:nwq q m x.nx q=1:=by simp[nwq]
        have g2:nwq q m x.nx m=2:=by simp[nwq,Ne.symm hqm]
        have g3:nwq q m x.nx (x.nx+3+6)=12:=by unfold nwq;rw[if_neg (by omega),if_neg (by omega),if_neg (by omega)];omega
        have g4:nwq q m x.nx (x.nx+3+8+6+7+25)=52:=by unfold nwq;rw[if_neg (by omega),if_neg (by omega),if_neg (by omega)];omega
        refine x2_ (nwq q m x.nx) _ rfl (by simp only[List.reverse_cons,List.reverse_nil,List.nil_append,List.cons_append,List.map_cons,List.map_nil,vL_,g1,g2,g3,g4];rfl) (by rfl) ?_;refine Z0 ?_;generalize e6:upd m _ _=hp6
        have old6:∀i,i<x.nx->i≠m->hp6 i=x.hp i:=fun i h1 h2=>by rw[<-e6,qb_ _ _ h2,qb_ _ _ (by omega),qb_ _ _ (by omega),qb_ _ _ (by omega)]
        have m6:hp6 m=some (.mo (mapN (x.N++[⟨⟨r,rk,dp,[],false⟩,x.nx+3+8+6+7+25,0,0⟩])) false):=by rw[<-e6,qd_]
        have i6:hp6 (x.nx+3+8+6+7+25)=some (.bx [.v (.int .i64 rk),.d (.sl (dp.map eGRef)) false,.v (.slice none 0 0),.v (.bool false)]):=by rw[<-e6,qb_ _ _ (by omega),qd_]
        have c6:hp6 (x.nx+3+6)=some (.bx [.v (.string r.obj.type_),.v (.string r.obj.id_),.v (.string r.rel)]):=by rw[<-e6,qb_ _ _ (by omega),qb_ _ _ (by omega),qd_]
        have n6:∀j,x.nx+3+8+6+7+27<=j->hp6 j=none:=fun j hj=>by rw[<-e6,qb_ _ _ (by omega),qb_ _ _ (by omega),qb_ _ _ (by omega),qb_ _ _ (by omega)];exact h.new j (by omega)
        have oN:x.N≠[]->x.oid<x.nx:=fun h0=>qm_ h.new ((h.row h0).trans (jc_ (by simpa using h0)));obtain⟨o',eo,ho',hoB,hoO⟩:∃o',accV x.oid x.over ((ordN x.N).map eGRef)=accV o' x.over ((ordN x.N).map eGRef)/\hp6 o'=accO 3 x.over false ((ordN x.N).map eGRef)/\(∀j,j<100->o'≠x.nx+3+8+6+7+27+j)/\(x.N≠[]->o'=x.oid):=by
          rcases hN0:x.N with _ |⟨n1,N1⟩
          · exact⟨x.nx+3+8+6+7+27+1000,rfl,n6 _ (by omega),fun j hj=>by omega,fun h=>absurd rfl h⟩
          · rw[<-hN0]
            have h0:x.N≠[]:=by rw[hN0];exact fun h=>by cases h
            have:=oN h0
            refine⟨x.oid,rfl,?_,fun j hj=>by omega,fun _=>rfl⟩;rw[old6 _ this fun e=>by
              have e1:=h.row h0;rw[e,h.nodes.map,jc_ (by simpa using h0)] at e1;cases e1]
            exact h.row h0
        have q6:hp6 q=some (.bx [.d (.pt (eSeekGraph G) 0) true,s1,s2,s3,.mo m,accV o' x.over ((ordN x.N).map eGRef)]):=by
          rw[old6 q lq hqm,h.box,boxQ,eo]
        refine zsq (ZT 1 ?_);obtain⟨A,eA⟩:∃A,A=accI (x.nx+3+8+6+7+27+7) o' ((ordN x.N).map eGRef):=⟨_,rfl⟩;have hA:∀(i:Nat) (y:AO),hp6 i=some y->(∀es sz v b f,y≠ .rw es sz v b f)->i≠A:=fun i y hi hy e=>by
          rw[e,eA] at hi;cases hL:(ordN x.N).map eGRef with
          |nil=>
            rw[hL] at hi
            have:=n6 (x.nx+3+8+6+7+27+7) (by omega)
            rw[show hp6 (x.nx+3+8+6+7+27+7)=some y from hi] at this;cases this
          |cons c0 l0=>
            rw[hL] at hi ho';rw[show hp6 o'=some y from hi] at ho';cases ho';exact hy _ _ _ _ _ rfl
        have hqA:q≠A:=hA _ _ q6 fun _ _ _ _ _ e=>by cases e
        have hcA:x.nx+3+6≠A:=hA _ _ c6 fun _ _ _ _ _ e=>by cases e
        have hmo:m≠A:=hA _ _ m6 fun _ _ _ _ _ e=>by cases e
        have hiA:x.nx+3+8+6+7+25≠A:=hA _ _ i6 fun _ _ _ _ _ e=>by cases e
        have hsA:x.nx+3+8+6+7+27+6≠A:=by
          rw[eA];cases hL:(ordN x.N).map eGRef with
          |nil=>show x.nx+3+8+6+7+27+6≠x.nx+3+8+6+7+27+7;omega
          |cons _ _=>exact(hoB 6 (by omega)).symm
        have w7:=And.intro (show(q=accI (x.nx+3+8+6+7+27+7) o' ((ordN x.N).map eGRef))=False from eq_false (eA▸hqA)) (And.intro q6 (And.intro c6 (And.intro ho' (And.intro (show(o'=x.nx+3+8+6+7+27+6)=False from eq_false (hoB 6 (by omega))) (And.intro (show(q=x.nx+3+8+6+7+27+6)=False from eq_false (by omega)) (And.intro (show(x.nx+3+6=x.nx+3+8+6+7+27+6)=False from eq_false (by omega)) (show(x.N.length+1<=4294967296)=True from eq_true (by have:=hsm.2;simp only[List.length_map] at this;omega))))))))
        refine Z1 w7 ?_;rw[<-eA];have g1:nw4 q A (x.nx+3+6) (x.nx+3+8+6+7+27+6) q=1:=by simp[nw4]
        have g2:nw4 q A (x.nx+3+6) (x.nx+3+8+6+7+27+6) A=2:=by simp[nw4,Ne.symm hqA]
        have g3:nw4 q A (x.nx+3+6) (x.nx+3+8+6+7+27+6) (x.nx+3+6)=3:=by unfold nw4;rw[if_neg (by omega),if_neg hcA,if_pos rfl]
        have g4:nw4 q A (x.nx+3+6) (x.nx+3+8+6+7+27+6) (x.nx+3+8+6+7+27+6)=4:=by unfold nw4;rw[if_neg (by omega),if_neg hsA,if_neg (by omega),if_pos rfl]
        refine x2_ (nw4 q A (x.nx+3+6) (x.nx+3+8+6+7+27+6)) _ rfl (by simp only[List.reverse_cons,List.reverse_nil,List.nil_append,List.cons_append,List.map_cons,List.map_nil,vL_,g1,g2,g3,g4];rfl) (by rfl) ?_;refine Z0 ?_;generalize e7:upd q _ _=hp7;have lw:=qm_ h.new h.work;have hwA:nx+1+1≠A:=by
          rw[eA];rcases hN0:x.N with _ |⟨n1,N1⟩
          · show _≠x.nx+3+8+6+7+27+7
            omega
          · have h0:x.N≠[]:=by rw[hN0];exact fun h=>by cases h
            show nx+1+1≠o';rw[hoO h0];exact(h.sep h0).symm
        have hwm:nx+1+1≠m:=fun e=>by
          have e1:=h.work;rw[e,h.nodes.map] at e1;cases e1
        have hwq:nx+1+1≠q:=fun e=>by
          have e1:=h.work;rw[e,h.box] at e1;cases e1
        have q7:hp7 q=some (boxQ G s1 s2 s3 m A (accN x.over ((ordN x.N).map eGRef)) (x.N++[⟨⟨r,rk,dp,[],false⟩,x.nx+3+8+6+7+25,0,0⟩])):=by
          rw[<-e7,qd_,boxQ,xh_ (by simp)];simp
        have m7:hp7 m=some (.mo (mapN (x.N++[⟨⟨r,rk,dp,[],false⟩,x.nx+3+8+6+7+25,0,0⟩])) false):=by rw[<-e7,qb_ _ _ (Ne.symm hqm),qb_ _ _ hmo,qb_ _ _ (by omega),m6]
        have i7:hp7 (x.nx+3+8+6+7+25)=some (.bx [.v (.int .i64 rk),.d (.sl (dp.map eGRef)) false,.v (.slice none 0 0),.v (.bool false)]):=by rw[<-e7,qb_ _ _ (by omega),qb_ _ _ hiA,qb_ _ _ (by omega),i6]
        have c7:hp7 (x.nx+3+6)=some (.bx [.v (.string r.obj.type_),.v (.string r.obj.id_),.v (.string r.rel)]):=by rw[<-e7,qb_ _ _ (by omega),qb_ _ _ hcA,qb_ _ _ (by omega),c6]
        have w7:hp7 (nx+1+1)=some (.rw (x.es.map eGRef) 3 x.ver false false):=by rw[<-e7,qb_ _ _ hwq,qb_ _ _ hwA,qb_ _ _ (by omega),old6 _ lw hwm,h6]
        have hfd2:zw_ r (x.N++[⟨⟨r,rk,dp,[],false⟩,x.nx+3+8+6+7+25,0,0⟩])=some ⟨⟨r,rk,dp,[],false⟩,x.nx+3+8+6+7+25,0,0⟩:=dy_ hfd rfl;refine ZT 1 ?_;have hck:chk 3 (dp.map eGRef)=true:=ja_ (f:=eGRef) (fun _=>rfl) _
        refine Z1 (And.intro q7 (And.intro m7 (And.intro i7 (And.intro c7 (And.intro w7 (And.intro (xP_ hfd2) (And.intro (show(k<=x.es.length)=True from eq_true (by omega)) (And.intro hck (And.intro (Nat.sub_zero k) (show(k+dp.length<=4294967296)=True from eq_true (by have:=hsm.1;simp only[List.length_reverse,List.length_take] at this;omega))))))))))) ?_
        have g1:nw5 (nx+1+1) q m (x.nx+3+6) (x.nx+3+8+6+7+25) (nx+1+1)=1:=by simp[nw5]
        have g2:nw5 (nx+1+1) q m (x.nx+3+6) (x.nx+3+8+6+7+25) q=2:=by simp[nw5,Ne.symm hwq]
        have g3:nw5 (nx+1+1) q m (x.nx+3+6) (x.nx+3+8+6+7+25) m=3:=by simp[nw5,Ne.symm hwm,Ne.symm hqm]
        have g4:nw5 (nx+1+1) q m (x.nx+3+6) (x.nx+3+8+6+7+25) (x.nx+3+6)=4:=by unfold nw5;rw[if_neg (by omega),if_neg (by omega),if_neg (by omega),if_pos rfl]
        have g5:nw5 (nx+1+1) q m (x.nx+3+6) (x.nx+3+8+6+7+25) (x.nx+3+8+6+7+25)=5:=by unfold nw5;rw[if_neg (by omega),if_neg (by omega),if_neg (by omega),if_neg (by omega),if_pos rfl]
        refine x2_ (nw5 (nx+1+1) q m (x.nx+3+6) (x.nx+3+8+6+7+25)) _ rfl (by simp only[List.reverse_cons,List.reverse_nil,List.nil_append,List.cons_append,List.map_cons,List.map_nil,vL_,g1,g2,g3,g4,g5];rfl) (by rfl) ?_;refine Z0 ?_;have hnm:∀n∈x.N,hp7 n.id=some (boxN n):=fun n hn=>by
          have e1:=h.nodes.box n hn;have l1:=qm_ h.new e1;have n1:n.id≠m:=fun e=>by
            rw[e,h.nodes.map] at e1;cases e1
          have n2:n.id≠q:=fun e=>by
            rw[e,h.box] at e1;cases e1
          have n3:=hA n.id _ ((old6 _ l1 n1).trans e1) fun _ _ _ _ _ e=>by cases e
          rw[<-e7,qb_ _ _ n2,qb_ _ _ n3,qb_ _ _ (by omega),old6 _ l1 n1,e1]
        refine⟨⟨⟨_,_,x.N++[⟨⟨r,rk,dp,[],false⟩,x.nx+3+8+6+7+25,0,0⟩],A,accN x.over ((ordN x.N).map eGRef),x.ver+1,x.es.take k++dp,k+dp.length,f⟩,?_⟩,wkI (qa_ rfl (qa_ rfl (qh_ _))),by show f<x.c;omega⟩;have hAlt:A<x.nx+3+8+6+7+27+8/\(x.N= []->x.nx<=A)/\(x.N≠[]->A=x.oid):=by
          rw[eA];rcases hN0:x.N with _ |⟨n1,N1⟩
          · exact⟨by show x.nx+3+8+6+7+27+7<_;omega,fun _=>by show _<=x.nx+3+8+6+7+27+7;omega,fun h=>absurd rfl h⟩
          · have h0:x.N≠[]:=by rw[hN0];exact fun h=>by cases h
            have:=oN h0
            rw[<-hoO h0] at this;exact⟨by show o'<_;omega,fun h=>(by cases h),fun _=>hoO h0⟩
        have hlen:(x.es.take k).length=k:=by rw[List.length_take];omega
        exact{
                new:=fun j hj=>by
                  have hj:x.nx+3+8+6+7+27+11+12<=j:=hj
                  have:=hAlt.1
                  show upd (nx+1+1) _ hp7 j=none;rw[qb_ _ _ (by omega),<-e7,qb_ _ _ (by omega),qb_ _ _ (by omega),qb_ _ _ (by omega),n6 _ (by omega)]
                box:=(qb_ _ _ (Ne.symm hwq)).trans q7
                row:=fun _=>by
                  show upd (nx+1+1) _ hp7 A=_;rw[qb_ _ _ (Ne.symm hwA),<-e7,qb_ _ _ (Ne.symm hqA),qd_,wU_ (by simp)];simp
                work:=by
                  show upd (nx+1+1) _ hp7 (nx+1+1)=_;rw[qd_,List.map_append,List.map_take]
                len:=by
                  show k+dp.length<=(x.es.take k++dp).length;rw[List.length_append,hlen];exact Nat.le_refl _
                nodes:={
                           map:=(qb_ _ _ (Ne.symm hwm)).trans m7
                           box:=fun n hn=>by
                             have hw8:∀i (y:AO),hp7 i=some y->(∀es sz v b f,y≠ .rw es sz v b f)->upd (nx+1+1) (some (AO.rw (List.take k (List.map eGRef x.es)++List.map eGRef dp) 3 (x.ver+1) false false)) hp7 i=some y:=fun i y hi hy=>by
                               rw[qb_ _ _ fun e=>by
                                 rw[e,w7] at hi;cases hi;exact hy _ _ _ _ _ rfl]
                               exact hi
                             rcases List.mem_append.1 hn with hn |hn
                             · exact hw8 _ _ (hnm n hn) fun _ _ _ _ _ e=>by cases e
                             · rw[List.mem_singleton.1 hn]
                               exact hw8 _ _ i7 fun _ _ _ _ _ e=>by cases e
                           row:=fun n hn ha=>absurd (by
                             rcases List.mem_append.1 hn with hn |hn
                             · exact h.abo n hn
                             · rw[List.mem_singleton.1 hn]) ha
                           keys:=by
                             rw[List.map_append];refine List.nodup_append.2 ⟨h.nodes.keys,List.nodup_cons.2 ⟨List.not_mem_nil,List.nodup_nil⟩,fun a ha b hb=> ?_⟩;obtain⟨n1,h1,rfl⟩:=List.mem_map.1 ha;rw[List.mem_singleton.1 hb];exact go_ hfd n1 h1
                           ids:=by
                             rw[List.map_append];refine List.nodup_append.2 ⟨h.nodes.ids,List.nodup_cons.2 ⟨List.not_mem_nil,List.nodup_nil⟩,fun a ha b hb=> ?_⟩;obtain⟨n1,h1,rfl⟩:=List.mem_map.1 ha;rw[List.mem_singleton.1 hb]
                             have:=qm_ h.new (h.nodes.box n1 h1)
                             show n1.id≠x.nx+3+8+6+7+25;omega
                           rids:=fun n hn _ _ ha=>absurd (by
                             rcases List.mem_append.1 hn with hn |hn
                             · exact h.abo n hn
                             · rw[List.mem_singleton.1 hn]) ha }
                abo:=fun n hn=>by
                  rcases List.mem_append.1 hn with hn |hn
                  · exact h.abo n hn
                  · rw[List.mem_singleton.1 hn]
                small:=by
                  show k+dp.length<=_
                  have:=hsm.1
                  simp only[List.length_reverse,List.length_take] at this;omega
                sep:=fun _=>Ne.symm hwA
                own:=fun _=>by
                  show(N≠[]/\A=oid)\/nx<=A;rcases hN0:x.N with _ |⟨n1,N1⟩
                  · have:=hAlt.2.1 hN0
                    have:=h.nxs
                    exact .inr (by omega)
                  · have h0:x.N≠[]:=by rw[hN0];exact fun h=>by cases h
                    rw[hAlt.2.2 h0];exact h.own h0
                keep:=fun i hi hiq him hio=>by
                  have hi0:i<nx:=by
                    rcases Nat.lt_or_ge i nx with h |h
                    · exact h
                    · exact absurd (hf i h) hi
                  have hn0:=h.nxs;have hiA:i≠A:=by
                    rcases hN0:x.N with _ |⟨n1,N1⟩
                    · have:=hAlt.2.1 hN0
                      omega
                    · have h0:x.N≠[]:=by rw[hN0];exact fun h=>by cases h
                      rw[hAlt.2.2 h0];rcases h.own h0 with⟨h1,h2⟩ |h1
                      · rw[h2]
                        exact hio h1
                      · omega
                  show upd (nx+1+1) _ hp7 i=hp i;rw[qb_ _ _ (by omega),<-e7,qb_ _ _ hiq,qb_ _ _ hiA,qb_ _ _ (by omega),old6 i (by omega) him];exact h.keep i hi hiq him hio
                wnew:=h.wnew
                nxs:=by
                  have:=h.nxs
                  show nx<=x.nx+3+8+6+7+27+11+12;omega
                mod:=by
                  show zG_ (bo_ n G) f (pns (x.N++_)) (List.take (k+dp.length) (x.es.take k++dp)).reverse=some R;rw[List.take_of_length_le (by rw[List.length_append,hlen];exact Nat.le_refl _),List.reverse_append];simpa [pns] using hm }
      · refine Z1 (And.intro h9 (And.intro h10 (And.intro h.box (And.intro h.nodes.map (xP_ hfd))))) ?_
        refine qj_ (by rfl) ?_;refine Z0 ?_;refine ZT 1 ?_;refine Z0 ?_;simp only[zG_,jF_,hfd,Option.map_some,Option.isSome_some,if_true] at hm;generalize eh:upd (x.nx+3+6) _ _=hpf;have old:∀i,i<x.nx->hpf i=x.hp i:=fun i hi=>by rw[<-eh,qb_ _ _ (by omega),qb_ _ _ (by omega)]
        refine⟨⟨⟨_,_,x.N,x.oid,x.over,x.ver,x.es,k,f⟩,?_⟩,wkI (qa_ rfl (qa_ (by show AV.so _ _ 0 (k-0)=AV.so _ _ 0 k;rw[Nat.sub_zero]) (qh_ _))),by show f<x.c;omega⟩;have lr:x.N≠[]->x.oid<x.nx:=fun h0=>qm_ h.new ((h.row h0).trans (jc_ (by simpa using h0)));exact{
                new:=fun j hj=>by
                  have hj:x.nx+3+8+6+7<=j:=hj;show hpf j=none;rw[<-eh,qb_ _ _ (by omega),qb_ _ _ (by omega)];exact h.new j (by omega)
                box:=(old _ (qm_ h.new h.box)).trans h.box
                row:=fun h0=>(old _ (lr h0)).trans (h.row h0)
                work:=(old _ (qm_ h.new h.work)).trans h.work
                len:=by show k<=x.es.length;omega
                nodes:=h.nodes.more (old _ (qm_ h.new h.nodes.map)) (fun n hn=>old _ (qm_ h.new (h.nodes.box n hn))) fun n hn ha=>absurd (h.abo n hn) ha
                abo:=h.abo
                small:=by have:=h.small;show k<=_;omega
                sep:=h.sep
                own:=h.own
                keep:=fun i hi h1 h2 h3=>(old _ (by
                  rcases Nat.lt_or_ge i x.nx with h0 |h0
                  · exact h0
                  · have:=h.nxs
                    exact absurd (hf i (by omega)) hi)).trans (h.keep i hi h1 h2 h3)
                wnew:=h.wnew
                nxs:=by have:=h.nxs;show nx<=x.nx+3+8+6+7;omega
                mod:=hm }
def vK_ (_:Nat)(x:Int):Option Bool:=
 some (x != x)
theorem kM_ {n:Nat}{x:Int}{r:Bool}(H:vK_ n x=some r):PureOK Tryz.prog 125 [D.v (.int .i64 x)] (D.v (.bool r)) true:=by
 unfold vK_ at H;refine ZP qf_ fol (rs:= #[.tmp 2]) Tryz.func125 ?_;refine ZT 1 ?_;refine Z0 ?_;obtain rfl:=Zi H;exact ZE0
def vk_ (n:Nat)(x:Int)(y:Int):Option Int:=
 (vK_ n x).bind fun t8=>
 (vK_ n y).bind fun t10=>
 (if t8 then
  (if t10 then
   some 0
  else
   some (-1))
 else
  (if t10 then
   some 1
  else
   (if (decide (x<y)) then
    some (-1)
   else
    (if (decide (y<x)) then
     some 1
    else
     some 0))))
theorem uT_ {n:Nat}{x:Int}{y:Int}{r:Int}(H:vk_ n x y=some r):PureOK Tryz.prog 99 [D.v (.int .i64 x),D.v (.int .i64 y)] (D.v (.int .i64 r)) true:=by
 unfold vk_ at H;refine ZP qf_ fol (rs:= #[.tmp 4]) Tryz.func99 ?_;refine ZT 1 ?_;obtain⟨t8,b1,H2⟩:=zbi H;refine Z0 ?_;refine ZC0 (kM_ b1) ?_;obtain⟨t10,b3,H4⟩:=zbi H2;refine Z0 ?_;refine ZC0 (kM_ b3) ?_;refine Z0 ?_;rcases zit H4 with⟨c5,H6⟩ |⟨c5,H6⟩
 ·refine Z1 c5 ?_
  rcases zit H6 with⟨c7,H8⟩ |⟨c7,H8⟩
  ·refine Z1 (Y2 c5 c7) ?_
   obtain rfl:=Zi H8;exact ZE0
  ·refine Z1 (Y2 c5 c7) ?_
   obtain rfl:=Zi H8;exact ZE0
 ·refine Z1 c5 ?_
  rcases zit H6 with⟨c9,H10⟩ |⟨c9,H10⟩
  ·refine Z1 (Y2 c5 c9) ?_
   obtain rfl:=Zi H10;exact ZE0
  ·refine Z1 (Y2 c5 c9) ?_
   rcases zit H10 with⟨c11,H12⟩ |⟨c11,H12⟩
   ·refine Z1 (Y3 c5 c9 c11) ?_
    obtain rfl:=Zi H12;exact ZE0
   ·refine Z1 (Y3 c5 c9 c11) ?_
    rcases zit H12 with⟨c13,H14⟩ |⟨c13,H14⟩
    ·refine Z1 (Y4 c5 c9 c11 c13) ?_
     obtain rfl:=Zi H14;exact ZE0
    ·refine Z1 (Y4 c5 c9 c11 c13) ?_
     obtain rfl:=Zi H14;exact ZE0
def cmpI (x y:Int):Int:=if x<y then -1 else if y<x then 1 else 0
theorem sB_ (n:Nat)(x y:Int):vk_ n x y=some (cmpI x y):=by
 unfold vk_ vK_ cmpI;simp only[bne_self_eq_false,Zo,Bool.false_eq_true,if_false,decide_eq_true_eq];split
 ·rfl
 ·split<;>rfl
theorem cmp1 {hp:Hp}{nx q c m ida idb:Nat}{a b:GRef}{ba bb:Bool}{ra rb:Int}{g o x1 x2 x3 y1 y2 y3:AV}{s1 s2 s3:AV}{es:List (Value × AV)}{dl:Bool}
  (hc:hp c=some (.bx [.pt q 0])) (hq:hp q=some (.bx [g,s1,s2,s3,.mo m,o])) (hm:hp m=some (.mo es dl)) (la:NodeAt es a ida) (lb:NodeAt es b idb)
  (ha:hp ida=some (.bx [.v (.int .i64 ra),x1,x2,x3])) (hb:hp idb=some (.bx [.v (.int .i64 rb),y1,y2,y3])):
  InlOK Tryz.prog 98 [.d (.ag (eGRef a)) ba,.d (.ag (eGRef b)) bb,.pt c 0] hp nx fun v hp2 nx2=>v= .v (.int .i64 (cmpI ra rb))/\hp2=hp/\nx2=nx+3+20:=by
 refine InlOK.fresh (fun hf=> ?_) ⟨Tryz.f98,Tryz.func98,by kernel_rfl,by kernel_rfl⟩;refine qN_ qf_ fol Tryz.func98 (by rfl) (by kernel_rfl) (by kernel_rfl) (by exact Nat.le_of_ble_eq_true rfl) ?_
 have w:=And.intro (show(nx=nx+1)=False from eq_false (by omega))<|And.intro (jQ_ hf hc) (And.intro (jQ_ hf hq) (And.intro (jQ_ hf hm) (And.intro (jQ_ hf ha) (And.intro (jQ_ hf hb) (And.intro (zP_ hf hc) (And.intro (zP_ hf hq) (And.intro (zP_ hf hm) (And.intro (zP_ hf ha) (And.intro (zP_ hf hb) (And.intro hc (And.intro hq (And.intro hm (And.intro la (And.intro lb (And.intro ha hb)))))))))))))))
 refine Z1 w ?_;refine ZD0 (uT_ (sB_ 0 ra rb)) ?_;refine Z1 w ?_;refine qj_ (by rfl) ?_;refine Z1 w ?_;exact⟨_,hp,rfl,bl_ hf,rfl,rfl,rfl⟩
def CmpS {α:Type}(P:Program)(f:FuncId)(caps:List AV)(ld:α->AV)(S:α->Prop)(cf:α->α->Int)(ids:List Nat)(hp0:Hp):Prop:=
 ∀(x y:α),S x->S y->∀(nx:Nat),∃nx',nx<=nx'/\∀hp:Hp,(∀i∈ids,hp i=hp0 i)->InlOK P f ([ld x,ld y]++caps) hp nx fun v2 hp2 nx2=>v2= .v (.int .i64 (cf x y))/\hp2=hp/\nx2=nx'
theorem cX_ {hp:Hp}{q c m:Nat}{b:Bool}{g o s1 s2 s3:AV}{es:List (Value × AV)}{dl:Bool}{rk:GRef->Int}{ids:List Nat}
  (hc:hp c=some (.bx [.pt q 0])) (hq:hp q=some (.bx [g,s1,s2,s3,.mo m,o])) (hm:hp m=some (.mo es dl)):
  CmpS Tryz.prog 98 [.pt c 0] (fun r:GRef=>.d (.ag (eGRef r)) b) (fun r=>∃id x1 x2 x3,NodeAt es r id/\hp id=some (.bx [.v (.int .i64 (rk r)),x1,x2,x3])/\id∈ids) (fun a b=>cmpI (rk a) (rk b)) (c::q::m::ids) hp:=by
 rintro x y ⟨ia,x1,x2,x3,la,ha,ia2⟩ ⟨ib,y1,y2,y3,lb,hb,ib2⟩ nx;refine⟨nx+3+20,by omega,fun hp1 h1=> ?_⟩;exact cmp1 (by rw[h1 c (by simp)];exact hc) (by rw[h1 q (by simp)];exact hq) (by rw[h1 m (by simp)];exact hm) la lb (by rw[h1 ia (by simp[ia2])];exact ha) (by rw[h1 ib (by simp[ib2])];exact hb)
def ltC {α:Type}(cf:α->α->Int)(x y:α):Bool:=decide (cf x y<0)
def w6_ {α:Type}(lt:α->α->Bool):Nat->List α->Nat->Nat->Option (List α)
 |0,_,_,_=>none
 |_+1,xs,_,0=>some xs
 |f+1,xs,a,j+1=>if a<j+1 then(xs[j+1]?).bind fun x=>(xs[j]?).bind fun y=>if lt x y then w6_ lt f ((xs.set (j+1) y).set j x) a j else some xs else some xs
def vb_ {α:Type}(lt:α->α->Bool):Nat->List α->Nat->Nat->Nat->Option (List α)
 |0,_,_,_,_=>none
 |f+1,xs,a,i,b=>if i<b then(w6_ lt (f+1) xs a i).bind fun ys=>vb_ lt f ys a (i+1) b else some xs
theorem dz_ {α:Type}{lt:α->α->Bool}{a:Nat}:∀ {f:Nat} {xs ys:List α} {j:Nat},w6_ lt f xs a j=some ys->ys.length=xs.length
 |0,_,_,_,h=>by cases h
 |_+1,xs,_,0,h=>by cases h;rfl
 |f+1,xs,ys,j+1,h=>by
  unfold w6_ at h;split at h
  ·obtain⟨x,h1,h⟩:=zbi h
   obtain⟨y,h2,h⟩:=zbi h;split at h
   ·rw[dz_ h]
    simp
   ·cases h
    rfl
  ·cases h
   rfl
theorem pL_ {α:Type}{xs:List α}{i j:Nat}{x y z:α}(h1:xs[i]? =some x)(h2:xs[j]? =some y)(h:z∈(xs.set i y).set j x):z∈xs:=by
 rcases List.mem_or_eq_of_mem_set h with h |h
 ·rcases List.mem_or_eq_of_mem_set h with h |h
  ·exact h
  ·rw[h]
   exact List.mem_of_getElem? h2
 ·rw[h]
  exact List.mem_of_getElem? h1
theorem dA_ {α:Type}{lt:α->α->Bool}{a:Nat}{z:α}:∀ {f:Nat} {xs ys:List α} {j:Nat},w6_ lt f xs a j=some ys->z∈ys->z∈xs
 |0,_,_,_,h=>by cases h
 |_+1,xs,_,0,h=>by cases h;exact id
 |f+1,xs,ys,j+1,h=>by
  unfold w6_ at h;split at h
  ·obtain⟨x,h1,h⟩:=zbi h
   obtain⟨y,h2,h⟩:=zbi h;split at h
   ·exact fun hz=>pL_ h1 h2 (dA_ h hz)
   ·cases h
    exact id
  ·cases h
   exact id
abbrev rowA (xs:List GRef)(ver:Nat)(br:Bool):Option AO:=some (.rw (xs.map eGRef) 3 ver br false)
theorem w64 {n:Nat}(h:n<4611686018427387904):IntKind.i64.wrap (n:Int)=(n:Int):=IntWalk.i64_in _ (by omega)
theorem w64s {n:Nat}(h:n<4611686018427387904):IntKind.i64.wrap (((n+1:Nat):Int)-1)=(n:Int):=by
 rw[show(((n+1:Nat):Int)-1)=(n:Int) by omega];exact w64 h
theorem w64a {n:Nat}(h:n+1<4611686018427387904):IntKind.i64.wrap ((n:Int)+1)=((n+1:Nat):Int):=by
 rw[show(n:Int)+1=((n+1:Nat):Int) by omega];exact w64 h
theorem wkH {n nx:Nat}{fr fr':Fr}{hp hp':Hp}(e:hp'=hp)(h:∀t,fr' t= .un\/fr' t=fr t):WeakR n ⟨fr',hp',nx⟩ ⟨fr,hp,nx⟩:=by
 subst e;exact wkI h
section
variable {g:FuncId}{caps:List AV}{S:GRef->Prop}{cf:GRef->GRef->Int}{ids:List Nat}{hp0:Hp}{br:Bool}{i ver L:Nat}
set_option maxRecDepth 4000 in
theorem tj_ (hc:CmpS Tryz.prog g caps (fun r:GRef=>.d (.ag (eGRef r)) br) S cf ids hp0)(hi:i∉ids){xs R:List GRef}{f a b nx:Nat}{hp:Hp}(hh:∀j∈ids,hp j=hp0 j)(hx:hp i=rowA xs ver br)(hS:∀x∈xs,S x)(hL:xs.length=L)(ha:a<4611686018427387904-1)(hb:b<4611686018427387904)
  (hR:vb_ (ltC cf) f xs a (a+1) b=some R):
  InlOK Tryz.prog 128 [.so i ver 0 L,.v (.int .i64 (a:Int)),.v (.int .i64 (b:Int)),.fn g caps] hp nx fun v hp2 nx2=>v= .tu []/\hp2=upd i (rowA R ver br) hp/\nx<=nx2:=by
 refine qX_ qf_ Tryz.func128 (by rfl) (by kernel_rfl) (by kernel_rfl) (by exact Nat.le_of_ble_eq_true rfl) ?_;refine zsq (ZT 1 ?_);refine Z1 (w64a (show a+1<_ by omega)) ?_;refine zbk ?_;refine zlp (α:={ x:Nat × List GRef × Nat × Nat // nx<=x.2.2.1/\(∀y∈x.2.1,S y)/\x.2.1.length=L/\vb_ (ltC cf) x.2.2.2 x.2.1 a x.1 b=some R })
  (fun x=>⟨upd 0 (.so i ver 0 L) (upd 1 (.v (.int .i64 (a:Int))) (upd 2 (.v (.int .i64 (b:Int))) (upd 3 (.fn g caps) (upd 8 (.v (.int .i64 (x.1.1:Int))) noFr)))),upd i (rowA x.1.2.1 ver br) hp,x.1.2.2.1⟩) (fun x=>x.1.2.2.2) ⟨(a+1,xs,nx+3,f),by show nx<=nx+3;omega,hS,hL,hR⟩ ?_ ?_
 ·rw[qQ_ hx]
  exact wkI (qa_ rfl (qa_ rfl (qa_ rfl (qa_ rfl (qa_ rfl (qh_ _))))))
 ·rintro⟨⟨k,ys,nx1,f⟩,h1,h2,h3,h4⟩
  dsimp only at h1 h2 h3 h4;obtain⟨f,rfl⟩:∃f',f=f'+1:=by
   cases f with
   |zero=>cases h4
   |succ f=>exact⟨f,rfl⟩
  unfold vb_ at h4;refine zsq (zsq ?_);refine ZT 1 ?_;by_cases hk:k<b
  ·rw[if_pos hk] at h4
   obtain⟨zs,h4,h5⟩:=zbi h4;have c1:(decide ((k:Int)<(b:Int)))=true:=decide_eq_true (by omega);refine Z1 c1 ?_;refine ZT 1 ?_;refine Z0 ?_;refine zsq (zbk ?_);refine zsq (ZT 1 ?_);refine Z0 ?_;refine zbk ?_;refine zlp (α:={ x:Nat × List GRef × Nat × Nat // nx<=x.2.2.1/\x.1<b/\(∀y∈x.2.1,S y)/\x.2.1.length=L/\w6_ (ltC cf) x.2.2.2 x.2.1 a x.1=some zs })
    (fun x=>⟨upd 0 (.so i ver 0 L) (upd 1 (.v (.int .i64 (a:Int))) (upd 2 (.v (.int .i64 (b:Int))) (upd 3 (.fn g caps) (upd 8 (.v (.int .i64 (k:Int))) (upd 9 (.v (.int .i64 (x.1.1:Int))) noFr))))),upd i (rowA x.1.2.1 ver br) hp,x.1.2.2.1⟩) (fun x=>x.1.2.2.2) ⟨(k,ys,nx1+3+2,f+1),by show nx<=nx1+3+2;omega,hk,h2,h3,h4⟩ ?_ ?_
   ·exact wkI (qa_ rfl (qa_ rfl (qa_ rfl (qa_ rfl (qa_ rfl (qa_ rfl (qh_ _)))))))
   ·rintro⟨⟨j,us,nx2,f2⟩,g1,g0,g2,g3,g4⟩
    dsimp only at g0 g1 g2 g3 g4;obtain⟨f2,rfl⟩:∃f',f2=f'+1:=by
     cases f2 with
     |zero=>cases g4
     |succ f=>exact⟨f,rfl⟩
    refine zsq (zsq ?_);refine ZT 1 ?_;rcases j with _ |j
    ·have c2:(decide (((0:Nat):Int) > (a:Int)))=false:=decide_eq_false (by omega)
     have c3:(decide ((a:Int)<0))=false:=decide_eq_false (by omega);cases g4;refine Z1 (And.intro c2 c3) ?_;refine qj_ (by rfl) ?_;refine Z0 ?_;refine ZT 1 ?_;refine Z0 ?_;refine ZT 1 ?_;refine Z1 (w64a (show k+1<_ by omega)) ?_;refine⟨⟨(k+1,zs,_,f),?_,g2,g3,h5⟩,wkI (qa_ rfl (qa_ rfl (qa_ rfl (qa_ rfl (qa_ rfl (qh_ _)))))),Nat.lt_succ_self f⟩;show nx<=nx2+17+3
     omega
    ·by_cases hj:a<j+1
     ·have c2:(decide (((j+1:Nat):Int) > (a:Int)))=true:=decide_eq_true (by omega)
      have c3:(decide ((a:Int)<((j+1:Nat):Int)))=true:=decide_eq_true (by omega);unfold w6_ at g4;rw[if_pos hj] at g4;obtain⟨x,e1,g4⟩:=zbi g4;obtain⟨y,e2,g4⟩:=zbi g4;have l1:(j+1<L)=True:=eq_true (by have:=(List.getElem?_eq_some_iff.1 e1).1;omega);have l2:(j<L)=True:=eq_true (by have:=(List.getElem?_eq_some_iff.1 e2).1;omega)
      have w:=And.intro c2 (And.intro c3 (And.intro l1 (And.intro l2 (And.intro (w64s (show j<4611686018427387904 by omega)) (And.intro (qn_ eGRef e1) (qn_ eGRef e2))))));refine Z1 w ?_;obtain⟨nx3,q1,q2⟩:=hc x y (g2 x (List.mem_of_getElem? e1)) (g2 y (List.mem_of_getElem? e2)) (nx2+17);refine j1_ (δ:=[]) (q2 _ (ns_ hh hi)) ?_;refine Z0 ?_;refine qj_ (by rfl) ?_;refine Z0 ?_
      refine ZT 1 ?_;rcases hlt:ltC cf x y with _ |_
      ·rw[hlt] at g4
       cases g4;have c4:(decide (cf x y<0))=false:=hlt;refine Z1 c4 ?_;refine ZT 1 ?_;refine Z1 (w64a (show k+1<_ by omega)) ?_;refine⟨⟨(k+1,zs,_,f),?_,g2,g3,h5⟩,wkI (qa_ rfl (qa_ rfl (qa_ rfl (qa_ rfl (qa_ rfl (qh_ _)))))),Nat.lt_succ_self f⟩;show nx<=nx3+3;omega
      ·rw[hlt,if_pos rfl] at g4
       have c4:(decide (cf x y<0))=true:=hlt;refine Z1 c4 ?_;refine zsq (zbk ?_);refine ZT 1 ?_;have e3:((us.map eGRef).set (j+1) (eGRef y))[j]? =some (eGRef y):=by
        rw[List.getElem?_set_ne (by omega)];exact qn_ eGRef e2
       refine Z1 (And.intro w e3) ?_;refine qj_ (by rfl) ?_;refine Z0 ?_;refine ZT 1 ?_;refine Z1 (w64s (show j<4611686018427387904 by omega)) ?_;refine⟨⟨(j,(us.set (j+1) y).set j x,_,f2),?_,by show j<b;omega,fun z hz=>g2 z (pL_ e1 e2 hz),by simpa using g3,g4⟩,wkH ?_ (qa_ rfl (qa_ rfl (qa_ rfl (qa_ rfl (qa_ rfl (qa_ rfl (qh_ _))))))),Nat.lt_succ_self f2⟩
       ·show nx<=nx3+18+3
        omega
       ·rw[qI_,qI_]
        show upd i (some (.rw (((us.set (j+1) y).set j x).map eGRef) 3 ver br false)) hp=_;rw[List.map_set,List.map_set]
     ·have c2:(decide (((j+1:Nat):Int) > (a:Int)))=false:=decide_eq_false (by omega)
      have c3:(decide ((a:Int)<((j+1:Nat):Int)))=false:=decide_eq_false (by omega);unfold w6_ at g4;rw[if_neg hj] at g4;cases g4;refine Z1 (And.intro c2 c3) ?_;refine qj_ (by rfl) ?_;refine Z0 ?_;refine ZT 1 ?_;refine Z0 ?_;refine ZT 1 ?_;refine Z1 (w64a (show k+1<_ by omega)) ?_
      refine⟨⟨(k+1,zs,_,f),?_,g2,g3,h5⟩,wkI (qa_ rfl (qa_ rfl (qa_ rfl (qa_ rfl (qa_ rfl (qh_ _)))))),Nat.lt_succ_self f⟩;show nx<=nx2+17+3;omega
  ·rw[if_neg hk] at h4
   cases h4;have c1:(decide ((k:Int)<(b:Int)))=false:=decide_eq_false (by omega);refine Z1 c1 ?_;refine ZT 1 ?_;refine Z0 ?_;exact⟨_,_,rfl,⟨fun _=>.inr rfl⟩,rfl,rfl,by show nx<=nx1+3;omega⟩
end
section
variable {g:FuncId}{caps:List AV}{S:GRef->Prop}{cf:GRef->GRef->Int}{ids:List Nat}{hp0:Hp}{br:Bool}{i ver L:Nat}
end
structure GToken where
 kind:Int
 at_:Int
 text:ByteArray
 deriving DecidableEq,Inhabited
abbrev eGToken (x:GToken):List D:=[D.v (.int .i64 x.kind),D.v (.int .i64 x.at_),D.v (.string x.text)]
structure Ref6Reader where
 l:List GToken
 at_:Int
 long:Int
 e_:Int
 bad:Int
 deep:Int
 out:List GStep
 from_:Int
 deriving DecidableEq,Inhabited
structure Rdr where
 l:List GToken
 p:Nat
 long:Int
 e:Int
 bad:Int
 deep:Nat
 out:List GStep
 from_:Int
abbrev boxRd (x:Rdr)(bl:Bool)(ov:AV):AO:=.bx [.d (.sl (x.l.map eGToken)) bl,.v (.int .i64 (x.p:Int)),.v (.int .i64 x.long),.v (.int .i64 x.e),.v (.int .i64 x.bad),.v (.int .i64 (x.deep:Int)),ov,.v (.int .i64 x.from_)]
def kt_ (x:Rdr):Int:=match x.l[x.p]? with |some t=>t.at_ |none=>x.long
def isM (x:Rdr)(s:ByteArray):Bool:=match x.l[x.p]? with |some t=>t.kind==2&&t.text.toList==s.toList |none=>false
section
variable {x:Rdr}{bl:Bool}{ov:AV}{q nx:Nat}{hp:Hp}
theorem uh_ (hq:hp q=some (boxRd x bl ov))(_:x.l.length<4611686018427387904):InlOK Tryz.prog 84 [.pt q 0] hp nx fun v hp2 nx2=>v= .v (.int .i64 (kt_ x))/\hp2=hp/\nx<=nx2:=by
 refine qN_ qf_ fol Tryz.func84 (by rfl) (by kernel_rfl) (by kernel_rfl) (by exact Nat.le_of_ble_eq_true rfl) ?_;unfold kt_;by_cases h:x.p<x.l.length
 ·have c1:(decide ((x.p:Int)<(x.l.length:Int)))=true:=decide_eq_true (by omega)
  have e1:x.l[x.p]? =some x.l[x.p]:=List.getElem?_eq_getElem h;have e2:(x.l.map eGToken)[x.p]? =some [D.v (.int .i64 x.l[x.p].kind),D.v (.int .i64 x.l[x.p].at_),D.v (.string x.l[x.p].text)]:=qn_ eGToken e1;rw[e1];refine Z1 (And.intro hq (And.intro c1 e2)) ?_;refine qj_ (by rfl) ?_
  refine Z1 (And.intro hq (And.intro c1 (And.intro e2 (And.intro (zno .i64 (show(0:Int)<=(x.p:Int) by omega)) (show((x.p:Int)).toNat=x.p from Int.toNat_natCast _))))) ?_;refine qj_ (by rfl) ?_;refine Z0 ?_;exact⟨_,_,rfl,⟨fun _=>.inr rfl⟩,rfl,rfl,by show nx<=nx+1+10+12;omega⟩
 ·have c1:(decide ((x.p:Int)<(x.l.length:Int)))=false:=decide_eq_false (by omega)
  rw[List.getElem?_eq_none (by omega)];refine Z1 (And.intro hq c1) ?_;refine qj_ (by rfl) ?_;refine Z1 (And.intro hq c1) ?_;exact⟨_,_,rfl,⟨fun _=>.inr rfl⟩,rfl,rfl,by show nx<=nx+1+10+5;omega⟩
set_option maxRecDepth 8000 in
theorem w4_ {t:ByteArray}(hq:hp q=some (boxRd x bl ov))(_:x.l.length<4611686018427387904):InlOK Tryz.prog 56 [.pt q 0,.v (.string t)] hp nx fun v hp2 nx2=>v= .v (.bool (isM x t))/\hp2=hp/\nx<=nx2:=by
 refine qN_ qf_ fol Tryz.func56 (by rfl) (by kernel_rfl) (by kernel_rfl) (by exact Nat.le_of_ble_eq_true rfl) ?_;unfold isM;by_cases h:x.p<x.l.length
 ·have c1:(decide ((x.p:Int)<(x.l.length:Int)))=true:=decide_eq_true (by omega)
  have e1:x.l[x.p]? =some x.l[x.p]:=List.getElem?_eq_getElem h;have e2:(x.l.map eGToken)[x.p]? =some [D.v (.int .i64 x.l[x.p].kind),D.v (.int .i64 x.l[x.p].at_),D.v (.string x.l[x.p].text)]:=qn_ eGToken e1;have w:=And.intro hq (And.intro c1 (And.intro e2 (And.intro (zno .i64 (show(0:Int)<=(x.p:Int) by omega)) (show((x.p:Int)).toNat=x.p from Int.toNat_natCast _))))
  rw[e1];dsimp only;cases hk:(x.l[x.p].kind==2) with
  |true=>
   refine Z1 (And.intro hk w) ?_;refine qj_ (by rfl) ?_;refine Z0 ?_;exact⟨.v (.bool (x.l[x.p].text.toList==t.toList)),_,rfl,⟨fun _=>.inr rfl⟩,rfl,rfl,by show nx<=nx+1+40;omega⟩
  |false=>
   refine Z1 (And.intro hk w) ?_;refine qj_ (by rfl) ?_;refine Z0 ?_;exact⟨.v (.bool false),_,rfl,⟨fun _=>.inr rfl⟩,rfl,rfl,by show nx<=nx+1+40;omega⟩
 ·have c1:(decide ((x.p:Int)<(x.l.length:Int)))=false:=decide_eq_false (by omega)
  rw[List.getElem?_eq_none (by omega)];refine Z1 (And.intro hq c1) ?_;refine qj_ (by rfl) ?_;refine Z0 ?_;exact⟨_,_,rfl,⟨fun _=>.inr rfl⟩,rfl,rfl,by show nx<=nx+1+40;omega⟩
def j4_ (x:Rdr)(c:Int):Rdr:=if x.e==0 then{ x with e:=c,bad:=kt_ x } else x
theorem zM_ {c:Int}(hq:hp q=some (boxRd x bl ov))(hl:x.l.length<4611686018427387904):InlOK Tryz.prog 54 [.pt q 0,.v (.int .i64 c)] hp nx fun v hp2 nx2=>v= .tu []/\hp2=upd q (some (boxRd (j4_ x c) bl ov)) hp/\nx<=nx2:=by
 refine qN_ qf_ fol Tryz.func54 (by rfl) (by kernel_rfl) (by kernel_rfl) (by exact Nat.le_of_ble_eq_true rfl) ?_;unfold j4_;cases he:(x.e==0) with
 |true=>
  rw[if_pos rfl];refine Z1 (And.intro hq he) ?_;refine qe_ ((uh_ hq hl).mono ?_);rintro v hp2 nx2 ⟨rfl,rfl,hle⟩;dsimp only at hle;refine Z1 hq ?_;exact⟨_,_,rfl,⟨fun _=>.inr rfl⟩,rfl,by show upd q _ (upd q _ hp2)=upd q _ hp2;rw[qI_],by dsimp only;omega⟩
 |false=>
  rw[if_neg (by decide)];refine Z1 (And.intro hq he) ?_;exact⟨_,_,rfl,⟨fun _=>.inr rfl⟩,rfl,(qQ_ hq).symm,by show nx<=nx+5;omega⟩
def j9_ (x:Rdr)(t:ByteArray):Rdr:=if x.e==0 then(if isM x t then{ x with p:=x.p+1 } else j4_ x 9) else x
theorem wv_ {t:ByteArray}(hq:hp q=some (boxRd x bl ov))(hl:x.l.length<4611686018427387904)(hp1:x.p<4611686018427387903):InlOK Tryz.prog 58 [.pt q 0,.v (.string t)] hp nx fun v hp2 nx2=>v= .tu []/\hp2=upd q (some (boxRd (j9_ x t) bl ov)) hp/\nx<=nx2:=by
 refine qN_ qf_ fol Tryz.func58 (by rfl) (by kernel_rfl) (by kernel_rfl) (by exact Nat.le_of_ble_eq_true rfl) ?_;unfold j9_;cases he:(x.e==0) with
 |true=>
  have he2:(x.e != 0)=false:=by rw[bne,he];rfl
  rw[if_pos rfl];refine Z1 (And.intro hq he2) ?_;refine qe_ ((w4_ hq hl).mono ?_);rintro v hp2 nx2 ⟨rfl,rfl,hle⟩;dsimp only at hle;cases hi:isM x t with
  |true=>
   rw[if_pos rfl];refine Z1 (And.intro hq (w64a (n:=x.p) (by omega))) ?_;trace_state
   exact⟨_,_,rfl,⟨fun _=>.inr rfl⟩,rfl,rfl,by dsimp only;omega⟩
  |false=>
   rw[if_neg (by decide)];refine Z0 ?_;refine qe_ ((zM_ hq hl).mono ?_);rintro v hp3 nx3 ⟨rfl,rfl,hle3⟩;dsimp only at hle3;refine Z0 ?_;exact⟨_,_,rfl,⟨fun _=>.inr rfl⟩,rfl,rfl,by dsimp only;omega⟩
 |false=>
  have he2:(x.e != 0)=true:=by rw[bne,he];rfl
  rw[if_neg (by decide)];refine Z1 (And.intro hq he2) ?_;exact⟨_,_,rfl,⟨fun _=>.inr rfl⟩,rfl,(qQ_ hq).symm,by dsimp only;omega⟩
end
end Go.Proofs.YtnmkbmefohakmaaGreat.Ab
