/-
 Whether a subject is in a relation of an object: what it comes to, for any graph.
-/
import Derived.Test.YtnmkbmefohakmaaGreatSku
namespace Go.Proofs.YtnmkbmefohakmaaGreat.Ab
open Go.RowKit
section
variable {α:Type}{rk:α->Int}{lt:α->α->Bool}(hlt:∀x y,lt x y=decide (rk x<rk y))
include hlt in
theorem hF_ {P:List α}:∀(j f:Nat) (A:List α) (x:α) (C:List α),A.length=j->(A.Pairwise fun a b=>rk a<=rk b)->j<f->∃B,w6_ lt f (P++(A++x::C)) P.length (P.length+j)=some (P++(B++C))/\B.Perm (A++[x])/\(B.Pairwise fun a b=>rk a<=rk b)
 |_,0,_,_,_,_,_,h=>absurd h (Nat.not_lt_zero _)
 |0,f+1,A,x,C,hA,hp,_=>by
  have:A= []:=List.length_eq_zero_iff.1 hA
  subst this;refine⟨[x],?_,.refl _,List.pairwise_singleton _ _⟩;show w6_ lt (f+1) _ _ P.length=_;cases P with
  |nil=>rfl
  |cons p P=>
   rw[List.length_cons];unfold w6_;rw[if_neg (Nat.lt_irrefl _)];rfl
 |j+1,f+1,A,x,C,hA,hp,hf=>by
  obtain⟨A',y,rfl⟩:∃A' y,A=A'++[y]:=⟨A.dropLast,A.getLast (fun e=>by rw[e] at hA;cases hA),(List.dropLast_concat_getLast _).symm⟩;have hA':A'.length=j:=by simpa using hA
  rw[List.pairwise_append] at hp;obtain⟨p1,_,p3⟩:=hp;have e1:P++((A'++[y])++x::C)=(P++A'++[y])++x::C:=by simp
  have e2:(P++A'++[y])++x::C=(P++A')++y::(x::C):=by simp
  have e3:(P++A'++[y])++y::C=(P++A')++y::(y::C):=by simp
  show ∃B,w6_ lt (f+1) _ P.length (P.length+j+1)=_/\_;unfold w6_;rw[if_pos (by omega),e1,kO_ (by simp[hA'];omega),Zo,e2,kO_ (by simp[hA']),Zo,hlt,<-e2];by_cases h:rk x<rk y
  ·rw[if_pos (by simpa using h),vN_ (by simp[hA'];omega),e3,vN_ (by simp[hA']),show P++A'++x::y::C=P++(A'++x::(y::C)) by simp]
   obtain⟨B,q1,q2,q3⟩:=hF_ j f A' x (y::C) hA' p1 (by omega);refine⟨B++[y],by rw[q1];simp,?_,?_⟩
   ·refine(q2.append_right [y]).trans ?_
    rw[List.append_assoc,List.append_assoc];exact List.Perm.append_left A' (List.Perm.swap y x [])
   ·rw[List.pairwise_append]
    refine⟨q3,List.pairwise_singleton _ _,fun a ha b hb=> ?_⟩;rw[List.mem_singleton.1 hb];rcases List.mem_append.1 (q2.mem_iff.1 ha) with ha |ha
    ·exact p3 a ha y (List.mem_singleton.2 rfl)
    ·rw[List.mem_singleton.1 ha]
     omega
  ·rw[if_neg (by simpa using h)]
   refine⟨(A'++[y])++[x],by simp,.refl _,?_⟩;rw[List.pairwise_append];refine⟨List.pairwise_append.2 ⟨p1,List.pairwise_singleton _ _,p3⟩,List.pairwise_singleton _ _,fun a ha b hb=> ?_⟩;rw[List.mem_singleton.1 hb];rcases List.mem_append.1 ha with ha |ha
   ·have:=p3 a ha y (List.mem_singleton.2 rfl)
    omega
   ·rw[List.mem_singleton.1 ha]
    omega
include hlt in
theorem dL_ {P Z:List α}:∀(C A:List α) (f:Nat),(A.Pairwise fun a b=>rk a<=rk b)->A.length+2*C.length<f->∃B,vb_ lt f (P++(A++(C++Z))) P.length (P.length+A.length) (P.length+A.length+C.length)=some (P++(B++Z))/\B.Perm (A++C)/\(B.Pairwise fun a b=>rk a<=rk b)
 |_,_,0,_,h=>absurd h (Nat.not_lt_zero _)
 |[],A,f+1,hp,_=>by
  refine⟨A,?_,by simp,hp⟩;unfold vb_;rw[if_neg (by simp),List.nil_append]
 |x::C,A,f+1,hp,hf=>by
  simp only[List.length_cons] at hf;obtain⟨B,q1,q2,q3⟩:=hF_ (P:=P) hlt A.length (f+1) A x (C++Z) rfl hp (by omega);have hB:B.length=A.length+1:=by rw[q2.length_eq,List.length_append];rfl
  obtain⟨ys,r1,r2,r3⟩:=dL_ (P:=P) (Z:=Z) C B f q3 (by omega);refine⟨ys,?_,r2.trans ((q2.append_right C).trans (by simp)),r3⟩;unfold vb_;rw[if_pos (by simp),show A++(x::C++Z)=A++x::(C++Z) from rfl,q1,Zo];rw[hB] at r1;rw[List.length_cons,show P.length+A.length+(C.length+1)=P.length+(A.length+1)+C.length by omega];exact r1
include hlt in
theorem tm_ {P C Z:List α}{f:Nat}(hf:2*C.length+1<f):∃B,vb_ lt f (P++(C++Z)) P.length (P.length+1) (P.length+C.length)=some (P++(B++Z))/\B.Perm C/\(B.Pairwise fun a b=>rk a<=rk b):=by
 cases C with
 |nil=>
  obtain⟨f,rfl⟩:∃g,f=g+1:=⟨f-1,by omega⟩;refine⟨[],?_,.refl _,List.Pairwise.nil⟩;unfold vb_;rw[if_neg (by simp)]
 |cons x C=>
  simp only[List.length_cons] at hf
  have:=dL_ (P:=P) (Z:=Z) hlt C [x] f (List.pairwise_singleton _ _) (by simp only[List.length_singleton];omega)
  rw[List.length_singleton,show P.length+1+C.length=P.length+(C.length+1) by omega] at this;exact this
inductive Blk (rk:α->Int) (bs:Nat):List α->Prop
 |last {T:List α} (h:T.length<=bs) (hT:T.Pairwise fun a b=>rk a<=rk b):Blk rk bs T
 |cons {B Q:List α} (h:B.length=bs) (hB:B.Pairwise fun a b=>rk a<=rk b) (hQ:Blk rk bs Q):Blk rk bs (B++Q)
theorem Blk.front {bs:Nat}{Q:List α}(h:Blk rk bs Q)(hl:bs<=Q.length):∃B Q',Q=B++Q'/\B.length=bs/\(B.Pairwise fun a b=>rk a<=rk b)/\Blk rk bs Q':=by
 cases h with
 |last h hT=>exact⟨Q,[],by simp,by omega,hT,.last (Nat.zero_le _) List.Pairwise.nil⟩
 |cons h hB hQ=>exact⟨_,_,rfl,h,hB,hQ⟩
theorem Blk.small {bs:Nat}{Q:List α}(h:Blk rk bs Q)(hl:Q.length<=bs):Q.Pairwise fun a b=>rk a<=rk b:=by
 cases h with
 |last h hT=>exact hT
 |cons h hB hQ=>
  rename_i B Q';rw[List.length_append] at hl
  have:Q'= []:=List.length_eq_zero_iff.1 (by omega)
  rw[this,List.append_nil];exact hB
include hlt in
theorem dM_ {F:Nat}:∀(c:Nat) (P Q:List α),Q.length<c->41<F->∃Q1 Q2,blkM lt F c (P++Q) P.length (P.length+20)=some (P++(Q1++Q2),P.length+Q1.length)/\(Q1++Q2).Perm Q/\Q2.length<20/\∀T:List α,T.length<=20->(T.Pairwise fun a b=>rk a<=rk b)->Blk rk 20 (Q1++T)
 |0,_,_,h,_=>absurd h (Nat.not_lt_zero _)
 |c+1,P,Q,hc,hF=>by
  unfold blkM;rw[List.length_append];by_cases h:P.length+20<=P.length+Q.length
  ·rw[if_pos h]
   have hC:(Q.take 20).length=20:=by rw[List.length_take];omega
   obtain⟨B,b1,b2,b3⟩:=tm_ (P:=P) (C:=Q.take 20) (Z:=Q.drop 20) (f:=F) hlt (by omega);rw[List.take_append_drop,hC] at b1;have hB:B.length=20:=by rw[b2.length_eq,hC]
   obtain⟨Q1,Q2,q1,q2,q3,q4⟩:=dM_ (F:=F) c (P++B) (Q.drop 20) (by rw[List.length_drop];omega) hF;rw[List.length_append,hB,List.append_assoc] at q1;refine⟨B++Q1,Q2,?_,?_,q3,fun T h1 h2=>by rw[List.append_assoc];exact .cons hB b3 (q4 T h1 h2)⟩
   ·rw[b1,Zo,q1,List.length_append,hB]
    simp only[List.append_assoc,Nat.add_assoc]
   ·rw[List.append_assoc]
    refine(b2.append q2).trans ?_;rw[List.take_append_drop]
  ·rw[if_neg h]
   exact⟨[],Q,by simp,.refl _,by omega,fun T h1 h2=>.last h1 h2⟩
include hlt in
theorem dN_ {F bs:Nat}(hbs:0<bs):∀(c:Nat) (P Q:List α),Blk rk bs Q->Q.length<c->Q.length<=F->∃Q1 Q2,mrgM lt F bs c (P++Q) P.length (P.length+2*bs)=some (P++(Q1++Q2),P.length+Q1.length)/\(Q1++Q2).Perm Q/\Q2.length<2*bs/\Blk rk bs Q2/\∀T:List α,T.length<=2*bs->(T.Pairwise fun a b=>rk a<=rk b)->Blk rk (2*bs) (Q1++T)
 |0,_,_,_,h,_=>absurd h (Nat.not_lt_zero _)
 |c+1,P,Q,hQ,hc,hF=>by
  unfold mrgM;rw[List.length_append];by_cases h:P.length+2*bs<=P.length+Q.length
  ·rw[if_pos h]
   obtain⟨B1,Q',rfl,l1,s1,hQ'⟩:=hQ.front (by omega);rw[List.length_append] at h hc hF;obtain⟨B2,Q'',rfl,l2,s2,hQ''⟩:=hQ'.front (by omega);rw[List.length_append] at h hc hF;obtain⟨B,b1,b2,b3⟩:=ka_ hlt F P B1 B2 Q'' (by omega) (by omega) (by omega) s1 s2;have hB:B.length=2*bs:=by rw[b2.length_eq,List.length_append];omega
   rw[l1,l2,show P.length+bs+bs=P.length+2*bs by omega] at b1;obtain⟨Q1,Q2,q1,q2,q3,q4,q5⟩:=dN_ (F:=F) hbs c (P++B) Q'' hQ'' (by omega) (by omega);rw[List.length_append,hB,List.append_assoc] at q1;refine⟨B++Q1,Q2,?_,?_,q3,q4,fun T h1 h2=>by rw[List.append_assoc];exact .cons hB b3 (q5 T h1 h2)⟩
   ·rw[b1,Zo,q1,List.length_append,hB]
    simp only[List.append_assoc,Nat.add_assoc]
   ·rw[List.append_assoc]
    refine(b2.append q2).trans ?_;rw[List.append_assoc]
  ·rw[if_neg h]
   exact⟨[],Q,by simp,.refl _,by omega,hQ,fun T h1 h2=>.last h1 h2⟩
include hlt in
theorem dO_ {F:Nat}:∀(c bs:Nat) (xs:List α),0<bs->Blk rk bs xs->xs.length-bs<c->xs.length<=F->∃ys,rndM lt F c xs bs=some ys/\ys.Perm xs/\(ys.Pairwise fun a b=>rk a<=rk b)
 |0,_,_,_,_,h,_=>absurd h (Nat.not_lt_zero _)
 |c+1,bs,xs,hbs,hx,hc,hF=>by
  unfold rndM;by_cases h:bs<xs.length
  ·rw[if_pos h]
   obtain⟨Q1,Q2,q1,q2,q3,q4,q5⟩:=dN_ (F:=F) hlt hbs (xs.length+1) [] xs hx (by omega) hF;simp only[List.nil_append,List.length_nil,Nat.zero_add] at q1;have hl:Q1.length+Q2.length=xs.length:=by rw[<-q2.length_eq,List.length_append]
   rw[q1,Zo];dsimp only;rw[List.length_append];obtain⟨T,t1,t2,t3⟩:∃T,(if Q1.length+bs<Q1.length+Q2.length then symM lt F (Q1++Q2) Q1.length (Q1.length+bs) (Q1.length+Q2.length) else some (Q1++Q2))=some (Q1++T)/\T.Perm Q2/\(T.Pairwise fun a b=>rk a<=rk b):=by
    split
    ·obtain⟨B,Q',rfl,l1,s1,hQ'⟩:=q4.front (by omega)
     rw[List.length_append] at q3 hl;rename_i hh;rw[List.length_append] at hh;obtain⟨T,b1,b2,b3⟩:=ka_ hlt F Q1 B Q' [] (by omega) (by omega) (by omega) s1 (hQ'.small (by omega));rw[l1,List.append_nil,List.append_nil] at b1;refine⟨T,?_,b2,b3⟩;rw[List.length_append,l1,<-Nat.add_assoc];exact b1
    ·exact⟨Q2,rfl,.refl _,q4.small (by omega)⟩
   rw[t1,Zo];have lT:=t2.length_eq;obtain⟨ys,r1,r2,r3⟩:=dO_ (F:=F) c (bs*2) (Q1++T) (by omega) (by rw[Nat.mul_comm];exact q5 T (by omega) t3) (by rw[List.length_append];omega) (by rw[List.length_append];omega);exact⟨ys,r1,r2.trans ((t2.append_left Q1).trans q2),r3⟩
  ·rw[if_neg h]
   exact⟨xs,rfl,.refl _,hx.small (by omega)⟩
include hlt in
theorem pZ_ {F:Nat}(xs:List α)(hF:xs.length<=F)(hF2:41<F):∃ys,sstM lt F xs=some ys/\ys.Perm xs/\(ys.Pairwise fun a b=>rk a<=rk b):=by
 obtain⟨Q1,Q2,q1,q2,q3,q4⟩:=dM_ (F:=F) hlt (xs.length+1) [] xs (by omega) hF2;simp only[List.nil_append,List.length_nil,Nat.zero_add] at q1;have hl:Q1.length+Q2.length=xs.length:=by rw[<-q2.length_eq,List.length_append]
 obtain⟨T,t1,t2,t3⟩:=tm_ (P:=Q1) (C:=Q2) (Z:=[]) (f:=F) hlt (by omega);rw[List.append_nil,List.append_nil] at t1;have lT:=t2.length_eq;obtain⟨ys,r1,r2,r3⟩:=dO_ (F:=F) hlt (xs.length+1) 20 (Q1++T) (by omega) (q4 T (by omega) t3) (by rw[List.length_append];omega) (by rw[List.length_append];omega);refine⟨ys,?_,r2.trans ((t2.append_left Q1).trans q2),r3⟩
 unfold sstM;rw[q1,Zo];dsimp only;rw[List.length_append,t1,Zo];exact r1
end
def stepM (n:Nat)(G:SeekGraph)(ob:GObj)(N:List PN)(x:GStep)(st:List Bool):Option (Option (List Bool)):=
  if x.kind==1||x.kind==2 then(pK_ n G ob x).bind fun l=>if l.all (fun d=>(jd_ d N).isSome)&&decide (l.length<4294967296)&&decide (st.length<4294967296) then some (some (st++[l.any (fun d=>((jd_ d N).map (·.is)).getD false)])) else none
  else if st.length<2 then some none
  else some (some (st.take (st.length-2)++[if x.kind==3 then st.getD (st.length-2) false||st.getD (st.length-1) false else if x.kind==5 then st.getD (st.length-2) false&&st.getD (st.length-1) false else st.getD (st.length-2) false&& !st.getD (st.length-1) false]))
def w7_ (n:Nat)(G:SeekGraph)(ob:GObj)(N:List PN):List GStep->List Bool->Option Bool
  |[],st=>some (st.length==1&&st.getD 0 false)
  |x::l,st=>(stepM n G ob N x st).bind fun r=>match r with
    |none=>some false
    |some st=>w7_ n G ob N l st
structure TS where
  k:Nat
  hp:Hp
  nx:Nat
  st:List Bool
  rid:Nat
  ver:Nat
  es:List Bool
structure TInv (n:Nat) (G:SeekGraph) (ob:GObj) (N:List PN) (l:List GStep) (hp0:Hp) (nx0:Nat) (r:Bool) (x:TS):Prop where
  new:∀j,x.nx<=j->x.hp j=none
  old:∀i,i<nx0->x.hp i=hp0 i
  ob_:x.hp nx0=some (.bx [.v (.string ob.type_),.v (.string ob.id_)])
  row:x.st≠[]->x.hp x.rid=some (.rw (x.es.map eB) 1 x.ver false false)/\x.es.take x.st.length=x.st/\x.st.length<=x.es.length/\nx0<x.rid
  le:x.k<=l.length
  nxs:nx0<x.nx
  small:x.st.length<=4294967296
  mod:w7_ n G ob N (l.drop x.k) x.st=some r
set_option maxRecDepth 4000 in
theorem sH_ {hp:Hp}{nx q m n:Nat}{G:SeekGraph}{ob:GObj}{l:List GStep}{bl r:Bool}{s1 s2 s3 o vo:AV}{N:List Nd}(hf:∀j,nx<=j->hp j=none)
    (hq:hp q=some (.bx [.d (.pt (eSeekGraph G) 0) true,s1,s2,s3,.mo m,o])) (hN:InvN hp m N) (hvo:qP_ vo=some [.v (.string ob.type_),.v (.string ob.id_)]) (hl:l.length<4611686018427387904) (hr:w7_ n G ob (pns N) l []=some r):
    InlOK Tryz.prog 126 [.pt q 0,vo,.d (.sl (l.map eGStep)) bl] hp nx fun v hp2 nx2=>v= .v (.bool r)/\hp2=hp/\nx<=nx2:=by
  refine qX_ qf_ Tryz.func126 (by rfl) (by kernel_rfl) (by kernel_rfl) (by exact Nat.le_of_ble_eq_true rfl) ?_;refine zsq (ZT 1 ?_);refine Z1 hvo ?_;refine zsq (ZT 1 ?_);refine Z0 ?_;refine zsq (zsq ?_);refine ZT 1 ?_;refine Z0 ?_;refine zbk ?_
  refine zlp (α:={ x:TS // TInv n G ob (pns N) l hp nx r x }) (fun x=>⟨upd 0 (.pt q 0) (upd 4 (.pt nx 0) (upd 7 (accV x.1.rid x.1.ver (x.1.st.map eB)) (upd 13 (.d (.sl (l.map eGStep)) bl) (upd 14 (.v (.int .i64 (l.length:Int))) (upd 15 (.v (.int .i64 (x.1.k:Int))) noFr))))),x.1.hp,x.1.nx⟩) (fun x=>l.length-x.1.k)
    ⟨⟨0,upd nx (some (.bx [.v (.string ob.type_),.v (.string ob.id_)])) hp,nx+2+1+3,[],0,0,[]⟩,?_⟩ ?_ ?_
  · exact{
            new:=fun j hj=>by
              have hj:nx+2+1+3<=j:=hj;show upd nx _ hp j=none;rw[qb_ _ _ (by omega)];exact hf j (by omega)
            old:=fun i hi=>qb_ _ _ (by omega)
            ob_:=qd_ ..
            row:=fun h=>absurd rfl h
            le:=Nat.zero_le _
            nxs:=by show nx<nx+2+1+3;omega
            small:=Nat.zero_le _
            mod:=hr }
  · exact wkI (qa_ rfl (qa_ rfl (qa_ rfl (qa_ rfl (qa_ rfl (qa_ rfl (qh_ _)))))))
  · rintro⟨x,h⟩
    have hq1:x.hp q=some (.bx [.d (.pt (eSeekGraph G) 0) true,s1,s2,s3,.mo m,o]):=(h.old _ (qm_ hf hq)).trans hq;have hN1:InvN x.hp m N:=hN.more (h.old _ (qm_ hf hN.map)) (fun nd hn=>h.old _ (qm_ hf (hN.box nd hn))) fun nd hn ha=>h.old _ (qm_ hf ((hN.row nd hn ha).trans (jc_ ha)));have hm:=h.mod;refine zsq (ZT 1 ?_);by_cases hk:x.k<l.length
    · have c1:(decide ((x.k:Int)<(l.length:Int)))=true:=decide_eq_true (by omega)
      refine Z1 c1 ?_;refine zsq (ZT 1 ?_);refine Z0 ?_;refine zsq (zbk ?_);refine zsq ?_;obtain⟨g,hg⟩:∃g,l[x.k]? =some g:=⟨_,List.getElem?_eq_getElem hk⟩;rw[List.drop_eq_getElem_cons hk,show l[x.k]=g from(List.getElem?_eq_some_iff.1 hg).2] at hm;unfold w7_ at hm;obtain⟨res,hs,hm⟩:=zbi hm;refine ZT 1 ?_;refine Z1 (qn_ eGStep hg) ?_
      generalize e1:(upd (x.nx+1+2) (some _) _:Hp)=hp1;have old1:∀i,i<x.nx->hp1 i=x.hp i:=fun i hi=>by rw[<-e1,qb_ _ _ (by omega),qb_ _ _ (by omega)]
      have new1:∀j,x.nx+1+4<=j->hp1 j=none:=fun j hj=>by rw[<-e1,qb_ _ _ (by omega),qb_ _ _ (by omega)];exact h.new j (by omega)
      have b1:hp1 (x.nx+1+2)=some (.bx [.v (.int .i64 g.kind),.v (.string g.a),.v (.string g.b)]):=by rw[<-e1,qd_]
      have o1:hp1 nx=some (.bx [.v (.string ob.type_),.v (.string ob.id_)]):=(old1 _ h.nxs).trans h.ob_;have q1:hp1 q=some (.bx [.d (.pt (eSeekGraph G) 0) true,s1,s2,s3,.mo m,o]):=(old1 _ (qm_ h.new hq1)).trans hq1
      have N1:InvN hp1 m N:=hN1.more (old1 _ (qm_ h.new hN1.map)) (fun nd hn=>old1 _ (qm_ h.new (hN1.box nd hn))) fun nd hn ha=>old1 _ (qm_ h.new ((hN1.row nd hn ha).trans (jc_ ha)));have old0:∀i,i<nx->hp1 i=hp i:=fun i hi=>(old1 i (by have:=h.nxs;omega)).trans (h.old i hi)
      have hsv:(x.st= []/\accV x.rid x.ver (x.st.map eB)= .v (.slice none 0 0))\/(x.st≠[]/\accV x.rid x.ver (x.st.map eB)= .so x.rid x.ver 0 x.st.length/\hp1 x.rid=some (.rw (x.es.map eB) 1 x.ver false false)):=by
        by_cases h0:x.st= []
        · exact .inl ⟨h0,by rw[h0];rfl⟩
        · have hr:=(h.row h0).1
          exact .inr ⟨h0,xh_ (List.length_pos_iff.2 h0),(old1 _ (qm_ h.new hr)).trans hr⟩
      by_cases hlf:(g.kind==1||g.kind==2)=true
      · unfold stepM at hs
        rw[if_pos hlf] at hs;obtain⟨ds,hd,hs⟩:=zbi hs;split at hs;rotate_left
        · cases hs
        rename_i hok;rw[Bool.and_eq_true,Bool.and_eq_true,List.all_eq_true] at hok;cases hs;have hm:w7_ n G ob (pns N) (l.drop (x.k+1)) (x.st++[ds.any fun d=>((jd_ d (pns N)).map (·.is)).getD false])=some r:=hm
        have at1:NodesAt hp1 (mapN N) (fun r=>((jd_ r (pns N)).map (·.is)).getD false) ds:=N1.at_ fun d hd=>by
          have:=hok.1.1 d hd
          rw[jF_] at this;simpa using this
        have hdl:ds.length<4611686018427387904:=by
          have:=of_decide_eq_true hok.1.2
          omega
        have hsl:x.st.length<4294967296:=of_decide_eq_true hok.2;rcases hsv with⟨h0,hsv⟩ |⟨h0,hsv,hrow⟩
        · refine zsq (ZT 1 ?_)
          refine Z1 hsv ?_;refine zsq (zsq ?_);refine ZT 1 ?_;rcases hk1:(g.kind==1) with _ |_
          · have hk2:(g.kind==2)=true:=by rw[hk1,Bool.false_or] at hlf;exact hlf
            refine Z1 (And.intro b1 (And.intro hk1 hk2)) ?_;refine qs_ (c:=true) rfl rfl ?_;refine ZT 1 ?_;refine Z1 (And.intro hsv (And.intro b1 o1)) ?_
            obtain⟨nx5,k1,k2⟩:=bm_ (nx:=x.nx+1+4+3+8+8) (n:=n) (ob:=ob) (x:=g) (vo:=.ag [.v (.string ob.type_),.v (.string ob.id_)]) (vx:=.ag [.v (.int .i64 g.kind),.v (.string g.a),.v (.string g.b)]) (fun j hj=>new1 j (by omega)) q1 N1.map hd at1 hdl rfl rfl;refine qe_ (InlOK.mono k2 fun v hp5 nx5' hv=> ?_);obtain⟨rfl,hv2,hv3⟩:=hv
            have hv2:=hv2.symm;subst hv2;have hv3:=hv3.symm;subst hv3;refine Z1 (And.intro hsv trivial) ?_;refine ZT 1 ?_;refine Z1 (w64a (n:=x.k) (by omega)) ?_;generalize e6:(upd (x.nx+1+4+3+8+6) (some _) _:Hp)=hp6
            refine⟨⟨⟨x.k+1,hp6,_,[ds.any fun d=>((jd_ d (pns N)).map (·.is)).getD false],x.nx+1+4+3+8+6,0,[ds.any fun d=>((jd_ d (pns N)).map (·.is)).getD false]⟩,?_⟩,wkI (qa_ rfl (qa_ rfl (qa_ rfl (qa_ rfl (qa_ rfl (qa_ rfl (qh_ _))))))),by show l.length-(x.k+1)<l.length-x.k;omega⟩
            have k1':x.nx+1+4+3+8+8<=nx5:=k1;exact{
                    new:=fun j hj=>by
                      have hj:nx5+2<=j:=hj;show hp6 j=none;rw[<-e6,qb_ _ _ (by omega),qb_ _ _ (by omega)];exact new1 j (by omega)
                    old:=fun i hi=>by
                      have:=h.nxs
                      show hp6 i=hp i;rw[<-e6,qb_ _ _ (by omega),qb_ _ _ (by omega)];exact old0 i hi
                    ob_:=by
                      have:=h.nxs
                      show hp6 nx=_;rw[<-e6,qb_ _ _ (by omega),qb_ _ _ (by omega)];exact o1
                    row:=fun _=>⟨by show hp6 (x.nx+1+4+3+8+6)=_;rw[<-e6,qd_];rfl,rfl,Nat.le_refl _,by have:=h.nxs;show nx<x.nx+1+4+3+8+6;omega⟩
                    le:=hk
                    nxs:=by have:=h.nxs;show nx<nx5+2;omega
                    small:=by show 1<=4294967296;omega
                    mod:=by rw[h0] at hm;exact hm }
          · refine Z1 (And.intro b1 hk1) ?_
            refine qs_ (c:=true) rfl rfl ?_;refine ZT 1 ?_;refine Z1 (And.intro hsv (And.intro b1 o1)) ?_;obtain⟨nx5,k1,k2⟩:=bm_ (nx:=x.nx+1+4+3+8+8) (n:=n) (ob:=ob) (x:=g) (vo:=.ag [.v (.string ob.type_),.v (.string ob.id_)]) (vx:=.ag [.v (.int .i64 g.kind),.v (.string g.a),.v (.string g.b)]) (fun j hj=>new1 j (by omega)) q1 N1.map hd at1 hdl rfl rfl
            refine qe_ (InlOK.mono k2 fun v hp5 nx5' hv=> ?_);obtain⟨rfl,hv2,hv3⟩:=hv;have hv2:=hv2.symm;subst hv2;have hv3:=hv3.symm;subst hv3;refine Z1 (And.intro hsv trivial) ?_;refine ZT 1 ?_;refine Z1 (w64a (n:=x.k) (by omega)) ?_;generalize e6:(upd (x.nx+1+4+3+8+6) (some _) _:Hp)=hp6
            refine⟨⟨⟨x.k+1,hp6,_,[ds.any fun d=>((jd_ d (pns N)).map (·.is)).getD false],x.nx+1+4+3+8+6,0,[ds.any fun d=>((jd_ d (pns N)).map (·.is)).getD false]⟩,?_⟩,wkI (qa_ rfl (qa_ rfl (qa_ rfl (qa_ rfl (qa_ rfl (qa_ rfl (qh_ _))))))),by show l.length-(x.k+1)<l.length-x.k;omega⟩
            have k1':x.nx+1+4+3+8+8<=nx5:=k1;exact{
                    new:=fun j hj=>by
                      have hj:nx5+2<=j:=hj;show hp6 j=none;rw[<-e6,qb_ _ _ (by omega),qb_ _ _ (by omega)];exact new1 j (by omega)
                    old:=fun i hi=>by
                      have:=h.nxs
                      show hp6 i=hp i;rw[<-e6,qb_ _ _ (by omega),qb_ _ _ (by omega)];exact old0 i hi
                    ob_:=by
                      have:=h.nxs
                      show hp6 nx=_;rw[<-e6,qb_ _ _ (by omega),qb_ _ _ (by omega)];exact o1
                    row:=fun _=>⟨by show hp6 (x.nx+1+4+3+8+6)=_;rw[<-e6,qd_];rfl,rfl,Nat.le_refl _,by have:=h.nxs;show nx<x.nx+1+4+3+8+6;omega⟩
                    le:=hk
                    nxs:=by have:=h.nxs;show nx<nx5+2;omega
                    small:=by show 1<=4294967296;omega
                    mod:=by rw[h0] at hm;exact hm }
        · have hrw:=h.row h0
          have hlt:(x.st.length<=x.es.length)=True:=eq_true hrw.2.2.1;have hle:(x.st.length+1<=4294967296)=True:=eq_true (by omega);have hne5:(x.rid=x.nx+1+4+3+8+5)=False:=eq_false (by have:=qm_ h.new hrw.1;omega);have hlt2:chk 1 [[D.v (.bool (ds.any fun d=>((jd_ d (pns N)).map (·.is)).getD false))]]=true:=rfl
          refine zsq (ZT 1 ?_);refine Z1 hsv ?_;refine zsq (zsq ?_);refine ZT 1 ?_;rcases hk1:(g.kind==1) with _ |_
          · have hk2:(g.kind==2)=true:=by rw[hk1,Bool.false_or] at hlf;exact hlf
            refine Z1 (And.intro b1 (And.intro hk1 hk2)) ?_;refine qs_ (c:=true) rfl rfl ?_;refine ZT 1 ?_;refine Z1 (And.intro hsv (And.intro b1 o1)) ?_
            obtain⟨nx5,k1,k2⟩:=bm_ (nx:=x.nx+1+4+3+8+8) (n:=n) (ob:=ob) (x:=g) (vo:=.ag [.v (.string ob.type_),.v (.string ob.id_)]) (vx:=.ag [.v (.int .i64 g.kind),.v (.string g.a),.v (.string g.b)]) (fun j hj=>new1 j (by omega)) q1 N1.map hd at1 hdl rfl rfl;refine qe_ (InlOK.mono k2 fun v hp5 nx5' hv=> ?_);obtain⟨rfl,hv2,hv3⟩:=hv
            have hv2:=hv2.symm;subst hv2;have hv3:=hv3.symm;subst hv3;refine Z1 (And.intro hsv (And.intro hrow (And.intro hlt (And.intro hle (And.intro hlt2 hne5))))) ?_;refine ZT 1 ?_;refine Z1 (w64a (n:=x.k) (by omega)) ?_;generalize e6:(upd x.rid (some _) _:Hp)=hp6;have k1':x.nx+1+4+3+8+8<=nx5:=k1;have hrl:=qm_ h.new hrw.1
            have htl:(x.es.take x.st.length).length=x.st.length:=by rw[List.length_take];omega
            refine⟨⟨⟨x.k+1,hp6,_,x.st++[ds.any fun d=>((jd_ d (pns N)).map (·.is)).getD false],x.rid,x.ver+1,x.es.take x.st.length++[ds.any fun d=>((jd_ d (pns N)).map (·.is)).getD false]⟩,?_⟩,wkI (qa_ rfl (qa_ rfl (qa_ (by rw[xh_ (by simp)];simp;rfl) (qa_ rfl (qa_ rfl (qa_ rfl (qh_ _))))))),by show l.length-(x.k+1)<l.length-x.k;omega⟩
            exact{
                    new:=fun j hj=>by
                      have hj:nx5+2<=j:=hj;show hp6 j=none;rw[<-e6,qb_ _ _ (by omega),qb_ _ _ (by omega)];exact new1 j (by omega)
                    old:=fun i hi=>by
                      have:=h.nxs
                      have:=hrw.2.2.2
                      show hp6 i=hp i;rw[<-e6,qb_ _ _ (by omega),qb_ _ _ (by omega)];exact old0 i hi
                    ob_:=by
                      have:=h.nxs
                      have:=hrw.2.2.2
                      show hp6 nx=_;rw[<-e6,qb_ _ _ (by omega),qb_ _ _ (by omega)];exact o1
                    row:=fun _=>⟨by show hp6 x.rid=_;rw[<-e6,qd_,List.map_append,List.map_take];rfl,by rw[List.take_of_length_le (by rw[List.length_append,List.length_append,htl];exact Nat.le_refl _),hrw.2.1],by show(x.st++_).length<=(x.es.take x.st.length++_).length;rw[List.length_append,List.length_append,htl];exact Nat.le_refl _,hrw.2.2.2⟩
                    le:=hk
                    nxs:=by have:=h.nxs;show nx<nx5+2;omega
                    small:=by show(x.st++_).length<=4294967296;rw[List.length_append];show x.st.length+1<=_;omega
                    mod:=hm }
          · refine Z1 (And.intro b1 hk1) ?_
            refine qs_ (c:=true) rfl rfl ?_;refine ZT 1 ?_;refine Z1 (And.intro hsv (And.intro b1 o1)) ?_;obtain⟨nx5,k1,k2⟩:=bm_ (nx:=x.nx+1+4+3+8+8) (n:=n) (ob:=ob) (x:=g) (vo:=.ag [.v (.string ob.type_),.v (.string ob.id_)]) (vx:=.ag [.v (.int .i64 g.kind),.v (.string g.a),.v (.string g.b)]) (fun j hj=>new1 j (by omega)) q1 N1.map hd at1 hdl rfl rfl
            refine qe_ (InlOK.mono k2 fun v hp5 nx5' hv=> ?_);obtain⟨rfl,hv2,hv3⟩:=hv;have hv2:=hv2.symm;subst hv2;have hv3:=hv3.symm;subst hv3;refine Z1 (And.intro hsv (And.intro hrow (And.intro hlt (And.intro hle (And.intro hlt2 hne5))))) ?_;refine ZT 1 ?_;refine Z1 (w64a (n:=x.k) (by omega)) ?_;generalize e6:(upd x.rid (some _) _:Hp)=hp6
            have k1':x.nx+1+4+3+8+8<=nx5:=k1;have hrl:=qm_ h.new hrw.1;have htl:(x.es.take x.st.length).length=x.st.length:=by rw[List.length_take];omega
            refine⟨⟨⟨x.k+1,hp6,_,x.st++[ds.any fun d=>((jd_ d (pns N)).map (·.is)).getD false],x.rid,x.ver+1,x.es.take x.st.length++[ds.any fun d=>((jd_ d (pns N)).map (·.is)).getD false]⟩,?_⟩,wkI (qa_ rfl (qa_ rfl (qa_ (by rw[xh_ (by simp)];simp;rfl) (qa_ rfl (qa_ rfl (qa_ rfl (qh_ _))))))),by show l.length-(x.k+1)<l.length-x.k;omega⟩
            exact{
                    new:=fun j hj=>by
                      have hj:nx5+2<=j:=hj;show hp6 j=none;rw[<-e6,qb_ _ _ (by omega),qb_ _ _ (by omega)];exact new1 j (by omega)
                    old:=fun i hi=>by
                      have:=h.nxs
                      have:=hrw.2.2.2
                      show hp6 i=hp i;rw[<-e6,qb_ _ _ (by omega),qb_ _ _ (by omega)];exact old0 i hi
                    ob_:=by
                      have:=h.nxs
                      have:=hrw.2.2.2
                      show hp6 nx=_;rw[<-e6,qb_ _ _ (by omega),qb_ _ _ (by omega)];exact o1
                    row:=fun _=>⟨by show hp6 x.rid=_;rw[<-e6,qd_,List.map_append,List.map_take];rfl,by rw[List.take_of_length_le (by rw[List.length_append,List.length_append,htl];exact Nat.le_refl _),hrw.2.1],by show(x.st++_).length<=(x.es.take x.st.length++_).length;rw[List.length_append,List.length_append,htl];exact Nat.le_refl _,hrw.2.2.2⟩
                    le:=hk
                    nxs:=by have:=h.nxs;show nx<nx5+2;omega
                    small:=by show(x.st++_).length<=4294967296;rw[List.length_append];show x.st.length+1<=_;omega
                    mod:=hm }
      · have hk1:(g.kind==1)=false:=by
          cases h1:(g.kind==1) with
          |false=>rfl
          |true=>exact absurd (by rw[h1];rfl) hlf
        have hk2:(g.kind==2)=false:=by
          cases h1:(g.kind==2) with
          |false=>rfl
          |true=>exact absurd (by rw[h1,Bool.or_true]) hlf
        unfold stepM at hs;rw[if_neg hlf] at hs;have less1:∀hp2:Hp,(∀i,i<nx->hp2 i=hp i)->Less hp hp2:=fun hp2 h2=>⟨fun i=>by
          rcases Nat.lt_or_ge i nx with h3 |h3
          · exact .inr (h2 i h3).symm
          · exact .inl (hf i h3)⟩
        rcases hsv with⟨h0,hsv⟩ |⟨h0,hsv,hrow⟩
        · rw[h0,if_pos (by decide)] at hs
          cases hs;cases hm;refine zsq (ZT 1 ?_);refine Z1 hsv ?_;refine zsq (zsq ?_);refine ZT 1 ?_;refine Z1 (And.intro b1 (And.intro hk1 hk2)) ?_;refine qg_ (c:=false) rfl rfl ?_;refine ZT 1 ?_;refine Z0 ?_;refine zsq (zsq ?_);refine ZT 1 ?_;refine Z0 ?_;refine qs_ (c:=true) rfl rfl ?_;refine ZT 1 ?_;refine Z0 ?_
          exact⟨_,hp,rfl,less1 _ old0,rfl,rfl,by have:=h.nxs;show nx<=x.nx+1+4+3+8+2+1;omega⟩
        · refine zsq (ZT 1 ?_)
          refine Z1 hsv ?_;refine zsq (zsq ?_);refine ZT 1 ?_;refine Z1 (And.intro b1 (And.intro hk1 hk2)) ?_;refine qg_ (c:=false) rfl rfl ?_;refine ZT 1 ?_;refine Z0 ?_;refine zsq (zsq ?_);refine ZT 1 ?_;by_cases h2:x.st.length<2
          · rw[if_pos h2] at hs
            cases hs;cases hm;have c2:(decide ((x.st.length:Int)<2))=true:=decide_eq_true (by omega);refine Z1 c2 ?_;refine qs_ (c:=true) rfl rfl ?_;refine ZT 1 ?_;refine Z0 ?_;exact⟨_,hp,rfl,less1 _ old0,rfl,rfl,by have:=h.nxs;show nx<=x.nx+1+4+3+8+2+1;omega⟩
          · rw[if_neg h2] at hs
            cases hs;have c2:(decide ((x.st.length:Int)<2))=false:=decide_eq_false (by omega);refine Z1 c2 ?_;refine qg_ (c:=false) rfl rfl ?_;refine ZT 1 ?_;refine Z0 ?_;have hrw:=h.row h0;obtain⟨p,hp2⟩:∃p,x.st.length=p+2:=⟨x.st.length-2,by omega⟩;have st1:∀j,j<x.st.length->x.es[j]? =some (x.st.getD j false):=fun j hj=>by
              have e1:x.es[j]? =x.st[j]? :=by
                rw[<-hrw.2.1,List.getElem?_take,if_pos hj]
              rw[e1,List.getD_eq_getElem?_getD,List.getElem?_eq_getElem hj];rfl
            obtain⟨va,eva⟩:∃va,va=x.st.getD p false:=⟨_,rfl⟩;obtain⟨vb,evb⟩:∃vb,vb=x.st.getD (p+1) false:=⟨_,rfl⟩;have ea:=st1 p (by omega);have eb:=st1 (p+1) (by omega)
            have hm:w7_ n G ob (pns N) (l.drop (x.k+1)) (x.st.take (x.st.length-2)++[if g.kind==3 then x.st.getD (x.st.length-2) false||x.st.getD (x.st.length-1) false else if g.kind==5 then x.st.getD (x.st.length-2) false&&x.st.getD (x.st.length-1) false else x.st.getD (x.st.length-2) false&& !x.st.getD (x.st.length-1) false])=some r:=hm
            have w2:IntKind.i64.wrap (((p+2:Nat):Int)-2)=(p:Int):=by
              rw[show(((p+2:Nat):Int)-2)=(p:Int) by omega];exact w64 (by have:=h.small;omega)
            have w1:IntKind.i64.wrap (((p+2:Nat):Int)-1)=((p+1:Nat):Int):=w64s (n:=p+1) (by have:=h.small;omega);rw[hp2] at hm;rw[show p+2-2=p by omega,show p+2-1=p+1 by omega,<-eva,<-evb] at hm;rw[<-eva] at ea;rw[<-evb] at eb;refine zsq (ZT 1 ?_)
            refine Z1 (And.intro hp2 (And.intro w2 (And.intro w1 (And.intro hrow (And.intro (qn_ eB ea) (And.intro (qn_ eB eb) (And.intro (show(p<p+2)=True from eq_true (by omega)) (show(p+1<p+2)=True from eq_true (by omega))))))))) ?_;refine qj_ (by rfl) ?_;refine Z0 ?_
            obtain⟨vr,evr⟩:∃vr,vr=(if g.kind==3 then va||vb else if g.kind==5 then va&&vb else va&& !vb):=⟨_,rfl⟩
            rw[<-evr] at hm
            refine zsq (zjn (α:=Unit) (fun _=>⟨upd 0 (.pt q 0) (upd 4 (.pt nx 0) (upd 7 (.so x.rid x.ver 0 (p+2)) (upd 10 (.v (.int .i64 ((p+2:Nat):Int))) (upd 11 (.v (.bool vr)) (upd 13 (.d (.sl (l.map eGStep)) bl) (upd 14 (.v (.int .i64 (l.length:Int))) (upd 15 (.v (.int .i64 (x.k:Int))) noFr))))))),hp1,x.nx+1+4+3+8+2+12+100⟩) ?_ fun _=> ?_)
            · have fin:∀ {fr:Fr} {nn:Nat},nn<=x.nx+1+4+3+8+2+12+100->(∀t,(upd 0 (.pt q 0) (upd 4 (.pt nx 0) (upd 7 (.so x.rid x.ver 0 (p+2)) (upd 10 (.v (.int .i64 ((p+2:Nat):Int))) (upd 11 (.v (.bool vr)) (upd 13 (.d (.sl (l.map eGStep)) bl) (upd 14 (.v (.int .i64 (l.length:Int))) (upd 15 (.v (.int .i64 (x.k:Int))) noFr))))))):Fr) t= .un\/(upd 0 (.pt q 0) (upd 4 (.pt nx 0) (upd 7 (.so x.rid x.ver 0 (p+2)) (upd 10 (.v (.int .i64 ((p+2:Nat):Int))) (upd 11 (.v (.bool vr)) (upd 13 (.d (.sl (l.map eGStep)) bl) (upd 14 (.v (.int .i64 (l.length:Int))) (upd 15 (.v (.int .i64 (x.k:Int))) noFr))))))):Fr) t=fr t)->∃_:Unit,WeakR nx ⟨upd 0 (.pt q 0) (upd 4 (.pt nx 0) (upd 7 (.so x.rid x.ver 0 (p+2)) (upd 10 (.v (.int .i64 ((p+2:Nat):Int))) (upd 11 (.v (.bool vr)) (upd 13 (.d (.sl (l.map eGStep)) bl) (upd 14 (.v (.int .i64 (l.length:Int))) (upd 15 (.v (.int .i64 (x.k:Int))) noFr))))))),hp1,x.nx+1+4+3+8+2+12+100⟩ ⟨fr,hp1,nn⟩:=fun h1 h2=>⟨(),.weak ⟨h2,fun _=>.inr rfl,h1⟩⟩
              refine zsq (ZT 1 ?_);refine Z1 b1 ?_;refine zbk ?_;refine zsq (ZT 1 ?_);rcases hk3:(g.kind==3) with _ |_
              · refine Z1 hk3 ?_
                refine qg_ (c:=false) rfl rfl ?_;refine zsq (ZT 1 ?_);rcases hk5:(g.kind==5) with _ |_
                · refine Z1 hk5 ?_
                  refine qg_ (c:=false) rfl rfl ?_;refine ZT 1 ?_;rw[hk3,hk5] at evr;cases va<;>cases vb<;>simp at evr<;>subst evr<;>(refine Z0 ?_;exact fin (by show _<=_;omega) (qa_ rfl (qa_ rfl (qa_ rfl (qa_ rfl (qa_ rfl (qa_ rfl (qa_ rfl (qa_ rfl (qh_ _))))))))))
                · refine Z1 hk5 ?_
                  refine qs_ (c:=true) rfl rfl ?_;refine ZT 1 ?_;rw[hk3,hk5] at evr;cases va<;>cases vb<;>simp at evr<;>subst evr<;>(refine Z0 ?_;exact fin (by show _<=_;omega) (qa_ rfl (qa_ rfl (qa_ rfl (qa_ rfl (qa_ rfl (qa_ rfl (qa_ rfl (qa_ rfl (qh_ _))))))))))
              · refine Z1 hk3 ?_
                refine qs_ (c:=true) rfl rfl ?_;refine ZT 1 ?_;rw[hk3] at evr;cases va<;>cases vb<;>simp at evr<;>subst evr<;>(refine Z0 ?_;exact fin (by show _<=_;omega) (qa_ rfl (qa_ rfl (qa_ rfl (qa_ rfl (qa_ rfl (qa_ rfl (qa_ rfl (qa_ rfl (qh_ _))))))))))
            · refine ZT 1 ?_
              have hlc:(p<=x.es.length)=True:=eq_true (by have:=hrw.2.2.1;omega);have hl2:(p+1<=4294967296)=True:=eq_true (by have:=h.small;omega);have hl3:(p<=p+2)=True:=eq_true (by omega)
              refine Z1 (And.intro hrow (And.intro w2 (And.intro hlc (And.intro hl2 (And.intro hl3 (And.intro (Nat.sub_zero p) (And.intro (show chk 1 [[D.v (.bool vr)]]=true from rfl) (show(x.rid=x.nx+1+4+3+8+2+12+100+5)=False from eq_false (by have:=qm_ h.new hrw.1;omega))))))))) ?_;refine ZT 1 ?_;refine Z1 (w64a (n:=x.k) (by omega)) ?_
              generalize e6:(upd x.rid (some _) _:Hp)=hp6;have hrl:=qm_ h.new hrw.1;have htl:(x.es.take p).length=p:=by rw[List.length_take];have:=hrw.2.2.1;omega
              have hst:x.st.take p=x.es.take p:=by
                have e1:x.st.take p=(x.es.take x.st.length).take p:=by rw[hrw.2.1]
                rw[e1,List.take_take,hp2,Nat.min_eq_left (by omega)]
              have hsl2:(x.st.take p++[vr]).length=p+1:=by rw[hst,List.length_append,htl];rfl
              refine⟨⟨⟨x.k+1,hp6,_,x.st.take p++[vr],x.rid,x.ver+1,x.es.take p++[vr]⟩,?_⟩,wkI (qa_ rfl (qa_ rfl (qa_ (by rw[xh_ (xs:=x.st.take p++[vr]) (by rw[hsl2];omega),hsl2];rfl) (qa_ rfl (qa_ rfl (qa_ rfl (qh_ _))))))),by show l.length-(x.k+1)<l.length-x.k;omega⟩;exact{
                      new:=fun j hj=>by
                        have hj:x.nx+1+4+3+8+2+12+100+8+2<=j:=hj;show hp6 j=none;rw[<-e6,qb_ _ _ (by omega),qb_ _ _ (by omega)];exact new1 j (by omega)
                      old:=fun i hi=>by
                        have:=h.nxs
                        have:=hrw.2.2.2
                        show hp6 i=hp i;rw[<-e6,qb_ _ _ (by omega),qb_ _ _ (by omega)];exact old0 i hi
                      ob_:=by
                        have:=h.nxs
                        have:=hrw.2.2.2
                        show hp6 nx=_;rw[<-e6,qb_ _ _ (by omega),qb_ _ _ (by omega)];exact o1
                      row:=fun _=>⟨by show hp6 x.rid=_;rw[<-e6,qd_,List.map_append,List.map_take];rfl,by show List.take (x.st.take p++[vr]).length (x.es.take p++[vr])=x.st.take p++[vr];rw[hsl2,hst,List.take_of_length_le (by rw[List.length_append,htl];exact Nat.le_refl _)],by show(x.st.take p++[vr]).length<=(x.es.take p++[vr]).length;rw[hst];exact Nat.le_refl _,hrw.2.2.2⟩
                      le:=hk
                      nxs:=by have:=h.nxs;show nx<x.nx+1+4+3+8+2+12+100+8+2;omega
                      small:=by show(x.st.take p++[vr]).length<=4294967296;have:=h.small;omega
                      mod:=hm }
    · have c1:(decide ((x.k:Int)<(l.length:Int)))=false:=decide_eq_false (by omega)
      rw[List.drop_eq_nil_of_le (by omega)] at hm;refine Z1 c1 ?_;refine ZT 1 ?_;refine Z0 ?_;have hm:(x.st.length==1&&x.st.getD 0 false)=r:=Option.some.inj hm;have less2:Less hp x.hp:=⟨fun i=>by
        rcases Nat.lt_or_ge i nx with h3 |h3
        · exact .inr (h.old i h3).symm
        · exact .inl (hf i h3)⟩
      by_cases h0:x.st= []
      · have hsv:accV x.rid x.ver (x.st.map eB)= .v (.slice none 0 0):=by rw[h0];rfl
        rw[h0] at hm;refine zsq (ZT 1 ?_);refine Z1 hsv ?_;refine ZT 1 ?_;refine Z0 ?_;exact⟨_,hp,rfl,less2,by rw[<-hm];rfl,rfl,by have:=h.nxs;show nx<=x.nx+1+9;omega⟩
      · have hsv:=xh_ (f:=eB) (id:=x.rid) (ver:=x.ver) (List.length_pos_iff.2 h0)
        have hrw:=h.row h0;refine zsq (ZT 1 ?_);rcases h1:(x.st.length==1) with _ |_
        · have h1':((x.st.length:Int)==1)=false:=by
            have:x.st.length≠1:=by simpa using h1
            simp;omega
          rw[h1,Bool.false_and] at hm;refine Z1 (And.intro hsv h1') ?_;refine ZT 1 ?_;refine Z0 ?_;exact⟨_,hp,rfl,less2,by rw[<-hm];rfl,rfl,by have:=h.nxs;show nx<=x.nx+1+9;omega⟩
        · have e1:x.st.length=1:=by simpa using h1
          have h1':((x.st.length:Int)==1)=true:=by rw[e1];rfl
          have e2:x.es[0]? =some (x.st.getD 0 false):=by
            have e3:x.es[0]? =x.st[0]? :=by
              rw[<-hrw.2.1,List.getElem?_take,if_pos (by omega)]
            rw[e3,List.getD_eq_getElem?_getD,List.getElem?_eq_getElem (by omega)];rfl
          rw[h1,Bool.true_and] at hm;rw[hm] at e2;refine Z1 (And.intro hsv (And.intro h1' (And.intro hrw.1 (And.intro (qn_ eB e2) (And.intro (show qT_ (.v (.int .i64 0))=some 0 from rfl) (show(0<x.st.length)=True from eq_true (by omega))))))) ?_;refine ZT 1 ?_;refine Z0 ?_;exact⟨_,hp,rfl,less2,rfl,rfl,by have:=h.nxs;show nx<=x.nx+1+9;omega⟩
def nowM (n:Nat)(G:SeekGraph)(s:GSub)(N:List PN)(r:GRef):Option Bool:=
 (qq_ n G.schema r.obj.type_ r.rel).bind fun rel=>if rel.1.expr.isEmpty then nowD n G s N r else if rel.1.expr.length<4611686018427387904 then w7_ n G r.obj N rel.1.expr [] else none
set_option maxRecDepth 4000 in
theorem c3_ (n:Nat)(G:SeekGraph)(s:GSub):NowOK G (.v (.string s.type_)) (.v (.string s.id_)) (.v (.string s.rel)) (nowM n G s):=by
 intro hp nx q m o N r b hf hq hN h;unfold nowM at h;obtain⟨rel,h1,h⟩:=zbi h;split at h
 ·exact cZ_ n G s hp nx q m o N r b hf hq hN h
 rename_i he;split at h;rotate_left
 ·cases h
 rename_i hl;obtain⟨⟨rn,rs,re⟩,ro⟩:=rel;have he0:0<re.length:=by
  cases re with
  |nil=>exact absurd rfl he
  |cons _ _=>simp
 refine qN_ qf_ fol Tryz.func100 (by rfl) (by kernel_rfl) (by kernel_rfl) (by exact Nat.le_of_ble_eq_true rfl) ?_;have n0:nw nx q=0:=th_ (qm_ hf hq);have n1:nw nx nx=1:=pJ_;have n2:nw nx (nx+2+16)=19:=by unfold nw;omega
 have c1:(decide ((re.length:Int) > 0))=true:=decide_eq_true (by omega);have c2:(decide ((0:Int)<(re.length:Int)))=true:=decide_eq_true (by omega);have w:=And.intro (show(nx=nx+2+16)=False from eq_false (by omega))<|And.intro (show(q=nx+2+16)=False from eq_false (by have:=qm_ hf hq;omega))<|And.intro (jQ_ hf hq) (And.intro hq (And.intro c1 c2))
 refine Z1 w ?_;refine ZD0 (qB_ h1) ?_;refine Z1 w ?_;refine x2_ (nw nx) _ rfl (by simp only[List.reverse_cons,List.reverse_nil,List.nil_append,List.cons_append,List.map_cons,List.map_nil,vL_,n0,n1,n2];rfl) (by rfl) ?_;refine Z1 w ?_
 obtain⟨hp1,e1⟩:∃hp1,hp1=upd (nx+2+16) (some (.bx [.v (.string rn),.d (.sl (rs.map eGSub)) true,.d (.sl (re.map eGStep)) true])) (upd (nx+2+16) (some (.bx [.v (.string ByteArray.empty),.v (.slice none 0 0),.v (.slice none 0 0)])) (upd nx (some (.bx [.v (.string r.obj.type_),.v (.string r.obj.id_),.v (.string r.rel)])) hp)):=⟨_,rfl⟩
 have old:∀ {i:Nat} {o:AO},hp i=some o->hp1 i=some o:=fun{i o} h=>by
  have:=qm_ hf h
  rw[e1,qb_ _ _ (by omega),qb_ _ _ (by omega),qb_ _ _ (by omega)];exact h
 have less:Less hp hp1:=⟨fun i=>by
  by_cases h:i<nx
  ·exact .inr (by rw[e1,qb_ _ _ (by omega),qb_ _ _ (by omega),qb_ _ _ (by omega)])
  ·exact .inl (hf i (by omega))⟩
 have hN1:InvN hp1 m N:=hN.more ((old hN.map).trans hN.map.symm) (fun y hy=>(old (hN.box y hy)).trans (hN.box y hy).symm) fun y hy ha=>by
  have h1:=hN.row y hy ha;rcases Nat.lt_or_ge y.rid nx with h2 |h2
  ·rw[e1,qb_ _ _ (by omega),qb_ _ _ (by omega),qb_ _ _ (by omega)]
  ·rw[hf _ h2] at h1
   cases e:y.above with
   |nil=>exact absurd e ha
   |cons a b=>rw[e] at h1;cases h1
 rw[<-e1];refine qe_ ((sH_ (nx:=nx+2+19+4+7) (fun j hj=>by rw[e1,qb_ _ _ (by omega),qb_ _ _ (by omega),qb_ _ _ (by omega)];exact hf j (by omega)) (old hq) hN1 (vo:=.ag [.v (.string r.obj.type_),.v (.string r.obj.id_)]) rfl (by assumption) h).mono ?_);rintro v hp2 nx2 ⟨rfl,rfl,hle⟩;refine Z0 ?_;exact⟨_,hp,rfl,less,rfl,rfl,by show nx<=nx2;omega⟩
theorem hG_ {α:Type}{lt:α->α->Bool}{F:Nat}:∀ {c bs:Nat} {xs ys:List α},rndM lt F c xs bs=some ys->ys.length=xs.length
 |0,_,_,_,h=>by cases h
 |c+1,bs,xs,ys,h=>by
  unfold rndM at h;split at h
  ·obtain⟨p,h1,h⟩:=zbi h
   obtain⟨zs,h2,h⟩:=zbi h;have e1:=(bs_ h1 (Nat.zero_le _)).1.1;have e2:zs.length=p.1.length:=by
    split at h2
    ·exact(vl_ h2).1
    ·cases h2
     rfl
   rw[hG_ h,e2,e1]
  ·cases h
   rfl
theorem sI_ {α:Type}{lt:α->α->Bool}{F:Nat}{xs ys:List α}(h:sstM lt F xs=some ys):ys.length=xs.length:=by
 unfold sstM at h;obtain⟨p,h1,h⟩:=zbi h;obtain⟨zs,h2,h⟩:=zbi h;rw[hG_ h,(vO_ h2).1,(br_ h1 (Nat.zero_le _)).1.1]
def sortG (f:Nat)(N P:List PN):Option (List GRef):=if N.length<4294967296 then sstM (ltC fun a b=>cmpI (pN_ P a) (pN_ P b)) f (N.map (·.k)) else none
def xA_ (n:Nat)(G:SeekGraph)(o:GObj)(rel:ByteArray)(s:GSub):Option Bool:=
 (zG_ (bo_ n G) n [] [⟨o,rel⟩]).bind fun N=>(aboM (N.map (·.k)) N).bind fun P1=>(sortG n N P1).bind fun ord=>(dC_ (nowM n G s) n ord P1).bind fun P2=>if N.isEmpty then none else(jd_ ⟨o,rel⟩ P2).map (·.is)
theorem uy_ {n:Nat}{G:SeekGraph}{o:GObj}{rel:ByteArray}{s:GSub}{r:Bool}(H:xA_ n G o rel s=some r):PureOK Tryz.prog 34 [D.pt (eSeekGraph G) 0,.ag (eGObj o),.v (.string rel),.ag (eGSub s)] (.v (.bool r)) true:=by
 unfold xA_ at H;obtain⟨N,h1,H⟩:=zbi H;obtain⟨P1,h2,H⟩:=zbi H;obtain⟨ord,h3,H⟩:=zbi H;obtain⟨P2,h4,H⟩:=zbi H;split at H
 ·cases H
 rename_i hne;obtain⟨x,h5,rfl⟩:=Option.map_eq_some_iff.1 H;have hk:=keysOf (dE_ h2);have hnd:=vM_ h1 List.nodup_nil;unfold sortG at h3;split at h3;rotate_left
 ·cases h3
 rename_i hl;exact has_ok (c3_ n G s) h1 h2 (fun e=>hne (by rw[e];rfl)) (by omega) (rk:=pN_ P1) (fun p hp=>by
  unfold pN_;rw[mp_ (hk▸hnd) hp];rfl) (fun r hr=>by
  obtain⟨p,hp⟩:=xo_ (N:=P1) (r:=r) (hk▸hr);rw[hp];rfl) (fun g caps S ids hp0 br i ver hc hi hS hp nx hh hx=>sst_ok hc hi hh hx hS rfl (by simpa using hl) (by simpa using h3)) (by rw[sI_ h3,List.length_map]) h4 h5
end Go.Proofs.YtnmkbmefohakmaaGreat.Ab
