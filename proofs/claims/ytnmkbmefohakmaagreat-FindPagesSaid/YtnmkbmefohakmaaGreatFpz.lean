/-
 Pages behind each other are the whole list, each but the last one full, and the list rises: for every schema, tuples, question and size of a page of numbers. No condition.
-/
import Derived.Test.YtnmkbmefohakmaaGreatFpl
import Derived.Test.YtnmkbmefohakmaaGreatCm
namespace Go.Proofs.YtnmkbmefohakmaaGreat.Ab
open Go.RowKit
theorem xO_ {n:Nat}{a:List ByteArray}(hn:a.length<n)(hx:a.length<4611686018427387904):q8_ n a a=some true:=by
 unfold q8_;have e:((a.length:Int) != (a.length:Int))=false:=by simp
 have h:jo_ n a a n 0=_:=dn_ (L:=jo_ n a a) (E:=fun x y=>x.toList==y.toList) beqS (fun _ _=>rfl) rfl hx n 0 (by omega) (by omega);rw[e,if_neg (by decide),h,if_pos rfl];rfl
section
variable {L:List ByteArray}{b:ByteArray->Bool}(hR:tx.Rises L)
theorem hs_:L.filter (zK_ b { data:= #[] })=L.filter b:=by
 congr 1
include hR in
theorem n7_ {k:Nat}(hk:k<(L.filter b).length)(hne:(L.filter b)[k]≠{ data:= #[] }):L.filter (zK_ b (L.filter b)[k])=(L.filter b).drop (k+1):=by
 have hG:tx.Rises (L.filter b):=List.Pairwise.filter _ hR;have e:L.filter (zK_ b (L.filter b)[k])=(L.filter b).filter fun x=> !upto x (L.filter b)[k]:=by
  rw[List.filter_filter];refine List.filter_congr fun x _=> ?_;unfold zK_;rw[if_neg hne]
 rw[e];clear e;generalize L.filter b=G at hG hk hne⊢;have hp:=List.pairwise_iff_getElem.1 hG;have e0:∀p:ByteArray->Bool,G.filter p=(G.take (k+1)).filter p++(G.drop (k+1)).filter p:=fun p=>by rw[<-List.filter_append,List.take_append_drop]
 rw[e0,List.filter_eq_nil_iff.2,List.filter_eq_self.2,List.nil_append]
 ·intro x hx
  obtain⟨j,hj,rfl⟩:=List.mem_iff_getElem.1 hx;rw[List.getElem_drop];rw[List.length_drop] at hj;have h1:=hp k (k+1+j) hk (by omega) (by omega);unfold upto;rw[Bool.not_eq_true',Bool.or_eq_false_iff];constructor
  ·cases h2:Op.bytesLess (G[k+1+j]'(by omega)).toList G[k].toList with
   |false=>rfl
   |true=>exact absurd (tx.trans h1 h2) (by rw[tx.irrefl];decide)
  ·rw[beqS,decide_eq_false]
   intro h2;rw[h2] at h1;exact absurd h1 (by rw[tx.irrefl];decide)
 ·intro x hx
  obtain⟨j,hj,rfl⟩:=List.mem_iff_getElem.1 hx;rw[List.length_take] at hj;rw[List.getElem_take];unfold upto;by_cases h:j=k
  ·subst h
   simp
  ·have h1:Op.bytesLess G[j].toList G[k].toList=true:=hp j k (by omega) hk (by omega)
   rw[h1];simp
def af (G:List ByteArray)(k:Nat):ByteArray:=if k=0 then{ data:= #[] } else(G[k-1]?).getD { data:= #[] }
include hR in
theorem cE_ (hne:∀x∈L,x≠{ data:= #[] }){k:Nat}(hk:k<=(L.filter b).length):L.filter (zK_ b (af (L.filter b) k))=(L.filter b).drop k:=by
 unfold af;by_cases h:k=0
 ·subst h
  rw[if_pos rfl,hs_,List.drop_zero]
 ·have hlt:k-1<(L.filter b).length:=by omega
  rw[if_neg h,List.getElem?_eq_getElem hlt,Option.getD_some,n7_ hR hlt (hne _ (List.mem_filter.1 (List.getElem_mem hlt)).1),show k-1+1=k by omega]
end
abbrev AskT:=GObj × ByteArray × GSub
def askC (n:Nat)(ts:List GType)(rows:List GTuple)(ak:AskT)(q:Nat)(a:ByteArray)(m:Nat):Option (List ByteArray × Bool × Int):=qz_ n ⟨a,(m:Int)⟩ (q:Int) ts rows (⟨ak.1.type_,ak.1.id_⟩:GObj) ak.2.1 (⟨ak.2.2.type_,ak.2.2.id_,ak.2.2.rel⟩:GSub)
section
variable {n:Nat}{t3:Int}{ts:List GType}{rows:List GTuple}{ak:AskT}{q:Nat}
theorem mW3 (t3:Int):IntKind.i64.wrap (IntKind.i64.wrap (an t3 3:Int)+1)=((an t3 3+1:Nat):Int):=by
 have:=h4_ t3 3
 have h2:(BitVec.ofInt 64 3).toNat=3:=by decide
 rw[yX_ t3 3 (by decide),w64a (by omega)]
theorem s6_ (t3:Int):an t3 3<=3:=Nat.le_trans (h4_ t3 3) (by decide)
theorem fp_L2 {L:List ByteArray}{b:ByteArray->Bool}(hR:tx.Rises L)(hne:∀x∈L,x≠{ data:= #[] })(hl:L.length<=90)(hask:∀a m,1<=m->m<=1000->askC n ts rows ak q a m=some ((L.filter (zK_ b a)).take m,decide (m<(L.filter (zK_ b a)).length),0)):
  ∀(d k c i:Nat),d=(L.filter b).length-k->k<=(L.filter b).length->d<c->i<=k->qA_ n t3 ts rows ak (q:Int) (L.filter b,false,0) c ((L.filter b).take k,af (L.filter b) k,(i:Int))=some (.inl (L.filter b))
 |d,k,c,i,hd,hk,hc,hi=>by
  obtain⟨c,rfl⟩:∃e,c=e+1:=⟨c-1,by omega⟩;have hGl:(L.filter b).length<=90:=Nat.le_trans (List.length_filter_le _ _) hl;have h3:=s6_ t3;have e1:=hask (af (L.filter b) k) (an t3 3+1) (by omega) (by omega);rw[cE_ hR hne hk] at e1;unfold askC at e1;unfold qA_;rw[mW3,show decide ((i:Int)<100)=true by simp;omega,if_pos rfl,e1,Zo]
  have ih:=fun k' i' (h1:k<k') (h2:k'<=(L.filter b).length) (h3:i'<=k')=>fp_L2 hR hne hl hask ((L.filter b).length-k') k' c i' rfl h2 (by omega) h3;generalize hG:L.filter b=G at *;generalize hm:an t3 3+1=m at *;have hz:∀xs:List ByteArray,xs.length<=100->app [] xs=some xs:=fun xs h=>by rw[appS (by simp;omega)];rfl
  have hdl:(G.drop k).length=G.length-k:=List.length_drop ..;have htl:((G.drop k).take m).length=min m (G.length-k):=by rw[List.length_take,hdl]
  dsimp only;rw[if_neg (by simp),show decide ((m:Int)<(((G.drop k).take m).length:Int))=false by simp;omega,if_neg (by decide)];cases hnx:decide (m<(G.drop k).length) with
  |true=>
   have hlt:m<G.length-k:=by rw[<-hdl];exact of_decide_eq_true hnx
   have hml:((G.drop k).take m).length=m:=by omega
   have hln:((((G.drop k).take m).length:Int) != (m:Int))=false:=by rw[hml];simp
   have hlast:idx ((G.drop k).take m) (IntKind.i64.wrap ((((G.drop k).take m).length:Int)-1))=some (af G (k+m)):=by
    rw[hml,show((m:Int)-1)=((m-1:Nat):Int) by omega,w64 (by omega),idxS (by omega),List.getElem_take,List.getElem_drop];unfold af;rw[if_neg (by omega),List.getElem?_eq_getElem (by omega),Option.getD_some];congr 2
    omega
   have htk:G.take k++(G.drop k).take m=G.take (k+m):=(List.take_add ..).symm;have hne0:((((G.drop k).take m).length:Int)==0)=false:=by rw[hml,beq_eq_false_iff_ne];omega
   rw[if_pos rfl,hln,Zo];dsimp only;rw[if_neg (by decide)];by_cases h0:(G.take k).length=0
   ·have hk0:k=0:=by rw[List.length_take] at h0;omega
    rw[decide_eq_true h0,if_pos rfl,hz _ (by omega),Zo,if_pos rfl,hne0,if_neg (by decide),hlast,Zo,w64a (by omega)];rw[hk0,List.take_zero,List.nil_append] at htk;rw[hk0,htk]
    have:=ih (0+m) (i+1) (by omega) (by omega) (by omega)
    exact this
   ·have hk0:k≠0:=fun h=>h0 (by rw[h];rfl)
    rw[decide_eq_false h0,if_neg (by decide),appS (by rw[List.length_take,hml];omega),Zo,if_pos rfl,hne0,if_neg (by decide),hlast,Zo,w64a (by omega),htk];exact ih (k+m) (i+1) (by omega) (by omega) (by omega)
  |false=>
   have hge:G.length-k<=m:=by rw[<-hdl];exact Nat.le_of_not_lt (of_decide_eq_false hnx)
   have hml:(G.drop k).take m=G.drop k:=List.take_of_length_le (by omega);rw[if_neg (by decide),Zo];dsimp only;rw[if_neg (by decide),hml];by_cases h0:(G.take k).length=0
   ·have hk0:k=0\/G= []:=by
     rw[List.length_take] at h0;rcases Nat.eq_zero_or_pos k with h |h
     ·exact .inl h
     ·exact .inr (List.eq_nil_of_length_eq_zero (by omega))
    rw[decide_eq_true h0,if_pos rfl,hz _ (by omega),Zo,if_neg (by decide)];rcases hk0 with h |h
    ·rw[h,List.drop_zero]
    ·rw[h,List.drop_nil]
   ·rw[decide_eq_false h0,if_neg (by decide),appS (by rw[List.length_take,hdl];omega),Zo,if_neg (by decide),List.take_append_drop]
 termination_by d=>d
theorem fp_L2e {e:Int}(hn:0<n)(hask:∀a m,1<=m->m<=1000->askC n ts rows ak q a m=some ([],false,e)):qA_ n t3 ts rows ak (q:Int) ([],false,e) n ([],{ data:= #[] },0)=some (.inl []):=by
 obtain⟨c,rfl⟩:∃e,n=e+1:=⟨n-1,by omega⟩;have h3:=s6_ t3;have e1:=hask { data:= #[] } (an t3 3+1) (by omega) (by omega);unfold askC at e1;conv=>lhs;unfold qA_
 rw[mW3,if_pos (by decide),e1,Zo];dsimp only;rw[if_neg (by simp),show decide (((an t3 3+1:Nat):Int)<(([]:List ByteArray).length:Int))=false by simp;omega,if_neg (by decide),if_neg (by decide),Zo];rfl
theorem fp_L3 {G:List ByteArray}(hG:tx.Rises G)(hl:G.length<=90):∀(d j c:Nat),d=G.length-j->1<=j->d<c->qF_ n (G,false,0) c (j:Int)=some (.inl ())
 |0,j,c,hd,hj,hc=>by
  obtain⟨c,rfl⟩:∃e,c=e+1:=⟨c-1,by omega⟩;unfold qF_;rw[dnlt (by show G.length<=j;omega),if_neg (by decide)]
 |d+1,j,c,hd,hj,hc=>by
  obtain⟨c,rfl⟩:∃e,c=e+1:=⟨c-1,by omega⟩;have hlt:j<G.length:=by omega
  have h1:Op.bytesLess (G[j-1]'(by omega)).toList G[j].toList=true:=List.pairwise_iff_getElem.1 hG (j-1) j (by omega) hlt (by omega);have e1:IntKind.i64.wrap ((j:Int)-1)=((j-1:Nat):Int):=by rw[show((j:Int)-1)=((j-1:Nat):Int) by omega,w64 (by omega)]
  unfold qF_;dsimp only;rw[dlt hlt,if_pos rfl,e1,idxS (by omega),Zo,idxS hlt,Zo,h1,if_pos rfl,w64a (by omega)];exact fp_L3 hG hl d (j+1) c (by omega) (by omega) (by omega)
def PG (n:Nat)(ts:List GType)(rows:List GTuple)(ak:AskT)(q:Nat):Prop:=
 (∃e,∀a m,1<=m->m<=1000->askC n ts rows ak q a m=some ([],false,e))\/∃L b,tx.Rises L/\(∀x∈L,x≠{ data:= #[] })/\L.length<=90/\∀a m,1<=m->m<=1000->askC n ts rows ak q a m=some ((L.filter (zK_ b a)).take m,decide (m<(L.filter (zK_ b a)).length),0)
theorem fp_L1 (hn:1000<n)(hq:∀q,q<2->PG n ts rows ak q):∀(d q c:Nat),d=2-q->q<=2->d<c->qK_ n t3 ts rows ak c (q:Int)=some (.inl ())
 |0,q,c,hd,hj,hc=>by
  obtain⟨c,rfl⟩:∃e,c=e+1:=⟨c-1,by omega⟩;unfold qK_;rw[show decide ((q:Int)<2)=false by simp;omega,if_neg (by decide)]
 |d+1,q,c,hd,hj,hc=>by
  obtain⟨c,rfl⟩:∃e,c=e+1:=⟨c-1,by omega⟩;have ih:=fp_L1 hn hq d (q+1) c (by omega) (by omega) (by omega);unfold qK_;rw[show decide ((q:Int)<2)=true by simp;omega,if_pos rfl];rcases hq q (by omega) with⟨e,h⟩ |⟨L,b,h1,h2,h3,h⟩
  ·have e1:=h ByteArray.empty 1000 (by omega) (by omega)
   unfold askC at e1;have e1:qz_ n (⟨ByteArray.empty,1000⟩:GPage) (q:Int) ts rows (⟨ak.1.type_,ak.1.id_⟩:GObj) ak.2.1 (⟨ak.2.2.type_,ak.2.2.id_,ak.2.2.rel⟩:GSub)=_:=e1;rw[e1,Zo,if_neg (by simp),fp_L2e (by omega) h,Zo];dsimp only;rw[xO_ (a:=[]) (by simp;omega) (by simp),Zo,if_pos rfl];have e3:qF_ n ([],false,e) n 1=some (.inl ()):=by
    obtain⟨m,rfl⟩:∃e,n=e+1:=⟨n-1,by omega⟩;rfl
   rw[e3,Zo,w64a (by omega)];exact ih
  ·have e1:=h ByteArray.empty 1000 (by omega) (by omega)
   have hGl:(L.filter b).length<=90:=Nat.le_trans (List.length_filter_le _ _) h3;rw[show ByteArray.empty={ data:= #[] } from rfl,hs_,List.take_of_length_le (by omega),decide_eq_false (by omega)] at e1;unfold askC at e1;have e1:qz_ n (⟨ByteArray.empty,1000⟩:GPage) (q:Int) ts rows (⟨ak.1.type_,ak.1.id_⟩:GObj) ak.2.1 (⟨ak.2.2.type_,ak.2.2.id_,ak.2.2.rel⟩:GSub)=_:=e1
   have e2:qA_ n t3 ts rows ak (q:Int) (L.filter b,false,0) n ([],{ data:= #[] },0)=_:=fp_L2 (t3:=t3) h1 h2 h3 h ((L.filter b).length-0) 0 n 0 rfl (Nat.zero_le _) (by omega) (Nat.le_refl _);have e3:qF_ n (L.filter b,false,0) n 1=_:=fp_L3 (n:=n) (List.Pairwise.filter _ h1) hGl _ 1 n rfl (Nat.le_refl _) (by omega);rw[e1,Zo,if_neg (by simp),e2,Zo];dsimp only
   rw[xO_ (by omega) (by omega),Zo,if_pos rfl,e3,Zo,w64a (by omega)];exact ih
end
abbrev nW:Nat:=3000000000
def tyD:List GType:=[⟨{ data:= #[117] },[]⟩,⟨{ data:= #[100] },[⟨{ data:= #[111] },[⟨{ data:= #[117] },ByteArray.empty,ByteArray.empty⟩],[]⟩]⟩]
def rwD:List GTuple:=[⟨⟨{ data:= #[100] },{ data:= #[97] }⟩,{ data:= #[111] },⟨{ data:= #[117] },{ data:= #[120] },ByteArray.empty⟩⟩,⟨⟨{ data:= #[100] },{ data:= #[98] }⟩,{ data:= #[111] },⟨{ data:= #[117] },{ data:= #[120] },ByteArray.empty⟩⟩,⟨⟨{ data:= #[100] },{ data:= #[99] }⟩,{ data:= #[111] },⟨{ data:= #[117] },{ data:= #[120] },ByteArray.empty⟩⟩]
theorem s7_:xI_ nW ({ data:= #[116,121,112,101,32,117,32,116,121,112,101,32,100,32,123,32,111,58,32,117,59,32,125] })=some tyD:=by kernel_rfl
theorem rwD_is:xd_ nW nW ([],0)=some rwD:=by kernel_rfl
theorem s8_:∀t∈rwD,x3_ nW t=some true:=by
 intro t ht;simp only[rwD,List.mem_cons,List.not_mem_nil,or_false] at ht;rcases ht with rfl |rfl |rfl<;>kernel_rfl
def scD:WellSchema:=⟨[({ data:= #[117] },1),({ data:= #[100] },1)],[(⟨{ data:= #[100] },{ data:= #[111] }⟩,⟨{ data:= #[111] },[⟨{ data:= #[117] },ByteArray.empty,ByteArray.empty⟩],[]⟩)],[]⟩
theorem n8_:ke_ nW tyD=some (.inl scD):=by kernel_rfl
theorem cF_:xH_ nW=some true:=by
 have hB:kK_ tyD:=by
  obtain⟨l,h1,h2⟩:=pC_ ({ data:= #[116,121,112,101,32,117,32,116,121,112,101,32,100,32,123,32,111,58,32,117,59,32,125] }) nW (by decide);rw[s7_] at h1;cases h1;exact h2
 obtain⟨r,w1,w2⟩:=gC_ hB (n:=nW) (by decide);rw[n8_] at w1;cases w1;have hW:=w2 _ rfl
 have f1:qM_ nW tyD rwD { data:= #[100] } { data:= #[111] } (⟨{ data:= #[117] },{ data:= #[120] },ByteArray.empty⟩:GSub) (⟨{ data:= #[97] },1⟩:GPage)=_:=kF_ n8_ hW hB (by decide) (by decide) s8_ (typ:={ data:= #[100] }) (rel:={ data:= #[111] }) (a:={ data:= #[97] }) (m:=1) (by kernel_rfl) rfl (by decide) (by decide)
 have f2:q7_ nW tyD rwD (⟨{ data:= #[100] },{ data:= #[97] }⟩:GObj) { data:= #[111] } { data:= #[117] } (⟨ByteArray.empty,9⟩:GPage)=_:=w0_ n8_ hW hB (by decide) (by decide) s8_ (o:=⟨{ data:= #[100] },{ data:= #[97] }⟩) (rel:={ data:= #[111] }) (typ:={ data:= #[117] }) (a:=ByteArray.empty) (m:=9) (by kernel_rfl) (by decide) (by decide)
 have f3:qM_ nW tyD rwD { data:= #[100] } { data:= #[111] } (⟨ByteArray.empty,ByteArray.empty,ByteArray.empty⟩:GSub) (⟨ByteArray.empty,0⟩:GPage)=some ([],false,1):=by kernel_rfl
 have g1:((idsT scD rwD { data:= #[100] }).filter (zK_ (fun x=>hasB nW scD rwD ⟨{ data:= #[100] },x⟩ { data:= #[111] } ⟨{ data:= #[117] },{ data:= #[120] },ByteArray.empty⟩) { data:= #[97] }))= [{ data:= #[98] },{ data:= #[99] }]:=by kernel_rfl
 have g2:((idsU scD rwD { data:= #[117] }).filter (zK_ (fun x=>hasB nW scD rwD ⟨{ data:= #[100] },{ data:= #[97] }⟩ { data:= #[111] } ⟨{ data:= #[117] },x,ByteArray.empty⟩) ByteArray.empty))= [{ data:= #[120] }]:=by kernel_rfl
 rw[g1] at f1;rw[g2] at f2;unfold xH_;rw[s7_,Zo,rwD_is,Zo,f1,Zo,f2,Zo,f3,Zo];have s1:q8_ nW [{ data:= #[98] }] [{ data:= #[98] }]=some true:=xO_ (by decide) (by decide);have s2:q8_ nW [{ data:= #[120] }] [{ data:= #[120] }]=some true:=xO_ (by decide) (by decide);simp only[List.take_succ_cons,List.take_zero,List.take_nil]
 rw[s1,Zo,if_pos rfl,if_pos (by decide),if_pos (by decide),s2,Zo,if_pos rfl,if_neg (by decide)];rfl
theorem law_findPages (t0 t1:List Int)(t2 t3:Int):∃n,xw_ n t0 t1 t2 t3=some true:=by
 refine⟨nW,?_⟩;have haw:=cF_;have hn1:2000200000<nW:=by decide
 generalize hn0:nW=n at haw hn1⊢;have hn:=hn1;clear hn0;obtain⟨s,h1,hs⟩:=pp_ (n:=n) (by omega) t0;obtain⟨ts,h2,hB⟩:=pC_ s n (by omega);obtain⟨l,h3,hl⟩:=cI_ t1 40;have h3:slc t1 0 (if 40<(t1.length:Int) then 40 else(t1.length:Int))=some l:=h3
 obtain⟨rows,h4,_,hr,hp⟩:=sg_ (n:=n) l (by omega);obtain⟨ak,h5,ha⟩:=sh_ n t2;have hok:∀t∈rows,x3_ n t=some true:=fun t ht=>(cL_ (by omega) (hp t ht)).2;have hsr:ak.2.2.rel={ data:= #[] }:=ha.2.2.2.2
 have hbad:∀e,(e != 0)=true->(∀(a:ByteArray) (m:Nat),1<=m->m<=1000->jh_ n ts rows ak.1.type_ ak.2.1 ⟨a,(m:Int)⟩=some ((),e))->∀q,q<2->PG n ts rows ak q:=fun e he h q hq=>.inl ⟨e,fun a m m1 m2=>by
  obtain⟨f1,f2⟩:=r8_ (o:=(⟨ak.1.type_,ak.1.id_⟩:GObj)) (typ:={ data:= #[117] }) (s:=(⟨ak.2.2.type_,ak.2.2.id_,ak.2.2.rel⟩:GSub)) (h a m m1 m2) he hsr;unfold askC qz_;rcases Nat.lt_or_ge q 1 with h0 |h0
  ·rw[if_pos (by rw[show q=0 by omega];rfl),f1]
   rfl
  ·rw[if_neg (by rw[show q=1 by omega];decide),f2]
   rfl⟩
 have hpg:∀q,q<2->PG n ts rows ak q:=by
  obtain⟨w,w1,w2⟩:=gC_ hB (n:=n) (by omega);rcases w with S |e
  ·have hW:=w2 S rfl
   cases hk:mhas (⟨ak.1.type_,ak.2.1⟩:WellName) S.rels with
   |false=>exact hbad 12 rfl fun a m m1 m2=>md_ w1 hW hB (by omega) (by omega) hok hk m1 m2
   |true=>
    have hid:∀t∈rows.filter (fitB S),t.obj.id_∈idL/\t.sub_.id_∈idL:=fun t ht=>⟨(hp t (List.mem_filter.1 ht).1).id,(hp t (List.mem_filter.1 ht).1).si⟩;have hne:∀x∈idL,x≠{ data:= #[] }:=by decide
    intro q hq;rcases Nat.lt_or_ge q 1 with h0 |h0
    ·refine .inr ⟨idsT S rows ak.1.type_,fun x=>hasB n S rows ⟨ak.1.type_,x⟩ ak.2.1 ⟨ak.2.2.type_,ak.2.2.id_,ak.2.2.rel⟩,tx.rises_ofL _,fun x hx=> ?_,Nat.le_trans hp_ (by omega),fun a m m1 m2=> ?_⟩
     ·have:=tx.mem_ofL.1 hx
      unfold up_ at this;obtain⟨t,ht,rfl⟩:=List.mem_map.1 this;exact hne _ (hid t (tO.mem_ofL.1 (List.mem_filter.1 ht).1)).1
     ·unfold askC qz_
      rw[if_pos (by rw[show q=0 by omega];rfl)];show(qM_ n ts rows ak.1.type_ ak.2.1 (⟨ak.2.2.type_,ak.2.2.id_,ak.2.2.rel⟩:GSub) ⟨a,(m:Int)⟩).bind _=_;rw[kF_ w1 hW hB (by omega) (by omega) hok hk hsr m1 m2];rfl
    ·refine .inr ⟨idsU S rows { data:= #[117] },fun x=>hasB n S rows ⟨ak.1.type_,ak.1.id_⟩ ak.2.1 ⟨{ data:= #[117] },x,ByteArray.empty⟩,tx.rises_ofL _,fun x hx=> ?_,Nat.le_trans hr_ (by omega),fun a m m1 m2=> ?_⟩
     ·have:=tx.mem_ofL.1 hx
      unfold kN_ at this;obtain⟨t,ht,rfl⟩:=List.mem_map.1 this;exact hne _ (hid t (tO.mem_ofL.1 (List.mem_filter.1 (List.mem_filter.1 ht).1).1)).2
     ·unfold askC qz_
      rw[if_neg (by rw[show q=1 by omega];decide)];rw[w0_ (o:=(⟨ak.1.type_,ak.1.id_⟩:GObj)) w1 hW hB (by omega) (by omega) hok hk m1 m2];rfl
  ·exact hbad e (dg_ w1) fun a m m1 m2=>me_ w1 m1 m2
 have e1:qK_ n t3 ts rows ak n 0=_:=fp_L1 (t3:=t3) (by omega) hpg 2 0 n rfl (by omega) (by omega);unfold xw_;rw[h1,Zo,h2,Zo,h3,Zo,h4,Zo,h5,Zo,e1,Zo];show(xH_ n).bind _=_;rw[haw];rfl
end Go.Proofs.YtnmkbmefohakmaaGreat.Ab
namespace Go.Proofs.YtnmkbmefohakmaaGreat.Ab
open Go.ChangeShapes Go.WideShapes Go.ChangeAt Go.RowKit
abbrev All (W:World):Nat->Prop:=fun k=>k<W.heap.size/\¬False
section
variable {H:Type}{enc:TypeId × Value->H}{P:Program}{W:World}
def Opens {H:Type}(enc:TypeId × Value->H)(P:Program)(W:World)(t:TypeId){α:Type}(e:α->List D)(ok:α->Prop):Prop:=
 ∀(fuel:Nat) (cs:List Value) (x:DataW H × List MemPlace),DataW.trod enc P W 0 (fun _=>true) true fuel t cs=some x->∃a:α,ok a/\cs.length=(e a).length/\∀(j:Nat) (d:D),(e a)[j]? =some d->∃u,cs[j]? =some u/\RC W (All W) d u
theorem yf_ {d:D}{u:Value}(h:RC W (All W) d u):∀(j:Nat) (d':D),[d][j]? =some d'->∃u',[u][j]? =some u'/\RC W (All W) d' u':=fun j d' hj=>by
 cases j with
 |zero=>cases hj;exact⟨u,rfl,h⟩
 |succ j=>simp at hj
theorem Opens.int {t:TypeId}{k:IntKind}(ht:P.underlying t=some (.int k)):Opens enc P W t (fun n:Int=>[.v (.int k n)]) fun n=>(Lit.int k n).wf=true:=fun fuel cs x h=>by
 obtain⟨n,rfl,_,hw⟩:=DataW.trod_int ht h;exact⟨n,hw,rfl,yf_ (.v _ rfl)⟩
theorem Opens.bool {t:TypeId}(ht:P.underlying t=some .bool):Opens enc P W t (fun b:Bool=>[.v (.bool b)]) fun _=>True:=fun fuel cs x h=>by
 obtain⟨n,rfl,_⟩:=DataW.trod_bool ht h;exact⟨n,trivial,rfl,yf_ (.v _ rfl)⟩
theorem cN_ {w:World}{p:Addr}{x:Value}(h:w.cell? p=some x):p.block<w.heap.size:=by
 rcases Nat.lt_or_ge p.block w.heap.size with h1 |h1
 ·exact h1
 ·have:w.heap[p.block]? =none:=Array.getElem?_eq_none h1
  simp[World.cell?,this] at h
theorem bd_ {b o i:Nat}:(⟨b,o,none⟩:Addr).add i=⟨b,o+i,none⟩:=by
 unfold Addr.add;split<;>simp_all
theorem Opens.slice {t e:TypeId}{k:Nat}(ht:P.underlying t=some (.slice e))(hk:P.cellsOf e=k)(h0:0<k){α:Type}{en:α->List D}{ok:α->Prop}(hl:∀a,(en a).length=k)(he:Opens enc P W e en ok):
  Opens enc P W t (fun l:List α=>[.sl (List.map en l)]) fun l=>l.length<=maxLen/\∀a∈l,ok a:=fun fuel cs x h=>by
 subst hk;rcases DataW.trod_slice ht h with⟨rfl,_⟩ |⟨a,len,cap,elems,rest,n,_,rfl,_,_,hlc,hm,hel,hat,_,_⟩
 ·exact⟨[],⟨Nat.zero_le _,by simp⟩,rfl,yf_ (.nl _ _)⟩
 ·have each:∀i:Fin len,∃(y:α) (us:List Value),ok y/\us.length=P.cellsOf e/\(∀j,j<P.cellsOf e->W.cell? ((a.add (i.1*P.cellsOf e)).add j)=us[j]?)/\∀(j:Nat) (d:D),(en y)[j]? =some d->∃u,us[j]? =some u/\RC W (All W) d u:=fun i=>by
   have h1:=hat i.1 i.2;rw[List.getElem?_eq_getElem (by rw[hel];exact i.2)] at h1;obtain⟨us,h2,h3⟩:=Option.bind_eq_some_iff.1 h1;obtain⟨_,h5,h6⟩:=World.cells?_some h2;obtain⟨y,k1,k2,k3⟩:=he _ _ _ h3;exact⟨y,us,k1,h5,h6,k3⟩
  have ch:∃(f:Fin len->α) (g:Fin len->List Value),∀i,ok (f i)/\(g i).length=P.cellsOf e/\(∀j,j<P.cellsOf e->W.cell? ((a.add (i.1*P.cellsOf e)).add j)=(g i)[j]?)/\∀(j:Nat) (d:D),(en (f i))[j]? =some d->∃u,(g i)[j]? =some u/\RC W (All W) d u:=
   ⟨fun i=>(each i).choose,fun i=>(each i).choose_spec.choose,fun i=>(each i).choose_spec.choose_spec⟩
  obtain⟨f,g,hfg⟩:=ch;refine⟨List.ofFn f,⟨by simp;omega,fun y hy=> ?_⟩,rfl,yf_ ?_⟩
  ·obtain⟨i,rfl⟩:=List.mem_ofFn.1 hy
   exact(hfg i).1
  ·cases len with
   |zero=>exact .nl _ _
   |succ m=>
    have hc0:=(hfg ⟨0,by omega⟩).2.2.1 0 h0;have hl0:0<(g ⟨0,by omega⟩).length:=by rw[(hfg ⟨0,by omega⟩).2.1];exact h0
    rw[List.getElem?_eq_getElem hl0] at hc0;obtain⟨b,o,s⟩:=a;have hspot:s=none:=by
     have:=World.cell?_spot hc0
     simpa [Addr.add] using this
    subst hspot;have hlen:(List.map en (List.ofFn f)).length=m+1:=by simp
    have at':∀(i:Nat) (cs:List D),(List.map en (List.ofFn f))[i]? =some cs->∃hi:i<m+1,cs=en (f ⟨i,hi⟩):=fun i cs hi=>by
     have h1:i<m+1:=by
      have:=(List.getElem?_eq_some_iff.1 hi).1
      rwa [hlen] at this
     refine⟨h1,?_⟩;rw[List.getElem?_map,List.getElem?_eq_getElem (by rw[List.length_ofFn];exact h1),List.getElem_ofFn] at hi;exact(Option.some.inj hi).symm
    have key:=RC.sl (w:=W) (I:=All W) (List.map en (List.ofFn f)) b o cap (P.cellsOf e) (fun i j=>(W.cell? ⟨b,o+i*P.cellsOf e+j,none⟩).getD (.bool true)) ⟨?_,fun h=>h⟩ (by rw[hlen];exact hlc) ?_ ?_ ?_
    ·rw[hlen] at key
     exact key
    ·have:=cN_ hc0
     simpa [Addr.add] using this
    ·intro i cs hi
     obtain⟨h1,rfl⟩:=at' i cs hi;exact hl _
    ·intro i j cs d hi hj
     obtain⟨h1,rfl⟩:=at' i cs hi;obtain⟨u,k1,k2⟩:=(hfg ⟨i,h1⟩).2.2.2 j d hj;have hjk:j<P.cellsOf e:=by have:=(List.getElem?_eq_some_iff.1 hj).1;rwa [hl] at this
     have k3:=(hfg ⟨i,h1⟩).2.2.1 j hjk;rw[bd_,bd_,k1] at k3;simp only[k3,Option.getD_some]
    ·intro i j cs d hi hj
     obtain⟨h1,rfl⟩:=at' i cs hi;obtain⟨u,k1,k2⟩:=(hfg ⟨i,h1⟩).2.2.2 j d hj;have hjk:j<P.cellsOf e:=by have:=(List.getElem?_eq_some_iff.1 hj).1;rwa [hl] at this
     have k3:=(hfg ⟨i,h1⟩).2.2.1 j hjk;rw[bd_,bd_,k1] at k3;simp only[k3,Option.getD_some];exact k2
def OpensF {H:Type}(enc:TypeId × Value->H)(P:Program)(W:World)(o:Nat)(fs:List Field){α:Type}(e:α->List D)(ok:α->Prop):Prop:=
 ∀(n:Nat) (cs:List Value),(∀f∈fs,∃y,DataW.trod enc P W 0 (fun _=>true) true n f.type ((cs.drop f.offset).take (P.cellsOf f.type))=some y)->∃a:α,ok a/\∀(j:Nat) (d:D),(e a)[j]? =some d->∃u,cs[o+j]? =some u/\RC W (All W) d u
theorem OpensF.nil {o:Nat}:OpensF enc P W o [] (fun _:Unit=>[]) fun _=>True:=fun _ _ _=>⟨(),trivial,fun j d h=>by simp at h⟩
theorem OpensF.cons {o k:Nat}{f:Field}{fs:List Field}{α β:Type}{e1:α->List D}{e2:β->List D}{ok1:α->Prop}{ok2:β->Prop}(ho:f.offset=o)(hl:∀a,(e1 a).length=k)(h1:Opens enc P W f.type e1 ok1)(h2:OpensF enc P W (o+k) fs e2 ok2):
  OpensF enc P W o (f::fs) (fun p:α × β=>e1 p.1++e2 p.2) fun p=>ok1 p.1/\ok2 p.2:=fun n cs h=>by
 obtain⟨y,hy⟩:=h f (List.mem_cons_self ..);obtain⟨a,k1,k2,k3⟩:=h1 _ _ _ hy;obtain⟨b,k4,k5⟩:=h2 n cs fun g hg=>h g (List.mem_cons_of_mem _ hg);refine⟨(a,b),⟨k1,k4⟩,fun j d hj=> ?_⟩;rcases Nat.lt_or_ge j k with hlt |hge
 ·rw[List.getElem?_append_left (by rw[hl];exact hlt)] at hj
  obtain⟨u,e3,e4⟩:=k3 j d hj;refine⟨u,?_,e4⟩;rw[List.getElem?_take] at e3;split at e3
  ·rwa [List.getElem?_drop,ho] at e3
  ·cases e3
 ·rw[List.getElem?_append_right (by rw[hl];exact hge),hl] at hj
  obtain⟨u,e3,e4⟩:=k5 _ d hj;exact⟨u,by rw[<-e3];congr 1;omega,e4⟩
theorem Opens.struct {t:TypeId}{fs:Array Field}{α:Type}{e:α->List D}{ok:α->Prop}(ht:P.underlying t=some (.struct fs))(hl:∀a,(e a).length=P.cellsOf t)(h:OpensF enc P W 0 fs.toList e ok):Opens enc P W t e ok:=fun fuel cs x hx=>by
 obtain⟨xs,n,_,_,hc,hxs,hat⟩:=DataW.trod_struct ht hx;obtain⟨a,k1,k2⟩:=h n cs fun f hf=>by
  obtain⟨i,hi,rfl⟩:=List.getElem_of_mem hf;have hi':i<fs.size:=by simpa using hi
  have:=hat i fs[i] (by simp[hi'])
  rw[List.getElem?_eq_getElem (by omega)] at this;exact⟨_,by simpa using this⟩
 exact⟨a,k1,by rw[hc,hl],fun j d hj=>by have:=k2 j d hj;simpa using this⟩
theorem Opens.map {t:TypeId}{α β:Type}{e:α->List D}{ok:α->Prop}(h:Opens enc P W t e ok)(g:α->β){e':β->List D}{ok':β->Prop}(he:∀a,e' (g a)=e a)(hok:∀a,ok a->ok' (g a)):Opens enc P W t e' ok':=fun fuel cs x hx=>by
 obtain⟨a,k1,k2,k3⟩:=h fuel cs x hx;exact⟨g a,hok a k1,by rw[he];exact k2,by rw[he];exact k3⟩
theorem Opens.agg {t:TypeId}{fs:Array Field}{α:Type}{e:α->List D}{ok:α->Prop}(h:Opens enc P W t e ok)(ht:P.underlying t=some (.struct fs)){W1:World}{b1:Nat}{v:Value}{d:DataW H}{p:List MemPlace}(hv:Value.okWide P W1 .any b1 t v)(h0:DataW.Trod enc P W 0 (fun _=>true) true t v d p):∃a,ok a/\RV1 W (All W) (.ag (e a)) v:=by
 obtain⟨cs,rfl,_⟩:=okWide_struct ht hv;obtain⟨fuel,hf⟩:=h0;obtain⟨a,k1,k2,k3⟩:=h _ _ _ hf;simp only[Value.cells] at k2 k3;refine⟨a,k1,cs,rfl,by simpa using k2,fun j d hj=> ?_⟩;obtain⟨u,e1,e2⟩:=k3 j d hj;exact⟨u,by simpa using e1,e2⟩
theorem Opens.one {t:TypeId}{α:Type}{e:α->D}{ok:α->Prop}(h:Opens enc P W t (fun a=>[e a]) ok){v:Value}(hc:v.cells= #[v]){d:DataW H}{p:List MemPlace}(h0:DataW.Trod enc P W 0 (fun _=>true) true t v d p):∃a,ok a/\RC W (All W) (e a) v:=by
 obtain⟨fuel,hf⟩:=h0;obtain⟨a,k1,_,k3⟩:=h _ _ _ hf;rw[hc] at k3;obtain⟨u,e1,e2⟩:=k3 0 (e a) rfl;cases e1;exact⟨a,k1,e2⟩
end
theorem rows_nil {W:World}:∀(j:Nat) (d:D),([]:List D)[j]? =some d->∃u,([]:List Value)[j]? =some u/\RV1 W (All W) d u:=fun j d h=>by simp at h
theorem rows_cons {W:World}{d:D}{v:Value}{ds:List D}{vs:List Value}(h:RV1 W (All W) d v)(hs:∀(j:Nat) (d:D),ds[j]? =some d->∃u,vs[j]? =some u/\RV1 W (All W) d u):∀(j:Nat) (d':D),(d::ds)[j]? =some d'->∃u,(v::vs)[j]? =some u/\RV1 W (All W) d' u:=fun j d' hj=>by
 cases j with
 |zero=>cases hj;exact⟨v,rfl,h⟩
 |succ j=>exact hs j d' (by simpa using hj)
theorem law_pure {P:Program}{f:FuncId}{fr:Bool}{ds:List D}(h:PureOK P f ds (.v (.bool true)) fr)(W:World)(vs:List Value)(hl:vs.length=ds.length)(ha:∀(j:Nat) (d:D),ds[j]? =some d->∃u,vs[j]? =some u/\RV1 W (All W) d u):Calls P f vs.toArray W fun e W'=>e= .returned (.bool true)/\Below W.heap.size W W':=by
 refine(h.2 W (fun _=>False) vs.toArray (fun _ h=>h.elim) (by simpa using hl) fun j x hj=> ?_).mono fun e W' ⟨u,he,⟨hb,_⟩,hv⟩=> ?_
 ·obtain⟨u,e1,e2⟩:=ha j x hj
  exact⟨u,by simpa using e1,e2⟩
 ·cases(show RC W' _ (.v (.bool true)) u from hv)
  exact⟨he,hb⟩
end Go.Proofs.YtnmkbmefohakmaaGreat.Ab
namespace Go.Proofs.YtnmkbmefohakmaaGreat
open Go.ChangeShapes Go.WideShapes Go.ChangeAt Go.RowKit
namespace Ab
end Ab
namespace FpzF
open Ab
set_option maxRecDepth 100000 in
theorem lifted (os:Os)(started:os.Started)(H:Type)(enc:TypeId × Value->H):
  ReturnsInHanded {} Tryz.checked os 6 .any (Rows.findPagesSpec.pre6 enc Tryz.prog Tryz.f6 Rows.findPagesRow.domain false) (Rows.findPagesSpec.post enc Tryz.prog Tryz.f6 false true false false):=by
 refine returnsInHanded_of_change (C:=Tryz.checked) (by kernel_rfl) started (by kernel_rfl) Tryz.func6
  (ChangeSpec.witness6 (enc:=enc) (C:=Tryz.checked) false ⟨#[], #[.slice none 0 0,.slice none 0 0,.int .i64 0,.int .i64 0],[]⟩ 8 (by kernel_rfl) (by kernel_rfl) (by kernel_rfl) (by kernel_rfl)) ?_
 intro W base args ds gs before hval0 hW _ _;have hval:∀(j:Nat) t v,Tryz.f6.params[j]? =some t->args[j]? =some v->Value.okWide Tryz.prog W .any base t v:=hval0;have hW0:DataW.Whole enc Tryz.prog Tryz.f6.params.toList Rows.findPagesSpec.vars false W args.toList ds gs before:=hW;have hW':=hW0;obtain⟨p,q,hA0,hV,rfl,_,_⟩:=hW
 have hA:DataW.TrodAll enc Tryz.prog W 0 (fun _=>true) true Tryz.f6.params.toList args.toList ds p:=hA0;rw[Tryz.params6] at hA hval;obtain⟨vs⟩:=args;obtain⟨v0,vs1,d0,ds1,p0,q0,e0,c0,_,h0,hA1⟩:=trodAll_cons hA;obtain⟨v1,vs2,d1,ds2,p1,q1,e1,c1,_,h1,hA2⟩:=trodAll_cons hA1;obtain⟨v2,vs3,d2,ds3,p2,q2,e2,c2,_,h2,hA3⟩:=trodAll_cons hA2
 obtain⟨v3,vs4,d3,ds4,p3,q3,e3,c3,_,h3,hA4⟩:=trodAll_cons hA3;obtain⟨eN,cN,_⟩:=trodAll_nil hA4;subst eN;subst cN;subst e3;subst c3;subst e2;subst c2;subst e1;subst c1;have e0:vs=_:=e0;subst e0;subst c0;obtain⟨x0,y0,z0,rfl⟩:=okWide_slice Tryz.underlying22 (hval 0 22 v0 rfl rfl)
 obtain⟨a0,k0,r0⟩:=Ab.Opens.one (e:=(fun l:List Int=>D.sl (List.map eI l))) (ok:=(fun l:List Int=>l.length<=maxLen/\∀y∈l,(Lit.int .i64 y).wf=true)) (Ab.Opens.slice (k:=1) (ok:=(fun n:Int=>(Lit.int .i64 n).wf=true)) Tryz.underlying22 (by kernel_rfl) (by decide) (by intro _;rfl) (Ab.Opens.int Tryz.underlying2)) rfl h0
 obtain⟨x1,y1,z1,rfl⟩:=okWide_slice Tryz.underlying22 (hval 1 22 v1 rfl rfl)
 obtain⟨a1,k1,r1⟩:=Ab.Opens.one (e:=(fun l:List Int=>D.sl (List.map eI l))) (ok:=(fun l:List Int=>l.length<=maxLen/\∀y∈l,(Lit.int .i64 y).wf=true)) (Ab.Opens.slice (k:=1) (ok:=(fun n:Int=>(Lit.int .i64 n).wf=true)) Tryz.underlying22 (by kernel_rfl) (by decide) (by intro _;rfl) (Ab.Opens.int Tryz.underlying2)) rfl h1
 obtain⟨x2,rfl⟩:=okWide_int Tryz.underlying2 (hval 2 2 v2 rfl rfl);obtain⟨a2,k2,r2⟩:=Ab.Opens.one (e:=(fun n:Int=>D.v (.int .i64 n))) (ok:=(fun n:Int=>(Lit.int .i64 n).wf=true)) (Ab.Opens.int Tryz.underlying2) rfl h2;obtain⟨x3,rfl⟩:=okWide_int Tryz.underlying3 (hval 3 3 v3 rfl rfl)
 obtain⟨a3,k3,r3⟩:=Ab.Opens.one (e:=(fun n:Int=>D.v (.int .i64 n))) (ok:=(fun n:Int=>(Lit.int .i64 n).wf=true)) (Ab.Opens.int Tryz.underlying3) rfl h3;obtain⟨n,hn⟩:=Ab.law_findPages a0 a1 a2 a3
 exact(Ab.law_pure (Ab.law11_FindPages_ok hn) W [.slice x0 y0 z0,.slice x1 y1 z1,.int .i64 x2,.int .i64 x3] rfl (Ab.rows_cons r0 (Ab.rows_cons r1 (Ab.rows_cons r2 (Ab.rows_cons r3 Ab.rows_nil))))).mono fun e W' ⟨he,hb⟩=>⟨_,he,Cm.law_post (by kernel_rfl) (by kernel_rfl) rfl (tb:=4) (by kernel_rfl) Tryz.underlying4 rfl rfl rfl hW0 hb⟩
theorem said:Rows.FindPagesSaid:=
 OpenClaim.holds_of_wide 6 Tryz.f6 rfl rfl rfl rfl rfl rfl rfl ⟨rfl,rfl,rfl,rfl,rfl⟩ rfl rfl rfl rfl rfl (by kernel_rfl) Tryz.func6 (by kernel_rfl)
  (of_decide_eq_true (by kernel_rfl)) (by unfold Func.isWrapper;first |(rw[if_pos (by decide+kernel)];kernel_rfl) |(rw[if_neg (by decide+kernel)];exact⟨rfl,rfl⟩))
  (fun os started H enc _=>lifted os started H enc)
#print axioms said
end FpzF
end Go.Proofs.YtnmkbmefohakmaaGreat
