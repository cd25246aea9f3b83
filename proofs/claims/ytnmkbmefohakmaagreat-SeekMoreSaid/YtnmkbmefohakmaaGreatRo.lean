/-
 rows.Of: the set of some tuples.
-/
import Derived.Test.YtnmkbmefohakmaaGreatCq
import Derived.Shelf.SlSortCmp.NoneTotal
import Derived.Ground.SlsfProg
set_option linter.all false
namespace Go.Proofs.YtnmkbmefohakmaaGreat.Ab
open Go.RowKit Lib IntKind
theorem bq (a b:ByteArray):(a==b)=decide (a=b):=by
 rw[beq_toListBytes,NF,beq_iff_eq,decide_eq_true_eq];exact⟨fun h=>XX (by simpa [Lib.toList_data] using h),fun h=>by rw[h]⟩
theorem XT (x y:AE):(x.obj.type_==y.obj.type_&&(x.obj.id_==y.obj.id_&&(x.rel==y.rel&&(x.sub_.type_==y.sub_.type_&&(x.sub_.id_==y.sub_.id_&&(x.sub_.rel==y.sub_.rel))))))=decide (x=y):=by
 obtain⟨⟨_,_⟩,_,⟨_,_,_⟩⟩:=x;obtain⟨⟨_,_⟩,_,⟨_,_,_⟩⟩:=y;simp only[bq,AE.mk.injEq,Ao.mk.injEq,AL.mk.injEq,Bool.decide_and,Ok]
theorem se {i ver:Nat}{br:Bool}(xs:List AE)(h0:0<xs.length)(hn:xs.length<=4294967296){hp:Hp}(nx:Nat):
  AK Tryz.prog 121 [.so i ver 0 xs.length] (upd i (some (.rw (xs.map AH) 6 ver br false)) hp) nx fun v hp' _=>∃es,(compact xs).length<=es.length/\es.take (compact xs).length=(compact xs).map AH/\v= .so i ver 0 (compact xs).length/\hp'=upd i (some (.rw es 6 ver br false)) hp:=by
 refine zr Tryz.func121 ?_;by_cases h1:xs.length<2
 ·have c0:decide ((xs.length:Int)<2)=true:=by simp;omega
  refine Z1 c0 ?_;have e1:compact xs=xs:=by
   have:xs.length=1:=(by omega);rw[<-Uo,this,iT h0,<-this,Bx]
  refine Jc (v:=.so i ver 0 xs.length) (by simp -implicitDefEqProofs only[go_sem, ↓reduceIte,Tryz.f121]<;>rfl) ⟨xs.map AH,?_⟩;rw[e1];exact⟨by simp,Ny (by simp),rfl,rfl⟩
 have c0:decide ((xs.length:Int)<2)=false:=by simp;omega
 refine Z1 c0 ?_;refine WS (fun p:{ p:Nat × Nat // 1<=p.1/\p.1<=xs.length/\cq xs p.1=xs.take p.1 }=>⟨upd 0 (.so i ver 0 xs.length) (upd 3 (.v (.int .i64 (p.1.1:Int))) AQ),upd i (some (.rw (xs.map AH) 6 ver br false)) (hp),p.1.2⟩) (fun p=>xs.length+1-p.1.1) ⟨(1,_),Lc _,h0,iT h0⟩ ⟨Cv rfl (Cv rfl (KP _)),(WH.upd (by simp[HS]<;>rfl) (WH.base fun t ht=>by simp_all [HS])).all,Lc _⟩ ?_;rintro⟨⟨k,m⟩,hI⟩;simp only at hI;obtain⟨k1,k2,k3⟩:=hI;by_cases hk:k<xs.length;rotate_left
 ·have e1:k=xs.length:=by omega
  have c1:decide ((k:Int)<(xs.length:Int))=false:=by simp;omega
  refine Z1 c1 ?_;have e2:compact xs=xs:=by
   rw[<-Uo,<-e1,k3,e1,Bx]
  refine Jc (v:=.so i ver 0 xs.length) (by simp -implicitDefEqProofs only[go_sem, ↓reduceIte,Tryz.f121]<;>rfl) ⟨xs.map AH,?_⟩;rw[e2];exact⟨by simp,Ny (by simp),rfl,rfl⟩
 obtain⟨q,rfl⟩:∃q,k=q+1:=⟨k-1,by omega⟩;have c1:=Wr hk;have w1:i64.wrap (((q+1:Nat):Int)-1)=(q:Int):=by rw[IntWalk.i64_in _ (by omega)];omega
 have w2:i64.wrap (((q+1:Nat):Int)+1)=((q+1+1:Nat):Int):=SO (by omega);have r1:(xs.map AH)[q+1]? =some (AH xs[q+1]):=by rw[Lj,Ld hk];rfl
 have r2:(xs.map AH)[q]? =some (AH xs[q]):=by rw[Lj,Ld (by omega)];rfl
 have l2:q<xs.length:=by omega
 refine Z1 (Y6 c1 w1 r1 r2 hk l2) ?_;refine DR (by rfl) ?_;refine Z0 ?_;refine WQ (fun h=> ?_) (fun h=> ?_);rotate_left
 ·have hd:xs[q+1]≠xs[q]:=of_decide_eq_false ((XT _ _).symm.trans h);refine Z1 w2 ?_;exact⟨⟨(q+1+1,_),by omega,by omega,by rw[Jq hk hd,k3,List.take_append_getElem]⟩,⟨Cv rfl (Cv rfl (KP _)),(WH.upd (by simp[HS]<;>rfl) (WH.base fun t ht=>by simp_all [HS])).all,Lc _⟩,by simp only;omega⟩
 have hd:xs[q+1]=xs[q]:=of_decide_eq_true ((XT _ _).symm.trans h);have e1:cq xs (q+1+(0+1))=xs.take (q+1):=(Jp hk hd).trans k3;have hle:=BK hk;refine Z1 (Y2 hle hk) ?_;refine WS (fun p:{ p:Nat × Nat × List AE × Nat // q+1+(p.1+1)<=xs.length/\p.2.1=(cq xs (q+1+(p.1+1))).length/\p.2.2.1=yq xs (q+1+(p.1+1))/\p.2.1<=q+1+p.1 }=>⟨upd 0 (.so i ver 0 xs.length) (upd 3 (.v (.int .i64 (p.1.2.1:Int))) (upd 4 (.so i ver (q+1) (xs.length-(q+1))) (upd 5 (.v (.int .i64 ((p.1.1+1:Nat):Int))) AQ))),upd i (some (.rw (p.1.2.2.1.map AH) 6 ver br false)) (hp),p.1.2.2.2⟩) (fun p=>xs.length-p.1.1) ⟨(0,q+1,xs,_),by omega,by show q+1=_;rw[e1,Lw];omega,((iU (Jp hk hd)).trans (sj k3 k2)).symm,Lc _⟩ ⟨Cv rfl C7,(WH.upd (by simp[HS]<;>rfl) (WH.base fun t ht=>by simp_all [HS])).all,Lc _⟩ ?_;rintro⟨⟨t,l,ys,m⟩,hI⟩;simp only at hI;obtain⟨t1,t2,t3,t4⟩:=hI;have hy:ys.length=xs.length:=by rw[t3];exact QS t1
 have n3:l<xs.length:=by omega
 by_cases hm:q+1+(t+1)<xs.length
 ·have c2:decide (((t+1:Nat):Int)<((xs.length-(q+1):Nat):Int))=true:=Wr (by omega);have w3:i64.wrap (((t+1:Nat):Int)-1)=(t:Int):=by rw[IntWalk.i64_in _ (by omega)];omega
  have n1:t+1<xs.length-(q+1):=by omega
  have n2:t<xs.length-(q+1):=by omega
  have hm2:q+1+t<xs.length:=by omega
  have r3:(ys.map AH)[q+1+(t+1)]? =some (AH xs[q+1+(t+1)]):=by rw[Lj,t3,Js (by omega) hm];rfl
  have r4:(ys.map AH)[q+1+t]? =some (AH xs[q+1+t]):=by rw[Lj,t3,Js (by omega) hm2];rfl
  refine Z1 (Y6 c2 w3 r3 r4 n1 n2) ?_;refine DR (by rfl) ?_;refine Z0 ?_;have w5:i64.wrap (((t+1:Nat):Int)+1)=((t+1+1:Nat):Int):=SO (by omega);refine WQ (fun h=> ?_) (fun h=> ?_)
  ·have hne:xs[q+1+(t+1)]≠xs[q+1+t]:=by
    rw[XT] at h;simpa using h
   have w4:i64.wrap ((l:Int)+1)=((l+1:Nat):Int):=SO (by omega);have r5:(ys.map AH)[l]? =some (AH xs[l]):=(by rw[Lj,t3,Js (by omega) n3];rfl);have r6:(ys.map AH).set l (AH xs[q+1+(t+1)])=(yq xs (q+1+(t+1+1))).map AH:=by
    rw[<-NO,t3,t2];exact congrArg _ (QT (m:=q+1+t) hm (by rw[<-show l=(cq xs (q+1+t+1)).length from t2];exact n3) hne)
   simp -implicitDefEqProofs only[go_sem,Nat.reduceEqDiff,Nat.reduceAdd,reduceCtorEq, ↓reduceIte,r3,r5,n1,n3,r6,w4,w5,Ct,ON,LE,Lg,LB,O2,Nt,List.drop_nil,LY];have e6:(cq xs (q+1+(t+1+1))).length=l+1:=(by rw[show cq xs (q+1+(t+1+1))=_ from Jq (m:=q+1+t) hm hne,Lf,Lr,t2];rfl);exact⟨⟨(t+1,l+1,yq xs (q+1+(t+1+1)),_),by simp only;omega,by simp only;omega,rfl,by simp only;omega⟩,⟨Cv rfl C7,(WH.upd (by simp[HS]<;>rfl) (WH.base fun t ht=>by simp_all [HS])).all,Lc _⟩,by simp only;omega⟩
  have heq:xs[q+1+(t+1)]=xs[q+1+t]:=by
   rw[XT] at h;simpa using h
  have e5:cq xs (q+1+(t+1+1))=cq xs (q+1+(t+1)):=Jp (m:=q+1+t) hm heq;refine Z1 w5 ?_;exact⟨⟨(t+1,l,ys,_),by simp only;omega,by simp only;rw[e5];exact t2,by simp only;rw[t3];exact(iU (m:=q+1+t) e5).symm,by simp only;omega⟩,⟨Cv rfl C7,(WH.upd (by simp[HS]<;>rfl) (WH.base fun t ht=>by simp_all [HS])).all,Lc _⟩,by simp only;omega⟩
 have em:q+1+(t+1)=xs.length:=by omega
 have hl:l=(compact xs).length:=by rw[t2,em,Uo]
 subst hl;have c2:decide (((t+1:Nat):Int)<((xs.length-(q+1):Nat):Int))=false:=Zn (by omega);have n4:=BK n3;have n5:¬(xs.length-(compact xs).length=0):=by omega
 have n6:(compact xs).length+(xs.length-(compact xs).length)<=xs.length:=by omega
 simp -implicitDefEqProofs only[go_sem,Nat.reduceLT,Nat.reduceEqDiff,Nat.reduceAdd,reduceCtorEq, ↓reduceIte,c2,or_true,true_or,n3,n4,n5,n6,hy,B7];have hcl:=Jr xs xs.length;rw[Uo] at hcl;refine Jc (v:=.so i ver 0 (compact xs).length) (by simp -implicitDefEqProofs only[go_sem, ↓reduceIte,Tryz.f121]<;>rfl) ⟨_,?_,?_,rfl,EL _ _ _ _⟩
 ·simp only[Lf,Lw,LC,OL,hy];omega
 rw[Lq,List.take_append_of_le_length (by rw[Lw,LC,hy];omega),List.take_take,Nat.min_self,<-Be,t3,em];unfold yq;rw[Uo,List.take_left]
  
end Go.Proofs.YtnmkbmefohakmaaGreat.Ab
namespace Go.Proofs.YtnmkbmefohakmaaGreat.Ab
open Go.RowKit Go.Sort Go.Proofs
theorem rT {w w':World}(h:Below w.heap.size w w')(hd:w.drawn<=w'.drawn):∃q os,w'=grow (w.drewN q) os:=by
 refine⟨w'.drawn-w.drawn,w'.heap.extract w.heap.size w'.heap.size,?_⟩;have h1:=h.os;have h2:=h.tape;have h3:=h.output;have h4:=h.size;have h5:=h.block;obtain⟨hp,tp,dr,os,out⟩:=w;obtain⟨hp',tp',dr',os',out'⟩:=w';simp only at h1 h2 h3 h4 h5 hd;subst h1;subst h2;subst h3;simp only[grow,World.drewN,World.mk.injEq,true_and,and_true];refine⟨?_,by omega⟩;apply Array.ext_getElem?;intro k;rw[Array.getElem?_append];split
 ·rename_i hk;exact h5 k hk
 rename_i hk;rw[OG];split
 ·rw[show hp.size+(k-hp.size)=k by omega]
 rw[N7 (by omega)]
theorem rU {α:Type}[Inhabited α]{d d':Array α}(h:PermIn 0 d.size d d'):d'.toList.Perm d.toList:=by
 obtain⟨h1,_,h2⟩:=h;have e1:d'.extract 0 d.size=d':=by rw[<-h1];exact Ie
 have e2:d.extract 0 d.size=d:=Ie;rwa [e1,e2] at h2
theorem rV {α:Type}[Inhabited α]{lt:α->α->Bool}{d:Array α}(h:SortedIn lt 0 d.size d):d.toList.Pairwise fun a b=>lt b a=false:=by
 rw[B0];intro i j hi hj hij
 have:=h i j (Ll _) hij (by simpa using hj);simpa [getElem!_pos,show i<d.size by simpa using hi,show j<d.size by simpa using hj] using this
section
variable {P:Program}{ρ:Go.Shelf.Ren}
def El (β:Type)(encD:β->List D)(k:Nat)(w:World)(I:Nat->Prop):Type:={ p:β × List Value // p.2.length=k/\∀(j:Nat) (d:D),(encD p.1)[j]? =some d->∃u,p.2[j]? =some u/\RC w I d u }
theorem rW (L:Go.Proofs.SlLaysF0.n6 P ρ){k:Nat}(aE:∀w,(isAgg (ρ.t 24)).run P w= .ok true w)(zE:∀w,(Go.sizeOf (ρ.t 24)).run P w= .ok k w){β:Type}(encD:β->List D)(hk:∀x,(encD x).length=k)(cf:β->β->Int)(hO:SWO (ltOf cf))
  {f:FuncId} (hf:ρ.f 6=f) (hE:Ks P f) {g:FuncId} {fr:Bool} (eg:∀args w,(callFunc g args).run P w= .ok (.enter g args) w) (hc:∀x y,AI P g [.ag (encD x),.ag (encD y)] (.v (.int .i64 (cf x y))) fr)
  (xs:List β) (hx:xs≠[]) (hn:xs.length<4611686018427387904) {id ver:Nat} {br:Bool} {hp:Hp} {nx:Nat} (hi:hp id=some (.rw (xs.map encD) k ver br false)):
  AK P f [.so id ver 0 xs.length,.fn g []] hp nx fun v hp2 nx2=>v= .tu []/\nx2=nx/\∃ys:List β,ys.Perm xs/\(ys.Pairwise fun a b=>ltOf cf b a=false)/\hp2=upd id (some (.rw (ys.map encD) k ver br false)) hp:=by
 subst hf;refine⟨hE,fun gh c args hhp hkn hr hsz hargs=> ?_⟩;rw[<-hhp] at hi;obtain⟨hk0,hz,T,vs,C,h3,h4,h5,h6,h7⟩:=hr.obj id _ hi;rw[LC] at h5;obtain⟨hkn1,hgb,hgs⟩:=hr.dom id _ hi;obtain⟨u0,a0,b0⟩:=hargs 0 _ rfl;obtain⟨u1,a1,b1⟩:=hargs 1 _ rfl;have hblk:∃C',u0= .slice (some ⟨c.φ id,0,none⟩) xs.length C':=by
  cases(show RA gh c (.so id ver 0 xs.length) u0 from b0) with
  |so _ _ _ _ _ _ _ h=>
   obtain⟨_,cur,T0,C',_,_,e⟩:=(h _ _ _ _ _ hi).2 rfl;exact⟨C',by simpa using e⟩
 obtain⟨C',rfl⟩:=hblk;have hu1:u1= .func (.func g) #[] #[]:=by
  cases(show RA gh c (.fn g []) u1 from b1) with
  |fn _ _ us n hn' _=>
   simp only[LB] at hn';subst hn';rfl
 subst hu1;have hargs2:args= #[.slice (some ⟨c.φ id,0,none⟩) xs.length C',.func (.func g) #[] #[]]:=by
  have hsz2:args.size=2:=by simpa using hsz
  apply OD
  ·simpa using hsz2
  intro j h1 h2;have hj:j=0\/j=1:=by omega
  rcases hj with rfl |rfl
  ·simpa [h1] using a0
  simpa [h1] using a1
 subst hargs2;let I:Nat->Prop:=Im gh c br;have hIb:∀b,I b->b≠c.φ id/\b<c.w.heap.size:=fun b hb=>⟨fun e=>hb.2.2.1 id _ hi rfl e.symm,hb.1⟩;let α:=El β encD k c.w I
 have hel:∀i:Fin xs.length,∃x:α,x.1.1=xs[i]/\∀j,j<k->vs[i.1*k+j]? =x.1.2[j]? :=by
  intro i;have hxi:(xs.map encD)[i.1]? =some (encD xs[i]):=by simp
  have hkk:=hk xs[i];have hget:∀j:Fin k,∃u,vs[i.1*k+j.1]? =some u/\∀d,(encD xs[i])[j.1]? =some d->RC c.w I d u:=fun j=>by
   obtain⟨u,e1,e2⟩:=h7 i.1 j.1 _ ((encD xs[i])[j.1]'(by rw[hkk];exact j.2)) hxi (Ld _);refine⟨u,e1,fun d hd=> ?_⟩;rw[Ld (by rw[hkk];exact j.2)] at hd;cases hd;exact e2
  have hch:∃us:Fin k->Value,∀j:Fin k,vs[i.1*k+j.1]? =some (us j)/\∀d,(encD xs[i])[j.1]? =some d->RC c.w I d (us j):=⟨fun j=>(hget j).choose,fun j=>(hget j).choose_spec⟩;obtain⟨us,hus⟩:=hch;refine⟨⟨(xs[i],List.ofFn us),by simp,fun j d hd=> ?_⟩,rfl,fun j hj=> ?_⟩
  ·have hj:j<k:=(by have:=(Lb.1 hd).1;simp only[hkk] at this;exact this);exact⟨us ⟨j,hj⟩,by simp[hj],(hus ⟨j,hj⟩).2 d hd⟩
  simp[hj,(hus ⟨j,hj⟩).1]
 have hch2:∃es:Fin xs.length->α,∀i,(es i).1.1=xs[i]/\∀j,j<k->vs[i.1*k+j]? =(es i).1.2[j]? :=⟨fun i=>(hel i).choose,fun i=>(hel i).choose_spec⟩;obtain⟨es,hes⟩:=hch2;have hpos:0<xs.length:=by cases xs with |nil=>exact absurd rfl hx |cons _ _=>simp
 haveI:Inhabited α:=⟨es ⟨0,hpos⟩⟩
 let d:Array α:=Array.ofFn es;have hds:d.size=xs.length:=by simp[d]
 have hdm:d.toList.map (fun p=>p.1.1)=xs:=by
  apply List.ext_getElem
  ·simp[hds]
  intro i h1 h2;simp[d,(hes ⟨i,h2⟩).1]
 let enc:α->List Value:=fun p=>p.1.2
 have henc:∀x:α,(enc x).length=k:=fun x=>x.2.1;have hone:∀x:α,∀v∈enc x,v.oneCell'=true:=fun x v hv=>by
  obtain⟨j,hj,rfl⟩:=List.getElem_of_mem hv;have hlt:j<(encD x.1.1).length:=by rw[hk,<-x.2.1];exact hj
  obtain⟨u,e1,e2⟩:=x.2.2 j _ (Ld hlt);rw[Ld hj] at e1;cases e1;exact e2.one
 let cf':α->α->Int:=fun x y=>cf x.1.1 y.1.1
 have hO':SWO (ltOf cf'):=⟨fun x=>hO.irrefl x.1.1,fun x y z=>hO.trans x.1.1 y.1.1 z.1.1,fun x y z=>hO.ntrans x.1.1 y.1.1 z.1.1⟩;have hH:HoldsK enc k c.w (c.φ id) 0 d:=by
  intro t ht;have ht':t<d.size*k:=by simpa using ht
  have hq:t / k<xs.length:=by rw[<-hds];exact OV (by rwa [Bv] at ht')
  have hm:t%k<k:=Og _ hk0;have e0:t / k*k+t%k=t:=Nat.div_add_mod' t k;have e1:=(hes ⟨t / k,hq⟩).2 (t%k) hm;simp only[e0] at e1;have e2:d[t / k]! =es ⟨t / k,hq⟩:=by simp[d,hq]
  rw[get_flatK enc k d t ht',e2];have hl:t%k<(es ⟨t / k,hq⟩).1.2.length:=by rw[(es ⟨t / k,hq⟩).2.1];exact hm
  rw[Ld hl] at e1;refine⟨?_,by simp[World.frozen?,h3]⟩;rw[NC];simp only[World.cell?,h3];rw[e1];show some _=some (_root_.id ((es ⟨t / k,hq⟩).1.2[t%k]!));rw[getElem!_pos ((es ⟨t / k,hq⟩).1.2) (t%k) hl];rfl
 have hblkne:∀(m:Nat) (dk:Array α) (os:Array Obj) (b:Nat),I b->(Go.Proofs.sortWorldK enc k c.w (c.φ id) 0 m dk os).heap[b]? =c.w.heap[b]? :=fun m dk os b hb=>by
  obtain⟨n1,n2⟩:=hIb b hb;unfold sortWorldK putRowK;rw[Sort.heap_grow_old _ _ (by simpa [putRow,mapBlock,Sort.ahead] using n2)];simp[putRow,mapBlock,Sort.ahead,N9,Ne.symm n1]
 have hsize:∀(m:Nat) (dk:Array α) (os:Array Obj),c.w.heap.size<=(Go.Proofs.sortWorldK enc k c.w (c.φ id) 0 m dk os).heap.size:=fun m dk os=>Go.Proofs.size_sortWorldK_c enc k c.w (c.φ id) 0 m dk os;have hcmp:CmpLays P g #[] enc k cf' (c.φ id) 0 d.size c.w:=by
  intro m os dk hdk x y;have hS:=hsize m dk os;have hB:=hblkne m dk os;generalize sortWorldK enc k c.w (c.φ id) 0 m dk os=W at hS hB;have harg:∀z:α,DJ W (fun b=>b<W.heap.size/\¬(b=c.φ id)) (.ag (encD z.1.1)) (.agg z.1.2.toArray):=fun z=>by
   refine⟨_,rfl,by simp[z.2.1,hk],fun j dd hd=> ?_⟩;obtain⟨u,e1,e2⟩:=z.2.2 j dd hd;exact⟨u,by simpa using e1,e2.mono hB fun b hb=>⟨Lz (hIb b hb).2 hS,(hIb b hb).1⟩⟩
  have hP:Calls P g (#[.agg (enc x).toArray,.agg (enc y).toArray]++ #[]) W fun e w'=>∃u,e= .returned u/\(Below W.heap.size W w'/\W.drawn<=w'.drawn)/\RV w' (fun k=>k<w'.heap.size/\¬(k=c.φ id)/\(fr=true->W.heap.size<=k)) (.v (.int .i64 (cf x.1.1 y.1.1))) u:=by
   have hb0:∀k,(fun b=>b=c.φ id) k->k<W.heap.size:=fun k hk=>by
    have:k=c.φ id:=hk;rw[this];exact Lz hgs hS
   have hs0:(#[Value.agg (enc x).toArray,Value.agg (enc y).toArray]++ #[]).size= [D.ag (encD x.1.1),D.ag (encD y.1.1)].length:=(by simp);have ha0:∀(j:Nat) (dd:D),[D.ag (encD x.1.1),D.ag (encD y.1.1)][j]? =some dd->∃u,(#[Value.agg (enc x).toArray,Value.agg (enc y).toArray]++ #[])[j]? =some u/\DJ W (fun k=>k<W.heap.size/\¬(fun b=>b=c.φ id) k) dd u:=fun j dd hd=>by
    match j,hd with
    |0,hd=>
     have e:dd= .ag (encD x.1.1):=(by simpa using hd.symm);rw[e];exact⟨.agg (enc x).toArray,by simp,harg x⟩
    |1,hd=>
     have e:dd= .ag (encD y.1.1):=(by simpa using hd.symm);rw[e];exact⟨.agg (enc y).toArray,by simp,harg y⟩
    |j+2,hd=>simp at hd
   exact(hc x.1.1 y.1.1).2 W (fun b=>b=c.φ id) _ hb0 hs0 ha0
  refine hP.mono ?_;rintro e w' ⟨u,he,⟨hb,hdr⟩,hv⟩;cases(show RC w' _ (.v (.int .i64 (cf x.1.1 y.1.1))) u from hv);exact⟨he,rT hb hdr⟩
 have hcon:=AnyQ.slices_SortFunc L k aE zE enc henc hone cf' hO' g #[] (c.φ id) 0 C' d c.w eg hcmp hH hgs (by rw[hds];exact hn);rw[hds] at hcon;refine hcon.mono ?_;rintro e w' ⟨he,d',n,os,hperm,hsort,rfl⟩;rw[<-hds] at hperm hsort;have hds':d'.size=d.size:=hperm.1;let ys:List β:=d'.toList.map fun p=>p.1.1
 have hyl:ys.length=xs.length:=by simp[ys,hds',hds]
 have hnew:(sortWorldK enc k c.w (c.φ id) 0 n d' os).heap[c.φ id]? =some (.cells (putCells _root_.id 0 (Go.Sort.flatK enc k d') vs) T (0,0)):=by
  unfold sortWorldK putRowK;rw[Sort.heap_grow_old _ _ (by simpa [putRow,mapBlock,Sort.ahead] using hgs)];simp[putRow,mapBlock,Sort.ahead,N9,h3,onCells]
 have hbl:∀b,b<c.w.heap.size->b≠c.φ id->(sortWorldK enc k c.w (c.φ id) 0 n d' os).heap[b]? =c.w.heap[b]? :=fun b hb hne=>by
  unfold sortWorldK putRowK;rw[Sort.heap_grow_old _ _ (by simpa [putRow,mapBlock,Sort.ahead] using hb)];simp[putRow,mapBlock,Sort.ahead,N9,Ne.symm hne]
 have hcell:∀(i j:Nat) (x:α),d'[i]? =some x->j<k->(putCells _root_.id 0 (Go.Sort.flatK enc k d') vs)[i*k+j]? =x.1.2[j]? :=by
  intro i j x hx2 hj;have hi2:i<d'.size:=(LN.1 hx2).1;have hlt:i*k+j<d'.size*k:=by
   have:(i+1)*k<=d'.size*k:=LR k hi2;rw[Nb,Bk] at this;omega
  have hlt2:i*k+j<vs.size:=by
   have:d'.size*k<=C*k:=LR k (by omega);omega
  simp only[putCells,Array.getElem?_mapIdx,LA hlt2,LO];rw[if_pos (by simp;exact hlt),B7,get_flatK enc k d' _ hlt];have e1:(i*k+j) / k=i:=by rw[Bv,Nat.mul_add_div hk0,Ik hj,NS]
  have e2:(i*k+j)%k=j:=by rw[Bv,Nat.mul_add_mod,BN hj]
  have e3:d'[i]! =x:=by rw[getElem!_pos d' i hi2];exact(LN.1 hx2).2
  rw[e1,e2,e3];have hl:j<x.1.2.length:=by rw[x.2.1];exact hj
  show some (_root_.id (x.1.2[j]!))=_;rw[getElem!_pos x.1.2 j hl,Ld hl];rfl
 have hext:CF c ⟨upd id (some (.rw (ys.map encD) k ver br false)) c.hp,upd id (c.φ id) c.φ,sortWorldK enc k c.w (c.φ id) 0 n d' os,c.kn⟩:=by
  refine CF.chg hr hi rfl rfl rfl rfl (hsize n d' os) hbl (.inl rfl) (fun _ h=>h) (fun h=>by cases h) (fun es' sz' v' br' fz' e=> ?_) (NW _ _);cases e;refine⟨_,ver,br,false,rfl,Lc _,fun _=>⟨rfl,by simp[hyl],fun cur T0 e0=> ?_⟩⟩;rw[h3] at e0;cases e0;exact⟨_,hnew,by simp[putCells]⟩
 refine⟨.tuple #[],.tu [],⟨upd id (some (.rw (ys.map encD) k ver br false)) c.hp,upd id (c.φ id) c.φ,sortWorldK enc k c.w (c.φ id) 0 n d' os,c.kn⟩,nx,he,⟨rfl,rfl,ys,?_,?_,by simp only[hhp]⟩,rfl,hext,?_,⟨#[],rfl,rfl,fun j x h=>by simp at h⟩,Lc _,fun i hi=>.inl hi⟩
 ·have:=(rU hperm).map (fun p:α=>p.1.1);rwa [hdm] at this
 ·rw[<-hds'] at hsort;exact List.pairwise_map.2 (rV hsort)
 refine HR.chg hr hi hext hbl (.inl rfl) (Lz hgs (hsize n d' os)) ⟨hk0,fun i cs hi2=> ?_,T,putCells _root_.id 0 (Go.Sort.flatK enc k d') vs,C,?_,by simp only[putCells,Array.size_mapIdx];exact h4,by simp only[LC];omega,h6,fun i j cs dd hi2 hj=> ?_⟩
 ·rw[Lj,La] at hi2;obtain⟨x,_,rfl⟩:=hi2;exact hk x
 ·simp only[Ah];exact hnew
 rw[Lj,La] at hi2;obtain⟨y,e1,rfl⟩:=hi2;have hj2:j<k:=by have:=(Lb.1 hj).1;rwa [hk] at this
 simp only[ys,Lj,La] at e1;obtain⟨p,e1,rfl⟩:=e1;obtain⟨u,e2,e3⟩:=p.2.2 j dd hj;refine⟨u,?_,e3.ext hext⟩;rw[hcell i j p (by simpa using e1) hj2];exact e2
end
end Go.Proofs.YtnmkbmefohakmaaGreat.Ab
namespace Go.Proofs
open Go.Shelf Go.RowKit Go.Sort
def Tryz.sortFuncTuple_ren:Go.Shelf.Ren:=⟨fun |6=>119 |15=>104 |14=>144 |28=>136 |29=>137 |20=>168 |21=>169 |22=>170 |23=>171 |24=>172 |25=>173 |26=>174 |27=>175 |46=>183 |47=>151 |48=>152 |49=>184 |50=>185 |57=>188 |n=>n,fun |22=>26 |24=>35 |25=>207 |3=>3 |39=>48 |0=>0 |53=>223 |55=>225 |4=>4 |46=>216 |45=>215 |50=>220 |5=>5 |9=>9 |66=>232 |70=>236 |76=>252 |77=>94 |n=>n,fun |n=>n⟩
theorem Tryz.sortFuncTuple:Go.Proofs.SlLaysF0.n6 Tryz.prog Tryz.sortFuncTuple_ren:={
 mixed:=by kernel_rfl
 f6:=⟨Tryz.f119.name,by decide,Tryz.func119.trans (congrArg some (by kernel_rfl))⟩
 f14:=⟨Tryz.f144.name,by decide,Tryz.func144.trans (congrArg some (by kernel_rfl))⟩
 f15:=Tryz.func104.trans (congrArg some (by kernel_rfl))
 f20:=⟨Tryz.f168.name,by decide,Tryz.func168.trans (congrArg some (by kernel_rfl))⟩
 f21:=⟨Tryz.f169.name,by decide,Tryz.func169.trans (congrArg some (by kernel_rfl))⟩
 f22:=⟨Tryz.f170.name,by decide,Tryz.func170.trans (congrArg some (by kernel_rfl))⟩
 f23:=⟨Tryz.f171.name,by decide,Tryz.func171.trans (congrArg some (by kernel_rfl))⟩
 f24:=⟨Tryz.f172.name,by decide,Tryz.func172.trans (congrArg some (by kernel_rfl))⟩
 f25:=⟨Tryz.f173.name,by decide,Tryz.func173.trans (congrArg some (by kernel_rfl))⟩
 f26:=⟨Tryz.f174.name,by decide,Tryz.func174.trans (congrArg some (by kernel_rfl))⟩
 f27:=⟨Tryz.f175.name,by decide,Tryz.func175.trans (congrArg some (by kernel_rfl))⟩
 f28:=Tryz.func136.trans (congrArg some (by kernel_rfl))
 f29:=Tryz.func137.trans (congrArg some (by kernel_rfl))
 f46:=⟨Tryz.f183.name,by decide,Tryz.func183.trans (congrArg some (by kernel_rfl))⟩
 f47:=Tryz.func151.trans (congrArg some (by kernel_rfl))
 f48:=Tryz.func152.trans (congrArg some (by kernel_rfl))
 f49:=⟨Tryz.f184.name,by decide,Tryz.func184.trans (congrArg some (by kernel_rfl))⟩
 f50:=⟨Tryz.f185.name,by decide,Tryz.func185.trans (congrArg some (by kernel_rfl))⟩
 f57:=⟨Tryz.f188.name,by decide,Tryz.func188.trans (congrArg some (by kernel_rfl))⟩
 t0:=Tryz.underlying0
 a0:=Tryz.isAgg0
 z0:=Tryz.sizeOf0
 v0:=Tryz.zeroValue0
 t3:=Tryz.underlying3
 a3:=Tryz.isAgg3
 z3:=Tryz.sizeOf3
 v3:=Tryz.zeroValue3
 t4:=Tryz.underlying4
 a4:=Tryz.isAgg4
 z4:=Tryz.sizeOf4
 v4:=Tryz.zeroValue4
 t5:=Tryz.underlying5
 a5:=Tryz.isAgg5
 z5:=Tryz.sizeOf5
 v5:=Tryz.zeroValue5
 t9:=Tryz.underlying9
 a9:=Tryz.isAgg9
 z9:=Tryz.sizeOf9
 v9:=Tryz.zeroValue9
 t22:=Tryz.underlying26
 a22:=Tryz.isAgg26
 z22:=Tryz.sizeOf26
 v22:=Tryz.zeroValue26
 t25:=Tryz.underlying207
 a25:=Tryz.isAgg207
 z25:=Tryz.sizeOf207
 v25:=Tryz.zeroValue207
 t39:=Tryz.underlying48
 a39:=Tryz.isAgg48
 z39:=Tryz.sizeOf48
 v39:=Tryz.zeroValue48
 t45:=Tryz.underlying215
 a45:=Tryz.isAgg215
 z45:=Tryz.sizeOf215
 v45:=Tryz.zeroValue215
 t46:=Tryz.underlying216
 a46:=Tryz.isAgg216
 z46:=Tryz.sizeOf216
 v46:=Tryz.zeroValue216
 t50:=Tryz.underlying220
 a50:=Tryz.isAgg220
 z50:=Tryz.sizeOf220
 v50:=Tryz.zeroValue220
 t53:=Tryz.underlying223
 a53:=Tryz.isAgg223
 z53:=Tryz.sizeOf223
 v53:=Tryz.zeroValue223
 t55:=Tryz.underlying225
 a55:=Tryz.isAgg225
 z55:=Tryz.sizeOf225
 v55:=Tryz.zeroValue225
 t66:=Tryz.underlying232
 a66:=Tryz.isAgg232
 z66:=Tryz.sizeOf232
 v66:=Tryz.zeroValue232
 t70:=Tryz.underlying236
 a70:=Tryz.isAgg236
 z70:=Tryz.sizeOf236
 v70:=Tryz.zeroValue236
 t76:=Tryz.underlying252
 a76:=Tryz.isAgg252
 z76:=Tryz.sizeOf252
 v76:=Tryz.zeroValue252
 t77:=Tryz.underlying94
 a77:=Tryz.isAgg94
 z77:=Tryz.sizeOf94
 v77:=Tryz.zeroValue94 }
end Go.Proofs
namespace Go.Proofs.YtnmkbmefohakmaaGreat.Ab
open Go.Shelf Go.RowKit Go.Sort
def tk (t:AE):List ByteArray:=[t.obj.type_,t.obj.id_,t.rel,t.sub_.type_,t.sub_.id_,t.sub_.rel]
theorem kW (x y:AE)(h:tk x=tk y):x=y:=by
 obtain⟨⟨a,b⟩,c,⟨d,e,f⟩⟩:=x;obtain⟨⟨a',b'⟩,c',⟨d',e',f'⟩⟩:=y;simp only[tk,List.cons.injEq,and_true] at h;obtain⟨rfl,rfl,rfl,rfl,rfl,rfl⟩:=h;rfl
def tO:Lin AE:=au tk (fun _ _=>rfl) kW
def bX (x y:AE):Int:=Gd (tk x) (tk y)
theorem kX {n:Nat}{vs:List Int}(hx:vs.length<4611686018427387904):∀(c j:Nat),j<=vs.length->vs.length-j<c->Vh n vs c (j:Int)=some (if HZ (vs.drop j)=0 then .inl () else .inr (HZ (vs.drop j)))
 |0,_,_,h=>by omega
 |c+1,j,hj,hc=>by
  have ih:=kX (n:=n) hx c;unfold Vh;by_cases hlt:j<vs.length
  ·rw[Xk hlt,if_pos rfl,Jz hlt,Zo,List.drop_eq_getElem_cons hlt,Xj];unfold HZ;by_cases h:vs[j]=0
   ·rw[h,if_pos rfl,ih _ (by omega) (by omega)];simp
   rw[if_neg h];simp[h]
  rw[Ql,if_neg (by decide),List.drop_eq_nil_of_le (by omega)];rfl
theorem uK {n:Nat}{vs:List Int}(hx:vs.length<4611686018427387904)(hn:vs.length<n):Vi n vs=some (HZ vs):=by
 unfold Vi;have h:Vh n vs n 0=_:=kX hx n 0 (by omega) (by omega);rw[h,List.drop_zero,Zo];by_cases e:HZ vs=0
 ·rw[if_pos e,e]
 rw[if_neg e]
theorem uL (n:Nat)(a b:ByteArray):MV n a b=some (Gc a b):=rfl
theorem uM {n:Nat}(hn:10<n)(x y:AE):YJ n x y=some (bX x y):=by
 unfold YJ;simp only[uL,Zo];rw[uK (by simp) (by simp;omega)];rfl
theorem uN (x y:AE):AI Tryz.prog 120 [.ag (AH x),.ag (AH y)] (.v (.int .i64 (bX x y))) true:=vt (uM (n:=100) (by decide) x y)
theorem uO:AI Tryz.prog 118 [.sl []] (.sl []) true:=
 SN EO D7 Tryz.func118 (T:=26) (B:=4) rfl (by kernel_rfl) (by kernel_rfl) (by decide) rfl (by simp only[go_sem]) (by simp only[go_sem]) (by simp only[go_sem];decide) (by simp only[go_sem];decide)
theorem uP (xs:List AE)(h0:0<xs.length)(hn:xs.length<=4294967296){b:Bool}{hp:Hp}{nx:Nat}:
  AK Tryz.prog 118 [.d (.sl (xs.map AH)) b] hp nx fun v hp2 nx2=>v= .so (nx+3) 1 0 xs.length/\hp2=upd (nx+3) (some (.rw (xs.map AH) 6 1 false false)) hp/\nx2=nx+7:=by
 have h:=Z2 (e:=AH) (k:=6) (b:=b) (hp:=hp) (nx:=nx) EO D7 Tryz.func118 (T:=26) (B:=4) rfl (by kernel_rfl) (by kernel_rfl) (by decide) rfl (by simp only[go_sem]) (by simp only[go_sem]) (by simp only[go_sem]) (by decide) (by simp only[go_sem];decide) (fun _=>rfl) xs h0 hn;rw[Wz (f:=AH) (fun _=>rfl),Bool.not_true,Bool.and_false] at h;exact h
theorem kY:Ks Tryz.prog 119:=⟨_,Tryz.func119,by kernel_rfl,by kernel_rfl⟩
theorem uQ (xs:List AE)(h0:0<xs.length)(hn:xs.length<=4294967296){id ver:Nat}{br:Bool}{hp:Hp}{nx:Nat}(hi:hp id=some (.rw (xs.map AH) 6 ver br false)):
  AK Tryz.prog 119 [.so id ver 0 xs.length,.fn 120 []] hp nx fun v hp2 nx2=>v= .tu []/\nx2=nx/\∃ys:List AE,ys.length=xs.length/\Lib.compact ys=tO.ofL xs/\hp2=upd id (some (.rw (ys.map AH) 6 ver br false)) hp:=by
 have h:=rW (encD:=AH) (k:=6) (br:=br) (nx:=nx) Tryz.sortFuncTuple (fun w=>by kernel_rfl) (fun w=>by kernel_rfl) (fun _=>rfl) bX tO.swo rfl kY (enters_of Tryz.func120 (by kernel_rfl) rfl) uN xs (by rintro rfl;simp at h0) (by omega) hi;refine h.mono ?_;rintro v hp2 nx2 ⟨rfl,rfl,ys,h1,h2,h3⟩;exact⟨rfl,rfl,ys,h1.length_eq,tO.compact_sorted (fun x=>h1.mem_iff) h2,h3⟩
theorem uR (xs:List AE)(h0:0<xs.length)(hn:xs.length<=4294967296){id ver:Nat}{br:Bool}{hp:Hp}{nx:Nat}(hi:hp id=some (.rw (xs.map AH) 6 ver br false)):
  AK Tryz.prog 121 [.so id ver 0 xs.length] hp nx fun v hp2 _=>v= .so id (ver+1) 0 (Lib.compact xs).length/\hp2=upd id (some (.rw ((Lib.compact xs).map AH) 6 (ver+1) br false)) hp:=
 rZ hi (rY (se xs h0 hn nx))
theorem sort0_in {b:Bool}{hp:Hp}{nx:Nat}:AK Tryz.prog 119 [.d (.sl []) b,.fn 120 []] hp nx fun v hp2 nx2=>v= .tu []/\hp2=hp/\nx2=nx:=by
 refine⟨kY,fun g c args hhp hkn hr hsz hargs=> ?_⟩;obtain⟨u0,a0,b0⟩:=hargs 0 _ rfl;obtain⟨u1,a1,b1⟩:=hargs 1 _ rfl;have e0:∃a k,u0= .slice a 0 k:=by
  cases(show RA g c (.d (.sl []) b) u0 from b0) with
  |d _ _ _ hr=>cases hr with |nl a k=>exact⟨a,k,rfl⟩ |sl _ b o k=>exact⟨_,_,rfl⟩
 obtain⟨a,k,rfl⟩:=e0;have hu1:u1= .func (.func 120) #[] #[]:=by
  cases(show RA g c (.fn 120 []) u1 from b1) with
  |fn _ _ us n hn' _=>
   simp only[List.length_nil] at hn';subst hn';rfl
 subst hu1;have hargs2:args= #[.slice a 0 k,.func (.func 120) #[] #[]]:=by
  have hsz2:args.size=2:=by simpa using hsz
  apply Array.ext
  ·simpa using hsz2
  intro j h1 h2;have hj:j=0\/j=1:=by omega
  rcases hj with rfl |rfl
  ·simpa [h1] using a0
  simpa [h1] using a1
 subst hargs2;have hcon:=AnyF.slices_SortFunc_none Tryz.sortFuncTuple a k (.func (.func 120) #[] #[]) c.w;change Calls Tryz.prog 119 _ _ _ at hcon;refine hcon.mono ?_;rintro e w' ⟨rfl,rfl⟩;exact⟨.tuple #[],.tu [],c,nx,rfl,⟨rfl,hhp,rfl⟩,rfl,CF.refl c,hr,⟨#[],rfl,rfl,fun j x e=>by simp at e⟩,Nat.le_refl _,fun i h=>.inl h⟩
theorem Qt:AI Tryz.prog 121 [.sl []] (.sl []) false:=by
 refine Tf (tab:=tab) EO D7 Tryz.func121 rfl (by kernel_rfl) (by kernel_rfl) (by simp[Tryz.f121]) ?_;simp -implicitDefEqProofs only[go_sem,Int.reduceLT,decide_true,Nat.reduceAdd,reduceCtorEq, ↓reduceIte];exact HT (v:=.d (.sl []) true) (b:=true) (is:=[]) (by simp -implicitDefEqProofs only[go_sem, ↓reduceIte,Tryz.f121]<;>rfl) rfl rfl (fun h=>by cases h)
theorem uS (xs:List AE)(hn:xs.length<=4294967296):AI Tryz.prog 94 [.sl (xs.map AH)] (.sl ((tO.ofL xs).map AH)) true:=by
 refine Tf (tab:=tab) EO D7 Tryz.func94 rfl (by kernel_rfl) (by kernel_rfl) (by simp[Tryz.f94]) ?_;refine Z0 ?_;by_cases h0:0<xs.length
 ·refine CG ((uP xs h0 hn).mono ?_);rintro v hp2 nx2 ⟨rfl,rfl,rfl⟩;refine Z0 ?_;refine CG ((uQ xs h0 hn zz).mono ?_);rintro v hp2 nx2 ⟨rfl,rfl,ys,h1,h2,rfl⟩;refine Z0 ?_;rw[<-h1];have h0':0<ys.length:=by omega
  refine CG ((uR ys h0' (by omega) zz).mono ?_);rintro v hp2 nx2 ⟨rfl,rfl⟩;rw[h2];refine Z0 ?_;exact HT (v:=.so 7 2 0 (tO.ofL xs).length) (b:=false) (is:=[7]) (by simp -implicitDefEqProofs only[go_sem, ↓reduceIte,Tryz.f94]<;>rfl) zz rfl (fun _=>rfl)
 have e:xs= []:=List.eq_nil_of_length_eq_zero (by omega);subst e;refine Kx zz uO (.inr rfl) ?_;refine Z0 ?_;refine CG (sort0_in.mono ?_);rintro v hp2 nx2 ⟨rfl,rfl,rfl⟩;refine Z0 ?_;refine Kx zz Qt (.inl rfl) ?_;refine Z0 ?_;exact HT (v:=.d (.sl []) false) (b:=false) (is:=[]) (by simp -implicitDefEqProofs only[go_sem, ↓reduceIte,Tryz.f94]<;>rfl) rfl rfl (fun _=>rfl)
def Xs (_n:Nat)(xs:List AE):Option (List AE):=if xs.length<=4294967296 then some (tO.ofL xs) else none
theorem uT {n:Nat}{xs r:List AE}(h:Xs n xs=some r):AI Tryz.prog 94 [D.sl (List.map AH xs)] (D.sl (List.map AH r)) true:=by
 unfold Xs at h;split at h
 ·rename_i hn;obtain rfl:=Option.some.inj h;exact uS xs hn
 cases h
end Go.Proofs.YtnmkbmefohakmaaGreat.Ab
