/-
 rows.Of: the set of some tuples.
-/
import Derived.Test.YtnmkbmefohakmaaGreatCq
import Derived.Shelf.SlSortCmp.NoneTotal
import Derived.Ground.SlsfProg
set_option linter.all false
namespace Go.Proofs.YtnmkbmefohakmaaGreat.Ab
open Go.RowKit Lib IntKind
theorem bq (a b:ByteArray):(a==b)=decide (a=b):=by
 rw[beq_toListBytes,LY,beq_iff_eq,decide_eq_true_eq];exact⟨fun h=>ce (by simpa [Lib.toList_data] using h),fun h=>by rw[h]⟩
theorem YG (x y:AC):(x.obj.type_==y.obj.type_&&(x.obj.id_==y.obj.id_&&(x.rel==y.rel&&(x.sub_.type_==y.sub_.type_&&(x.sub_.id_==y.sub_.id_&&(x.sub_.rel==y.sub_.rel))))))=decide (x=y):=by
 have⟨⟨_,_⟩,_,⟨_,_,_⟩⟩:=x;have⟨⟨_,_⟩,_,⟨_,_,_⟩⟩:=y;simp only[bq,AC.mk.injEq,Ae.mk.injEq,AL.mk.injEq,Bool.decide_and,Ot]
theorem vK {i ver:Nat}{br:Bool}(xs:List AC)(u:0<xs.length)(hn:xs.length<=4294967296){hp:Hp}(nx:Nat):
  AT Tryz.prog 121 [.so i ver 0 xs.length] (upd i (some (.rw (xs.map AE) 6 ver br false)) hp) nx fun v I _=>∃w,(compact xs).length<=w.length/\w.take (compact xs).length=(compact xs).map AE/\v= .so i ver 0 (compact xs).length/\I=upd i (some (.rw w 6 ver br false)) hp:=by
 refine zr Tryz.func121 ?_;by_cases h1:xs.length<2
 ·have x:decide ((xs.length:Int)<2)=true:=by simp;omega
  refine Z1 x ?_;have c:compact xs=xs:=by
   have:xs.length=1:=(by omega);rw[<-VK,this,jq u,<-this,Bw]
  refine GM (v:=.so i ver 0 xs.length) (by simp -implicitDefEqProofs only[go_sem, ↓reduceIte,Tryz.f121]<;>rfl) ⟨xs.map AE,?_⟩;rw[c];exact⟨by simp,Nu (by simp),rfl,rfl⟩
 have x:decide ((xs.length:Int)<2)=false:=by simp;omega
 refine Z1 x ?_;refine XO (fun p:{ p:Nat × Nat // 1<=p.1/\p.1<=xs.length/\cq xs p.1=xs.take p.1 }=>⟨upd 0 (.so i ver 0 xs.length) (upd 3 (.v (.int .i64 (p.1.1:Int))) AJ),upd i (some (.rw (xs.map AE) 6 ver br false)) (hp),p.1.2⟩) (fun p=>xs.length+1-p.1.1) ⟨(1,_),Lc _,u,jq u⟩ ⟨DO rfl (DO rfl (KM _)),(WH.upd (by simp[HW]<;>rfl) (WH.base fun t j=>by simp_all [HW])).all,Lc _⟩ ?_;rintro⟨⟨k,m⟩,e⟩;simp only at e;have⟨k1,J,o⟩:=e;by_cases a:k<xs.length;rotate_left
 ·have c:k=xs.length:=by omega
  have y:decide ((k:Int)<(xs.length:Int))=false:=by simp;omega
  refine Z1 y ?_;have K:compact xs=xs:=by
   rw[<-VK,<-c,o,c,Bw]
  refine GM (v:=.so i ver 0 xs.length) (by simp -implicitDefEqProofs only[go_sem, ↓reduceIte,Tryz.f121]<;>rfl) ⟨xs.map AE,?_⟩;rw[K];exact⟨by simp,Nu (by simp),rfl,rfl⟩
 obtain⟨q,rfl⟩:∃q,k=q+1:=⟨k-1,by omega⟩;have y:=Xn a;have L:i64.wrap (((q+1:Nat):Int)-1)=(q:Int):=by rw[IntWalk.i64_in _ (by omega)];omega
 have M:i64.wrap (((q+1:Nat):Int)+1)=((q+1+1:Nat):Int):=Su (by omega);have N:(xs.map AE)[q+1]? =some (AE xs[q+1]):=by rw[Ln,Le a];rfl
 have O:(xs.map AE)[q]? =some (AE xs[q]):=by rw[Ln,Le (by omega)];rfl
 have Q:q<xs.length:=by omega
 refine Z1 (Y6 y L N O a Q) ?_;refine DD (by rfl) ?_;refine Z0 ?_;refine XM (fun h=> ?_) (fun h=> ?_);rotate_left
 ·have r:xs[q+1]≠xs[q]:=of_decide_eq_false ((YG _ _).symm.trans h);refine Z1 M ?_;exact⟨⟨(q+1+1,_),by omega,by omega,by rw[Jr a r,o,List.take_append_getElem]⟩,⟨DO rfl (DO rfl (KM _)),(WH.upd (by simp[HW]<;>rfl) (WH.base fun t j=>by simp_all [HW])).all,Lc _⟩,by simp only;omega⟩
 have r:xs[q+1]=xs[q]:=of_decide_eq_true ((YG _ _).symm.trans h);have c:cq xs (q+1+(0+1))=xs.take (q+1):=(Jq a r).trans o;have R:=BL a;refine Z1 (Y2 R a) ?_;refine XO (fun p:{ p:Nat × Nat × List AC × Nat // q+1+(p.1+1)<=xs.length/\p.2.1=(cq xs (q+1+(p.1+1))).length/\p.2.2.1=yq xs (q+1+(p.1+1))/\p.2.1<=q+1+p.1 }=>⟨upd 0 (.so i ver 0 xs.length) (upd 3 (.v (.int .i64 (p.1.2.1:Int))) (upd 4 (.so i ver (q+1) (xs.length-(q+1))) (upd 5 (.v (.int .i64 ((p.1.1+1:Nat):Int))) AJ))),upd i (some (.rw (p.1.2.2.1.map AE) 6 ver br false)) (hp),p.1.2.2.2⟩) (fun p=>xs.length-p.1.1) ⟨(0,q+1,xs,_),by omega,by show q+1=_;rw[c,Lx];omega,((jr (Jq a r)).trans (vL o J)).symm,Lc _⟩ ⟨DO rfl DW,(WH.upd (by simp[HW]<;>rfl) (WH.base fun t j=>by simp_all [HW])).all,Lc _⟩ ?_;rintro⟨⟨t,l,d,m⟩,e⟩;simp only at e;have⟨S,f,b,t4⟩:=e;have z:d.length=xs.length:=by rw[b];exact Qe S
 have g:l<xs.length:=by omega
 by_cases s:q+1+(t+1)<xs.length
 ·have A:decide (((t+1:Nat):Int)<((xs.length-(q+1):Nat):Int))=true:=Xn (by omega);have T:i64.wrap (((t+1:Nat):Int)-1)=(t:Int):=by rw[IntWalk.i64_in _ (by omega)];omega
  have B:t+1<xs.length-(q+1):=by omega
  have n2:t<xs.length-(q+1):=by omega
  have U:q+1+t<xs.length:=by omega
  have C:(d.map AE)[q+1+(t+1)]? =some (AE xs[q+1+(t+1)]):=by rw[Ln,b,Jt (by omega) s];rfl
  have r4:(d.map AE)[q+1+t]? =some (AE xs[q+1+t]):=by rw[Ln,b,Jt (by omega) U];rfl
  refine Z1 (Y6 A T C r4 B n2) ?_;refine DD (by rfl) ?_;refine Z0 ?_;have E:i64.wrap (((t+1:Nat):Int)+1)=((t+1+1:Nat):Int):=Su (by omega);refine XM (fun h=> ?_) (fun h=> ?_)
  ·have F:xs[q+1+(t+1)]≠xs[q+1+t]:=by
    rw[YG] at h;simpa using h
   have w4:i64.wrap ((l:Int)+1)=((l+1:Nat):Int):=Su (by omega);have r5:(d.map AE)[l]? =some (AE xs[l]):=(by rw[Ln,b,Jt (by omega) g];rfl);have r6:(d.map AE).set l (AE xs[q+1+(t+1)])=(yq xs (q+1+(t+1+1))).map AE:=by
    rw[<-NF,b,f];exact congrArg _ (Qf (m:=q+1+t) s (by rw[<-show l=(cq xs (q+1+t+1)).length from f];exact g) F)
   simp -implicitDefEqProofs only[go_sem,Nat.reduceEqDiff,Nat.reduceAdd,reduceCtorEq, ↓reduceIte,C,r5,B,g,r6,w4,E,DN,Ou,LA,Ll,LB,Ib,LD,List.drop_nil,Ns];have e6:(cq xs (q+1+(t+1+1))).length=l+1:=(by rw[show cq xs (q+1+(t+1+1))=_ from Jr (m:=q+1+t) s F,Ld,Lo,f];rfl);exact⟨⟨(t+1,l+1,yq xs (q+1+(t+1+1)),_),by simp only;omega,by simp only;omega,rfl,by simp only;omega⟩,⟨DO rfl DW,(WH.upd (by simp[HW]<;>rfl) (WH.base fun t j=>by simp_all [HW])).all,Lc _⟩,by simp only;omega⟩
  have V:xs[q+1+(t+1)]=xs[q+1+t]:=by
   rw[YG] at h;simpa using h
  have G:cq xs (q+1+(t+1+1))=cq xs (q+1+(t+1)):=Jq (m:=q+1+t) s V;refine Z1 E ?_;exact⟨⟨(t+1,l,d,_),by simp only;omega,by simp only;rw[G];exact f,by simp only;rw[b];exact(jr (m:=q+1+t) G).symm,by simp only;omega⟩,⟨DO rfl DW,(WH.upd (by simp[HW]<;>rfl) (WH.base fun t j=>by simp_all [HW])).all,Lc _⟩,by simp only;omega⟩
 have H:q+1+(t+1)=xs.length:=by omega
 have hl:l=(compact xs).length:=by rw[f,H,VK]
 subst hl;have A:decide (((t+1:Nat):Int)<((xs.length-(q+1):Nat):Int))=false:=az (by omega);have n4:=BL g;have n5:¬(xs.length-(compact xs).length=0):=by omega
 have n6:(compact xs).length+(xs.length-(compact xs).length)<=xs.length:=by omega
 simp -implicitDefEqProofs only[go_sem,Nat.reduceLT,Nat.reduceEqDiff,Nat.reduceAdd,reduceCtorEq, ↓reduceIte,A,or_true,true_or,g,n4,n5,n6,z,BP];have X:=Js xs xs.length;rw[VK] at X;refine GM (v:=.so i ver 0 (compact xs).length) (by simp -implicitDefEqProofs only[go_sem, ↓reduceIte,Tryz.f121]<;>rfl) ⟨_,?_,?_,rfl,EU _ _ _ _⟩
 ·simp only[Ld,Lx,Lt,NH,z];omega
 rw[Lz,List.take_append_of_le_length (by rw[Lx,Lt,z];omega),List.take_take,Nat.min_self,<-NZ,b,H];unfold yq;rw[VK,List.take_left]
  
end Go.Proofs.YtnmkbmefohakmaaGreat.Ab
namespace Go.Proofs.YtnmkbmefohakmaaGreat.Ab
open Go.RowKit Go.Sort Go.Proofs
theorem uV {w w':World}(h:Below w.heap.size w w')(g:w.drawn<=w'.drawn):∃q a,w'=grow (w.drewN q) a:=by
 refine⟨w'.drawn-w.drawn,w'.heap.extract w.heap.size w'.heap.size,?_⟩;have b:=h.os;have c:=h.tape;have d:=h.output;have i:=h.size;have e:=h.block;have⟨hp,j,l,a,m⟩:=w;have⟨o,p,r,s,t⟩:=w';simp only at b c d i e g;subst b;subst c;subst d;simp only[grow,World.drewN,World.mk.injEq,true_and,and_true];refine⟨?_,by omega⟩;apply Array.ext_getElem?;intro k;rw[Array.getElem?_append];split
 ·rename_i f;exact e k f
 rename_i f;rw[OP];split
 ·rw[show hp.size+(k-hp.size)=k by omega]
 rw[N9 (by omega)]
theorem uW {α:Type}[Inhabited α]{d a:Array α}(h:PermIn 0 d.size d a):a.toList.Perm d.toList:=by
 have⟨b,_,c⟩:=h;have e:a.extract 0 d.size=a:=by rw[<-b];exact Iq
 have f:d.extract 0 d.size=d:=Iq;rwa [e,f] at c
theorem uX {α:Type}[Inhabited α]{c:α->α->Bool}{d:Array α}(h:SortedIn c 0 d.size d):d.toList.Pairwise fun a b=>c b a=false:=by
 rw[NW];intro i j f e g
 have:=h i j (Lf _) g (by simpa using e);simpa [getElem!_pos,show i<d.size by simpa using f,show j<d.size by simpa using e] using this
section
variable {P:Program}{ρ:Go.Shelf.Ren}
def El (a:Type)(encD:a->List D)(k:Nat)(w:World)(I:Nat->Prop):Type:={ p:a × List Value // p.2.length=k/\∀(j:Nat) (d:D),(encD p.1)[j]? =some d->∃u,p.2[j]? =some u/\RC w I d u }
theorem uY (L:Go.Proofs.SlLaysF0.n6 P ρ){k:Nat}(aE:∀w,(isAgg (ρ.t 24)).run P w= .ok true w)(zE:∀w,(Go.sizeOf (ρ.t 24)).run P w= .ok k w){Q:Type}(encD:Q->List D)(R:∀x,(encD x).length=k)(V:Q->Q->Int)(hO:SWO (ltOf V))
  {f:FuncId} (hf:ρ.f 6=f) (hE:JK P f) {g:FuncId} {fr:Bool} (eg:∀Z w,(callFunc g Z).run P w= .ok (.enter g Z) w) (hc:∀x y,AM P g [.ag (encD x),.ag (encD y)] (.v (.int .i64 (V x y))) fr)
  (xs:List Q) (hx:xs≠[]) (hn:xs.length<4611686018427387904) {id ver:Nat} {br:Bool} {hp:Hp} {nx:Nat} (K:hp id=some (.rw (xs.map encD) k ver br false)):
  AT P f [.so id ver 0 xs.length,.fn g []] hp nx fun v b3 b4=>v= .tu []/\b4=nx/\∃G:List Q,G.Perm xs/\(G.Pairwise fun a b=>ltOf V b a=false)/\b3=upd id (some (.rw (G.map encD) k ver br false)) hp:=by
 subst hf;refine⟨hE,fun gh c Z a4 dm hr b5 a5=> ?_⟩;rw[<-a4] at K;have⟨ad,hz,T,N,C,h3,h4,h5,h6,h7⟩:=hr.obj id _ K;rw[Lt] at h5;have⟨dn,dp,aa⟩:=hr.dom id _ K;have⟨u0,a0,b0⟩:=a5 0 _ rfl;have⟨u1,a1,b1⟩:=a5 1 _ rfl;have b6:∃X,u0= .slice (some ⟨c.φ id,0,none⟩) xs.length X:=by
  cases(show RA gh c (.so id ver 0 xs.length) u0 from b0) with
  |so _ _ _ _ _ _ _ h=>
   have⟨_,b7,T0,X,_,_,e⟩:=(h _ _ _ _ _ K).2 rfl;exact⟨X,by simpa using e⟩
 obtain⟨X,rfl⟩:=b6;have b8:u1= .func (.func g) #[] #[]:=by
  cases(show RA gh c (.fn g []) u1 from b1) with
  |fn _ _ us n a6 _=>
   simp only[LB] at a6;subst a6;rfl
 subst b8;have b9:Z= #[.slice (some ⟨c.φ id,0,none⟩) xs.length X,.func (.func g) #[] #[]]:=by
  have cb:Z.size=2:=by simpa using b5
  apply OJ
  ·simpa using cb
  intro j h1 h2;have q:j=0\/j=1:=by omega
  rcases q with rfl |rfl
  ·simpa [h1] using a0
  simpa [h1] using a1
 subst b9;let I:Nat->Prop:=Im gh c br;have ag:∀b,I b->b≠c.φ id/\b<c.w.heap.size:=fun b E=>⟨fun e=>E.2.2.1 id _ K rfl e.symm,E.1⟩;let B:=El Q encD k c.w I
 have a9:∀i:Fin xs.length,∃x:B,x.1.1=xs[i]/\∀j,j<k->N[i.1*k+j]? =x.1.2[j]? :=by
  intro i;have cf:(xs.map encD)[i.1]? =some (encD xs[i]):=by simp
  have ak:=R xs[i];have ba:∀j:Fin k,∃u,N[i.1*k+j.1]? =some u/\∀d,(encD xs[i])[j.1]? =some d->RC c.w I d u:=fun j=>by
   have⟨u,r,F⟩:=h7 i.1 j.1 _ ((encD xs[i])[j.1]'(by rw[ak];exact j.2)) cf (Le _);refine⟨u,r,fun d A=> ?_⟩;rw[Le (by rw[ak];exact j.2)] at A;cases A;exact F
  have ch:∃us:Fin k->Value,∀j:Fin k,N[i.1*k+j.1]? =some (us j)/\∀d,(encD xs[i])[j.1]? =some d->RC c.w I d (us j):=⟨fun j=>(ba j).choose,fun j=>(ba j).choose_spec⟩;have⟨us,bb⟩:=ch;refine⟨⟨(xs[i],List.ofFn us),by simp,fun j d A=> ?_⟩,rfl,fun j q=> ?_⟩
  ·have q:j<k:=(by have:=(Lb.1 A).1;simp only[ak] at this;exact this);exact⟨us ⟨j,q⟩,by simp[q],(bb ⟨j,q⟩).2 d A⟩
  simp[q,(bb ⟨j,q⟩).1]
 have cp:∃H:Fin xs.length->B,∀i,(H i).1.1=xs[i]/\∀j,j<k->N[i.1*k+j]? =(H i).1.2[j]? :=⟨fun i=>(a9 i).choose,fun i=>(a9 i).choose_spec⟩;have⟨H,bd⟩:=cp;have cx:0<xs.length:=by cases xs with |nil=>exact absurd rfl hx |cons _ _=>simp
 haveI:Inhabited B:=⟨H ⟨0,cx⟩⟩
 let d:Array B:=Array.ofFn H;have Y:d.size=xs.length:=by simp[d]
 have cN:d.toList.map (fun p=>p.1.1)=xs:=by
  apply IB
  ·simp[Y]
  intro i h1 h2;simp[d,(bd ⟨i,h2⟩).1]
 let l:B->List Value:=fun p=>p.1.2
 have c0:∀x:B,(l x).length=k:=fun x=>x.2.1;have c1:∀x:B,∀v∈l x,v.oneCell'=true:=fun x v hv=>by
  obtain⟨j,q,rfl⟩:=Or hv;have ab:j<(encD x.1.1).length:=by rw[R,<-x.2.1];exact q
  have⟨u,r,F⟩:=x.2.2 j _ (Le ab);rw[Le q] at r;cases r;exact F.one
 let ao:B->B->Int:=fun x y=>V x.1.1 y.1.1
 have c2:SWO (ltOf ao):=⟨fun x=>hO.irrefl x.1.1,fun x y z=>hO.trans x.1.1 y.1.1 z.1.1,fun x y z=>hO.ntrans x.1.1 y.1.1 z.1.1⟩;have hH:HoldsK l k c.w (c.φ id) 0 d:=by
  intro t ht;have be:t<d.size*k:=by simpa using ht
  have S:t / k<xs.length:=by rw[<-Y];exact O2 (by rwa [Bv] at be)
  have hm:t%k<k:=Om _ ad;have e0:t / k*k+t%k=t:=Nat.div_add_mod' t k;have r:=(bd ⟨t / k,S⟩).2 (t%k) hm;simp only[e0] at r;have F:d[t / k]! =H ⟨t / k,S⟩:=by simp[d,S]
  rw[get_flatK l k d t be,F];have hl:t%k<(H ⟨t / k,S⟩).1.2.length:=by rw[(H ⟨t / k,S⟩).2.1];exact hm
  rw[Le hl] at r;refine⟨?_,by simp[World.frozen?,h3]⟩;rw[Ny];simp only[World.cell?,h3];rw[r];show some _=some (_root_.id ((H ⟨t / k,S⟩).1.2[t%k]!));rw[getElem!_pos ((H ⟨t / k,S⟩).1.2) (t%k) hl];rfl
 have c3:∀(m:Nat) (J:Array B) (s:Array Obj) (b:Nat),I b->(Go.Proofs.sortWorldK l k c.w (c.φ id) 0 m J s).heap[b]? =c.w.heap[b]? :=fun m J s b E=>by
  have⟨n1,n2⟩:=ag b E;unfold sortWorldK putRowK;rw[Sort.heap_grow_old _ _ (by simpa [putRow,mapBlock,Sort.ahead] using n2)];simp[putRow,mapBlock,Sort.ahead,NR,Ne.symm n1]
 have aq:∀(m:Nat) (J:Array B) (s:Array Obj),c.w.heap.size<=(Go.Proofs.sortWorldK l k c.w (c.φ id) 0 m J s).heap.size:=fun m J s=>Go.Proofs.size_sortWorldK_c l k c.w (c.φ id) 0 m J s;have c4:CmpLays P g #[] l k ao (c.φ id) 0 d.size c.w:=by
  intro m s J dq x y;have hS:=aq m J s;have hB:=c3 m J s;generalize sortWorldK l k c.w (c.φ id) 0 m J s=W at hS hB;have bg:∀z:B,Dc W (fun b=>b<W.heap.size/\¬(b=c.φ id)) (.ag (encD z.1.1)) (.agg z.1.2.toArray):=fun z=>by
   refine⟨_,rfl,by simp[z.2.1,R],fun j M A=> ?_⟩;have⟨u,r,F⟩:=z.2.2 j M A;exact⟨u,by simpa using r,F.mono hB fun b E=>⟨LF (ag b E).2 hS,(ag b E).1⟩⟩
  have hP:Calls P g (#[.agg (l x).toArray,.agg (l y).toArray]++ #[]) W fun e U=>∃u,e= .returned u/\(Below W.heap.size W U/\W.drawn<=U.drawn)/\RV U (fun k=>k<U.heap.size/\¬(k=c.φ id)/\(fr=true->W.heap.size<=k)) (.v (.int .i64 (V x.1.1 y.1.1))) u:=by
   have c5:∀k,(fun b=>b=c.φ id) k->k<W.heap.size:=fun k R=>by
    have:k=c.φ id:=R;rw[this];exact LF aa hS
   have c6:(#[Value.agg (l x).toArray,Value.agg (l y).toArray]++ #[]).size= [D.ag (encD x.1.1),D.ag (encD y.1.1)].length:=(by simp);have c7:∀(j:Nat) (M:D),[D.ag (encD x.1.1),D.ag (encD y.1.1)][j]? =some M->∃u,(#[Value.agg (l x).toArray,Value.agg (l y).toArray]++ #[])[j]? =some u/\Dc W (fun k=>k<W.heap.size/\¬(fun b=>b=c.φ id) k) M u:=fun j M A=>by
    match j,A with
    |0,A=>
     have e:M= .ag (encD x.1.1):=(by simpa using A.symm);rw[e];exact⟨.agg (l x).toArray,by simp,bg x⟩
    |1,A=>
     have e:M= .ag (encD y.1.1):=(by simpa using A.symm);rw[e];exact⟨.agg (l y).toArray,by simp,bg y⟩
    |j+2,A=>simp at A
   exact(hc x.1.1 y.1.1).2 W (fun b=>b=c.φ id) _ c5 c6 c7
  refine hP.mono ?_;rintro e U ⟨u,he,⟨E,c9⟩,hv⟩;cases(show RC U _ (.v (.int .i64 (V x.1.1 y.1.1))) u from hv);exact⟨he,uV E c9⟩
 have bl:=AnyQ.slices_SortFunc L k aE zE l c0 c1 ao c2 g #[] (c.φ id) 0 X d c.w eg c4 hH aa (by rw[Y];exact hn);rw[Y] at bl;refine bl.mono ?_;rintro e U ⟨he,o,n,s,av,a2,rfl⟩;rw[<-Y] at av a2;have bo:o.size=d.size:=av.1;let G:List Q:=o.toList.map fun p=>p.1.1
 have da:G.length=xs.length:=by simp[G,bo,Y]
 have bs:(sortWorldK l k c.w (c.φ id) 0 n o s).heap[c.φ id]? =some (.cells (putCells _root_.id 0 (Go.Sort.flatK l k o) N) T (0,0)):=by
  unfold sortWorldK putRowK;rw[Sort.heap_grow_old _ _ (by simpa [putRow,mapBlock,Sort.ahead] using aa)];simp[putRow,mapBlock,Sort.ahead,NR,h3,onCells]
 have bx:∀b,b<c.w.heap.size->b≠c.φ id->(sortWorldK l k c.w (c.φ id) 0 n o s).heap[b]? =c.w.heap[b]? :=fun b E dd=>by
  unfold sortWorldK putRowK;rw[Sort.heap_grow_old _ _ (by simpa [putRow,mapBlock,Sort.ahead] using E)];simp[putRow,mapBlock,Sort.ahead,NR,Ne.symm dd]
 have df:∀(i j:Nat) (x:B),o[i]? =some x->j<k->(putCells _root_.id 0 (Go.Sort.flatK l k o) N)[i*k+j]? =x.1.2[j]? :=by
  intro i j x b2 q;have O:i<o.size:=(LW.1 b2).1;have ab:i*k+j<o.size*k:=by
   have:(i+1)*k<=o.size*k:=LS k O;rw[Nk,Bk] at this;omega
  have dk:i*k+j<N.size:=by
   have:o.size*k<=C*k:=LS k (by omega);omega
  simp only[putCells,OW,LC dk,LT];rw[if_pos (by simp;exact ab),BP,get_flatK l k o _ ab];have r:(i*k+j) / k=i:=by rw[Bv,Nat.mul_add_div ad,Iy q,NP]
  have F:(i*k+j)%k=j:=by rw[Bv,Nat.mul_add_mod,BQ q]
  have e3:o[i]! =x:=by rw[getElem!_pos o i O];exact(LW.1 b2).2
  rw[r,F,e3];have hl:j<x.1.2.length:=by rw[x.2.1];exact q
  show some (_root_.id (x.1.2[j]!))=_;rw[getElem!_pos x.1.2 j hl,Le hl];rfl
 have a3:CR c ⟨upd id (some (.rw (G.map encD) k ver br false)) c.hp,upd id (c.φ id) c.φ,sortWorldK l k c.w (c.φ id) 0 n o s,c.kn⟩:=by
  refine CR.chg hr K rfl rfl rfl rfl (aq n o s) bx (.inl rfl) (fun _ h=>h) (fun h=>by cases h) (fun dr ds v' dt dw e=> ?_) (NU _ _);cases e;refine⟨_,ver,br,false,rfl,Lc _,fun _=>⟨rfl,by simp[da],fun b7 T0 e0=> ?_⟩⟩;rw[h3] at e0;cases e0;exact⟨_,bs,by simp[putCells]⟩
 refine⟨.tuple #[],.tu [],⟨upd id (some (.rw (G.map encD) k ver br false)) c.hp,upd id (c.φ id) c.φ,sortWorldK l k c.w (c.φ id) 0 n o s,c.kn⟩,nx,he,⟨rfl,rfl,G,?_,?_,by simp only[a4]⟩,rfl,a3,?_,⟨#[],rfl,rfl,fun j x h=>by simp at h⟩,Lc _,fun i K=>.inl K⟩
 ·have:=(uW av).map (fun p:B=>p.1.1);rwa [cN] at this
 ·rw[<-bo] at a2;exact OB.2 (uX a2)
 refine HR.chg hr K a3 bx (.inl rfl) (LF aa (aq n o s)) ⟨ad,fun i cs O=> ?_,T,putCells _root_.id 0 (Go.Sort.flatK l k o) N,C,?_,by simp only[putCells,Iu];exact h4,by simp only[Lt];omega,h6,fun i j cs M O q=> ?_⟩
 ·rw[Ln,La] at O;obtain⟨x,_,rfl⟩:=O;exact R x
 ·simp only[At];exact bs
 rw[Ln,La] at O;obtain⟨y,r,rfl⟩:=O;have dl:j<k:=by have:=(Lb.1 q).1;rwa [R] at this
 simp only[G,Ln,La] at r;obtain⟨p,r,rfl⟩:=r;have⟨u,F,e3⟩:=p.2.2 j M q;refine⟨u,?_,e3.ext a3⟩;rw[df i j p (by simpa using r) dl];exact F
end
end Go.Proofs.YtnmkbmefohakmaaGreat.Ab
namespace Go.Proofs
open Go.Shelf Go.RowKit Go.Sort
def Tryz.sortFuncTuple_ren:Go.Shelf.Ren:=⟨fun |6=>119 |15=>104 |14=>144 |28=>136 |29=>137 |20=>168 |21=>169 |22=>170 |23=>171 |24=>172 |25=>173 |26=>174 |27=>175 |46=>183 |47=>151 |48=>152 |49=>184 |50=>185 |57=>188 |n=>n,fun |22=>26 |24=>35 |25=>207 |3=>3 |39=>48 |0=>0 |53=>223 |55=>225 |4=>4 |46=>216 |45=>215 |50=>220 |5=>5 |9=>9 |66=>232 |70=>236 |76=>252 |77=>94 |n=>n,fun |n=>n⟩
theorem Tryz.sortFuncTuple:Go.Proofs.SlLaysF0.n6 Tryz.prog Tryz.sortFuncTuple_ren:={
 mixed:=by kernel_rfl
 f6:=⟨Tryz.f119.name,by decide,Tryz.func119.trans (congrArg some (by kernel_rfl))⟩
 f14:=⟨Tryz.f144.name,by decide,Tryz.func144.trans (congrArg some (by kernel_rfl))⟩
 f15:=Tryz.func104.trans (congrArg some (by kernel_rfl))
 f20:=⟨Tryz.f168.name,by decide,Tryz.func168.trans (congrArg some (by kernel_rfl))⟩
 f21:=⟨Tryz.f169.name,by decide,Tryz.func169.trans (congrArg some (by kernel_rfl))⟩
 f22:=⟨Tryz.f170.name,by decide,Tryz.func170.trans (congrArg some (by kernel_rfl))⟩
 f23:=⟨Tryz.f171.name,by decide,Tryz.func171.trans (congrArg some (by kernel_rfl))⟩
 f24:=⟨Tryz.f172.name,by decide,Tryz.func172.trans (congrArg some (by kernel_rfl))⟩
 f25:=⟨Tryz.f173.name,by decide,Tryz.func173.trans (congrArg some (by kernel_rfl))⟩
 f26:=⟨Tryz.f174.name,by decide,Tryz.func174.trans (congrArg some (by kernel_rfl))⟩
 f27:=⟨Tryz.f175.name,by decide,Tryz.func175.trans (congrArg some (by kernel_rfl))⟩
 f28:=Tryz.func136.trans (congrArg some (by kernel_rfl))
 f29:=Tryz.func137.trans (congrArg some (by kernel_rfl))
 f46:=⟨Tryz.f183.name,by decide,Tryz.func183.trans (congrArg some (by kernel_rfl))⟩
 f47:=Tryz.func151.trans (congrArg some (by kernel_rfl))
 f48:=Tryz.func152.trans (congrArg some (by kernel_rfl))
 f49:=⟨Tryz.f184.name,by decide,Tryz.func184.trans (congrArg some (by kernel_rfl))⟩
 f50:=⟨Tryz.f185.name,by decide,Tryz.func185.trans (congrArg some (by kernel_rfl))⟩
 f57:=⟨Tryz.f188.name,by decide,Tryz.func188.trans (congrArg some (by kernel_rfl))⟩
 t0:=Tryz.underlying0
 a0:=Tryz.isAgg0
 z0:=Tryz.sizeOf0
 v0:=Tryz.zeroValue0
 t3:=Tryz.underlying3
 a3:=Tryz.isAgg3
 z3:=Tryz.sizeOf3
 v3:=Tryz.zeroValue3
 t4:=Tryz.underlying4
 a4:=Tryz.isAgg4
 z4:=Tryz.sizeOf4
 v4:=Tryz.zeroValue4
 t5:=Tryz.underlying5
 a5:=Tryz.isAgg5
 z5:=Tryz.sizeOf5
 v5:=Tryz.zeroValue5
 t9:=Tryz.underlying9
 a9:=Tryz.isAgg9
 z9:=Tryz.sizeOf9
 v9:=Tryz.zeroValue9
 t22:=Tryz.underlying26
 a22:=Tryz.isAgg26
 z22:=Tryz.sizeOf26
 v22:=Tryz.zeroValue26
 t25:=Tryz.underlying207
 a25:=Tryz.isAgg207
 z25:=Tryz.sizeOf207
 v25:=Tryz.zeroValue207
 t39:=Tryz.underlying48
 a39:=Tryz.isAgg48
 z39:=Tryz.sizeOf48
 v39:=Tryz.zeroValue48
 t45:=Tryz.underlying215
 a45:=Tryz.isAgg215
 z45:=Tryz.sizeOf215
 v45:=Tryz.zeroValue215
 t46:=Tryz.underlying216
 a46:=Tryz.isAgg216
 z46:=Tryz.sizeOf216
 v46:=Tryz.zeroValue216
 t50:=Tryz.underlying220
 a50:=Tryz.isAgg220
 z50:=Tryz.sizeOf220
 v50:=Tryz.zeroValue220
 t53:=Tryz.underlying223
 a53:=Tryz.isAgg223
 z53:=Tryz.sizeOf223
 v53:=Tryz.zeroValue223
 t55:=Tryz.underlying225
 a55:=Tryz.isAgg225
 z55:=Tryz.sizeOf225
 v55:=Tryz.zeroValue225
 t66:=Tryz.underlying232
 a66:=Tryz.isAgg232
 z66:=Tryz.sizeOf232
 v66:=Tryz.zeroValue232
 t70:=Tryz.underlying236
 a70:=Tryz.isAgg236
 z70:=Tryz.sizeOf236
 v70:=Tryz.zeroValue236
 t76:=Tryz.underlying252
 a76:=Tryz.isAgg252
 z76:=Tryz.sizeOf252
 v76:=Tryz.zeroValue252
 t77:=Tryz.underlying94
 a77:=Tryz.isAgg94
 z77:=Tryz.sizeOf94
 v77:=Tryz.zeroValue94 }
end Go.Proofs
namespace Go.Proofs.YtnmkbmefohakmaaGreat.Ab
open Go.Shelf Go.RowKit Go.Sort
def tk (t:AC):List ByteArray:=[t.obj.type_,t.obj.id_,t.rel,t.sub_.type_,t.sub_.id_,t.sub_.rel]
theorem nh (x y:AC)(h:tk x=tk y):x=y:=by
 have⟨⟨a,b⟩,c,⟨d,e,f⟩⟩:=x;have⟨⟨g,i⟩,j,⟨k,l,m⟩⟩:=y;simp only[tk,List.cons.injEq,and_true] at h;obtain⟨rfl,rfl,rfl,rfl,rfl,rfl⟩:=h;rfl
def tO:Lin AC:=cc tk (fun _ _=>rfl) nh
def dL (x y:AC):Int:=Eu (tk x) (tk y)
theorem ni {n:Nat}{vs:List Int}(b:vs.length<4611686018427387904):∀(c j:Nat),j<=vs.length->vs.length-j<c->Wg n vs c (j:Int)=some (if Gp (vs.drop j)=0 then .inl () else .inr (Gp (vs.drop j)))
 |0,_,_,h=>by omega
 |c+1,j,e,f=>by
  have d:=ni (n:=n) b c;unfold Wg;by_cases a:j<vs.length
  ·rw[Dx a,if_pos rfl,CB a,Zo,List.drop_eq_getElem_cons a,Jz];unfold Gp;by_cases h:vs[j]=0
   ·rw[h,if_pos rfl,d _ (by omega) (by omega)];simp
   rw[if_neg h];simp[h]
  rw[Cw,if_neg (by decide),List.drop_eq_nil_of_le (by omega)];rfl
variable {hp:Hp}{n:Nat}
theorem yD {vs:List Int}(a:vs.length<4611686018427387904)(b:vs.length<n):Wh n vs=some (Gp vs):=by
 unfold Wh;have h:Wg n vs n 0=_:=ni a n 0 (by omega) (by omega);rw[h,List.drop_zero,Zo];by_cases e:Gp vs=0
 ·rw[if_pos e,e]
 rw[if_neg e]
theorem yE (n:Nat)(a b:ByteArray):Md n a b=some (Gf a b):=rfl
theorem yF (a:10<n)(x y:AC):ZW n x y=some (dL x y):=by
 unfold ZW;simp only[yE,Zo];rw[yD (by simp) (by simp;omega)];rfl
theorem yG (x y:AC):AM Tryz.prog 120 [.ag (AE x),.ag (AE y)] (.v (.int .i64 (dL x y))) true:=zH (yF (n:=100) (by decide) x y)
theorem yH:AM Tryz.prog 118 [.sl []] (.sl []) true:=
 ax Ev FI Tryz.func118 (T:=26) (B:=4) rfl (by kernel_rfl) (by kernel_rfl) (by decide) rfl (by simp only[go_sem]) (by simp only[go_sem]) (by simp only[go_sem];decide) (by simp only[go_sem];decide)
theorem yI (xs:List AC)(a:0<xs.length)(c:xs.length<=4294967296){b:Bool}{nx:Nat}:
  AT Tryz.prog 118 [.d (.sl (xs.map AE)) b] hp nx fun v d g=>v= .so (nx+3) 1 0 xs.length/\d=upd (nx+3) (some (.rw (xs.map AE) 6 1 false false)) hp/\g=nx+7:=by
 have h:=bK (e:=AE) (k:=6) (b:=b) (hp:=hp) (nx:=nx) Ev FI Tryz.func118 (T:=26) (B:=4) rfl (by kernel_rfl) (by kernel_rfl) (by decide) rfl (by simp only[go_sem]) (by simp only[go_sem]) (by simp only[go_sem]) (by decide) (by simp only[go_sem];decide) (fun _=>rfl) xs a c;rw[QR (f:=AE) (fun _=>rfl),Bool.not_true,Bool.and_false] at h;exact h
theorem nj:JK Tryz.prog 119:=⟨_,Tryz.func119,by kernel_rfl,by kernel_rfl⟩
theorem yJ (xs:List AC)(e:0<xs.length)(j:xs.length<=4294967296){id ver:Nat}{br:Bool}{nx:Nat}(f:hp id=some (.rw (xs.map AE) 6 ver br false)):
  AT Tryz.prog 119 [.so id ver 0 xs.length,.fn 120 []] hp nx fun v b c=>v= .tu []/\c=nx/\∃a:List AC,a.length=xs.length/\Lib.compact a=tO.ofL xs/\b=upd id (some (.rw (a.map AE) 6 ver br false)) hp:=by
 have h:=uY (encD:=AE) (k:=6) (br:=br) (nx:=nx) Tryz.sortFuncTuple (fun w=>by kernel_rfl) (fun w=>by kernel_rfl) (fun _=>rfl) dL tO.swo rfl nj (enters_of Tryz.func120 (by kernel_rfl) rfl) yG xs (by rintro rfl;simp at e) (by omega) f;refine h.mono ?_;rintro v b c ⟨rfl,rfl,a,d,g,i⟩;exact⟨rfl,rfl,a,d.length_eq,tO.compact_sorted (fun x=>d.mem_iff) g,i⟩
theorem yK (xs:List AC)(a:0<xs.length)(b:xs.length<=4294967296){id ver:Nat}{br:Bool}{nx:Nat}(c:hp id=some (.rw (xs.map AE) 6 ver br false)):
  AT Tryz.prog 121 [.so id ver 0 xs.length] hp nx fun v d _=>v= .so id (ver+1) 0 (Lib.compact xs).length/\d=upd id (some (.rw ((Lib.compact xs).map AE) 6 (ver+1) br false)) hp:=
 ug c (uf (vK xs a b nx))
theorem sort0_in {b:Bool}{nx:Nat}:AT Tryz.prog 119 [.d (.sl []) b,.fn 120 []] hp nx fun v u w=>v= .tu []/\u=hp/\w=nx:=by
 refine⟨nj,fun g c l y K f z m=> ?_⟩;have⟨p,A,B⟩:=m 0 _ rfl;have⟨q,C,E⟩:=m 1 _ rfl;have F:∃a k,p= .slice a 0 k:=by
  cases(show RA g c (.d (.sl []) b) p from B) with
  |d _ _ _ f=>cases f with |nl a k=>exact⟨a,k,rfl⟩ |sl _ b o k=>exact⟨_,_,rfl⟩
 obtain⟨a,k,rfl⟩:=F;have G:q= .func (.func 120) #[] #[]:=by
  cases(show RA g c (.fn 120 []) q from E) with
  |fn _ _ L n r _=>
   simp only[List.length_nil] at r;subst r;rfl
 subst G;have H:l= #[.slice a 0 k,.func (.func 120) #[] #[]]:=by
  have I:l.size=2:=by simpa using z
  apply Array.ext
  ·simpa using I
  intro j s M;have J:j=0\/j=1:=by omega
  rcases J with rfl |rfl
  ·simpa [s] using A
  simpa [s] using C
 subst H;have t:=AnyF.slices_SortFunc_none Tryz.sortFuncTuple a k (.func (.func 120) #[] #[]) c.w;change Calls Tryz.prog 119 _ _ _ at t;refine t.mono ?_;rintro e N ⟨rfl,rfl⟩;exact⟨.tuple #[],.tu [],c,nx,rfl,⟨rfl,y,rfl⟩,rfl,CR.refl c,f,⟨#[],rfl,rfl,fun j x e=>by simp at e⟩,Nat.le_refl _,fun i h=>.inl h⟩
theorem RX:AM Tryz.prog 121 [.sl []] (.sl []) false:=by
 refine XP (tab:=tab) Ev FI Tryz.func121 rfl (by kernel_rfl) (by kernel_rfl) (by simp[Tryz.f121]) ?_;simp -implicitDefEqProofs only[go_sem,Int.reduceLT,decide_true,Nat.reduceAdd,reduceCtorEq, ↓reduceIte];exact IQ (v:=.d (.sl []) true) (b:=true) (is:=[]) (by simp -implicitDefEqProofs only[go_sem, ↓reduceIte,Tryz.f121]<;>rfl) rfl rfl (fun h=>by cases h)
theorem yL (xs:List AC)(d:xs.length<=4294967296):AM Tryz.prog 94 [.sl (xs.map AE)] (.sl ((tO.ofL xs).map AE)) true:=by
 refine XP (tab:=tab) Ev FI Tryz.func94 rfl (by kernel_rfl) (by kernel_rfl) (by simp[Tryz.f94]) ?_;refine Z0 ?_;by_cases f:0<xs.length
 ·refine CO ((yI xs f d).mono ?_);rintro v a c ⟨rfl,rfl,rfl⟩;refine Z0 ?_;refine CO ((yJ xs f d zz).mono ?_);rintro v a c ⟨rfl,rfl,g,h,i,rfl⟩;refine Z0 ?_;rw[<-h];have j:0<g.length:=by omega
  refine CO ((yK g j (by omega) zz).mono ?_);rintro v a c ⟨rfl,rfl⟩;rw[i];refine Z0 ?_;exact IQ (v:=.so 7 2 0 (tO.ofL xs).length) (b:=false) (is:=[7]) (by simp -implicitDefEqProofs only[go_sem, ↓reduceIte,Tryz.f94]<;>rfl) zz rfl (fun _=>rfl)
 have e:xs= []:=List.eq_nil_of_length_eq_zero (by omega);subst e;refine UP zz yH (.inr rfl) ?_;refine Z0 ?_;refine CO (sort0_in.mono ?_);rintro v a c ⟨rfl,rfl,rfl⟩;refine Z0 ?_;refine UP zz RX (.inl rfl) ?_;refine Z0 ?_;exact IQ (v:=.d (.sl []) false) (b:=false) (is:=[]) (by simp -implicitDefEqProofs only[go_sem, ↓reduceIte,Tryz.f94]<;>rfl) rfl rfl (fun _=>rfl)
def Y8 (a:Nat)(xs:List AC):Option (List AC):=if xs.length<=4294967296 then some (tO.ofL xs) else none
theorem yM {xs r:List AC}(h:Y8 n xs=some r):AM Tryz.prog 94 [D.sl (List.map AE xs)] (D.sl (List.map AE r)) true:=by
 unfold Y8 at h;split at h
 ·rename_i a;obtain rfl:=Option.some.inj h;exact yL xs a
 cases h
end Go.Proofs.YtnmkbmefohakmaaGreat.Ab
