/-
 What the document reaches, and what it says of a relation as far as it knows. No program in sight.
-/
import Derived.Test.YtnmkbmefohakmaaGreatGol
set_option linter.all false
namespace Go.Proofs.YtnmkbmefohakmaaGreat.Ab
open Go.RowKit IntKind
def pw (S:AD)(a:ByteArray):Fu->List AN
 | .leaf x=>Fh S a x
 | .op x p q=>pw S a p++(pw S a q).map (DM x)
theorem VO (S:AD)(a:ByteArray):∀(t:Fu) (W:List (List AN)),Gi t->(post t).foldl (Db S a) W=W++[pw S a t]
 | .leaf x,W,b=>by
  show Db S a W x=_;unfold Db;rw[if_pos (by rcases b with h |h<;>rw[h]<;>rfl)];rfl
 | .op x p q,W,b=>by
  rw[Qm,Iv,Iv,VO S a p W b.2.1,VO S a q _ b.2.2];show Db S a _ x=_;unfold Db;rw[if_neg (by rcases b.1 with h |h |h<;>rw[h]<;>decide),if_pos (by simp)];have⟨c,d,e⟩:=IX W (pw S a p) (pw S a q) [];rw[c,d,e];rfl
section
variable {ts:List AG}{S:AD}{a:ByteArray}{x:AX}{f:Bool}
theorem kC (h:x.kind=1):Gn ts a x f= [⟨a,x.a,f⟩]:=by unfold Gn;rw[h];rfl
theorem kD (h:x.kind=2):Gn ts a x f=⟨a,x.a,f⟩::((CH ts a x.a).getD Ca).subs.map fun s=>⟨s.type_,x.b,f⟩:=by unfold Gn;rw[h];rfl
theorem bT (h:x.kind=1):Fh S a x= [⟨⟨a,x.a⟩,0⟩]:=by unfold Fh;rw[h];rfl
theorem bU (h:x.kind=2):Fh S a x=(qf_ (⟨a,x.a⟩:AA) Ca S.rels).subs.map fun s=>⟨⟨s.type_,x.b⟩,0⟩:=by unfold Fh;rw[h];rfl
end
variable {n:Nat}{o:Ae}{rel:ByteArray}
section
variable {ts:List AG}{S:AD}(hW:Dh ts S)
include hW in
theorem Ql (a rel:ByteArray):(CH ts a rel).getD Ca=qf_ (⟨a,rel⟩:AA) Ca S.rels:=by rw[cU hW];rfl
include hW in
theorem bV {a:ByteArray}:∀(t:Fu) (f:Bool) (v:AN),Gi t->v∈pw S a t->∃w∈Eg ts a t f,wn w=v.to/\(v.taken=1\/f=true->w.less=true)
 | .leaf x,f,v,c,b=>by
  have b:v∈Fh S a x:=b;show ∃w∈Gn ts a x f,_;rcases c with h |h
  ·rw[bT h] at b;rw[kC h,Lr.1 b];refine⟨_,Lr.2 rfl,rfl,fun h=> ?_⟩;grind
  ·rw[bU h] at b;rw[kD h,Ql hW];obtain⟨s,i,rfl⟩:=LL.1 b;refine⟨_,Lk _ (LG i),rfl,fun h=> ?_⟩;grind
 | .op x p q,f,v,c,b=>by
  have b:v∈pw S a p++(pw S a q).map (DM x):=b;show ∃w∈Eg ts a p f++Eg ts a q (f||x.kind==4),_;rcases Lw.1 b with b |b
  ·have⟨w,d,e,g⟩:=bV p f v c.2.1 b;grind
  obtain⟨u,j,rfl⟩:=LL.1 b;have⟨w,d,e,g⟩:=bV q (f||x.kind==4) u c.2.2 j;refine⟨w,Na _ d,?_,fun h=>g ?_⟩
  ·rw[e];unfold DM;split<;>rfl
  unfold DM at h;grind
include hW in
theorem bW {a:ByteArray}:∀(t:Fu) (f:Bool) (w:An),Gi t->(∀x∈post t,HP S a x)->w∈Eg ts a t f->∃v∈pw S a t,(w.less=true->f=true\/v.taken=1)/\(wn w=v.to\/∃x,Mg S a x/\wn w=⟨a,x.a⟩)
 | .leaf x,f,w,c,b,h=>by
  have h:w∈Gn ts a x f:=h;show ∃v∈Fh S a x,_;have l:=b x (Lr.2 rfl);rcases c with e |e
  ·rw[kC e] at h;rw[bT e,Lr.1 h];exact⟨_,Lr.2 rfl,.inl,.inl rfl⟩
  ·rw[kD e,Ql hW] at h;rw[bU e];rcases Lv.1 h with rfl |h
   ·have i:=l.2 e;have⟨s,d⟩:=OD _ i.2.1;exact⟨_,LG d,.inl,.inr ⟨x,i,rfl⟩⟩
   ·obtain⟨s,d,rfl⟩:=LL.1 h;exact⟨_,LG d,.inl,.inl rfl⟩
 | .op x p q,f,w,c,b,h=>by
  have h:w∈Eg ts a p f++Eg ts a q (f||x.kind==4):=h;show ∃v∈pw S a p++(pw S a q).map (DM x),_;rw[Qm] at b;rcases Lw.1 h with h |h
  ·have⟨v,j,m,k⟩:=bW p f w c.2.1 (fun y g=>b y (L8 _ (L8 _ g))) h;grind
  have⟨v,j,m,k⟩:=bW q _ w c.2.2 (fun y g=>b y (L8 _ (Na _ g))) h;refine⟨_,Na _ (LG j),fun hl=> ?_,k.imp (fun e=> ?_) id⟩
  ·unfold DM;grind
  rw[e];unfold DM;split<;>rfl
theorem bX {s:AL}{r:List AL}(h:s.rel={ data:= #[] }):Ew (s::r)=Ew r:=by
 rw[R9,DH];exact if_pos (decide_eq_true h)
theorem kE {s:AL}{r:List AL}(h:¬s.rel={ data:= #[] }):Ew (s::r)=⟨⟨s.type_,s.rel⟩,0⟩::Ew r:=by
 rw[R9,DH];exact if_neg (mt of_decide_eq_true h)
theorem bY:∀(c:List AL) (w:An),w∈HD c->(⟨wn w,0⟩:AN)∈Ew c/\w.less=false
 |[],_,h=>by cases h
 |s::r,w,h=>by
  unfold HD at h;by_cases e:s.rel={ data:= #[] }
  ·rw[if_pos e] at h;rw[bX e];exact bY r w h
  rw[if_neg e] at h;rw[kE e];rcases Lv.1 h with rfl |h
  ·exact⟨Lp ..,rfl⟩
  have⟨a,b⟩:=bY r w h;exact⟨Lk _ a,b⟩
theorem bZ:∀(d:List AL) (v:AN),v∈Ew d->v.taken=0/\(∃w∈HD d,wn w=v.to)/\∃s∈d,s.rel≠{ data:= #[] }/\v.to=⟨s.type_,s.rel⟩
 |[],_,h=>by cases h
 |s::r,v,h=>by
  unfold HD;by_cases e:s.rel={ data:= #[] }
  ·rw[bX e] at h;rw[if_pos e];have⟨a,b,x,g,c⟩:=bZ r v h;grind
  rw[kE e] at h;rw[if_neg e];rcases Lv.1 h with rfl |h
  ·exact⟨rfl,⟨_,Lp ..,rfl⟩,s,Lp ..,e,rfl⟩
  have⟨a,⟨w,i,j⟩,x,g,c⟩:=bZ r v h;grind
theorem bc {a:ByteArray}:∀(t:Fu) (v:AN),Gi t->(∀x∈post t,HP S a x)->v∈pw S a t->Ay v.to S.rels=true
 | .leaf x,v,d,c,b=>by
  have b:v∈Fh S a x:=b;have h:=c x (Lr.2 rfl);rcases d with e |e
  ·rw[bT e] at b;rw[Lr.1 b];exact h.1 e
  ·rw[bU e] at b;obtain⟨s,i,rfl⟩:=LL.1 b;exact((h.2 e).2.2 s i).1
 | .op x p q,v,d,c,b=>by
  have b:v∈pw S a p++(pw S a q).map (DM x):=b;rw[Qm] at c;rcases Lw.1 b with b |b
  ·exact bc p v d.2.1 (fun y g=>c y (L8 _ (L8 _ g))) b
  obtain⟨u,j,rfl⟩:=LL.1 b
  have:=bc q u d.2.2 (fun y g=>c y (L8 _ (Na _ g))) j;unfold DM;split<;>exact this
variable (hT:Ys ts)
include hW hT in
theorem bf {m:AA}(d:m∈Dd ts):GA (qf_ m Ca S.rels)/\KE S m.typ (qf_ m Ca S.rels)/\((qf_ m Ca S.rels).expr= []/\ET S m=Ew (qf_ m Ca S.rels).subs\/∃t,Gi t/\(qf_ m Ca S.rels).subs= []/\(qf_ m Ca S.rels).expr=post t/\ET S m=pw S m.typ t):=by
 obtain⟨t,b,g,c,rfl⟩:=fg.1 d;have e:qf_ (⟨t.name,g.name⟩:AA) Ca S.rels=g:=by unfold qf_;rw[Zb hW.rels hW.keys b c];rfl
 have hr:=hT t b g c;unfold ET;rw[e];refine⟨hr,hW.nms t b g c,?_⟩;rcases hr with⟨h,_⟩ |⟨i,j,k,l⟩
 ·exact .inl ⟨h,by rw[if_pos h]⟩
 refine .inr ⟨j,k,i,l,?_⟩;simp_all [if_neg,B7,S6,VO]
include hW in
theorem vX {a:ByteArray}{x:AX}(h:Mg S a x)(hB:Ed ts):Cp S.ranks ⟨a,x.a⟩<=0:=by
 have j:ET S ⟨a,x.a⟩= []:=by
  have c:=G6 (Ha hW hB) (⟨a,x.a⟩:AA);unfold ET;rw[if_pos (c.2.2.1.resolve_left h.2.1)];have d:∀b:List AL,(∀s∈b,R5 S x.b s)->Ew b= []:=fun b=>by
   induction b with
   |nil=>intro _;rfl
   |cons s r l=>
    intro e
    have:=(e s (Lp ..)).2;rw[bX (Vb this)];grind
  exact d _ h.2.2
 have:=hW.low (fun k=>if k=⟨a,x.a⟩ then 0 else Cp S.ranks k) (fun k=> ?_) (fun m g w i=> ?_) ⟨a,x.a⟩
 ·rwa [if_pos rfl] at this
 ·have:=hW.rk0 k
  have:=hW.rkT k;split<;>omega
 have p:=hW.rk m g w i;have q:=hW.rk0 w.to;grind
theorem bh (hB:Ed ts){a:ByteArray}:∀(t:Fu) (f:Bool),(Eg ts a t f).length<=52*(post t).length
 | .leaf x,f=>by
  show(Gn ts a x f).length<=52;unfold Gn
  have:=(YI hB a x.a).1;grind
 | .op x p q,f=>by
  show(Eg ts a p f++Eg ts a q (f||x.kind==4)).length<=_;have b:=bh hB (a:=a) p f;have c:=bh hB (a:=a) q (f||x.kind==4);rw[Ld,YM];omega
theorem YL:∀ts:List AG,(Cs ts).map nm=Dd ts
 |[]=>rfl
 |t::r=>by
  have b:Cs (t::r)=t.rels.map (fun g=>⟨t.name,g.name⟩)++Cs r:=by simp[Cs]
  have c:Dd (t::r)=t.rels.map (fun g=>⟨t.name,g.name⟩)++Dd r:=by simp[Dd]
  rw[b,c,LX,YL r,Ba];rfl
include hW hT in
theorem kF (hB:Ed ts)(hn:2000000000<n):∃R,RP n ts=some (Cs ts,R,true)/\R.length=(Cs ts).length/\∀(j:Nat) (P:j<R.length) (E:j<(Cs ts).length),R[j]=Cp S.ranks (nm (Cs ts)[j]):=by
 have Q:=YL ts;have U:(Cs ts).length=(Dd ts).length:=by rw[<-Q,Lt]
 have Z:=ff hB;have p:∀x∈Cs ts,nm x∈Dd ts:=fun x g=>by grind
 have V:(Dd ts).Nodup:=by rw[<-Mi,<-hW.rels];exact hW.keys
 have H:∀m∈Dd ts,∃l,G5 n ts m.typ m.rel=some l/\PC ts m.typ (qf_ m Ca S.rels) l:=fun m B=>by
  have:=vY (n:=n) (a:=m.typ) (rel:=m.rel) hB (by omega) (by rw[Ql hW];exact .inl (bf hW hT B).1);rwa [Ql hW] at this
 have X:∀x∈Cs ts,G5 n ts x.t x.rel=some ((G5 n ts x.t x.rel).getD [])/\((G5 n ts x.t x.rel).getD []).length<=20000:=fun x g=>by
  have⟨l,b,q⟩:=H _ (p x g);have b:G5 n ts x.t x.rel=some l:=b;have hb:=G6 (Ha hW hB) (nm x);rw[b];refine⟨rfl,?_⟩;show l.length<=20000;rcases q with⟨_,rfl⟩ |⟨t,_,_,h3,rfl⟩
  ·have:=bp (qf_ (nm x) Ca S.rels).subs
   have:=hb.1;omega
  have:=bh hB (a:=(nm x).typ) t false
  have:=hb.2.1;rw[h3] at this;omega
 have hg:∀x∈Cs ts,∀w∈(G5 n ts x.t x.rel).getD [],(∃y∈Cs ts,nm y=wn w)->Cp S.ranks (wn w)+wl w<=Cp S.ranks (nm x):=fun x g w C _=>by
  have⟨l,b,q⟩:=H _ (p x g);have b:G5 n ts x.t x.rel=some l:=b;rw[b] at C;have C:w∈l:=C;have⟨_,F,c3⟩:=bf hW hT (p x g);rcases q with⟨e,rfl⟩ |⟨t,r,_,e,rfl⟩
  ·have⟨I,a2⟩:=bY _ w C;have c:ET S (nm x)=Ew (qf_ (nm x) Ca S.rels).subs:=by unfold ET;rw[if_pos e]
   have:=hW.rk _ (p x g) _ (by rw[c];exact I);unfold wl;grind
  have c:ET S (nm x)=pw S (nm x).typ t:=by
   unfold ET;rw[if_neg (by rw[e];exact B7 (S6 t)),e,VO S _ t [] r];simp
  have⟨v,v1,v2,v3⟩:=bW hW t false w r (by rw[<-e];exact F.2) C;have h4:=hW.rk _ (p x g) v (by rw[c];exact v1);have h5:=Za S (nm x) v (by rw[c];exact v1);have h6:wl w<=v.taken:=by
   unfold wl;split
   ·rename_i hl;rcases v2 hl with h |h
    ·cases h
    omega
   omega
  rcases v3 with h |⟨y,G,h⟩
  ·rw[h];omega
  have:=vX hW G hB
  have:=hW.rk0 v.to;rw[h];omega
 have⟨R,r1,i,r3⟩:=vV (K:=Cp S.ranks) (Wf:=fun m=>(G5 n ts m.typ m.rel).getD []) (by omega) (fun m=>by rw[U];exact hW.rkT m) X hg hn (vZ hB (by omega)) hW.rk0;refine⟨R,r1,i.1,fun j P E=> ?_⟩;have J:∀k∈Dd ts,∃(z:Nat) (d:z<(Cs ts).length),nm (Cs ts)[z]=k/\(Dd ts).idxOf k=z:=fun k L=>by
  have b:=List.idxOf_lt_length_of_mem L;refine⟨(Dd ts).idxOf k,by omega,?_,rfl⟩;have q:(Dd ts)[(Dd ts).idxOf k]=k:=List.getElem_idxOf b;grind
 have T:∀(z:Nat) (d:z<(Cs ts).length),R.getD z 0=R[z]'(by rw[i.1];exact d):=fun z d=>by
  grind
 have M:=hW.low (fun k=>if k∈Dd ts then R.getD ((Dd ts).idxOf k) 0 else 0) (fun k=> ?_) (fun m B v u=> ?_) (nm (Cs ts)[j])
 ·rw[if_pos (p _ (LN E))] at M;have e:(Dd ts).idxOf (nm (Cs ts)[j])=j:=by
   have:=V.idxOf_getElem j (by omega);have e2:(Dd ts)[j]'(by omega)=nm (Cs ts)[j]:=(by simp only[<-Q,Bx]);rwa [e2] at this
  rw[e,T j E] at M;exact Int.le_antisymm (i.2 j P E).2 M
 ·split
  ·rename_i L;have⟨z,d,_,e⟩:=J k L;rw[e,T z d]
   have:=i.2 z (by rw[i.1];exact d) d
   have:=hW.rkT (nm (Cs ts)[z]);omega
  omega
 have⟨y,G,e1,e2⟩:=J m B;have Y:∃w∈(G5 n ts (Cs ts)[y].t (Cs ts)[y].rel).getD [],wn w=v.to/\v.taken<=wl w/\v.to∈Dd ts:=by
  have⟨l,b,q⟩:=H _ B;have⟨_,F,_⟩:=bf hW hT B;rw[<-e1] at b;have b:G5 n ts (Cs ts)[y].t (Cs ts)[y].rel=some l:=b;rw[b];show ∃w∈l,_;rcases q with⟨e,rfl⟩ |⟨t,r,_,e,rfl⟩
  ·have c:ET S m=Ew (qf_ m Ca S.rels).subs:=(by unfold ET;rw[if_pos e]);rw[c] at u;have⟨I,⟨w,a2,a3⟩,s,a4,a5,a6⟩:=bZ _ v u;refine⟨w,a2,a3,?_,?_⟩
   ·rw[I];unfold wl;split<;>decide
   have:=(F.1 s a4).2.resolve_left fun h=>a5 (Vb h);rw[Kr,hW.rels,Mi] at this;rw[a6];exact this
  have c:ET S m=pw S m.typ t:=by
   unfold ET;rw[if_neg (by rw[e];exact B7 (S6 t)),e,VO S _ t [] r];simp
  have h5:=Za S m v u;rw[c] at u;have⟨w,N,O,w3⟩:=bV hW t false v r u;refine⟨w,N,O,?_,?_⟩
  ·grind [wl]
  have:=bc t v r (by rw[<-e];exact F.2) u;rw[Kr,hW.rels,Mi] at this;exact this
 have⟨w,N,O,w3,w4⟩:=Y;have⟨z,d,c,e4⟩:=J _ w4
 have:=r3 y G w N z (by rw[i.1];exact d) d (by rw[i.1];exact G) (by rw[c,O]);grind
end
theorem YJ {α:Type}{f:α->Int}:∀ {l:List α},(∀x∈l,f x=0)->Ea f l=0
 |[],_=>rfl
 |x::l,h=>by
  rw[YH,h x (Lp ..)];exact YJ fun y b=>h y (Lk _ b)
section
variable {ts:List AG}{S:AD}(hW:Dh ts S)
include hW in
theorem VM (a rel:ByteArray):FA ts a rel=Ay (⟨a,rel⟩:AA) S.rels:=by unfold FA;rw[cU hW];rfl
include hW in
theorem vS {a:ByteArray}(h:qf_ a 0 S.types≠0):Qi ts a=true:=by
 have⟨t,b,e⟩:=LL.1 ((hW.typ a).1 h);unfold Qi;rw[List.find?_isSome];exact⟨t,b,decide_eq_true e⟩
include hW in
theorem Qk (hB:Ed ts){t:AG}(e:t∈ts){g:AZ}(h:g∈t.rels):ME ts t.name g=0:=by
 have⟨i,j⟩:=hW.nms t e g h;have k:Ea (Qj ts) g.subs=0:=YJ fun s c=>by
  have⟨a,b⟩:=i s c;unfold Qj;rw[vS hW a,VM hW];rcases b with b |b
  ·rw[decide_eq_true (Vb b)];rfl
  rw[b,OF];rfl
 have l:Ea (S5 ts t.name) g.expr=0:=YJ fun x m=>by
  have⟨p,q⟩:=j x m;unfold S5;split
  ·rename_i d;rw[VM hW,p (eq_of_beq d)];rfl
  split
  ·rename_i d;have⟨r,u,v⟩:=q (eq_of_beq d);have w:=G6 (Ha hW hB) (⟨t.name,x.a⟩:AA);unfold IU;rw[VM hW,r,if_pos rfl,Ql hW,if_pos (w.2.2.1.resolve_left u)];refine YJ fun s c=> ?_;have⟨y,z⟩:=v s c;unfold Ju;rw[VM hW,y,decide_eq_true (Vb z)];rfl
  rfl
 unfold ME;rw[k,l];rfl
include hW in
theorem vT:Qh ts:=by
 refine⟨hW.tys,fun t c=> ?_⟩;have b:(Dd ts).Nodup:=by rw[<-Mi,<-hW.rels];exact hW.keys
 obtain⟨A,B,rfl⟩:=List.append_of_mem c;have e:Dd (A++t::B)=Dd A++(t.rels.map (fun g=>(⟨t.name,g.name⟩:AA))++Dd B):=by simp[Dd]
 rw[e] at b;have h:=(N8.1 (N8.1 b).2.1).1;unfold List.Nodup at h⊢;rw[OB] at h⊢;exact h.imp fun h e=>h (by rw[e])
include hW in
theorem jy {n:Nat}(hB:Ed ts)(hn:1000<n){i:Nat}(b:i<ts.length):∀(d k c:Nat),d=ts[i].rels.length-k->k<=ts[i].rels.length->d<c->Tb n ts (i:Int) c (k:Int)=some (.inl ())
 |0,k,c,j,l,m=>by
  obtain⟨c,rfl⟩:=sx c;unfold Tb;rw[CB b,Zo,Cw,if_neg (by decide)]
 |d+1,k,c,j,l,m=>by
  obtain⟨c,rfl⟩:=sx c;have g:=LN b;have h:=hB.2 _ g;have e:k<ts[i].rels.length:=by omega
  unfold Tb;rw[CB b,Zo,Dx e,if_pos rfl,CB e,Zo,vQ hB hn (h.2 _ (LN e)),Zo,Qk hW hB g (LN e),if_neg (by decide),Ar (by have:=h.1;omega),jy hB hn b d (k+1) c (by omega) (by omega) (by omega)]
include hW in
theorem jz {n:Nat}(hB:Ed ts)(hn:1000<n):∀(d i c:Nat),d=ts.length-i->i<=ts.length->d<c->xT_ n ts c (i:Int)=some (.inl ())
 |0,i,c,e,g,h=>by
  obtain⟨c,rfl⟩:=sx c;unfold xT_;rw[Cw,if_neg (by decide)]
 |d+1,i,c,e,g,h=>by
  obtain⟨c,rfl⟩:=sx c;have j:=hB.1;have b:i<ts.length:=by omega
  have k:=(hB.2 _ (LN b)).1;have f:=jy (n:=n) hW hB hn b _ 0 n rfl (Lf _) (by omega);have f:Tb n ts (i:Int) n 0=_:=f;unfold xT_;rw[Dx b,if_pos rfl,f,Zo];dsimp only;rw[Ar,jz hB hn d (i+1) c (by omega) (by omega) (by omega)]
include hW in
theorem vU (hB:Ed ts)(hT:Ys ts)(hn:2000000000<n):WC n ts=some 0:=by
 have g:=hB.1;have b:=(js (n:=n) hB.1 (fun t d=>(hB.2 t d).1) (by omega) _ 0 n rfl (Lf _) (by omega)).1 (vT hW);have b:xh_ n ts n 0=_:=b;have c:=jz (n:=n) hW hB (by omega) _ 0 n rfl (Lf _) (by omega);have c:xT_ n ts n 0=_:=c;have⟨R,e,_⟩:=kF hW hT hB hn;unfold WC;rw[b,Zo];dsimp only;rw[c,Zo];dsimp only;rw[e,Zo];rfl
end
variable {α:Type}
theorem bQ {i j:Nat}(h:i+j<9223372036854775808):i64.wrap (Int.tdiv (i64.wrap ((i:Int)+(j:Int))) 2)=(((i+j) / 2:Nat):Int):=by
 rw[wr (x:=(i:Int)+(j:Int)) (by omega) (by omega),show(i:Int)+(j:Int)=((i+j:Nat):Int) by omega,show Int.tdiv ((i+j:Nat):Int) 2=(((i+j) / 2:Nat):Int) from rfl,wr (by omega) (by omega)]
theorem bR (O:Lin α){L:Nat->Int × Int->Option Int}{s:List α}{t:α}(g:∀(c i j:Nat) (h:i<j) (d:j<=s.length),L (c+1) ((i:Int),(j:Int))=if O.lt (s[(i+j) / 2]'(by omega)) t then L c ((((i+j) / 2+1:Nat):Int),(j:Int)) else L c ((i:Int),(((i+j) / 2:Nat):Int)))
  (l:∀c (i:Nat),L (c+1) ((i:Int),(i:Int))=some (i:Int)) (m:O.Rises s):∀(c i j:Nat),i<=j->j<=s.length->j-i<c->(∀(q:Nat) (h:q<s.length),q<i->O.lt s[q] t=true)->(∀(q:Nat) (h:q<s.length),j<=q->O.lt s[q] t=false)->
   ∃k:Nat,L c ((i:Int),(j:Int))=some (k:Int)/\k<=s.length/\(∀(q:Nat) (h:q<s.length),q<k->O.lt s[q] t=true)/\(∀(q:Nat) (h:q<s.length),k<=q->O.lt s[q] t=false)
 |0,_,_,_,_,h,_,_=>by omega
 |c+1,i,j,z,d,B,r,u=>by
  have v:=NW.1 m;by_cases h:i<j;rotate_left
  ·have:i=j:=(by omega);subst this;rw[l];exact⟨i,rfl,d,r,u⟩
  rw[g c i j h d];cases e:O.lt (s[(i+j) / 2]'(by omega)) t with
  |true=>
   rw[if_pos rfl];refine bR O g l m c _ _ (by omega) d (by omega) (fun q p w=> ?_) u;rcases Nt q ((i+j) / 2) with b |b
   ·exact O.trans (v q _ p (by omega) b) e
   ·have:q=(i+j) / 2:=(by omega);subst this;exact e
  |false=>
   rw[if_neg (by decide)];refine bR O g l m c _ _ (by omega) (by omega) (by omega) r (fun q p w=> ?_);rcases Nt ((i+j) / 2) q with b |b
   ·cases y:O.lt s[q] t with
    |false=>rfl
    |true=>
     rw[O.trans (v _ q (by omega) p b) y] at e;cases e
   have:q=(i+j) / 2:=(by omega);subst this;exact e
theorem vt (n:Nat)(a b:List AC)(c:Nat)(t:List AC)(i k:Int):HI n a b (c+1) (t,i,k)=
   (((if decide (i<(a.length:Int)) then some (t,true) else some (t,decide (k<(b.length:Int)))):Option (List AC × Bool)).bind fun q=>
   (if q.2 then
    (((if k==(b.length:Int) then some (q.1,true) else(if decide (i<(a.length:Int)) then(idx a i).bind fun x=>(idx b k).bind fun y=>some (q.1,tO.lt x y) else some (q.1,false))):Option (List AC × Bool)).bind fun w=>
    (if w.2 then(idx a i).bind fun x=>(Cu w.1 [x]).bind fun l=>HI n a b c (l,i64.wrap (i+1),k)
    else(if i==(a.length:Int) then(idx b k).bind fun y=>(Cu w.1 [y]).bind fun l=>HI n a b c (l,i,i64.wrap (k+1))
     else(idx b k).bind fun y=>(idx a i).bind fun x=>(if tO.lt y x then(Cu w.1 [y]).bind fun l=>HI n a b c (l,i,i64.wrap (k+1)) else HI n a b c (w.1,i64.wrap (i+1),k)))))
   else some q.1)):=by
 rw[HI];cases decide (i<(a.length:Int))<;>cases decide (k<(b.length:Int))<;>cases(k==(b.length:Int))<;>cases idx a i<;>cases idx b k<;>rfl
theorem bu:∀(m:Nat) (l:List AC) (n:Nat),l.length<=m->l.length<=4294967296->l.length+2<=n->RN n l=some (tO.ofL l)
 |m,l,0,_,_,h=>by omega
 |m,l,n+1,g,c,i=>by
  unfold RN;by_cases h:l.length<2
  ·rw[if_pos (by simp;omega),C6 (by simpa using c),Zo,xP tO h]
  cases m with
  |zero=>omega
  |succ m=>
   rw[if_neg (by simp;omega),show Int.tdiv (l.length:Int) 2=((l.length / 2:Nat):Int) from rfl,wr (by omega) (by omega)];have d:Fd l 0 ((l.length / 2:Nat):Int)=some (l.take (l.length / 2)):=IZ (xs:=l) (a:=0) (by omega) (by omega);have e:Fd l ((l.length / 2:Nat):Int) (l.length:Int)=some (l.drop (l.length / 2)):=by
    have:=IZ (xs:=l) (a:=l.length / 2) (b:=l.length) (by omega) (Lc _);rwa [Bw] at this
   have j:(l.take (l.length / 2)).length=l.length / 2:=(by rw[Lx];omega);have k:(l.drop (l.length / 2)).length=l.length-l.length / 2:=ND ..;have p:=I0 tO (l.take (l.length / 2));have q:=I0 tO (l.drop (l.length / 2));rw[d,Zo,bu m _ n (by omega) (by omega) (by omega),Zo,e,Zo,bu m _ n (by omega) (by omega) (by omega),Zo];have h:HI n (tO.ofL (l.take (l.length / 2))) (tO.ofL (l.drop (l.length / 2))) n ([],0,0)=_:=mh tO (L:=HI n (tO.ofL (l.take (l.length / 2))) (tO.ofL (l.drop (l.length / 2)))) (vt n _ _) n [] 0 0 (by omega) (by omega) (by omega) (by simp;omega) (by omega) (by omega);rw[h,Zo,LD,LD,LA,tO.mg_ofL,LK]
def IV (o:Ae)(rel:ByteArray):AC:=⟨o,rel,⟨ByteArray.empty,ByteArray.empty,ByteArray.empty⟩⟩
theorem vu (b:ByteArray):¬Gf b ByteArray.empty<0:=by
 show ¬Lib.compareBytes b.data.toList []<0;cases b.data.toList<;>simp[Lib.compareBytes]
theorem kd:∀(p q x y:List ByteArray),p.length=q.length->Eu (p++x) (q++y)=if Eu p q=0 then Eu x y else Eu p q
 |[],[],x,y,_=>rfl
 |[],_::_,_,_,h=>by simp at h
 |_::_,[],_,_,h=>by simp at h
 |a::p,b::q,x,y,h=>by
  have c:=kd p q x y (by simpa using h);unfold Eu at *;simp only[LU,Bb,Gp];omega
theorem kg:∀x:List ByteArray,¬Eu x (x.map fun _=>ByteArray.empty)<0
 |[]=>by simp[Eu,Gp]
 |a::x=>by
  have b:=kg x;have h:=vu a;grind [Eu,List.zipWith_cons_cons,Gp]
def kl (t:AC):List ByteArray:=[t.obj.type_,t.obj.id_,t.rel]
def VQ (t:AC):List ByteArray:=[t.sub_.type_,t.sub_.id_,t.sub_.rel]
theorem PD (x y:AC):tO.lt x y=decide ((if Eu (kl x) (kl y)=0 then Eu (VQ x) (VQ y) else Eu (kl x) (kl y))<0):=by
 rw[<-kd (kl x) (kl y) (VQ x) (VQ y) rfl];rfl
theorem Jv (x y:AC):Eu (kl x) (kl y)=0↔kR x=kR y:=by
 rw[Vf (kl x) (kl y) rfl];have⟨⟨a,b⟩,c,d⟩:=x;have⟨⟨e,g⟩,h,i⟩:=y;simp[kl,kR,and_assoc]
theorem vv {x:AC}(h:kR x=⟨o,rel⟩):tO.lt x (IV o rel)=false:=by
 rw[PD,(Jv x (IV o rel)).2 h,if_pos rfl];exact decide_eq_false (kg (VQ x))
theorem vw {a x b:AC}(d:tO.lt a x=true)(c:tO.lt x b=true)(h:kR a=kR b):kR x=kR a:=by
 rw[PD] at d c;have e:kl b=kl a:=(Vf (kl b) (kl a) rfl).1 ((Jv b a).2 h.symm);rw[e] at c;have hn:=ca (kl x) (kl a);refine(Jv x a).1 ?_;grind
theorem kj {o:Ae}{rel:ByteArray}:∀ {l:List AC},tO.Rises l->(∀x∈l,tO.lt x (IV o rel)=false)->l.filter (fun t=>(⟨o,rel⟩:AB)==kR t)=l.takeWhile fun t=>(⟨o,rel⟩:AB)==kR t
 |[],_,_=>rfl
 |x::l,hr,hl=>by
  have⟨h,i⟩:=B9.1 hr;have d:=kj i fun y b=>hl y (Lk _ b);rw[BR,Id,d];cases e:((⟨o,rel⟩:AB)==kR x) with
  |true=>rfl
  |false=>
   rw[if_neg (by decide),<-d];refine OS.2 fun y b c=> ?_;have c:(⟨o,rel⟩:AB)=kR y:=(by simpa using c);have e:¬(⟨o,rel⟩:AB)=kR x:=(by simpa using e);have j:=hl x (Lp ..);cases g:tO.lt (IV o rel) x with
   |true=>exact e (vw g (h y b) c).symm
   |false=>
    have k:=tO.total g j;rw[<-k] at e;exact e rfl
theorem km (n:Nat)(g:List AC)(o:Ae)(rel:ByteArray):∀(l:List AC) (e:List AL),e.length+l.length<=4294967296->DP (Yx n g o rel) (WF n g o rel) l e=some (e++(l.takeWhile fun t=>(⟨o,rel⟩:AB)==kR t).map (·.sub_))
 |[],e,_=>by simp[DP,WF]
 |t::r,e,h=>by
  rw[Ll] at h;rw[DP];show(if ((t.obj.type_==o.type_)&&(t.obj.id_==o.id_)) then(if (t.rel.toList==rel.toList) then(Cu e [t.sub_]).bind fun k=>DP (Yx n g o rel) (WF n g o rel) r k else some e) else some e)=_;rw[DH,Id];have m:((t.obj.type_==o.type_)&&(t.obj.id_==o.id_))=decide (t.obj=o):=by
   have⟨⟨a,b⟩,c,d⟩:=t;have⟨q,u⟩:=o;rw[LY];simp
  have p:((⟨o,rel⟩:AB)==kR t)=(decide (t.obj=o)&&decide (t.rel=rel)):=by
   have⟨⟨a,b⟩,c,d⟩:=t;rw[LY];simp only[kR,beq_iff_eq,AB.mk.injEq,Lm,decide_eq_true_eq];exact⟨fun⟨i,j⟩=>⟨i.symm,j.symm⟩,fun⟨i,j⟩=>⟨i.symm,j.symm⟩⟩
  rw[m,p];cases decide (t.obj=o)
  ·simp
  cases decide (t.rel=rel)
  ·simp
  rw[if_pos rfl,if_pos rfl,C6 (by simp;omega),Zo,km n g o rel r _ (by simp;omega)];simp
theorem vz {s:List AC}(m:tO.Rises s)(h:s.length<=1000000)(hn:1000000<n)(o:Ae)(rel:ByteArray):WG n s o rel=some (EX s o rel):=by
 unfold WG Yw;have⟨k,e,r,u,v⟩:=bR tO (L:=RR n s (IV o rel)) (s:=s) (t:=IV o rel) (fun c i j h z=>by
  rw[RR,Dx h,if_pos rfl,bQ (by omega),CB (by omega),Zo,show WP n _ _=some _ from rfl,Zo,Jz]) (fun c i=>by rw[RR,Cw (Lc _),if_neg (by decide)]) m n 0 s.length (by omega) (by omega) (by omega) (fun q _ h=>by omega) (fun q h B=>by omega)
 have w:RR n s (⟨o,rel,⟨ByteArray.empty,ByteArray.empty,ByteArray.empty⟩⟩:AC) n (0,(s.length:Int))=some (k:Int):=e;have p:WE n s o rel n (([]:List AL),(k:Int))=_:=xt n s o rel (by omega) n [] k r (by omega);rw[km n s o rel _ [] (by simp;omega),LA] at p;rw[w,Zo,Zo,p,Zo];have C:(s.take k).filter (fun t=>(⟨o,rel⟩:AB)==kR t)= []:=by
  refine OS.2 fun y b d=> ?_;obtain⟨q,g,rfl⟩:=Or b;have d:(⟨o,rel⟩:AB)=kR (s.take k)[q]:=by simpa using d
  have l:=vv d.symm;rw[Lx] at g;rw[List.getElem_take] at l;rw[u q (by omega) (by omega)] at l;cases l
 have E:(s.drop k).filter (fun t=>(⟨o,rel⟩:AB)==kR t)=(s.drop k).takeWhile fun t=>(⟨o,rel⟩:AB)==kR t:=by
  refine kj (m.sublist (List.drop_sublist _ _)) fun y b=> ?_;obtain⟨q,g,rfl⟩:=Or b;rw[ND] at g;rw[List.getElem_drop];exact v _ (by omega) (by omega)
 grind [kR,List.take_append_drop,EX]
def F7 (ts:List AG)(t:AC):Bool:=(CH ts t.obj.type_ t.rel).isSome&&((CH ts t.obj.type_ t.rel).getD Ca).subs.any fun x=>decide (x.type_=t.sub_.type_)&&decide (x.rel=t.sub_.rel)
theorem jv {n:Nat}{t:AC}{q:AZ × Bool}(e:q.1.subs.length<=51):∀(d i c:Nat),d=q.1.subs.length-i->i<=q.1.subs.length->d<c->
  Q7 n t q c (i:Int)=some (if (q.1.subs.drop i).any (fun x=>decide (x.type_=t.sub_.type_)&&decide (x.rel=t.sub_.rel)) then .inr true else .inl ())
 |0,i,c,g,h,j=>by
  obtain⟨c,rfl⟩:=sx c;unfold Q7;rw[Cw,if_neg (by decide),LH (by omega)];rfl
 |d+1,i,c,g,h,j=>by
  obtain⟨c,rfl⟩:=sx c;have b:i<q.1.subs.length:=by omega
  have k:=jv (n:=n) (t:=t) e d (i+1) c (by omega) (by omega) (by omega);unfold Q7;rw[Dx b,if_pos rfl,CB b,Zo,DH,DH,Ar,k,Lj b,BV];cases decide (q.1.subs[i].type_=t.sub_.type_)<;>cases decide (q.1.subs[i].rel=t.sub_.rel)<;>simp
theorem jw {ts:List AG}{t:AC}(hB:Ed ts)(hn:1000<n)(hok:JS n t=some true):KX n ts t=some (F7 ts t):=by
 unfold KX F7;rw[KU hB hn,Zo];have hl:((CH ts t.obj.type_ t.rel).getD Ca).subs.length<=51:=by
  cases h:CH ts t.obj.type_ t.rel with
  |none=>exact Lf _
  |some g=>
   unfold CH at h;have⟨y,b,c⟩:=Oa.1 h;exact((hB.2 y (NL b)).2 g (NL c)).1
 dsimp only;cases(CH ts t.obj.type_ t.rel).isSome with
 |false=>rfl
 |true=>
  have e:=jv (n:=n) (t:=t) (q:=((CH ts t.obj.type_ t.rel).getD Ca,true)) hl _ 0 n rfl (Lf _) (by dsimp only;omega);rw[LD] at e;have e:Q7 n t ((CH ts t.obj.type_ t.rel).getD Ca,true) n 0=_:=e;rw[if_pos rfl,hok,Zo,Zo,if_neg (by decide),e,Zo,NB];cases(((CH ts t.obj.type_ t.rel).getD Ca).subs.any fun x=>decide (x.type_=t.sub_.type_)&&decide (x.rel=t.sub_.rel))<;>rfl
theorem jx {ts:List AG}{S:AD}(hW:Dh ts S)(hB:Ed ts)(t:AC):F7 ts t=Aq S t:=by
 have d:=(G6 (Ha hW hB) ⟨t.obj.type_,t.rel⟩).2.2.2.1;unfold F7 Aq Et;rw[cU hW];unfold qf_ at d;show _=decide (_∈((mget (⟨t.obj.type_,t.rel⟩:AA) S.rels).getD Ca).subs);generalize mget (⟨t.obj.type_,t.rel⟩:AA) S.rels=o at d⊢;cases o with
 |none=>simp[Ca]
 |some g=>
  simp only[Nw] at d;rw[LY];simp only[Ox,Nw,NB,Nq,Lm,decide_eq_true_eq];constructor
  ·rintro⟨x,e,h,i⟩
   have:=d x e;have⟨a,b,c⟩:=x;dsimp only at h i this;subst h i this;exact e
  exact fun e=>⟨_,e,rfl,rfl⟩
theorem Qo {t:AC}(h:((⟨o,rel⟩:AB)==kR t)=true):(⟨o,rel,t.sub_⟩:AC)=t:=by
 have h:=eq_of_beq h;have⟨⟨a,b⟩,c,d⟩:=t;cases h;rfl
theorem vn (S:AD)(rows:List AC)(o:Ae)(rel:ByteArray):(EX (tO.ofL rows) o rel).filter (fun x=>Aq S ⟨o,rel,x⟩)=EX (tO.ofL (rows.filter (Aq S))) o rel:=by
 have e:tO.ofL (rows.filter (Aq S))=(tO.ofL rows).filter (Aq S):=tO.ext (tO.rises_ofL _) (tO.filter (tO.rises_ofL _) _) fun x=>by rw[tO.mem_ofL,LO,LO,tO.mem_ofL]
 rw[e];unfold EX;rw[List.filter_map,Is,Is];refine congrArg _ (OA fun t _=> ?_);cases h:((⟨o,rel⟩:AB)==kR t) with
 |false=>simp
 |true=>
  show(Aq S ⟨o,rel,t.sub_⟩&&true)=_;rw[Qo h,O7,NB]
theorem vp {rows:List AC}{x:AL}(h:x∈EX (tO.ofL rows) o rel):(⟨o,rel,x⟩:AC)∈rows:=by
 obtain⟨t,b,rfl,rfl,rfl⟩:=Va.1 h;exact b
section
variable {n:Nat}{ts:List AG}{S:AD}{rows:List AC}(hW:Dh ts S)(hB:Ed ts)(hn:2000000000<n)(hr:rows.length<=100)(hok:∀t∈rows,JS n t=some true)
include hW hB hn hok in
theorem kZ {o:Ae}{rel:ByteArray}{t0:List AL}:∀(l b:List AL),(∀x∈l,(⟨o,rel,x⟩:AC)∈rows)->b.length+l.length<=1000->DP (dD n ts o rel t0) (dE n ts o rel t0) l b=some (b++l.filter fun x=>Aq S ⟨o,rel,x⟩)
 |[],b,_,_=>by
  show some b=_;simp
 |x::l,b,hl,c=>by
  simp only[Ll] at c;have d:=fun b h=>kZ (t0:=t0) l b (fun y e=>hl y (Lk _ e)) h;rw[DP];show(KX n ts ⟨o,rel,x⟩).bind _=_;rw[jw hB (by omega) (hok _ (hl x (Lp ..))),Zo,jx hW hB];cases g:Aq S ⟨o,rel,x⟩ with
  |true=>
   rw[if_pos rfl,C6 (by simp only[Lo];omega),Zo,d _ (by rw[Ld,Lo];omega)];simp[g]
  |false=>
   grind
include hW hB hn hr hok in
theorem YQ (o:Ae)(rel:ByteArray):Pj n ts (tO.ofL rows) o rel=some (EX (tO.ofL (rows.filter (Aq S))) o rel):=by
 have d:=I0 tO rows;have e:=KT rows o rel;have b:Tc n ts o rel (EX (tO.ofL rows) o rel) n (([]:List AL),0)=_:=xv n ts o rel (EX (tO.ofL rows) o rel) (by omega) n [] 0 (Lf _) (by omega);rw[LD,kZ hW hB hn hok _ _ (fun x c=>vp c) (by simp only[LB];omega),LA,vn] at b;unfold Pj;rw[vz (tO.rises_ofL _) (by omega) (by omega),Zo,b,Zo]
theorem ka {t0:List AL}:∀(l:List AL) (b:List AB),b.length+l.length<=1000->DP (dF n t0) (dG n t0) l b=some (b++G3 l)
 |[],b,_=>by
  show some b=_;simp[G3]
 |x::l,b,d=>by
  simp only[Ll] at d;have c:=fun b h=>ka (t0:=t0) l b h;rw[DP];show(if (x.rel.toList==({ data:= #[] }:ByteArray).toList) then _ else _)=_
  rw[DH];unfold G3 at c⊢;by_cases e:x.rel={ data:= #[] }
  ·grind
  rw[decide_eq_false e,if_neg (by decide),C6 (by grind),Zo,c _ (by grind)];simp[e,VZ]
theorem kb {x:AX}{t0:List AL}:∀(l:List AL) (b:List AB),b.length+l.length<=4294967296->DP (dH n x t0) (dI n x t0) l b=some (b++l.map fun s=>⟨⟨s.type_,s.id_⟩,x.b⟩)
 |[],b,_=>by
  show some b=_;simp
 |s::l,b,c=>by
  simp only[Ll] at c;rw[DP];show(Cu b _).bind _=_;rw[C6 (by simp only[Lo];omega),Zo,kb l _ (by rw[Ld,Lo];omega),Lh,Lz];rfl
include hW hB hn hr hok in
theorem kc {r:AB}{g:AZ × Bool}(k:g.1.expr.length<=200):∀(d i c:Nat) (b:List AB),d=g.1.expr.length-i->i<=g.1.expr.length->d<c->b.length<=101*i->RU n ts (tO.ofL rows) r g c (b,(i:Int))=some (b++F8 (rows.filter (Aq S)) r.obj (g.1.expr.drop i))
 |0,i,c,b,m,p,q,u=>by
  obtain⟨c,rfl⟩:=sx c;unfold RU;rw[Cw,if_neg (by decide),LH (by omega)];simp[F8]
 |d+1,i,c,b,m,p,q,u=>by
  obtain⟨c,rfl⟩:=sx c;have e:i<g.1.expr.length:=by omega
  have h:=kc (r:=r) k d (i+1) c;have w:(rows.filter (Aq S)).length<=rows.length:=LM _ _;unfold RU;rw[Dx e,if_pos rfl,CB e,Zo,Ar,Lj e];have v:∀l:List AX,F8 (rows.filter (Aq S)) r.obj (g.1.expr[i]::l)=Ez (rows.filter (Aq S)) r.obj g.1.expr[i]++F8 (rows.filter (Aq S)) r.obj l:=fun l=>rfl
  rw[v];unfold Ez;cases g.1.expr[i].kind==1 with
  |true=>
   rw[if_pos rfl,if_pos rfl,C6 (by grind),Zo,h _ (by omega) (by omega) (by omega) (by grind),Lz]
  |false=>
   rw[if_neg NY,if_neg NY];cases g.1.expr[i].kind==2 with
   |true=>
    have y:=KT (rows.filter (Aq S)) r.obj g.1.expr[i].a;have j:WK n g.1.expr[i] (EX (tO.ofL (rows.filter (Aq S))) r.obj g.1.expr[i].a) n (b,0)=_:=xz n g.1.expr[i] (EX (tO.ofL (rows.filter (Aq S))) r.obj g.1.expr[i].a) (by omega) n b 0 (Lf _) (by omega);rw[LD,kb _ _ (by omega)] at j;rw[if_pos rfl,if_pos rfl,YQ hW hB hn hr hok,Zo,j,Zo,h _ (by omega) (by omega) (by omega) (by rw[Ld,Lt];omega),Lz];rfl
   |false=>
    grind
include hW hB hn hr hok in
theorem vq (r:AB):WM n ts (tO.ofL rows) r=some (Dn S (rows.filter (Aq S)) r):=by
 have d:=G6 (Ha hW hB) (⟨r.obj.type_,r.rel⟩:AA);have e:(rows.filter (Aq S)).length<=rows.length:=LM _ _;unfold WM Dn;rw[KU hB (by omega),Zo,Ql hW];dsimp only;by_cases b:(qf_ (⟨r.obj.type_,r.rel⟩:AA) Ca S.rels).expr= []
 ·have h:=KT (rows.filter (Aq S)) r.obj r.rel;have c:Td n (EX (tO.ofL (rows.filter (Aq S))) r.obj r.rel) n (([]:List AB),0)=_:=xy n (EX (tO.ofL (rows.filter (Aq S))) r.obj r.rel) (by omega) n [] 0 (Lf _) (by omega);rw[LD,ka _ _ (by simp only[LB];omega),LA] at c;rw[if_pos (by rw[b];rfl),if_pos b,YQ hW hB hn hr hok,Zo,c,Zo]
 have i:0<(qf_ (⟨r.obj.type_,r.rel⟩:AA) Ca S.rels).expr.length:=Nz.2 b;have c:=kc (r:=r) (g:=(qf_ (⟨r.obj.type_,r.rel⟩:AA) Ca S.rels,(CH ts r.obj.type_ r.rel).isSome)) hW hB hn hr hok d.2.1 _ 0 n [] rfl (Lf _) (by have:=d.2.1;dsimp only;omega) (Lf _);grind
end
theorem Qn (x y:AB):((x.obj.type_==y.obj.type_)&&((x.obj.id_==y.obj.id_)&&(x.rel==y.rel)))=decide (x=y):=by
 have⟨⟨a,b⟩,c⟩:=x;have⟨⟨d,e⟩,g⟩:=y;rw[LY];simp[and_assoc]
theorem kM (x y:AL):((x.type_==y.type_)&&((x.id_==y.id_)&&(x.rel==y.rel)))=decide (x=y):=by
 have⟨a,b,c⟩:=x;have⟨d,e,g⟩:=y;rw[LY];simp
theorem kN {n:Nat}{out e:List AB}{i:Nat}(h:i<e.length)(l:out.length<=1000000):∀(d k c:Nat) (b:Bool),d=out.length-k->k<=out.length->d<c->RW n out e (i:Int) c (b,(k:Int))=some (b||decide (e[i]∈out.drop k))
 |0,k,c,b,m,p,q=>by
  obtain⟨c,rfl⟩:=sx c;unfold RW;rw[Cw,if_neg (by decide),LH (by omega),decide_eq_true (show 0<e.length by omega)];simp[Cy]
 |d+1,k,c,b,m,p,q=>by
  obtain⟨c,rfl⟩:=sx c;have g:k<out.length:=by omega
  have j:=fun b=>kN (n:=n) h l d (k+1) c b (by omega) (by omega) (by omega);unfold RW;rw[Dx g,if_pos rfl,CB g,CB h,Ar,decide_eq_true (show 0<e.length by omega),Lj g];simp only[Zo,Cy,if_true];rw[Qn,j,j];grind
section
variable {n:Nat}{ts:List AG}{S:AD}{rows:List AC}(hW:Dh ts S)(hB:Ed ts)(hn:2000000000<n)(hr:rows.length<=100)(hok:∀t∈rows,JS n t=some true)
include hW hB hn hr hok in
theorem vc {U:List AB}{r0:AB}(R:U.length<=20200)(T:∀r∈U,∀d∈Dn S (rows.filter (Aq S)) r,d∈U):∀(m i c:Nat) (g h:List AB),m=408040002-i->m<c->i<=h.length->h.length=1+(g.map fun r=>(Dn S (rows.filter (Aq S)) r).length).sum->g.Nodup->(∀x∈g,x∈U)->(∀x∈h,x∈U)->(∀(z:Nat) (q:z<h.length),z<i->h[z]∈g)->(∀x∈g,∀d∈Dn S (rows.filter (Aq S)) x,d∈h)->r0∈h->
  ∃K,Tf n ts (tO.ofL rows) c (g,h,(i:Int))=some K/\K.Nodup/\K.length<=20200/\r0∈K/\(∀x∈K,x∈U)/\∀x∈K,∀d∈Dn S (rows.filter (Aq S)) x,d∈K:=by
 intro m;have V:(rows.filter (Aq S)).length<=rows.length:=LM _ _;have H:∀g:List AB,g.Nodup->(∀x∈g,x∈U)->g.length<=20200/\(g.map fun r=>(Dn S (rows.filter (Aq S)) r).length).sum<=20200*20200:=fun g k p=>by
  have y:=Wa k p;exact⟨by omega,Lq (YY _ 20200 fun r _=>YZ hW hB (by omega) r) (LS _ (by omega))⟩
 induction m with
 |zero=>
  grind
 |succ m E=>
  intro i c g h hm hc hi hl k p y I F B;obtain⟨c,rfl⟩:=sx c;have⟨J,g2⟩:=H g k p;unfold Tf;by_cases u:i<h.length;rotate_left
  ·have e:i=h.length:=(by omega);have G:∀x∈h,x∈g:=fun x j=>by
    obtain⟨z,q,rfl⟩:=Bs.1 j;exact I z q (by omega)
   rw[Cw,if_neg (by decide),decide_eq_true (show 0<h.length by omega)];exact⟨g,rfl,k,J,G _ B,p,fun x j d v=>G _ (F x j d v)⟩
  have w:=kN (n:=n) (out:=g) u (by omega) _ 0 n false rfl (Lf _) (by omega);have w:RW n g h (i:Int) n (false,0)=_:=w;rw[LD,NE] at w;rw[Dx u,if_pos rfl,w,Zo,Ar];by_cases C:h[i]∈g
  ·rw[decide_eq_true C,if_pos rfl];refine E (i+1) c g h (by omega) (by omega) (by omega) hl k p y (fun z q L=> ?_) F B;grind
  have M:=y _ (LN u);have X:=YZ hW hB (l:=rows.filter (Aq S)) (by omega) h[i];have N:(g++[h[i]]).Nodup:=by
   rw[N8];exact⟨k,by simp,fun a O b P e=>C (by rw[Lr.1 P] at e;rw[<-e];exact O)⟩
  have Q:∀x∈g++[h[i]],x∈U:=fun x j=>by
   rcases Lw.1 j with j |j
   ·exact p x j
   rw[Lr.1 j];exact M
  rw[decide_eq_false C,if_neg (by decide),CB u,Zo,C6 (by simp only[Lo];omega),Zo,vq hW hB hn hr hok,Zo,C6 (by omega),Zo];refine E (i+1) c _ _ (by omega) (by omega) (by rw[Ld];omega) ?_ N Q (fun x j=> ?_) (fun z q L=> ?_) (fun x j d v=> ?_) (L8 _ B)
  ·rw[Ld,hl,LX,List.sum_append,List.map_singleton,List.sum_singleton];omega
  ·grind
  ·rw[List.getElem_append_left (by omega)];by_cases e:z=i
   ·subst e;simp
   grind
  rcases Lw.1 j with j |j
  ·grind
  rw[Lr.1 j] at v;exact Na _ v
include hW hB hn hr hok in
theorem vd {U:List AB}{r0:AB}(b:U.length<=20200)(c:r0∈U)(e:∀r∈U,∀d∈Dn S (rows.filter (Aq S)) r,d∈U):
  ∃K,WN n ts (tO.ofL rows) [r0]=some K/\K.Nodup/\K.length<=20200/\r0∈K/\(∀x∈K,x∈U)/\∀x∈K,∀d∈Dn S (rows.filter (Aq S)) x,d∈K:=by
 have⟨K,i,j⟩:=vc (r0:=r0) hW hB hn hr hok b e _ 0 n [] [r0] rfl (by omega) (Lf _) rfl NV (by intro _ h;cases h) (fun x g=>by rw[Lr.1 g];exact c) (fun z _ h=>by omega) (by intro _ h;cases h) (Lr.2 rfl);grind [Tf,WN,C6,Zo]
end
section
variable {n:Nat}{ts:List AG}{rows:List AC}{refs:List AB}{A:AB->Bool}{s:AL}(hn:2000000000<n)(hl:refs.length<=20200)
include hl in
theorem kO {o:Ae}{rel:ByteArray}:∀(d i c:Nat),d=refs.length-i->i<=refs.length->d<c->RQ n ⟨ts,rows,refs,refs.map A,s⟩ o rel c (i:Int)=some (if (⟨o,rel⟩:AB)∈refs.drop i then .inr (A ⟨o,rel⟩) else .inl ())
 |0,i,c,g,j,k=>by
  obtain⟨c,rfl⟩:=sx c;unfold RQ;dsimp only;rw[Cw,if_neg (by decide),LH (by omega),if_neg (by simp)]
 |d+1,i,c,g,j,k=>by
  obtain⟨c,rfl⟩:=sx c;have e:i<refs.length:=by omega
  have l:i<(refs.map A).length:=by rw[Lt];exact e
  have m:=kO (o:=o) (rel:=rel) d (i+1) c (by omega) (by omega) (by omega);unfold RQ;dsimp only;rw[Dx e,if_pos rfl,CB e,Zo,DH,Ar,m,CB l,Zo,Bx,Lj e];have p:((refs[i].obj.type_==o.type_)&&(refs[i].obj.id_==o.id_))=decide (refs[i].obj=o):=by
   have⟨a,b⟩:=o;generalize refs[i]=x;have⟨⟨q,r⟩,u⟩:=x;rw[LY];simp
  rw[p];by_cases h:refs[i]=⟨o,rel⟩
  ·rw[h];simp
  have v:¬(refs[i].rel=rel/\refs[i].obj=o):=fun⟨a,b⟩=>h (by
   generalize refs[i]=x at a b;have⟨y,z⟩:=x;cases a;cases b;rfl)
  grind
include hn hl in
theorem YP (b:∀x,A x=true->x∈refs)(o:Ae)(rel:ByteArray):MU n ⟨ts,rows,refs,refs.map A,s⟩ o rel=some (A ⟨o,rel⟩):=by
 have f:=kO (n:=n) (ts:=ts) (rows:=rows) (A:=A) (s:=s) (o:=o) (rel:=rel) hl _ 0 n rfl (Lf _) (by omega);have f:RQ n ⟨ts,rows,refs,refs.map A,s⟩ o rel n 0=_:=f;unfold MU;grind
include hn hl in
theorem kP (b:∀x,A x=true->x∈refs){t0:List AL}:∀l:List AL,DP (WI n ⟨ts,rows,refs,refs.map A,s⟩ t0) (Yz n ⟨ts,rows,refs,refs.map A,s⟩ t0) l ()=some (if (decide (s∈l)||(G3 l).any A)=true then .inr true else .inl ())
 |[]=>rfl
 |x::l=>by
  have c:=kP b (t0:=t0) l;rw[DP];generalize DP (WI n ⟨ts,rows,refs,refs.map A,s⟩ t0) (Yz n ⟨ts,rows,refs,refs.map A,s⟩ t0) l=Q at c⊢;unfold WI;dsimp only;rw[kM,DH,YP hn hl b,Zo,c];grind [G3,VZ]
include hn hl in
theorem kQ (g:∀x,A x=true->x∈refs){x:AX}{t0:List AL}(j:t0.length<=1000000):∀(d i c:Nat) (b:Bool),d=t0.length-i->i<=t0.length->d<c->RT n ⟨ts,rows,refs,refs.map A,s⟩ x t0 c (b,(i:Int))=some (b||((t0.drop i).map fun u=>(⟨⟨u.type_,u.id_⟩,x.b⟩:AB)).any A)
 |0,i,c,b,k,l,m=>by
  obtain⟨c,rfl⟩:=sx c;unfold RT;rw[Cw,if_neg (by decide),LH (by omega)];simp
 |d+1,i,c,b,k,l,m=>by
  obtain⟨c,rfl⟩:=sx c;have e:i<t0.length:=by omega
  have h:=fun b=>kQ g (x:=x) j d (i+1) c b (by omega) (by omega) (by omega);unfold RT;rw[Dx e,if_pos rfl,CB e,Zo,YP hn hl g,Zo,Ar,h,h,Lj e,Lh,BV];cases b<;>rfl
end
end Go.Proofs.YtnmkbmefohakmaaGreat.Ab
