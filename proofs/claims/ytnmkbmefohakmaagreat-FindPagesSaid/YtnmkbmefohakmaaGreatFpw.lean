/-
 What is listed of any schema: the errors, too.
-/
import Derived.Test.YtnmkbmefohakmaaGreatSki
namespace Go.Proofs.YtnmkbmefohakmaaGreat.Ab
open Go.RowKit
theorem subE (x y:GSub):((x.type_==y.type_)&&((x.id_==y.id_)&&(x.rel==y.rel)))=decide (x=y):=by
 obtain⟨a,b,c⟩:=x;obtain⟨a',b',c'⟩:=y;rw[Bool.eq_iff_iff];simp
theorem vo_ {n:Nat}{l:List GSub}{v:GSub}(hn:l.length<n)(hx:l.length<4611686018427387904):qO_ n l v=some (decide (v∈l)):=by
 obtain⟨r,h1,h2⟩:=hw_ (L:=q6_ n l v) (P:=fun x=>some ((v.type_==x.type_)&&((v.id_==x.id_)&&(v.rel==x.rel)))) (fun x=>decide (v=x)) (fun _ _=>rfl) (fun x _=>by rw[subE]) hx n 0 (Nat.zero_le _) (by omega);have h1:q6_ n l v n 0=some r:=h1;unfold qO_ xi_;rw[h1,Zo];rw[List.drop_zero] at h2;have e:l.any (fun x=>decide (v=x))=decide (v∈l):=by
  rw[Bool.eq_iff_iff];simp
 rcases h2 with⟨h2,k,rfl⟩ |⟨h2,rfl⟩
 ·rw[<-e,h2]
  simp
 ·rw[<-e,h2]
  rfl
theorem ub_ {n:Nat}{l:List GTuple}(hl:l.length<=1000000)(o:GObj)(rel:ByteArray):jm_ n (ixO l).left o rel=some (wa_ (tO.ofL l) o rel):=by
 have h1:qk_ (⟨o,rel⟩:GRef) [] (ixO l).left.subs=wa_ (tO.ofL l) o rel:=sD_ (tO.ofL l) o rel;have h2:=uq_ (tO.ofL l) o rel;have h3:=zL_ tO l;unfold jm_;rw[h1];cases hm:mhas (⟨o,rel⟩:GRef) (ixO l).left.subs with
 |true=>
  rw[if_pos rfl];exact dF_ _ (by omega)
 |false=>
  rw[if_neg (by simp),<-h1];unfold mhas at hm;unfold qk_;cases he:mget (⟨o,rel⟩:GRef) (ixO l).left.subs with
  |none=>rfl
  |some x=>rw[he] at hm;cases hm
def refOf (s:GSub):GRef:=⟨⟨s.type_,s.id_⟩,s.rel⟩
def wi_ (l:List GSub):List GRef:=(l.filter fun s=>decide (s.rel≠{ data:= #[] })).map refOf
theorem uc_ (n:Nat)(t:List GSub):∀(l:List GSub) (out:List GRef),out.length+l.length<=4294967296->xj_ (jj_ n t) (xa_ n t) l out=some (out++wi_ l)
 |[],out,_=>by
  show some out=_;simp[wi_]
 |x::l,out,h=>by
  simp only[List.length_cons] at h;have st:∀k:List GRef->Option (List GRef),jj_ n t out x k=if decide (x.rel={ data:= #[] }) then k out else(app out [refOf x]).bind k:=fun k=>by
   unfold jj_;dsimp only;rw[beqS];rfl
  rw[xj_,st];by_cases e:x.rel={ data:= #[] }
  ·rw[decide_eq_true e,if_pos rfl,uc_ n t l out (by omega)]
   simp[wi_,e]
  ·rw[decide_eq_false e,if_neg (by decide),appS (by simp only[List.length_singleton];omega),Zo,uc_ n t l _ (by rw[List.length_append,List.length_singleton];omega)]
   simp[wi_,e]
theorem fn_ {n:Nat}{sc:WellSchema}{l r0:List GTuple}(hl:l.length<=1000000)(hn:1000000<n)(r:GRef)(he:(qk_ (⟨r.obj.type_,r.rel⟩:WellName) (⟨ByteArray.empty,[],[]⟩:GRel) sc.rels).expr= []):jr_ n ⟨sc,ixO l,r0⟩ r=some (wi_ (wa_ (tO.ofL l) r.obj r.rel)):=by
 obtain⟨m,rfl⟩:∃m,n=m+1:=⟨n-1,by omega⟩;have h2:=uq_ (tO.ofL l) r.obj r.rel;have h3:=zL_ tO l;have hL:qL_ (m+1) (wa_ (tO.ofL l) r.obj r.rel) (m+1) (([]:List GRef),0)=_:=vi_ (m+1) (wa_ (tO.ofL l) r.obj r.rel) (by omega) (m+1) [] 0 (by omega) (by omega);rw[List.drop_zero,uc_ _ _ _ _ (by simp only[List.length_nil];omega)] at hL;unfold jr_ qq_;rw[Zo]
 unfold qt_;dsimp only;rw[he];have e0:decide ((0:Int)<(([]:List GStep).length:Int))=false:=by decide
 rw[e0,if_neg (by decide),Zo,if_neg (by decide),ub_ hl,Zo,hL];rfl
theorem df_ {l:List GTuple}{o:GObj}{rel:ByteArray}{s:GSub}:s∈wa_ (tO.ofL l) o rel↔∃t∈l,t.obj=o/\t.rel=rel/\t.sub_=s:=by
 unfold wa_;rw[List.mem_map];constructor
 ·rintro⟨t,h1,h2⟩
  obtain⟨h3,h4⟩:=List.mem_filter.1 h1;have h5:=eq_of_beq h4;simp only[kR,GRef.mk.injEq] at h5;exact⟨t,tO.mem_ofL.1 h3,h5.1.symm,h5.2.symm,h2⟩
 ·rintro⟨t,h1,h2,h3,h4⟩
  refine⟨t,List.mem_filter.2 ⟨tO.mem_ofL.2 h1,?_⟩,h4⟩;rw[<-h2,<-h3];exact beq_self_eq_true _
theorem mi_ {l:List GSub}{d:GRef}:d∈wi_ l↔∃s∈l,s.rel≠{ data:= #[] }/\refOf s=d:=by
 unfold wi_;rw[List.mem_map];constructor
 ·rintro⟨s,h1,h2⟩
  obtain⟨h3,h4⟩:=List.mem_filter.1 h1;exact⟨s,h3,of_decide_eq_true h4,h2⟩
 ·rintro⟨s,h1,h2,h3⟩
  exact⟨s,List.mem_filter.2 ⟨h1,decide_eq_true h2⟩,h3⟩
section
variable {n:Nat}{sc:WellSchema}{l r0:List GTuple}(hl:l.length<=10000)(hn:1000000<n)
def arr (l:List GTuple)(o:GObj)(x:GStep):List GRef:=(wa_ (tO.ofL l) o x.a).map fun s=>⟨⟨s.type_,s.id_⟩,x.b⟩
theorem yd_ (l:List GTuple)(o:GObj)(rel:ByteArray):(wa_ (tO.ofL l) o rel).length<=l.length:=Nat.le_trans (uq_ _ _ _) (zL_ tO l)
include hl hn in
theorem ud_ (o:GObj)(x:GStep):jp_ n ⟨sc,ixO l,r0⟩ o x=some (arr l o x):=by
 have h2:=yd_ l o x.a;have key:∀(ss:List GSub) (l2:List GSub) (out:List GRef),out.length+l2.length<=4294967296->xj_ (jX_ n x ss) (jY_ n x ss) l2 out=some (out++l2.map fun s=>⟨⟨s.type_,s.id_⟩,x.b⟩):=fun ss l2=>by
  induction l2 with
  |nil=>
   intro out _;show some out=_;simp
  |cons s r ih=>
   intro out h;simp only[List.length_cons] at h;rw[xj_];show(app out [(⟨⟨s.type_,s.id_⟩,x.b⟩:GRef)]).bind _=_;rw[appS (by simp only[List.length_singleton];omega),Zo,ih _ (by rw[List.length_append,List.length_singleton];omega)];simp
 have hL:qJ_ n x (wa_ (tO.ofL l) o x.a) n (([]:List GRef),0)=_:=zO_ n x (wa_ (tO.ofL l) o x.a) (by omega) n [] 0 (by omega) (by omega);rw[List.drop_zero,key _ _ _ (by simp only[List.length_nil];omega)] at hL;unfold jp_;rw[ub_ (by omega),Zo,hL];rfl
def kW_ (l:List GTuple)(o:GObj)(x:GStep):List GRef:=if x.kind==1 then[⟨o,x.a⟩] else if x.kind==2 then arr l o x else[]
def exD (l:List GTuple)(o:GObj)(ex:List GStep):List GRef:=ex.flatMap (kW_ l o)
theorem fo_ (l:List GTuple)(o:GObj)(x:GStep):(arr l o x).length<=l.length:=by unfold arr;rw[List.length_map];exact yd_ l o x.a
include hl hn in
theorem n9_ {r:GRef}{g:GRel}{b:Bool}(he:g.expr.length<=1000):∀(d i c:Nat) (t:List GRef),d=g.expr.length-i->i<=g.expr.length->d<c->t.length<=10001*i->qt_ n ⟨sc,ixO l,r0⟩ r (g,b) c (t,(i:Int))=some (t++exD l r.obj (g.expr.drop i))
 |0,i,c,t,hd,hi,hc,ht=>by
  obtain⟨c,rfl⟩:∃k,c=k+1:=⟨c-1,by omega⟩;unfold qt_;dsimp only;rw[decide_eq_false (by omega),if_neg (by decide),List.drop_of_length_le (by omega)];simp[exD]
 |d+1,i,c,t,hd,hi,hc,ht=>by
  obtain⟨c,rfl⟩:∃k,c=k+1:=⟨c-1,by omega⟩;have hlt:i<g.expr.length:=by omega
  have ih:=fun t2 h=>n9_ (r:=r) (b:=b) he d (i+1) c t2 (by omega) (by omega) (by omega) h;have ed:exD l r.obj (g.expr.drop i)=kW_ l r.obj g.expr[i]++exD l r.obj (g.expr.drop (i+1)):=by
   rw[List.drop_eq_getElem_cons hlt];rfl
  unfold qt_;dsimp only;rw[decide_eq_true (by omega),if_pos rfl,vC_,List.getElem?_eq_getElem hlt,Zo,w64a (by omega),ed];have ha:=fo_ l r.obj g.expr[i];unfold kW_;split
  ·rw[appS (by simp only[List.length_singleton];omega),Zo,ih _ (by rw[List.length_append,List.length_singleton];omega),List.append_assoc]
  ·split
   ·rw[ud_ hl hn,Zo]
    by_cases h0:t.length=0
    ·obtain rfl:=List.eq_nil_of_length_eq_zero h0
     rw[decide_eq_true h0,if_pos rfl,appS (by simp only[List.length_nil];omega),Zo,ih _ (by omega),List.nil_append]
    ·rw[decide_eq_false h0,if_neg (by decide),appS (by omega),Zo,ih _ (by rw[List.length_append];omega),List.append_assoc]
   ·rw[ih t (by omega),List.nil_append]
def w1_ (sc:WellSchema)(l:List GTuple)(r:GRef):List GRef:=if (qk_ (⟨r.obj.type_,r.rel⟩:WellName) zGR sc.rels).expr= [] then wi_ (wa_ (tO.ofL l) r.obj r.rel) else exD l r.obj (qk_ (⟨r.obj.type_,r.rel⟩:WellName) zGR sc.rels).expr
include hl hn in
theorem pa_ (hS:vR_ sc)(r:GRef):jr_ n ⟨sc,ixO l,r0⟩ r=some (w1_ sc l r):=by
 have hb:=(dT_ hS ⟨r.obj.type_,r.rel⟩).2.1;unfold w1_;by_cases he:(qk_ (⟨r.obj.type_,r.rel⟩:WellName) zGR sc.rels).expr= []
 ·rw[if_pos he]
  exact fn_ (by omega) hn r he
 ·rw[if_neg he]
  unfold jr_;rw[vp_,Zo];have e1:qt_ n ⟨sc,ixO l,r0⟩ r (qk_ (⟨r.obj.type_,r.rel⟩:WellName) zGR sc.rels,mhas (⟨r.obj.type_,r.rel⟩:WellName) sc.rels) n (([]:List GRef),0)=_:=n9_ hl hn (by omega) _ 0 n [] rfl (Nat.zero_le _) (by omega) (Nat.zero_le _);rw[e1,Zo,List.drop_zero,List.nil_append]
  have h0:(0:Int)<((qk_ (⟨r.obj.type_,r.rel⟩:WellName) zGR sc.rels).expr.length:Int):=by
   have:0<(qk_ (⟨r.obj.type_,r.rel⟩:WellName) zGR sc.rels).expr.length:=List.length_pos_iff.2 he
   omega
  dsimp only[Zo];rw[decide_eq_true h0,if_pos rfl]
include hl hn in
theorem pb_ (hS:vR_ sc)(r:GRef):bo_ n ⟨sc,ixO l,r0⟩ r=some (rkK sc.ranks ⟨r.obj.type_,r.rel⟩,w1_ sc l r):=by
 unfold bo_;rw[pa_ hl hn hS];rfl
include hl hn in
theorem r9_ (o:GObj)(x:GStep)(hk:(x.kind==1||x.kind==2)=true):pK_ n ⟨sc,ixO l,r0⟩ o x=some (kW_ l o x):=by
 unfold pK_ kW_;split
 ·rfl
 ·rename_i h
  rw[if_pos (by simpa [h] using hk)];exact ud_ hl hn o x
include hl hn in
theorem ue_ {o:GObj}{N:List PN}:∀(ex:List GStep) (st:List Bool),(∀d∈exD l o ex,(jd_ d N).isSome=true)->st.length+ex.length<=1000->∃b,w7_ n ⟨sc,ixO l,r0⟩ o N ex st=some b
 |[],st,_,_=>⟨_,rfl⟩
 |x::ex,st,hd,hs=>by
  simp only[List.length_cons] at hs;have hd1:∀d∈kW_ l o x,(jd_ d N).isSome=true:=fun d h=>hd d (List.mem_append_left _ h);have hd2:∀d∈exD l o ex,(jd_ d N).isSome=true:=fun d h=>hd d (List.mem_append_right _ h);unfold w7_ stepM;by_cases hk:(x.kind==1||x.kind==2)=true
  ·rw[if_pos hk,r9_ hl hn o x hk,Zo,if_pos]
   ·rw[Zo]
    exact ue_ ex _ hd2 (by rw[List.length_append,List.length_singleton];omega)
   ·have hll:(kW_ l o x).length<=10001:=by
     have:=fo_ l o x
     unfold kW_;split
     ·simp
     ·split
      ·omega
      ·simp
    simp only[Bool.and_eq_true,List.all_eq_true,decide_eq_true_eq];exact⟨⟨hd1,by omega⟩,by omega⟩
  ·rw[if_neg hk]
   by_cases h2:st.length<2
   ·rw[if_pos h2]
    exact⟨_,rfl⟩
   ·rw[if_neg h2,Zo]
    exact ue_ ex _ hd2 (by rw[List.length_append,List.length_take,List.length_singleton];omega)
include hl hn in
theorem cG_ (hS:vR_ sc){s:GSub}{N:List PN}{r:GRef}{x:PN}(hf:jd_ r N=some x)(hx:x.deps=w1_ sc l r)(hd:∀d∈w1_ sc l r,(jd_ d N).isSome=true):∃b,nowM n ⟨sc,ixO l,r0⟩ s N r=some b:=by
 have hb:=(dT_ hS ⟨r.obj.type_,r.rel⟩).2.1;have hsl:=yd_ l r.obj r.rel;unfold nowM;rw[vp_,Zo];dsimp only;cases he:(qk_ (⟨r.obj.type_,r.rel⟩:WellName) zGR sc.rels).expr.isEmpty with
 |true=>
  have he2:=List.isEmpty_iff.1 he;have hdl:(w1_ sc l r).length<=10000:=by
   unfold w1_;rw[if_pos he2];unfold wi_;rw[List.length_map];exact Nat.le_trans (List.length_filter_le _ _) (by omega)
  rw[if_pos rfl];unfold nowD;rw[vp_,Zo];dsimp only;rw[he,if_pos rfl,ub_ (by omega),Zo,vo_ (by omega) (by omega),Zo,hf,Zo,hx,if_pos]
  ·exact⟨_,rfl⟩
  ·simp only[Bool.and_eq_true,List.all_eq_true,decide_eq_true_eq]
   exact⟨hd,by omega⟩
 |false=>
  have he2:(qk_ (⟨r.obj.type_,r.rel⟩:WellName) zGR sc.rels).expr≠[]:=fun h=>by rw[h] at he;cases he
  rw[if_neg (by decide),if_pos (by omega)];refine ue_ hl hn _ [] (fun d h=>hd d ?_) (by simp only[List.length_nil];omega);unfold w1_;rw[if_neg he2];exact h
end
def fitP (S:WellSchema)(t:GTuple):Prop:=(⟨t.sub_.type_,ByteArray.empty,t.sub_.rel⟩:GSub)∈(qk_ (⟨t.obj.type_,t.rel⟩:WellName) zGR S.rels).subs
section
variable {ts:List GType}{S:WellSchema}(hW:WellP ts S)(hB:kK_ ts)
include hW hB in
theorem w2_:vR_ S:=fun p hp=>by
 rw[hW.rels] at hp;obtain⟨t,ht,g,hg,rfl⟩:=uJ_.1 hp;exact(hB.2 t ht).2 g hg
include hW in
theorem sa_ {m:WellName}(h:mhas m S.rels=true):∃t∈ts,∃g∈t.rels,m=⟨t.name,g.name⟩/\qk_ m zGR S.rels=g:=by
 have h1:=kf_.1 h;rw[hW.rels,gB_] at h1;obtain⟨t,ht,g,hg,rfl⟩:=hM_.1 h1;refine⟨t,ht,g,hg,rfl,?_⟩;unfold qk_;rw[tp_ hW.rels hW.keys ht hg];rfl
theorem sb_ {b:ByteArray}(h:(b.toList==({ data:= #[] }:ByteArray).toList)=true):b={ data:= #[] }:=by
 rw[beqS] at h;exact of_decide_eq_true h
include hW in
theorem closed {l:List GTuple}(hfit:∀t∈l,fitP S t){r d:GRef}(hr:mhas (⟨r.obj.type_,r.rel⟩:WellName) S.rels=true)(hd:d∈w1_ S l r):mhas (⟨d.obj.type_,d.rel⟩:WellName) S.rels=true/\(d.obj=r.obj\/∃t∈l,d.obj=⟨t.sub_.type_,t.sub_.id_⟩):=by
 obtain⟨t,ht,g,hg,e1,e2⟩:=sa_ hW hr;obtain⟨n1,n2⟩:=hW.nms t ht g hg;have ety:r.obj.type_=t.name:=congrArg WellName.typ e1;unfold w1_ at hd;split at hd
 ·obtain⟨s,hs,hne,rfl⟩:=mi_.1 hd
  obtain⟨u,hu,q1,q2,q3⟩:=df_.1 hs;have hf:=hfit u hu;unfold fitP at hf;rw[q1,q2,q3,e2] at hf;refine⟨?_,.inr ⟨u,hu,by rw[q3];rfl⟩⟩;rcases n1 _ hf with h |h
  ·exact absurd (sb_ h) hne
  ·exact h
 ·rw[e2] at hd
  unfold exD at hd;obtain⟨x,hx,hd⟩:=List.mem_flatMap.1 hd;obtain⟨s1,s2⟩:=n2 x hx;unfold kW_ at hd;split at hd
  ·rename_i hk
   rw[List.mem_singleton.1 hd]
   have:=s1 (eq_of_beq hk)
   rw[<-ety] at this;exact⟨this,.inl rfl⟩
  ·split at hd
   ·rename_i hk
    obtain⟨a1,a2,a3⟩:=s2 (eq_of_beq hk);rw[<-ety] at a3;unfold arr at hd;obtain⟨s,hs,rfl⟩:=List.mem_map.1 hd;obtain⟨u,hu,q1,q2,q3⟩:=df_.1 hs;have hf:=hfit u hu;unfold fitP at hf;rw[q1,q2,q3] at hf;exact⟨(a3 _ hf).1,.inr ⟨u,hu,by rw[q3]⟩⟩
   ·cases hd
def pc_ (l:List GTuple)(o:GObj):List GObj:=o::l.map fun t=>⟨t.sub_.type_,t.sub_.id_⟩
def rawU (ts:List GType)(l:List GTuple)(o:GObj):List GRef:=(pc_ l o).flatMap fun p=>((zv_ ts).filter fun q=>q.typ==p.type_).map fun q=>⟨p,q.rel⟩
theorem sc_ {l:List GTuple}{o:GObj}{r:GRef}:r∈rawU ts l o↔r.obj∈pc_ l o/\(⟨r.obj.type_,r.rel⟩:WellName)∈zv_ ts:=by
 unfold rawU;rw[List.mem_flatMap];constructor
 ·rintro⟨p,hp,hr⟩
  obtain⟨q,hq,rfl⟩:=List.mem_map.1 hr;obtain⟨h1,h2⟩:=List.mem_filter.1 hq;refine⟨hp,?_⟩
  have:(⟨p.type_,q.rel⟩:WellName)=q:=by rw[<-eq_of_beq h2]
  exact this▸h1
 ·rintro⟨h1,h2⟩
  exact⟨r.obj,h1,List.mem_map.2 ⟨⟨r.obj.type_,r.rel⟩,List.mem_filter.2 ⟨h2,beq_self_eq_true _⟩,rfl⟩⟩
theorem pd_ (a:ByteArray):∀ {l:List GType},(l.map (·.name)).Nodup->(∀t∈l,t.rels.length<=200)->((zv_ l).filter fun q=>q.typ==a).length<=200/\(a∉l.map (·.name)->((zv_ l).filter fun q=>q.typ==a)= [])
 |[],_,_=>⟨Nat.zero_le _,fun _=>rfl⟩
 |t::l,hn,hb=>by
  rw[List.map_cons,List.nodup_cons] at hn;obtain⟨i1,i2⟩:=pd_ a hn.2 fun x hx=>hb x (List.mem_cons_of_mem _ hx);have e:zv_ (t::l)=t.rels.map (fun g=>⟨t.name,g.name⟩)++zv_ l:=by simp[zv_]
  have hf:(t.rels.map fun g=>(⟨t.name,g.name⟩:WellName)).filter (fun q=>q.typ==a)=if t.name=a then t.rels.map fun g=>⟨t.name,g.name⟩ else[]:=by
   split
   ·rename_i h
    exact List.filter_eq_self.2 fun q hq=>by
     obtain⟨g,_,rfl⟩:=List.mem_map.1 hq;simpa using h
   ·rename_i h
    exact List.filter_eq_nil_iff.2 fun q hq=>by
     obtain⟨g,_,rfl⟩:=List.mem_map.1 hq;simpa using h
  rw[e,List.filter_append,hf];constructor
  ·split
   ·rename_i h
    subst h;rw[i2 hn.1,List.append_nil,List.length_map];exact hb t (List.mem_cons_self ..)
   ·rw[List.nil_append]
    exact i1
  ·intro h
   rw[List.map_cons,List.mem_cons,not_or] at h;rw[if_neg fun e=>h.1 e.symm,i2 h.2];rfl
theorem ht_ {α:Type}[DecidableEq α]:∀L:List α,∃U:List α,U.Nodup/\(∀x,x∈U↔x∈L)/\U.length<=L.length
 |[]=>⟨[],List.nodup_nil,fun _=>Iff.rfl,Nat.le_refl _⟩
 |a::L=>by
  obtain⟨U,h1,h2,h3⟩:=ht_ L;by_cases h:a∈U
  ·refine⟨U,h1,fun x=> ?_,by rw[List.length_cons];omega⟩
   rw[h2,List.mem_cons];constructor
   ·exact .inr
   ·rintro(rfl |h4)
    ·exact(h2 _).1 h
    ·exact h4
  ·exact⟨a::U,List.nodup_cons.2 ⟨h,h1⟩,fun x=>by rw[List.mem_cons,List.mem_cons,h2],by rw[List.length_cons,List.length_cons];omega⟩
theorem pe_ (l:List GTuple)(o:GObj):∀ex:List GStep,(exD l o ex).length<=ex.length*(l.length+1)
 |[]=>Nat.zero_le _
 |x::ex=>by
  have h1:=pe_ l o ex;have h2:=fo_ l o x;have h3:(kW_ l o x).length<=l.length+1:=by
   unfold kW_;split
   ·simp
   ·split
    ·omega
    ·simp
  have e:exD l o (x::ex)=kW_ l o x++exD l o ex:=rfl;rw[e,List.length_append,List.length_cons,Nat.succ_mul];omega
theorem pf_ {α β:Type}(f:α->List β)(k:Nat):∀ {l:List α},(∀x∈l,(f x).length<=k)->(l.flatMap f).length<=l.length*k
 |[],_=>Nat.zero_le _
 |a::l,h=>by
  have h1:=h a (List.mem_cons_self ..);have h2:=pf_ f k fun x hx=>h x (List.mem_cons_of_mem _ hx);rw[List.flatMap_cons,List.length_append,List.length_cons,Nat.succ_mul];omega
theorem pg_ {α:Type}(f:α->Nat)(k:Nat):∀ {l:List α},(∀x∈l,f x<=k)->(l.map f).sum<=l.length*k
 |[],_=>Nat.zero_le _
 |a::l,h=>by
  have h1:=h a (List.mem_cons_self ..);have h2:=pg_ f k fun x hx=>h x (List.mem_cons_of_mem _ hx);rw[List.map_cons,List.sum_cons,List.length_cons,Nat.succ_mul];omega
include hW hB in
theorem sd_ {l:List GTuple}(hl:l.length<=100)(r:GRef):(w1_ S l r).length<=20200:=by
 have hb:=(w2_ hW hB|>fun h=>dT_ h ⟨r.obj.type_,r.rel⟩).2.1;unfold w1_;split
 ·have:=yd_ l r.obj r.rel
  unfold wi_;rw[List.length_map];exact Nat.le_trans (List.length_filter_le _ _) (by omega)
 ·refine Nat.le_trans (pe_ l r.obj _) (Nat.le_trans (Nat.mul_le_mul hb (Nat.succ_le_succ hl)) (by decide))
include hW hB in
theorem cH_ {n:Nat}{l r0:List GTuple}{o:GObj}{rel:ByteArray}{s:GSub}(hl:l.length<=100)(hn:2000000000<n)(hfit:∀t∈l,fitP S t)(hk:mhas (⟨o.type_,rel⟩:WellName) S.rels=true):∃b,xA_ n ⟨S,ixO l,r0⟩ o rel s=some b:=by
 have hS:=w2_ hW hB;obtain⟨U,u1,u2,u3⟩:=ht_ (rawU ts l o);have hUl:U.length<=20200:=by
  refine Nat.le_trans u3 (Nat.le_trans (pf_ _ 200 fun p _=> ?_) ?_)
  ·rw[List.length_map]
   exact(pd_ p.type_ hW.tys fun t ht=>(hB.2 t ht).1).1
  ·have:(pc_ l o).length<=101:=by unfold pc_;rw[List.length_cons,List.length_map];omega
   exact Nat.le_trans (Nat.mul_le_mul_right _ this) (by decide)
 have mU:∀r,r∈U↔r.obj∈pc_ l o/\mhas (⟨r.obj.type_,r.rel⟩:WellName) S.rels=true:=fun r=>by
  rw[u2,sc_,kf_,hW.rels,gB_]
 have hc:∀r∈U,∀d∈w1_ S l r,d∈U:=fun r hr d hd=>by
  obtain⟨h1,h2⟩:=(mU r).1 hr;obtain⟨c1,c2⟩:=closed hW hfit h2 hd;refine(mU d).2 ⟨?_,c1⟩;rcases c2 with c2 |⟨t,ht,c2⟩
  ·rw[c2];exact h1
  ·rw[c2]
   exact List.mem_cons_of_mem _ (List.mem_map_of_mem ht)
 refine pR_ (U:=U) (D:=w1_ S l) (rk:=fun r=>rkK S.ranks ⟨r.obj.type_,r.rel⟩) u1 (by omega) ((mU _).2 ⟨List.mem_cons_self ..,hk⟩) (fun r _=>pb_ (by omega) (by omega) hS r) hc ?_ hn fun K St N k1 k2 k3 k4 r hr=> ?_
 ·unfold total
  exact Nat.le_trans (pg_ _ 20200 fun r _=>sd_ hW hB hl r) (Nat.le_trans (Nat.mul_le_mul_right _ hUl) (by decide))
 ·obtain⟨x,hx⟩:=xo_ (N:=N) (r:=r) (by rw[k2];exact hr)
  obtain⟨x1,x2⟩:=zr_ hx;refine cG_ (by omega) (by omega) hS hx (by rw[(k3 x x1).1,x2]) fun d hd=> ?_;rw[us_,k2];exact k4 r hr d hd
end
def nilG (e:Int):D:=.tu [.v (.pointer none),.v (.int .i64 e)]
theorem mf_ {n:Nat}{l:List GType}{rows_:List GTuple}{typ:ByteArray}{rel:ByteArray}{p:GPage}(h:j7_ n p=some true):PureOK Tryz.prog 43 [D.sl (List.map eGType l),D.sl (List.map eGTuple rows_),D.v (.string typ),D.v (.string rel),D.ag (eGPage p)] (nilG 1) false:=by
 refine ZP qf_ fol (rs:= #[.tmp 10,.tmp 11]) Tryz.func43 ?_;refine ZT 1 ?_;refine Z0 ?_;refine ZC0 (x9_ h) ?_;refine Z0 ?_;exact ZE0
theorem mg_ {n:Nat}{l:List GType}{rows_:List GTuple}{typ:ByteArray}{rel:ByteArray}{p:GPage}{e:Int}(h:j7_ n p=some false)(hw:ke_ n l=some (.inr e))(he:(e != 0)=true):PureOK Tryz.prog 43 [D.sl (List.map eGType l),D.sl (List.map eGTuple rows_),D.v (.string typ),D.v (.string rel),D.ag (eGPage p)] (nilG e) false:=by
 have he2:(e==0)=false:=by simpa using he
 refine ZP qf_ fol (rs:= #[.tmp 10,.tmp 11]) Tryz.func43 ?_;refine ZT 1 ?_;refine Z0 ?_;refine ZC0 (x9_ h) ?_;refine Z0 ?_;refine ZC0 (fz_ hw he) ?_;refine Z1 he2 ?_;exact ZE0
theorem mh_ {n:Nat}{l:List GType}{rows_:List GTuple}{typ:ByteArray}{rel:ByteArray}{p:GPage}{r:SeekGraph × Int}(h:j7_ n p=some false)(hw:wC_ n l rows_=some r)(h0:(r.2==0)=true)(hk:qu_ n r.1 typ rel=some false):PureOK Tryz.prog 43 [D.sl (List.map eGType l),D.sl (List.map eGTuple rows_),D.v (.string typ),D.v (.string rel),D.ag (eGPage p)] (nilG 12) false:=by
 refine ZP qf_ fol (rs:= #[.tmp 10,.tmp 11]) Tryz.func43 ?_;refine ZT 1 ?_;refine Z0 ?_;refine ZC0 (x9_ h) ?_;refine Z0 ?_;refine ZA0 (gs_ hw) ?_;refine Z1 h0 ?_;refine ZC0 (zu_ hk) ?_;refine Z1 h0 ?_;exact ZE0
def jh_ (n:Nat)(l:List GType)(rows_:List GTuple)(typ:ByteArray)(rel:ByteArray)(p:GPage):Option (Unit × Int):=
 match j7_ n p with
 |some true=>some ((),1)
 |some false=>(match ke_ n l with
  |some (.inr e)=>if e != 0 then some ((),e) else none
  |_=>match wC_ n l rows_ with
   |some r=>if r.2==0 then(match qu_ n r.1 typ rel with
    |some false=>some ((),12)
    |_=>none) else none
   |none=>none)
 |none=>none
theorem wh_ {n:Nat}{l:List GType}{rows_:List GTuple}{typ:ByteArray}{rel:ByteArray}{p:GPage}{r:Unit × Int}(H:jh_ n l rows_ typ rel p=some r):PureOK Tryz.prog 43 [D.sl (List.map eGType l),D.sl (List.map eGTuple rows_),D.v (.string typ),D.v (.string rel),D.ag (eGPage p)] (D.tu [.v (.pointer none),D.v (.int .i64 r.2)]) false:=by
 unfold jh_ at H;split at H
 ·rename_i h
  cases H;exact mf_ h
 ·rename_i h
  split at H
  ·rename_i e hw
   split at H
   ·rename_i he
    cases H;exact mg_ h hw he
   ·cases H
  ·split at H
   ·rename_i q hq
    split at H
    ·rename_i h0
     split at H
     ·rename_i hk
      cases H;exact mh_ h hq h0 hk
     ·cases H
    ·cases H
   ·cases H
 ·cases H
def xv_ (n:Nat)(l:List GType)(rows_:List GTuple)(typ:ByteArray)(rel:ByteArray)(s:GSub)(p:GPage):Option (List ByteArray × Bool × Int):=
 (jh_ n l rows_ typ rel p).bind fun t25=>
 (
  (if (t25.2==12) then
   some (!(s.rel.toList==({ data:= #[] }:ByteArray).toList))
  else
   some false):Option (Bool)).bind fun t34=>
 (
  (if t34 then
   some 13
  else
   some t25.2):Option (Int)).bind fun e_3=>
 (if (e_3 != 0) then
  some ([],false,e_3)
 else
  (if (s.rel.toList==({ data:= #[] }:ByteArray).toList) then
   none
  else
   some ([],false,13)))
theorem kV_ {n:Nat}{l:List GType}{rows_:List GTuple}{typ:ByteArray}{rel:ByteArray}{s:GSub}{p:GPage}{r:List ByteArray × Bool × Int}(H:xv_ n l rows_ typ rel s p=some r):PureOK Tryz.prog 21 [D.sl (List.map eGType l),D.sl (List.map eGTuple rows_),D.v (.string typ),D.v (.string rel),D.ag (eGSub s),D.ag (eGPage p)] (D.tu [D.sl (List.map eS r.1),D.v (.bool r.2.1),D.v (.int .i64 r.2.2)]) true:=by
 unfold xv_ at H;refine ZP qf_ fol (rs:= #[.tmp 12,.tmp 13,.tmp 14]) Tryz.func21 ?_;refine zsq (ZT 1 ?_);refine Z0 ?_;refine zsq (ZT 1 ?_);obtain⟨t25,b1,H2⟩:=zbi H;refine Z0 ?_;refine ZC0 (wh_ b1) ?_;refine Z0 ?_;refine zsq (zsq ?_);obtain⟨e_,E3,H4⟩:=zbi H2
 refine zjn (α:={ y:Bool // e_=y }) (fun |⟨t34,_⟩=>⟨upd 8 (.pt 0 0) (upd 9 (.pt 1 0) (upd 10 (.pt 2 0) (upd 11 (.pt 3 0) (upd 15 (.pt 4 0) (upd 16 (.v (.int .i64 t25.2)) (upd 34 (.v (.bool t34)) noFr)))))),upd 0 (some (.bx [.v (.string typ)])) (upd 1 (some (.bx [.v (.string rel)])) (upd 2 (some (.bx [.v (.string s.type_),.v (.string s.id_),.v (.string s.rel)])) (upd 3 (some (.bx [.v (.string p.after),.v (.int .i64 p.most)])) (upd 4 (some (.bx [.v (.pointer none)])) noHp)))),5⟩) ?_ ?_
 ·refine ZT 1 ?_
  refine Z0 ?_;rcases zit E3 with⟨c5,H6⟩ |⟨c5,H6⟩
  ·refine Z1 c5 ?_
   obtain rfl:=Zi H6;exact⟨⟨(!(s.rel.toList==({ data:= #[] }:ByteArray).toList)),rfl⟩,ZR [(0,0),(1,1),(2,2),(3,3),(4,16)]⟩
  ·refine Z1 c5 ?_
   obtain rfl:=Zi H6;exact⟨⟨false,rfl⟩,ZR [(0,0),(1,1),(2,2),(3,3),(4,16)]⟩
 ·rintro⟨t34,he16⟩
  obtain rfl:=he16.symm;try dsimp only at H4
  obtain⟨e_2,E7,H8⟩:=zbi H4
  refine zjn (α:={ y:Int // e_2=y }) (fun |⟨e_3,_⟩=>⟨upd 8 (.pt 0 0) (upd 9 (.pt 1 0) (upd 10 (.pt 2 0) (upd 11 (.pt 3 0) (upd 15 (.pt 4 0) (upd 16 (.v (.int .i64 e_3)) noFr))))),upd 0 (some (.bx [.v (.string typ)])) (upd 1 (some (.bx [.v (.string rel)])) (upd 2 (some (.bx [.v (.string s.type_),.v (.string s.id_),.v (.string s.rel)])) (upd 3 (some (.bx [.v (.string p.after),.v (.int .i64 p.most)])) (upd 4 (some (.bx [.v (.pointer none)])) noHp)))),5⟩) ?_ ?_
  ·refine ZT 1 ?_
   refine Z0 ?_;rcases zit E7 with⟨c9,H10⟩ |⟨c9,H10⟩
   ·refine Z1 c9 ?_
    obtain rfl:=Zi H10;exact⟨⟨13,rfl⟩,ZR [(0,0),(1,1),(2,2),(3,3),(4,4)]⟩
   ·refine Z1 c9 ?_
    obtain rfl:=Zi H10;exact⟨⟨t25.2,rfl⟩,ZR [(0,0),(1,1),(2,2),(3,3),(4,4)]⟩
  ·rintro⟨e_3,he15⟩
   obtain rfl:=he15.symm;try dsimp only at H8
   refine ZT 1 ?_;refine Z0 ?_;rcases zit H8 with⟨c11,H12⟩ |⟨c11,H12⟩
   ·refine Z1 c11 ?_
    obtain rfl:=Zi H12;exact ZE0
   ·refine Z1 c11 ?_
    rcases zit H12 with⟨c13,H14⟩ |⟨c13,H14⟩
    ·cases H14
    ·refine Z1 (Y2 c11 c13) ?_
     obtain rfl:=Zi H14;exact ZE0
def xc_ (n:Nat)(l:List GType)(rows_:List GTuple)(o:GObj)(rel:ByteArray)(_typ:ByteArray)(p:GPage):Option (List ByteArray × Bool × Int):=
 (jh_ n l rows_ o.type_ rel p).bind fun t27=>if t27.2 != 0 then some ([],false,t27.2) else none
theorem kq_ {n:Nat}{l:List GType}{rows_:List GTuple}{o:GObj}{rel:ByteArray}{typ:ByteArray}{p:GPage}{r:List ByteArray × Bool × Int}(H:xc_ n l rows_ o rel typ p=some r):PureOK Tryz.prog 22 [D.sl (List.map eGType l),D.sl (List.map eGTuple rows_),D.ag (eGObj o),D.v (.string rel),D.v (.string typ),D.ag (eGPage p)] (D.tu [D.sl (List.map eS r.1),D.v (.bool r.2.1),D.v (.int .i64 r.2.2)]) true:=by
 unfold xc_ at H;obtain⟨t27,b1,H2⟩:=zbi H;rcases zit H2 with⟨c3,H4⟩ |⟨c3,H4⟩
 ·refine ZP qf_ fol (rs:= #[.tmp 12,.tmp 13,.tmp 14]) Tryz.func22 ?_
  refine zsq (ZT 1 ?_);refine Z0 ?_;refine zsq (ZT 1 ?_);refine Z0 ?_;refine ZC0 (wh_ b1) ?_;refine Z0 ?_;refine zsq (ZT 1 ?_);refine Z1 c3 ?_;obtain rfl:=Zi H4;exact ZE0
 ·cases H4
def qM_ (n:Nat)(l:List GType)(rows_:List GTuple)(typ:ByteArray)(rel:ByteArray)(s:GSub)(p:GPage):Option (List ByteArray × Bool × Int):=match xv_ n l rows_ typ rel s p with
 |some r=>some r
 |none=>xT_ n l rows_ typ rel s p
def q7_ (n:Nat)(l:List GType)(rows_:List GTuple)(o:GObj)(rel:ByteArray)(typ:ByteArray)(p:GPage):Option (List ByteArray × Bool × Int):=match xc_ n l rows_ o rel typ p with
 |some r=>some r
 |none=>xu_ n l rows_ o rel typ p
theorem x0_ {n:Nat}{l:List GType}{rows_:List GTuple}{typ:ByteArray}{rel:ByteArray}{s:GSub}{p:GPage}{r:List ByteArray × Bool × Int}(H:qM_ n l rows_ typ rel s p=some r):PureOK Tryz.prog 21 [D.sl (List.map eGType l),D.sl (List.map eGTuple rows_),D.v (.string typ),D.v (.string rel),D.ag (eGSub s),D.ag (eGPage p)] (D.tu [D.sl (List.map eS r.1),D.v (.bool r.2.1),D.v (.int .i64 r.2.2)]) true:=by
 unfold qM_ at H;split at H
 ·rename_i q h
  cases H;exact kV_ h
 ·exact y9_ H
theorem z3_ {n:Nat}{l:List GType}{rows_:List GTuple}{o:GObj}{rel:ByteArray}{typ:ByteArray}{p:GPage}{r:List ByteArray × Bool × Int}(H:q7_ n l rows_ o rel typ p=some r):PureOK Tryz.prog 22 [D.sl (List.map eGType l),D.sl (List.map eGTuple rows_),D.ag (eGObj o),D.v (.string rel),D.v (.string typ),D.ag (eGPage p)] (D.tu [D.sl (List.map eS r.1),D.v (.bool r.2.1),D.v (.int .i64 r.2.2)]) true:=by
 unfold q7_ at H;split at H
 ·rename_i q h
  cases H;exact kq_ h
 ·exact kU_ H
end Go.Proofs.YtnmkbmefohakmaaGreat.Ab
