/-
 Ways of several rows, as one row: slices.Concat, and what it grows.
-/
import Derived.Test.YtnmkbmefohakmaaGreatPk
namespace Go.Proofs.YtnmkbmefohakmaaGreat.Ab
open Go.RowKit
theorem uk_ {α β:Type}{X:Option α}{F:α->Option β}{P:β->Prop}(Q:α->Prop)(h:∃q,X=some q/\Q q)(k:∀q,Q q->∃r,F q=some r/\P r):∃r,X.bind F=some r/\P r:=by
 obtain⟨q,e,hq⟩:=h;rw[e];exact k q hq
theorem ul_ (n:Nat)(c:Int):∃b,zo_ n c=some b:=by
 unfold zo_;split
 ·split
  ·exact⟨_,rfl⟩
  ·split
   ·split
    ·exact⟨_,rfl⟩
    ·exact⟨_,rfl⟩
   ·exact⟨_,rfl⟩
 ·split
  ·split
   ·exact⟨_,rfl⟩
   ·exact⟨_,rfl⟩
  ·exact⟨_,rfl⟩
theorem gn_ {n:Nat}{s:ByteArray}(hs:s.size<4611686018427387900):∀(c i:Nat),s.size-i<c->∃r,jU_ n s c (i:Int)=some r
 |0,_,h=>absurd h (Nat.not_lt_zero _)
 |c+1,i,hc=>by
  unfold jU_;by_cases h:i<s.size
  ·rw[if_pos (decide_eq_true (by omega)),dm_ h,Zo]
   obtain⟨b,hb⟩:=ul_ n ((s.data.toList[i]'(by rw[pt_];exact h)).toNat:Int);rw[hb,Zo];cases b with
   |true=>
    rw[if_pos rfl,w64a (by omega)];exact gn_ hs c (i+1) (by omega)
   |false=>exact⟨_,rfl⟩
  ·rw[if_neg (by rw[decide_eq_true_eq];omega)]
   exact⟨_,rfl⟩
theorem fu_ {n:Nat}{s:ByteArray}(hs:s.size<4611686018427387900)(hn:s.size<n):∃b,jO_ n s=some b:=by
 unfold jO_;obtain⟨r,e⟩:=gn_ (n:=n) hs n 0 (by omega);rw[show(0:Int)=((0:Nat):Int) from rfl,e,Zo];cases r with
 |inr r=>exact⟨_,rfl⟩
 |inl u=>
  dsimp only;by_cases h:1<=(s.size:Int)
  ·rw[if_pos (decide_eq_true h)]
   split
   ·rw[dm_ (by omega),Zo]
    split
    ·exact⟨_,rfl⟩
    ·exact⟨_,rfl⟩
   ·exact⟨_,rfl⟩
  ·rw[if_neg (by rw[decide_eq_true_eq];exact h)]
   exact⟨_,rfl⟩
theorem dt_ {n:Nat}{s:ByteArray}{ch:Int}(hs:s.size<4611686018427387900):∀(c i:Nat),s.size-i<c->∃r,xn_ n s ch c (i:Int)=some r
 |0,_,h=>absurd h (Nat.not_lt_zero _)
 |c+1,i,hc=>by
  unfold xn_;by_cases h:i<s.size
  ·rw[if_pos (decide_eq_true (by omega)),dm_ h,Zo]
   split
   ·exact⟨_,rfl⟩
   ·rw[w64a (by omega)]
    exact dt_ hs c (i+1) (by omega)
  ·rw[if_neg (by rw[decide_eq_true_eq];omega)]
   exact⟨_,rfl⟩
theorem du_ {n:Nat}{s:ByteArray}(hs:s.size<4611686018427387900):∀(c i:Nat),s.size-i<c->i<=s.size->∃r,jS_ n s c (i:Int)=some r/\∃j:Nat,r=j/\i<=j/\j<=s.size
 |0,_,h,_=>absurd h (Nat.not_lt_zero _)
 |c+1,i,hc,hi=>by
  unfold jS_;by_cases h:i<s.size
  ·rw[if_pos (decide_eq_true (by omega)),dm_ h,Zo]
   split
   ·rw[w64a (by omega)]
    obtain⟨r,e,j,h1,h2,h3⟩:=du_ (n:=n) hs c (i+1) (by omega) (by omega);exact⟨r,e,j,h1,by omega,h3⟩
   ·exact⟨_,rfl,i,rfl,Nat.le_refl _,hi⟩
  ·rw[if_neg (by rw[decide_eq_true_eq];omega)]
   exact⟨_,rfl,i,rfl,Nat.le_refl _,hi⟩
theorem dv_ {n:Nat}{s:ByteArray}(hs:s.size<4611686018427387900):∀(c i:Nat),s.size-i<c->i<=s.size->∃r,jT_ n s c (i:Int)=some r/\∃j:Nat,r=j/\i<=j/\j<=s.size
 |0,_,h,_=>absurd h (Nat.not_lt_zero _)
 |c+1,i,hc,hi=>by
  unfold jT_;by_cases h:i<s.size
  ·rw[if_pos (decide_eq_true (by omega)),dm_ h,Zo]
   obtain⟨b,hb⟩:=ul_ n ((s.data.toList[i]'(by rw[pt_];exact h)).toNat:Int);rw[hb,Zo];cases b with
   |true=>
    rw[if_pos rfl,w64a (by omega)];obtain⟨r,e,j,h1,h2,h3⟩:=dv_ (n:=n) hs c (i+1) (by omega) (by omega);exact⟨r,e,j,h1,by omega,h3⟩
   |false=>exact⟨_,rfl,i,rfl,Nat.le_refl _,hi⟩
  ·rw[if_neg (by rw[decide_eq_true_eq];omega)]
   exact⟨_,rfl,i,rfl,Nat.le_refl _,hi⟩
def TokP (k:Nat)(l:List GToken):Prop:=l.length<=k/\∀t∈l,t.text.size<=k
theorem ww_ {α:Type}{P:α->Prop}{b:Bool}{x y:Option α}(h1:b=true->∃r,x=some r/\P r)(h2:b=false->∃r,y=some r/\P r):∃r,(if b=true then x else y)=some r/\P r:=by
 cases b with
 |true=>exact h1 rfl
 |false=>exact h2 rfl
theorem um_ {n:Nat}{s:ByteArray}(hs:s.size<=100000)(hn:s.size+20<n):∀(c i:Nat) (l:List GToken),i<=s.size->l.length<=i->(∀t∈l,t.text.size<=s.size)->s.size-i<c->∃r,jA_ n s c (l,(i:Int))=some r/\(match r with | .inl l=>TokP s.size l | .inr x=>x.1= [])
 |0,_,_,_,_,_,h=>absurd h (Nat.not_lt_zero _)
 |c+1,i,l,hi,hl,ht,hc=>by
  unfold jA_;refine ww_ (fun h=> ?_) (fun h=>⟨_,rfl,by omega,ht⟩);rw[decide_eq_true_eq] at h;have h':i<s.size:=by omega
  rw[dm_ h',Zo];obtain⟨ch,hch⟩:∃ch:Int,ch=((s.data.toList[i]'(by rw[pt_];exact h')).toNat:Int):=⟨_,rfl⟩;rw[<-hch];have e1:IntKind.i64.wrap ((i:Int)+1)=((i+1:Nat):Int):=w64a (by omega);rw[e1];refine uk_ (fun q=>match q with | .inl v=>∃j:Nat,v.1=(j:Int)/\i<j/\j<=s.size | .inr x=>x.1= []) ?_ ?_
  ·refine uk_ (fun _=>True) ?_ fun b _=> ?_
   ·refine ww_ (fun _=>⟨_,rfl,trivial⟩) fun _=>ww_ (fun _=>⟨_,rfl,trivial⟩) fun _=>ww_ (fun _=>⟨_,rfl,trivial⟩) fun _=>⟨_,rfl,trivial⟩
   refine ww_ (fun _=>⟨_,rfl,i+1,rfl,by omega,by omega⟩) fun _=> ?_;refine uk_ (fun _=>True) ?_ fun b2 _=> ?_
   ·refine ww_ (fun _=>ww_ (fun h2=> ?_) fun _=>⟨_,rfl,trivial⟩) fun _=>⟨_,rfl,trivial⟩
    rw[decide_eq_true_eq] at h2;rw[dm_ (by omega),Zo];exact⟨_,rfl,trivial⟩
   refine ww_ (fun _=> ?_) fun _=> ?_
   ·obtain⟨r,e,j,h1,h2,h3⟩:=du_ (n:=n) (s:=s) (by omega) n (i+1) (by omega) (by omega)
    rw[e,Zo];exact⟨_,rfl,j,h1,by omega,h3⟩
   obtain⟨b3,e3⟩:=ul_ n ch;rw[e3,Zo];refine ww_ (fun _=> ?_) fun _=> ?_
   ·obtain⟨r,e,j,h1,h2,h3⟩:=dv_ (n:=n) (s:=s) (by omega) n (i+1) (by omega) (by omega)
    rw[e,Zo];exact⟨_,rfl,j,h1,by omega,h3⟩
   refine uk_ (fun b4=>b4=true->i+1<s.size) ?_ fun b4 hb4=> ?_
   ·refine ww_ (fun _=>ww_ (fun h2=> ?_) fun _=>⟨_,rfl,fun h=>by cases h⟩) fun _=>⟨_,rfl,fun h=>by cases h⟩
    rw[decide_eq_true_eq] at h2;rw[dm_ (by omega),Zo];exact⟨_,rfl,fun _=>by omega⟩
   refine ww_ (fun h4=> ?_) fun _=> ?_
   ·have h5:=hb4 h4
    rw[w64a (by omega)];exact⟨_,rfl,i+1+1,rfl,by omega,by omega⟩
   ·unfold w3_
    obtain⟨r,e⟩:=dt_ (n:=n) (s:={ data:= #[123,125,58,59,124,35,61,43,45,38,40,41] }) (ch:=ch) (by decide) n 0 (by show 12-0<n;omega);rw[show(0:Int)=((0:Nat):Int) from rfl,e,Zo];cases r with
    |inl u=>
     rw[Zo];exact⟨_,rfl,rfl⟩
    |inr u=>
     rw[Zo];exact ww_ (fun _=>⟨_,rfl,rfl⟩) fun _=>⟨_,rfl,i+1,rfl,by omega,by omega⟩
  ·rintro(⟨v,k⟩ |x) hq
   ·obtain⟨j,rfl,h1,h2⟩:=hq
    dsimp only;refine ww_ (fun _=> ?_) fun _=> ?_
    ·rw[bslcS (by omega) h2,Zo,app,if_pos (by rw[List.length_singleton];omega),Zo]
     refine um_ hs hn c j _ h2 (by rw[List.length_append,List.length_singleton];omega) (fun t hm=> ?_) (by omega);rcases List.mem_append.1 hm with hm |hm
     ·exact ht t hm
     ·rw[List.mem_singleton.1 hm]
      show(s.extract i j).size<=s.size;rw[ByteArray.size_extract];omega
    ·exact um_ hs hn c j l h2 (by omega) ht (by omega)
   ·exact⟨_,rfl,hq⟩
theorem sr_ (s:ByteArray)(n:Nat)(hn:s.size+100<=n):∃r,zp_ n s=some r/\TokP 100000 r.1:=by
 unfold zp_;refine ww_ (fun _=>⟨_,rfl,Nat.zero_le _,fun t h=>by cases h⟩) fun h=> ?_;rw[decide_eq_false_iff_not] at h;refine uk_ _ (um_ (n:=n) (s:=s) (by omega) (by omega) n 0 [] (by omega) (by exact Nat.le_refl _) (fun t h=>by cases h) (by omega)) ?_;rintro(l |x) hq
 ·exact⟨_,rfl,Nat.le_trans hq.1 (by omega),fun t ht=>Nat.le_trans (hq.2 t ht) (by omega)⟩
 ·refine⟨_,rfl,?_⟩
  rw[show x.1= [] from hq];exact⟨Nat.zero_le _,fun t h=>by cases h⟩
def bType:ByteArray:={ data:= #[116,121,112,101] }
def tyM (x:Rdr):Rdr:=
 if x.e==0 then(match x.l[x.p]? with
  |some t=>if t.kind==1 then(if t.text.toList==bType.toList then x else j4_ x 9) else j4_ x 9
  |none=>j4_ x 9) else x
def mm_ (n c f:Nat)(x:Rdr):Option (Rdr × GType):=
 (vr_ n { tyM x with p:=(tyM x).p+1 }).bind fun r=>
  (if r.1.e==0&&isM r.1 bLb then(bh_ n c f c { r.1 with p:=r.1.p+1 } []).map fun q=>(j9_ q.1 bRb,q.2) else some (r.1,[])).bind fun q=>
   some (q.1,⟨r.2,q.2⟩)
def kL_ (n c f:Nat):Nat->Rdr->List GType->Option (Rdr × List GType)
 |0,_,_=>none
 |k+1,x,ts=>if RdW x/\x.deep=0/\ts.length<=201 then
   (if x.e==0&&decide (x.p<x.l.length) then(mm_ n c f (if ts.length=200 then j4_ x 8 else x)).bind fun r=>kL_ n c f k r.1 (ts++[r.2]) else some (x,ts)) else none
def un_ (n c f:Nat)(s:ByteArray):Option (List GType × Int × Int):=
 (zp_ n s).bind fun t=>if t.2.2==0 then(kL_ n c f c ⟨t.1,0,(s.size:Int),0,0,0,[],0⟩ []).bind fun r=>if r.1.e==0 then some (r.2,0,0) else some ([],r.1.bad,r.1.e) else some ([],t.2.1,t.2.2)
section
variable {n:Nat}{L:List GToken}(hT:∀t∈L,∃b,jO_ n t.text=some b)
theorem tyM_kp {x:Rdr}(w:RdW x):Kp x (tyM x)/\(tyM x).p=x.p:=by
 have kf:=Kp.fail w 9;have ki:Kp x x:=⟨rfl,Nat.le_refl _,w.2.1,w.2.2.1,rfl,id⟩;have pf:(j4_ x 9).p=x.p:=(je_ x 9).2.2.2;unfold tyM;split
 ·split
  ·split
   ·split
    ·exact⟨ki,rfl⟩
    ·exact⟨kf,pf⟩
   ·exact⟨kf,pf⟩
  ·exact⟨kf,pf⟩
 ·exact⟨ki,rfl⟩
include hT in
theorem dw_ {c f:Nat}(hc:L.length+1<c)(hf:20<f){x:Rdr}(hl:x.l=L)(w:RdW x)(hd:x.deep=0)(hp:x.p<x.l.length):∃y,mm_ n c f x=some y/\Kp x y.1/\x.p<y.1.p:=by
 unfold mm_;obtain⟨k0,p0⟩:=tyM_kp w;have w0:=k0.w w;have k1:=Kp.one w0 (by rw[k0.l,p0];exact hp);have w1:=k1.w w0;obtain⟨r,e1,k2⟩:=z9_ hT (x:={ tyM x with p:=(tyM x).p+1 }) (k0.l.trans hl) w1;have k3:=k0.trans (k1.trans k2);have w2:=k3.w w;have pr:x.p+1<=r.1.p:=by have:(tyM x).p+1<=r.1.p:=k2.p;omega
 rw[e1,Zo];split
 ·rename_i h
  rw[Bool.and_eq_true] at h;have lt:=xe_ h.2;have k4:=Kp.one w2 lt;obtain⟨y,e2,k5⟩:=ku_ hT (c:=c) (f:=f) (by omega) hf c { r.1 with p:=r.1.p+1 } [] (k3.l.trans hl) (k4.w w2) (k3.d.trans hd) (Nat.zero_le _) (by split<;>omega);have k6:=Kp.want (k5.w (k4.w w2)) bRb;have p5:r.1.p+1<=y.1.p:=k5.p;have p6:=k6.p;rw[e2]
  exact⟨_,rfl,k3.trans (k4.trans (k5.trans k6)),by show x.p<(j9_ y.1 bRb).p;omega⟩
 ·exact⟨_,rfl,k3,by show x.p<r.1.p;omega⟩
include hT in
theorem wx_ {c f:Nat}(hc:L.length+1<c)(hf:20<f):∀(k:Nat) (x:Rdr) (ts:List GType),x.l=L->RdW x->x.deep=0->ts.length<=201->((x.e==0)=true->ts.length<=200)->L.length-x.p<k->∃y,kL_ n c f k x ts=some y
 |0,_,_,_,_,_,_,_,h=>absurd h (Nat.not_lt_zero _)
 |k+1,x,ts,hl,w,hd,hs,h2,hk=>by
  unfold kL_;rw[if_pos ⟨w,hd,hs⟩];split
  ·rename_i h
   rw[Bool.and_eq_true,decide_eq_true_eq] at h;have hs2:=h2 h.1;have hplt:=h.2;rw[hl] at hplt;by_cases h200:ts.length=200
   ·rw[if_pos h200]
    have ef:=uj_ (c:=8) h.1 rfl;have kf:=Kp.fail w 8;have pf:(j4_ x 8).p=x.p:=(je_ x 8).2.2.2;obtain⟨y,e1,k1,p1⟩:=dw_ hT hc hf (x:=j4_ x 8) (kf.l.trans hl) (kf.w w) (kf.d.trans hd) (by rw[kf.l,pf];exact h.2);rw[e1,Zo]
    refine wx_ hc hf k _ _ (k1.l.trans (kf.l.trans hl)) (k1.w (kf.w w)) (k1.d.trans (kf.d.trans hd)) (by rw[List.length_append,List.length_singleton];omega) (fun g=> ?_) (by omega)
    have:=k1.e ef
    rw[g] at this;cases this
   ·rw[if_neg h200]
    obtain⟨y,e1,k1,p1⟩:=dw_ hT hc hf (x:=x) hl w hd h.2;rw[e1,Zo];exact wx_ hc hf k _ _ (k1.l.trans hl) (k1.w w) (k1.d.trans hd) (by rw[List.length_append,List.length_singleton];omega) (fun _=>by rw[List.length_append,List.length_singleton];omega) (by omega)
  ·exact⟨_,rfl⟩
end
def RelB (g:GRel):Prop:=g.subs.length<=51/\g.expr.length<=200/\(g.subs= []\/g.expr= [])/\∀s∈g.subs,s.id_=ByteArray.empty
def kK_ (l:List GType):Prop:=l.length<=201/\∀t∈l,t.rels.length<=200/\∀g∈t.rels,RelB g
theorem pB_ {n:Nat}:∀(c:Nat) {x:Rdr} {ss:List GSub} {y:Rdr × List GSub},(∀s∈ss,s.id_=ByteArray.empty)->ui_ n c x ss=some y->y.2.length<=51/\∀s∈y.2,s.id_=ByteArray.empty
 |0,_,_,_,_,h=>by cases h
 |c+1,x,ss,y,hi,h=>by
  have hi2:∀a b:ByteArray,∀s∈ss++[⟨a,ByteArray.empty,b⟩],s.id_=ByteArray.empty:=fun a b s hs=>by
   rcases List.mem_append.1 hs with hs |hs
   ·exact hi s hs
   ·rw[List.mem_singleton.1 hs]
  unfold ui_ at h;split at h;rotate_left
  ·cases h
  rename_i hg;split at h
  ·obtain⟨r1,_,h⟩:=zbi h
   obtain⟨r2,_,h⟩:=zbi h;split at h
   ·exact pB_ c (hi2 _ _) h
   ·cases h
    have:=hg.2
    exact⟨by rw[List.length_append,List.length_singleton];omega,hi2 _ _⟩
  ·cases h
   exact⟨Nat.le_succ_of_le hg.2,hi⟩
theorem relM_b {n c f:Nat}{x:Rdr}{y:Rdr × GRel}(h:relM n c f x=some y):RelB y.2:=by
 unfold relM at h;split at h;rotate_left
 ·cases h
 obtain⟨r,_,h⟩:=zbi h;split at h
 ·obtain⟨z,_,h⟩:=zbi h
  split at h
  ·rename_i hz
   cases h;exact⟨Nat.zero_le _,hz.2.2.1,.inl rfl,by intro _ h;cases h⟩
  ·cases h
 ·obtain⟨p,h2,rfl⟩:=Option.map_eq_some_iff.1 h
  obtain⟨q1,q2⟩:=pB_ c (ss:=[]) (by intro _ h;cases h) h2;exact⟨q1,Nat.zero_le _,.inr rfl,q2⟩
theorem ft_ {n c f:Nat}:∀(k:Nat) {x:Rdr} {rs:List GRel} {y:Rdr × List GRel},(∀g∈rs,RelB g)->bh_ n c f k x rs=some y->y.2.length<=200/\∀g∈y.2,RelB g
 |0,_,_,_,_,h=>by cases h
 |k+1,x,rs,y,hr,h=>by
  unfold bh_ at h;split at h;rotate_left
  ·cases h
  rename_i hg;split at h
  ·split at h
   ·exact ft_ k hr h
   ·obtain⟨p,h1,h⟩:=zbi h
    refine ft_ k (fun g hm=> ?_) h;rcases List.mem_append.1 hm with hm |hm
    ·exact hr g hm
    ·rw[List.mem_singleton.1 hm]
     exact relM_b h1
  ·cases h
   exact⟨hg.2.2,hr⟩
theorem cQ_ {n c f:Nat}{x:Rdr}{y:Rdr × GType}(h:mm_ n c f x=some y):y.2.rels.length<=200/\∀g∈y.2.rels,RelB g:=by
 unfold mm_ at h;obtain⟨r,_,h⟩:=zbi h;obtain⟨q,h1,h⟩:=zbi h;cases h;split at h1
 ·obtain⟨p,h2,rfl⟩:=Option.map_eq_some_iff.1 h1
  exact ft_ c (fun _ hm=>by cases hm) h2
 ·cases h1
  exact⟨Nat.zero_le _,fun _ hm=>by cases hm⟩
theorem hz_ {n c f:Nat}:∀(k:Nat) {x:Rdr} {ts:List GType} {y:Rdr × List GType},(∀t∈ts,t.rels.length<=200/\∀g∈t.rels,RelB g)->kL_ n c f k x ts=some y->kK_ y.2
 |0,_,_,_,_,h=>by cases h
 |k+1,x,ts,y,hr,h=>by
  unfold kL_ at h;split at h;rotate_left
  ·cases h
  rename_i hg;split at h
  ·obtain⟨p,h1,h⟩:=zbi h
   refine hz_ k (fun g hm=> ?_) h;rcases List.mem_append.1 hm with hm |hm
   ·exact hr g hm
   ·rw[List.mem_singleton.1 hm]
    exact cQ_ h1
  ·cases h
   exact⟨hg.2.2,hr⟩
theorem so_ {n c f:Nat}{s:ByteArray}{y:List GType × Int × Int}(h:un_ n c f s=some y):kK_ y.1:=by
 unfold un_ at h;obtain⟨t,_,h⟩:=zbi h;split at h
 ·obtain⟨r,h1,h⟩:=zbi h
  have hb:=hz_ c (fun _ hm=>by cases hm) h1;split at h
  ·cases h
   exact hb
  ·cases h
   exact⟨Nat.zero_le _,fun _ hm=>by cases hm⟩
 ·cases h
  exact⟨Nat.zero_le _,fun _ hm=>by cases hm⟩
def xI_ (n:Nat)(s:ByteArray):Option (List GType):=(un_ n n n s).map (·.1)
theorem pC_ (s:ByteArray)(n:Nat)(hn:s.size+100200<=n):∃l,xI_ n s=some l/\kK_ l:=by
 obtain⟨t,e,h1,h2⟩:=sr_ s n (by omega);have hp:∃y,un_ n n n s=some y:=by
  unfold un_;rw[e,Zo];split
  ·obtain⟨r,e2⟩:=wx_ (n:=n) (L:=t.1) (fun u hu=>fu_ (by have:=h2 u hu;omega) (by have:=h2 u hu;omega)) (c:=n) (f:=n) (by omega) (by omega) n ⟨t.1,0,(s.size:Int),0,0,0,[],0⟩ [] rfl ⟨by show t.1.length<_;omega,Nat.zero_le _,Nat.zero_le _,Nat.zero_le _⟩ rfl (Nat.zero_le _) (fun _=>Nat.zero_le _) (by show t.1.length-0<_;omega)
   rw[e2,Zo];split
   ·exact⟨_,rfl⟩
   ·exact⟨_,rfl⟩
  ·exact⟨_,rfl⟩
 obtain⟨y,hy⟩:=hp;exact⟨y.1,by unfold xI_;rw[hy];rfl,so_ hy⟩
structure WellWay where
 to:WellName
 taken:Int
 deriving DecidableEq,Inhabited
abbrev eWellWay (x:WellWay):List D:=[D.v (.string x.to.typ),D.v (.string x.to.rel),D.v (.int .i64 x.taken)]
theorem p1_ {hp:Hp}{nx k:Nat}(hk:k<=4294967296):InlOK Tryz.prog 182 [.v (.slice none 0 0),.v (.int .i64 (k:Int))] hp nx fun v hp2 nx2=>nx<=nx2/\(k=0->v= .v (.slice none 0 0)/\hp2=hp)/\(0<k->∃id es,nx<=id/\id<nx2/\v= .so id 0 0 0/\hp2=upd id (some (.rw es 3 0 false false)) hp):=by
 refine qX_ qf_ Tryz.func182 (by rfl) (by kernel_rfl) (by kernel_rfl) (by exact Nat.le_of_ble_eq_true rfl) ?_;refine zsq (ZT 1 ?_);refine Z0 ?_;refine zsq (zsq ?_);refine ZT 1 ?_;have c1:(decide ((k:Int)<0))=false:=decide_eq_false (by omega);refine Z1 c1 ?_;refine qg_ (c:=false) rfl rfl ?_;refine ZT 1 ?_;refine Z0 ?_;refine zsq (ZT 1 ?_)
 have e1:IntKind.i64.wrap ((k:Int)-0)=(k:Int):=by rw[Int.sub_zero];exact w64 (by omega)
 have e2:IntKind.i64.wrap (0-0)=0:=by decide
 rcases Nat.eq_zero_or_pos k with h0 |h0
 ·have c2:(decide ((0:Int)<(k:Int)))=false:=decide_eq_false (by omega)
  refine Z1 (And.intro e1 (And.intro e2 c2)) ?_;refine zsq (ZT 1 ?_);refine Z0 ?_;refine ZT 1 ?_;refine Z0 ?_;exact⟨_,_,rfl,⟨fun _=>.inr rfl⟩,by dsimp only;omega,fun _=>⟨rfl,rfl⟩,fun h=>by omega⟩
 ·have c2:(decide ((0:Int)<(k:Int)))=true:=decide_eq_true (by omega)
  have e3:qT_ (.v (.int .i64 (k:Int)))=some k:=by rw[zno .i64 (by omega)];simp
  have g1:(0<k)=True:=eq_true h0;have g2:(k<=4294967296)=True:=eq_true hk;have e4:qT_ (.v (.int .i64 0))=some 0:=rfl;have e5:∀id,appZ tab id 201 3 (.v (.slice none 0 0)) (some k)=some (.so id 0 0 k,[(id,.rw (List.replicate k [.v (.string ByteArray.empty),.v (.string ByteArray.empty),.v (.int .i64 0)]) 3 0 false false)]):=fun id=>by
   have q1:(tab 3).kind= .int .i64:=by simp only[go_sem]
   have q2:(tab 201).kind= .slice:=by simp only[go_sem]
   have q3:(tab (tab 201).elem).ok=true:=by simp only[go_sem]
   have q4:(tab (tab 201).elem).size=3:=by simp only[go_sem]
   have q5:(tab (tab 201).elem).bytes<=32768:=by simp only[go_sem];decide
   have q6:(tab (tab 201).elem).zero.map D.v= [.v (.string ByteArray.empty),.v (.string ByteArray.empty),.v (.int .i64 0)]:=by simp only[go_sem]
   unfold appZ;rw[q1];simp only;rw[if_pos ⟨q2,q3,by rw[q4];decide,q5,h0,hk⟩,q6,q4]
  refine Z1 (And.intro e1 (And.intro e2 (And.intro c2 (And.intro e3 (And.intro e4 e5))))) ?_;refine zsq (ZT 1 ?_);refine Z0 ?_;refine ZT 1 ?_;refine Z0 ?_;exact⟨_,_,rfl,⟨fun _=>.inr rfl⟩,by dsimp only;omega,fun h=>by omega,fun _=>⟨nx+1+2+8+2+5,_,by omega,by dsimp only;omega,rfl,rfl⟩⟩
theorem uE_ {α:Type}{xss:List (List α)}{i:Nat}{x:List α}(h:xss[i]? =some x):(xss.take (i+1)).flatten=(xss.take i).flatten++x:=by
 rw[List.take_add_one,h];simp
def catW (_n:Nat)(xss:List (List WellWay)):Option (List WellWay):=if xss.length<=1000000/\xss.flatten.length<=4294967296 then some xss.flatten else none
theorem c4_ {n:Nat}{xss:List (List WellWay)}{r:List WellWay}(h:catW n xss=some r):PureOK Tryz.prog 167 [D.sl (xss.map (eL eWellWay))] (D.sl (r.map eWellWay)) true:=by
 unfold catW at h;split at h;rotate_left
 ·cases h
 rename_i hl;obtain⟨h1,h2⟩:=hl;cases h;refine ZP qf_ fol (rs:= #[.tmp 2]) Tryz.func167 ?_;refine zsq (ZT 1 ?_);refine Z0 ?_;refine zsq (ZT 1 ?_);refine Z0 ?_;refine zsq (zsq ?_);refine ZT 1 ?_;refine Z0 ?_;refine zjn (α:=Unit) (fun _=>⟨upd 0 (.d (.sl (xss.map (eL eWellWay))) true) (upd 3 (.v (.int .i64 (xss.flatten.length:Int))) noFr),noHp,0⟩) ?_ ?_
 ·refine zbk ?_
  refine zlp (α:={ i:Nat // i<=xss.length }) (fun i=>⟨upd 0 (.d (.sl (xss.map (eL eWellWay))) true) (upd 3 (.v (.int .i64 ((xss.take i.1).flatten.length:Int))) (upd 9 (.d (.sl (xss.map (eL eWellWay))) true) (upd 10 (.v (.int .i64 (xss.length:Int))) (upd 11 (.v (.int .i64 (i.1:Int))) noFr)))),noHp,0⟩) (fun i=>xss.length-i.1) ⟨0,Nat.zero_le _⟩ ?_ ?_
  ·exact ZR []
  ·rintro⟨i,hi⟩
   refine zsq (ZT 1 ?_);by_cases hlt:i<xss.length
   ·have c1:(decide ((i:Int)<(xss.length:Int)))=true:=decide_eq_true (by omega)
    have e1:xss[i]? =some xss[i]:=List.getElem?_eq_getElem hlt;have e2:(xss.map (eL eWellWay))[i]? =some [D.sl (xss[i].map eWellWay)]:=qn_ (eL eWellWay) e1;have es:(xss.take (i+1)).flatten.length=(xss.take i).flatten.length+xss[i].length:=by rw[uE_ e1,List.length_append]
    have et:(xss.take (i+1)).flatten.length<=xss.flatten.length:=by
     conv=>rhs;rw[<-List.take_append_drop (i+1) xss]
     rw[List.flatten_append,List.length_append];omega
    refine Z1 c1 ?_;refine zsq (ZT 1 ?_);refine Z0 ?_;refine zsq (ZT 1 ?_)
    have w:=And.intro e2 (And.intro (zno .i64 (show(0:Int)<=(i:Int) by omega)) (And.intro (show((i:Int)).toNat=i from Int.toNat_natCast _) (And.intro (show IntKind.i64.wrap (((xss.take i).flatten.length:Int)+(xss[i].length:Int))=((xss.take (i+1)).flatten.length:Int) by rw[w64p (by omega),es]) (And.intro (show decide ((((xss.take (i+1)).flatten.length:Nat):Int)<0)=false from decide_eq_false (by omega)) (w64a (n:=i) (by omega))))))
    refine Z1 w ?_;refine ZT 1 ?_;refine Z1 (w64a (n:=i) (by omega)) ?_;exact⟨⟨i+1,hlt⟩,ZR [],by dsimp only;omega⟩
   ·have c1:(decide ((i:Int)<(xss.length:Int)))=false:=decide_eq_false (by omega)
    obtain rfl:i=xss.length:=by omega
    rw[List.take_length];refine Z1 c1 ?_;refine zsq (ZT 1 ?_);refine Z0 ?_;exact⟨(),ZR []⟩
 ·rintro⟨⟩
  refine zsq (ZT 1 ?_);refine Z0 ?_;refine qe_ ((p1_ h2).mono ?_);rintro v hp2 nx2 ⟨hle,g0,g1⟩;dsimp only at hle g0 g1;rcases Nat.eq_zero_or_pos xss.flatten.length with hz |hz
  ·obtain⟨rfl,rfl⟩:=g0 hz
   have hnil:∀x∈xss,x= []:=fun x hx=>by
    have:=List.eq_nil_of_length_eq_zero hz
    exact List.flatten_eq_nil_iff.1 this x hx
   have hfl:xss.flatten= []:=List.eq_nil_of_length_eq_zero hz;refine Z0 ?_;refine zsq (zsq ?_);refine ZT 1 ?_;refine Z0 ?_;refine zjn (α:=Nat) (fun k=>⟨upd 6 (.v (.slice none 0 0)) noFr,noHp,k⟩) ?_ ?_
   ·refine zbk ?_
    refine zlp (α:={ t:Nat × Nat // t.1<=xss.length }) (fun t=>⟨upd 6 (.v (.slice none 0 0)) (upd 25 (.d (.sl (xss.map (eL eWellWay))) true) (upd 26 (.v (.int .i64 (xss.length:Int))) (upd 27 (.v (.int .i64 (t.1.1:Int))) noFr))),noHp,t.1.2⟩) (fun t=>xss.length-t.1.1) ⟨(0,nx2+3),Nat.zero_le _⟩ ?_ ?_
    ·exact wkI (qa_ rfl (qa_ rfl (qa_ rfl (qa_ rfl (qh_ _)))))
    ·rintro⟨⟨i,nxi⟩,hi⟩
     dsimp only at hi;refine zsq (ZT 1 ?_);by_cases hlt:i<xss.length
     ·have c1:(decide ((i:Int)<(xss.length:Int)))=true:=decide_eq_true (by omega)
      have e1:xss[i]? =some xss[i]:=List.getElem?_eq_getElem hlt;have e2:(xss.map (eL eWellWay))[i]? =some [D.sl []]:=by
       have:=qn_ (eL eWellWay) e1
       rw[hnil _ (List.getElem_mem hlt)] at this;exact this
      refine Z1 c1 ?_;refine zsq (ZT 1 ?_);refine Z0 ?_;refine zsq (ZT 1 ?_);have w:=And.intro e2 (And.intro (zno .i64 (show(0:Int)<=(i:Int) by omega)) (show((i:Int)).toNat=i from Int.toNat_natCast _));refine Z1 w ?_;refine ZT 1 ?_;refine Z1 (w64a (n:=i) (by omega)) ?_;exact⟨⟨(i+1,_),hlt⟩,wkI (qa_ rfl (qa_ rfl (qa_ rfl (qa_ rfl (qh_ _))))),by dsimp only;omega⟩
     ·have c1:(decide ((i:Int)<(xss.length:Int)))=false:=decide_eq_false (by omega)
      refine Z1 c1 ?_;refine zsq (ZT 1 ?_);refine Z0 ?_;exact⟨_,wkI (qa_ rfl (qh_ _))⟩
   ·rintro nxj
    refine zsq (ZT 1 ?_);refine Z0 ?_;refine ZT 1 ?_;refine Z0 ?_;rw[hfl];exact ZE0
  ·obtain⟨id,es,hi1,hi2,rfl,rfl⟩:=g1 hz
   refine Z0 ?_;refine zsq (zsq ?_);refine ZT 1 ?_;refine Z0 ?_;refine zjn (α:={ t:Nat × List (List D) × Nat // t.2.1.take xss.flatten.length=xss.flatten.map eWellWay }) (fun t=>⟨upd 6 (.so id t.1.1 0 xss.flatten.length) noFr,upd id (some (.rw t.1.2.1 3 t.1.1 false false)) noHp,t.1.2.2⟩) ?_ ?_
   ·refine zbk ?_
    refine zlp (α:={ t:Nat × Nat × List (List D) × Nat // t.1<=xss.length/\(xss.take t.1).flatten.length<=t.2.2.1.length/\t.2.2.1.take (xss.take t.1).flatten.length=(xss.take t.1).flatten.map eWellWay }) (fun t=>⟨upd 6 (.so id t.1.2.1 0 (xss.take t.1.1).flatten.length) (upd 25 (.d (.sl (xss.map (eL eWellWay))) true) (upd 26 (.v (.int .i64 (xss.length:Int))) (upd 27 (.v (.int .i64 (t.1.1:Int))) noFr))),upd id (some (.rw t.1.2.2.1 3 t.1.2.1 false false)) noHp,t.1.2.2.2⟩) (fun t=>xss.length-t.1.1) ⟨(0,0,es,nx2+3),Nat.zero_le _,Nat.zero_le _,rfl⟩ ?_ ?_
    ·exact wkI (qa_ rfl (qa_ rfl (qa_ rfl (qa_ rfl (qh_ _)))))
    ·rintro⟨⟨i,ver,fs,nxi⟩,hi,hf1,hf2⟩
     dsimp only at hi hf1 hf2;refine zsq (ZT 1 ?_);by_cases hlt:i<xss.length
     ·have c1:(decide ((i:Int)<(xss.length:Int)))=true:=decide_eq_true (by omega)
      have e1:xss[i]? =some xss[i]:=List.getElem?_eq_getElem hlt;have e2:(xss.map (eL eWellWay))[i]? =some [D.sl (xss[i].map eWellWay)]:=qn_ (eL eWellWay) e1;have es2:(xss.take (i+1)).flatten.length=(xss.take i).flatten.length+xss[i].length:=by rw[uE_ e1,List.length_append]
      have et:(xss.take (i+1)).flatten.length<=xss.flatten.length:=by
       conv=>rhs;rw[<-List.take_append_drop (i+1) xss]
       rw[List.flatten_append,List.length_append];omega
      refine Z1 c1 ?_;refine zsq (ZT 1 ?_);refine Z0 ?_;refine zsq (ZT 1 ?_)
      have w:=And.intro e2 (And.intro (zno .i64 (show(0:Int)<=(i:Int) by omega)) (And.intro (show((i:Int)).toNat=i from Int.toNat_natCast _) (And.intro (show((xss.take i).flatten.length<=fs.length)=True from eq_true hf1) (And.intro (show((xss.take (i+1)).flatten.length<=4294967296)=True from eq_true (by omega)) (And.intro es2.symm <|And.intro (v2_ (f:=eWellWay) (fun _=>rfl) xss[i]) (show chk 3 (xss[i].map eWellWay)=true by simp[chk]))))))
      refine Z1 w ?_;refine ZT 1 ?_;refine Z1 (w64a (n:=i) (by omega)) ?_;refine⟨⟨(i+1,ver+1,fs.take (xss.take i).flatten.length++xss[i].map eWellWay,nxi+1+3+4+2),hlt,?_,?_⟩,wkH (qI_ ..).symm (qa_ rfl (qa_ rfl (qa_ rfl (qa_ rfl (qh_ _))))),by dsimp only;omega⟩
      ·dsimp only
       rw[es2,List.length_append,List.length_take,List.length_map];omega
      ·dsimp only
       rw[es2,hf2,uE_ e1,<-List.map_append];exact List.take_of_length_le (by rw[List.length_map,List.length_append];exact Nat.le_refl _)
     ·have c1:(decide ((i:Int)<(xss.length:Int)))=false:=decide_eq_false (by omega)
      obtain rfl:i=xss.length:=by omega
      rw[List.take_length] at hf1 hf2;refine Z1 (And.intro c1 (show xss.take xss.length=xss from List.take_length)) ?_;refine zsq (ZT 1 ?_);refine Z0 ?_;exact⟨⟨(ver,fs,_),hf2⟩,wkI (qa_ rfl (qh_ _))⟩
   ·rintro⟨⟨ver,fs,nxj⟩,hf2⟩
    dsimp only at hf2;refine zsq (ZT 1 ?_);refine Z0 ?_;refine ZT 1 ?_;refine Z0 ?_;refine xM_ (v:=.so id ver 0 xss.flatten.length) (b:=false) (is:=[id]) (by simp -implicitDefEqProofs only[go_sem, ↓reduceIte,qd_]<;>rfl) ?_ rfl fun _=>rfl;simp only[toR,toD,toD1,qd_,if_true,List.drop_zero];rw[hf2]
end Go.Proofs.YtnmkbmefohakmaaGreat.Ab
