/-
 The document's check of a schema: names that stand twice, names that are none. No program in sight.
-/
import Derived.Test.YtnmkbmefohakmaaGreatSki
set_option linter.all false
namespace Go.Proofs.YtnmkbmefohakmaaGreat.Ab
open Go.RowKit IntKind
theorem dv (x y:AN):((x.type_==y.type_)&&((x.id_==y.id_)&&(x.rel==y.rel)))=decide (x=y):=by
 have⟨a,b,c⟩:=x;have⟨d,e,f⟩:=y;rw[Ni];simp
variable {l r0:List AD}{n:Nat}{o:Ak}{r:AB}{s:AN}{ts:List AG}{α:Type}
theorem dx {l:List AN}{v:AN}(hn:l.length<n)(c:l.length<4611686018427387904):Si n l v=some (decide (v∈l)):=by
 have⟨r,b,a⟩:=oA (L:=aG n l v) (P:=fun x=>some ((v.type_==x.type_)&&((v.id_==x.id_)&&(v.rel==x.rel)))) (fun x=>decide (v=x)) (fun _ _=>rfl) (fun x _=>by rw[dv]) c n 0 (Lg _) (by omega);have b:aG n l v n 0=some r:=b;unfold Si aH;rw[b,Zo];rw[LJ] at a;have e:l.any (fun x=>decide (v=x))=decide (v∈l):=by
  rw[Ni];simp
 rcases a with⟨a,k,rfl⟩ |⟨a,rfl⟩
 ·rw[<-e,a];simp
 rw[<-e,a];rfl
theorem Zd (hl:l.length<=1000000)(o:Ak)(rel:ByteArray):Qj n (Ea l).left o rel=some (FA (tO.ofL l) o rel):=by
 have a:qf_ (⟨o,rel⟩:AB) [] (Ea l).left.subs=FA (tO.ofL l) o rel:=zV (tO.ofL l) o rel;have b:=aO (tO.ofL l) o rel;have c:=SR tO l;unfold Qj;rw[a];cases d:Av (⟨o,rel⟩:AB) (Ea l).left.subs with
 |true=>
  rw[if_pos rfl];exact zS _ (by omega)
 |false=>
  simp_all [if_neg,Av,qf_,mget,Ea]
def Kr (s:AN):AB:=⟨⟨s.type_,s.id_⟩,s.rel⟩
def Ks (l:List AN):List AB:=(l.filter fun s=>decide (s.rel≠{ data:= #[] })).map Kr
theorem dz (n:Nat)(t:List AN):∀(l:List AN) (a:List AB),a.length+l.length<=4294967296->Dl (XU n t) (fd n t) l a=some (a++Ks l)
 |[],a,_=>by
  show some a=_;simp[Ks]
 |x::l,a,h=>by
  simp only[Lh] at h;have b:∀k:List AB->Option (List AB),XU n t a x k=if decide (x.rel={ data:= #[] }) then k a else(DG a [Kr x]).bind k:=fun k=>by
   unfold XU;dsimp only;rw[DZ];rfl
  rw[Dl,b];by_cases e:x.rel={ data:= #[] }
  ·rw[decide_eq_true e,if_pos rfl,dz n t l a (by omega)];simp[Ks,e]
  rw[decide_eq_false e,if_neg (by decide),DV (by grind),Zo,dz n t l _ (by grind)];simp[Ks,e]
theorem xQ {sc:AC}(hl:l.length<=1000000)(hn:1000000<n)(r:AB)(b:(qf_ (⟨r.obj.type_,r.rel⟩:AA) (⟨ByteArray.empty,[],[]⟩:AW) sc.rels).expr= []):Sh n ⟨sc,Ea l,r0⟩ r=some (Ks (FA (tO.ofL l) r.obj r.rel)):=by
 obtain⟨m,rfl⟩:∃m,n=m+1:=⟨n-1,by omega⟩;have d:=aO (tO.ofL l) r.obj r.rel;have e:=SR tO l;have a:Ul (m+1) (FA (tO.ofL l) r.obj r.rel) (m+1) (([]:List AB),0)=_:=yv (m+1) (FA (tO.ofL l) r.obj r.rel) (by omega) (m+1) [] 0 (by omega) (by omega);rw[LJ,dz _ _ _ _ (by simp only[Lu];omega)] at a;unfold Sh HK;rw[Zo];unfold Mb;dsimp only;rw[b];have c:decide ((0:Int)<(([]:List AS).length:Int))=false:=by decide
 rw[c,if_neg (by decide),Zo,if_neg (by decide),Zd hl,Zo,a];rfl
theorem Ze {rel:ByteArray}:s∈FA (tO.ofL l) o rel↔∃t∈l,t.obj=o/\t.rel=rel/\t.sub_=s:=by
 unfold FA;rw[LO];constructor
 ·rintro⟨t,a,b⟩;have⟨c,d⟩:=Nb.1 a;have e:=eq_of_beq d;simp only[kR,AB.mk.injEq] at e;exact⟨t,tO.mem_ofL.1 c,e.1.symm,e.2.symm,b⟩
 rintro⟨t,a,b,c,d⟩;refine⟨t,Nb.2 ⟨tO.mem_ofL.2 a,?_⟩,d⟩;rw[<-b,<-c];exact beq_self_eq_true _
theorem Zg {l:List AN}{d:AB}:d∈Ks l↔∃s∈l,s.rel≠{ data:= #[] }/\Kr s=d:=by
 unfold Ks;grind
section
variable {n:Nat}{sc:AC}{l r0:List AD}(hl:l.length<=10000)(hn:1000000<n)
def R8 (l:List AD)(o:Ak)(x:AS):List AB:=(FA (tO.ofL l) o x.a).map fun s=>⟨⟨s.type_,s.id_⟩,x.b⟩
theorem Wc (l:List AD)(o:Ak)(rel:ByteArray):(FA (tO.ofL l) o rel).length<=l.length:=Lv (aO _ _ _) (SR tO l)
include hl hn in
theorem mi (o:Ak)(x:AS):Uk n ⟨sc,Ea l,r0⟩ o x=some (R8 l o x):=by
 have f:=Wc l o x.a;have e:∀(c:List AN) (b:List AN) (a:List AB),a.length+b.length<=4294967296->Dl (fZ n x c) (fc n x c) b a=some (a++b.map fun s=>⟨⟨s.type_,s.id_⟩,x.b⟩):=fun c b=>by
  induction b with
  |nil=>
   intro a _;show some a=_;simp
  |cons s r g=>
   intro a h;simp only[Lh] at h;rw[Dl];show(DG a [(⟨⟨s.type_,s.id_⟩,x.b⟩:AB)]).bind _=_;grind [DV,List.length_singleton,Zo,List.length_append]
 have d:XT n x (FA (tO.ofL l) o x.a) n (([]:List AB),0)=_:=yu n x (FA (tO.ofL l) o x.a) (by omega) n [] 0 (by omega) (by omega);rw[LJ,e _ _ _ (by simp only[Lu];omega)] at d;unfold Uk;rw[Zd (by omega),Zo,d];rfl
def EY (l:List AD)(o:Ak)(x:AS):List AB:=if x.kind==1 then[⟨o,x.a⟩] else if x.kind==2 then R8 l o x else[]
def HE (l:List AD)(o:Ak)(ex:List AS):List AB:=ex.flatMap (EY l o)
theorem Zh (l:List AD)(o:Ak)(x:AS):(R8 l o x).length<=l.length:=by unfold R8;rw[LE];exact Wc l o x.a
include hl hn in
theorem mj {r:AB}{g:AW}{b:Bool}(j:g.expr.length<=1000):∀(d i c:Nat) (t:List AB),d=g.expr.length-i->i<=g.expr.length->d<c->t.length<=10001*i->Mb n ⟨sc,Ea l,r0⟩ r (g,b) c (t,(i:Int))=some (t++HE l r.obj (g.expr.drop i))
 |0,i,c,t,k,m,p,q=>by
  obtain⟨c,rfl⟩:=sx c;unfold Mb;dsimp only;rw[C6,if_neg (by decide),LG (by omega)];simp[HE]
 |d+1,i,c,t,k,m,p,q=>by
  obtain⟨c,rfl⟩:=sx c;have f:i<g.expr.length:=by omega
  have a:=fun u h=>mj (r:=r) (b:=b) j d (i+1) c u (by omega) (by omega) (by omega) h;have v:HE l r.obj (g.expr.drop i)=EY l r.obj g.expr[i]++HE l r.obj (g.expr.drop (i+1)):=by
   rw[Lm f];rfl
  unfold Mb;dsimp only;rw[Cp,if_pos rfl,Pt,Le f,Zo,Al,v];have w:=Zh l r.obj g.expr[i];unfold EY;split
  ·grind [DV,List.length_singleton,Zo,List.length_append,List.append_assoc]
  split
  ·rw[mi hl hn,Zo];by_cases e:t.length=0
   ·obtain rfl:=LV e;rw[decide_eq_true e,if_pos rfl,DV (by simp only[Lu];omega),Zo,a _ (by omega),LA]
   rw[decide_eq_false e,if_neg (by decide),DV (by omega),Zo,a _ (by rw[Ld];omega),Lq]
  rw[a t (by omega),LA]
def EL (sc:AC)(l:List AD)(r:AB):List AB:=if (qf_ (⟨r.obj.type_,r.rel⟩:AA) CX sc.rels).expr= [] then Ks (FA (tO.ofL l) r.obj r.rel) else HE l r.obj (qf_ (⟨r.obj.type_,r.rel⟩:AA) CX sc.rels).expr
include hl hn in
theorem xR (b:GZ sc)(r:AB):Sh n ⟨sc,Ea l,r0⟩ r=some (EL sc l r):=by
 have c:=(JS b ⟨r.obj.type_,r.rel⟩).2.1;unfold EL;by_cases a:(qf_ (⟨r.obj.type_,r.rel⟩:AA) CX sc.rels).expr= []
 ·rw[if_pos a];exact xQ (by omega) hn r a
 rw[if_neg a];unfold Sh;rw[Hd,Zo];have d:Mb n ⟨sc,Ea l,r0⟩ r (qf_ (⟨r.obj.type_,r.rel⟩:AA) CX sc.rels,Av (⟨r.obj.type_,r.rel⟩:AA) sc.rels) n (([]:List AB),0)=_:=mj hl hn (by omega) _ 0 n [] rfl (Lg _) (by omega) (Lg _);simp_all
include hl hn in
theorem yn_ (a:GZ sc)(r:AB):Jt n ⟨sc,Ea l,r0⟩ r=some (Cv sc.ranks ⟨r.obj.type_,r.rel⟩,EL sc l r):=by
 unfold Jt;rw[xR hl hn a];rfl
include hl hn in
theorem ml (o:Ak)(x:AS)(a:(x.kind==1||x.kind==2)=true):Sm n ⟨sc,Ea l,r0⟩ o x=some (EY l o x):=by
 unfold Sm EY;split
 ·rfl
 rename_i h;rw[if_pos (by simpa [h] using a)];exact mi hl hn o x
include hl hn in
theorem d5 {o:Ak}{N:List PN}:∀(a:List AS) (c:List Bool),(∀d∈HE l o a,(C9 d N).isSome=true)->c.length+a.length<=1000->∃b,JM n ⟨sc,Ea l,r0⟩ o N a c=some b
 |[],c,_,_=>⟨_,rfl⟩
 |x::a,c,f,j=>by
  simp only[Lh] at j;have k:∀d∈EY l o x,(C9 d N).isSome=true:=fun d h=>f d (Nu _ h);have g:∀d∈HE l o a,(C9 d N).isSome=true:=fun d h=>f d (Nn _ h);unfold JM Ur;by_cases e:(x.kind==1||x.kind==2)=true
  ·rw[if_pos e,ml hl hn o x e,Zo,if_pos]
   ·rw[Zo];exact d5 a _ g (by grind)
   have m:(EY l o x).length<=10001:=by
    have:=Zh l o x;unfold EY;split
    ·simp
    split
    ·omega
    simp
   grind
  rw[if_neg e];by_cases i:c.length<2
  ·rw[if_pos i];exact⟨_,rfl⟩
  rw[if_neg i,Zo];exact d5 a _ g (by grind)
include hl hn in
theorem xS (e:GZ sc){N:List PN}{x:PN}(f:C9 r N=some x)(g:x.deps=EL sc l r)(i:∀d∈EL sc l r,(C9 d N).isSome=true):∃b,FT n ⟨sc,Ea l,r0⟩ s N r=some b:=by
 have j:=(JS e ⟨r.obj.type_,r.rel⟩).2.1;have k:=Wc l r.obj r.rel;unfold FT;rw[Hd,Zo];dsimp only;cases a:(qf_ (⟨r.obj.type_,r.rel⟩:AA) CX sc.rels).expr.isEmpty with
 |true=>
  have c:=Oj.1 a;have m:(EL sc l r).length<=10000:=by
   unfold EL;rw[if_pos c];unfold Ks;rw[LE];exact Lv (NU _ _) (by omega)
  rw[if_pos rfl];unfold K9;rw[Hd,Zo];dsimp only;rw[a,if_pos rfl,Zd (by omega),Zo,dx (by omega) (by omega),Zo,f,Zo,g,if_pos]
  ·exact⟨_,rfl⟩
  grind
 |false=>
  have c:(qf_ (⟨r.obj.type_,r.rel⟩:AA) CX sc.rels).expr≠[]:=fun h=>by rw[h] at a;cases a
  rw[if_neg (by decide),ifp];refine d5 hl hn _ [] (fun d h=>i d ?_) (by simp only[Lu];omega);unfold EL;rw[if_neg c];exact h
end
def FL (S:AC)(t:AD):Prop:=(⟨t.sub_.type_,ByteArray.empty,t.sub_.rel⟩:AN)∈(qf_ (⟨t.obj.type_,t.rel⟩:AA) CX S.rels).subs
section
variable {ts:List AG}{S:AC}
section
variable (hW:HS ts S)(hB:Ew ts)
include hW hB in
theorem Wd:GZ S:=fun p a=>by
 rw[hW.rels] at a;obtain⟨t,b,g,c,rfl⟩:=iS.1 a;exact(hB.2 t b).2 g c
include hW in
theorem Zj {m:AA}(h:Av m S.rels=true):∃t∈ts,∃g∈t.rels,m=⟨t.name,g.name⟩/\qf_ m CX S.rels=g:=by
 have a:=Mk.1 h;rw[hW.rels,Ux] at a;obtain⟨t,b,g,c,rfl⟩:=iR.1 a;refine⟨t,b,g,c,rfl,?_⟩;unfold qf_;rw[Xu hW.rels hW.keys b c];rfl
end
variable (hW:EC ts S)(hB:Ew ts)
include hW hB in
theorem UP:GZ S:=Wd hW.toHS hB
include hW in
theorem xT {m:AA}(h:Av m S.rels=true):∃t∈ts,∃g∈t.rels,m=⟨t.name,g.name⟩/\qf_ m CX S.rels=g:=Zj hW.toHS h
theorem mm {b:ByteArray}(h:(b.toList==({ data:= #[] }:ByteArray).toList)=true):b={ data:= #[] }:=by
 rw[DZ] at h;exact of_decide_eq_true h
include hW in
theorem d6 (k:∀t∈l,FL S t){d:AB}(q:Av (⟨r.obj.type_,r.rel⟩:AA) S.rels=true)(a:d∈EL S l r):Av (⟨d.obj.type_,d.rel⟩:AA) S.rels=true/\(d.obj=r.obj\/∃t∈l,d.obj=⟨t.sub_.type_,t.sub_.id_⟩):=by
 have⟨t,v,g,w,y,m⟩:=xT hW q;have⟨z,A⟩:=hW.nms t v g w;have B:r.obj.type_=t.name:=congrArg AA.typ y;unfold EL at a;split at a
 ·obtain⟨s,f,C,rfl⟩:=Zg.1 a;have⟨u,c,i,j,e⟩:=Ze.1 f;have b:=k u c;unfold FL at b;rw[i,j,e,m] at b;refine⟨?_,.inr ⟨u,c,by rw[e];rfl⟩⟩;rcases(z _ b).2 with h |h
  ·exact absurd (mm h) C
  exact h
 rw[m] at a;unfold HE at a;have⟨x,E,a⟩:=Oh.1 a;have⟨H,F⟩:=A x E;unfold EY at a;split at a
 ·grind
 split at a
 ·rename_i G;have⟨I,J,p⟩:=F (eq_of_beq G);rw[<-B] at p;unfold R8 at a;obtain⟨s,f,rfl⟩:=LO.1 a;have⟨u,c,i,j,e⟩:=Ze.1 f;have b:=k u c;unfold FL at b;rw[i,j,e] at b;exact⟨(p _ b).1,.inr ⟨u,c,by rw[e]⟩⟩
 cases a
def UQ (l:List AD)(o:Ak):List Ak:=o::l.map fun t=>⟨t.sub_.type_,t.sub_.id_⟩
def M8 (ts:List AG)(l:List AD)(o:Ak):List AB:=(UQ l o).flatMap fun p=>((DY ts).filter fun q=>q.typ==p.type_).map fun q=>⟨p,q.rel⟩
theorem mq:r∈M8 ts l o↔r.obj∈UQ l o/\(⟨r.obj.type_,r.rel⟩:AA)∈DY ts:=by
 unfold M8;rw[Oh];constructor
 ·rintro⟨p,c,d⟩;obtain⟨q,e,rfl⟩:=LO.1 d;have⟨a,b⟩:=Nb.1 e;refine⟨c,?_⟩
  have:(⟨p.type_,q.rel⟩:AA)=q:=by rw[<-eq_of_beq b]
  exact this▸a
 rintro⟨a,b⟩;exact⟨r.obj,a,LO.2 ⟨⟨r.obj.type_,r.rel⟩,Nb.2 ⟨b,beq_self_eq_true _⟩,rfl⟩⟩
theorem d7 (a:ByteArray):∀ {l:List AG},(l.map (·.name)).Nodup->(∀t∈l,t.rels.length<=200)->((DY l).filter fun q=>q.typ==a).length<=200/\(a∉l.map (·.name)->((DY l).filter fun q=>q.typ==a)= [])
 |[],_,_=>⟨Lg _,fun _=>rfl⟩
 |t::l,hn,b=>by
  rw[Li,Na] at hn;have⟨d,f⟩:=d7 a hn.2 fun x c=>b x (Lj _ c);have e:DY (t::l)=t.rels.map (fun g=>⟨t.name,g.name⟩)++DY l:=by simp[DY]
  have h:(t.rels.map fun g=>(⟨t.name,g.name⟩:AA)).filter (fun q=>q.typ==a)=if t.name=a then t.rels.map fun g=>⟨t.name,g.name⟩ else[]:=by
   split
   ·simp_all
   simp_all
  grind
theorem d8 {α:Type}[DecidableEq α]:∀L:List α,∃U:List α,U.Nodup/\(∀x,x∈U↔x∈L)/\U.length<=L.length
 |[]=>⟨[],NX,fun _=>Iff.rfl,Lc _⟩
 |a::L=>by
  have⟨U,b,c,d⟩:=d8 L;by_cases h:a∈U
  ·grind
  exact⟨a::U,Na.2 ⟨h,b⟩,fun x=>by rw[Lr,Lr,c],by grind⟩
theorem mr (l:List AD)(o:Ak):∀a:List AS,(HE l o a).length<=a.length*(l.length+1)
 |[]=>Lg _
 |x::a=>by
  have b:=mr l o a;have c:=Zh l o x;have d:(EY l o x).length<=l.length+1:=by
   unfold EY;split
   ·simp
   split
   ·omega
   simp
  have e:HE l o (x::a)=EY l o x++HE l o a:=rfl;rw[e,Ld,Lh,OJ];omega
theorem d9 {α b:Type}(f:α->List b)(k:Nat):∀ {l:List α},(∀x∈l,(f x).length<=k)->(l.flatMap f).length<=l.length*k
 |[],_=>Lg _
 |a::l,h=>by
  have d:=h a (Lo ..);have e:=d9 f k fun x c=>h x (Lj _ c);rw[IA,Ld,Lh,OJ];omega
theorem eC {α:Type}(f:α->Nat)(k:Nat):∀ {l:List α},(∀x∈l,f x<=k)->(l.map f).sum<=l.length*k
 |[],_=>Lg _
 |a::l,h=>by
  have c:=h a (Lo ..);have d:=eC f k fun x b=>h x (Lj _ b);rw[Li,BJ,Lh,OJ];omega
include hW hB in
theorem mu (hl:l.length<=100)(r:AB):(EL S l r).length<=20200:=by
 have a:=(UP hW hB|>fun h=>JS h ⟨r.obj.type_,r.rel⟩).2.1;unfold EL;split
 ·grind [Wc,Ks,List.length_map,Nat.le_trans,List.length_filter_le]
 refine Lv (mr l r.obj _) (Lv (Bm a (Nat.succ_le_succ hl)) (by decide))
include hW hB in
theorem xU {rel:ByteArray}(hl:l.length<=100)(hn:2000000000<n)(k:∀t∈l,FL S t)(m:Av (⟨o.type_,rel⟩:AA) S.rels=true):∃b,JO n ⟨S,Ea l,r0⟩ o rel s=some b:=by
 have h:=UP hW hB;have⟨U,q,u,v⟩:=d8 (M8 ts l o);have w:U.length<=20200:=by
  refine Lv v (Lv (d9 _ 200 fun p _=> ?_) ?_)
  ·rw[LE];exact(d7 p.type_ hW.tys fun t e=>(hB.2 t e).1).1
  grind [UQ,List.length_cons,List.length_map,Nat.le_trans,Nat.mul_le_mul_right]
 have f:∀r,r∈U↔r.obj∈UQ l o/\Av (⟨r.obj.type_,r.rel⟩:AA) S.rels=true:=fun r=>by
  rw[u,mq,Mk,hW.rels,Ux]
 have y:∀r∈U,∀d∈EL S l r,d∈U:=fun r c d g=>by
  have⟨z,A⟩:=(f r).1 c;have⟨B,a⟩:=d6 hW k A g;refine(f d).2 ⟨?_,B⟩;rcases a with a |⟨t,e,a⟩
  ·rw[a];exact z
  rw[a];exact Lj _ (LH e)
 refine zW (U:=U) (D:=EL S l) (rk:=fun r=>Cv S.ranks ⟨r.obj.type_,r.rel⟩) q (by omega) ((f _).2 ⟨Lo ..,m⟩) (fun r _=>yn_ (by omega) (by omega) h r) y ?_ hn fun K St N H i C E r c=> ?_
 ·unfold total;exact Lv (eC _ 20200 fun r _=>mu hW hB hl r) (Lv (LS _ w) (by decide))
 have⟨x,j⟩:=KJ (N:=N) (r:=r) (by rw[i];exact c);have⟨F,G⟩:=Jw j;refine xS (by omega) (by omega) h j (by rw[(C x F).1,G]) fun d g=> ?_;rw[Xb,i];exact E r c d g
end
theorem xV {S:AC}{r1:List AD}(hl:l.length<=10000)(hn:1000000<n)(c:GZ S)(o:Ak)(rel:ByteArray)(s:AN):JO n ⟨S,Ea l,r0⟩ o rel s=JO n ⟨S,Ea l,r1⟩ o rel s:=by
 have e:Jt n ⟨S,Ea l,r0⟩=Jt n ⟨S,Ea l,r1⟩:=funext fun r=>by rw[yn_ hl hn c,yn_ hl hn c]
 have h:∀a x,Sm n ⟨S,Ea l,r0⟩ a x=Sm n ⟨S,Ea l,r1⟩ a x:=fun a x=>by
  rfl
 have f:∀a N b d,JM n ⟨S,Ea l,r0⟩ a N b d=JM n ⟨S,Ea l,r1⟩ a N b d:=fun a N b=>by
  induction b with
  |nil=>exact fun _=>rfl
  |cons x b i=>
   grind [JM,Ur]
 have g:FT n ⟨S,Ea l,r0⟩ s=FT n ⟨S,Ea l,r1⟩ s:=funext fun N=>funext fun r=>by
  unfold FT;simp only[f];rfl
 unfold JO;rw[e,g]
theorem UV {xs:List α}{v:Int}(k:Nat)(a:v=(k:Int))(h:k<xs.length):∃x,CD xs v=some x/\x∈xs:=⟨_,a▸CL h,LZ h⟩
theorem Da {x y:ByteArray}{k:Nat}(a:x.size<=k)(b:y.size<=8)(c:k<=1000000):∃s,Ed x y=some s/\s.size<=k+8:=by
 grind [maxLen,fI,ByteArray.size_append]
theorem SG {xs:List ByteArray}{x:ByteArray}(h:x∈xs)(a:(xs.all fun y=>decide (y.size<=8))=true):x.size<=8:=of_decide_eq_true (LP.1 a x h)
theorem SH (xs:List ByteArray)(v:Int)(h:xs.length=8):∃x,CD xs (i64.wrap (an v 7:Int))=some x/\x∈xs:=UV (an v 7) (T5 v 7 (by decide)) (by rw[h];exact BM (Vr v 7) (by decide))
theorem PD (a b:ByteArray)(v:Int):∃x,CD [a,b] (i64.wrap (an v 1:Int))=some x/\x∈[a,b]:=UV (an v 1) (T5 v 1 (by decide)) (BM (Vr v 1) (show 1<2 by decide))
theorem Wq (xs:List ByteArray)(v:Int)(h:xs.length=4):∃x,CD xs (i64.wrap (an v 3:Int))=some x/\x∈xs:=UV (an v 3) (T5 v 3 (by decide)) (by rw[h];exact BM (Vr v 3) (by decide))
theorem SI (xs:List ByteArray)(v:Int)(m:Nat)(h:xs.length=m)(a:0<m):∃x,CD xs (Int.tmod (i64.wrap (an v 255:Int)) (m:Int))=some x/\x∈xs:=UV (an v 255%m) (by rw[x5];exact uq _ _) (by rw[h];exact On _ a)
section
variable {n:Nat}{t0:List Int}
theorem nO (k:Nat):∃v,M9 n (k:Int) t0=some v:=by
 unfold M9;by_cases h:k<t0.length
 ·rw[EO h,if_pos rfl,CL h];exact⟨_,rfl⟩
 rw[DC,if_neg (by decide)];exact⟨_,rfl⟩
theorem nP (v:Int):∃s,PB n v=some s/\s.size<=8:=by
 unfold PB;have⟨x,b,a⟩:=SI [({ data:= #[117] }:ByteArray),{ data:= #[117] },{ data:= #[97,35,114] },{ data:= #[98,35,114] },{ data:= #[97,35,115] },{ data:= #[98,35,112] },{ data:= #[97] },{ data:= #[98] },{ data:= #[117] },{ data:= #[97,35,113] }] v 10 rfl (by decide);refine⟨x,by grind,SG a (by decide)⟩
theorem Zn (v:Int):∃s,MM n v=some s/\s.size<=8:=by
 unfold MM;have⟨x,a,b⟩:=SH [({ data:= #[114] }:ByteArray),{ data:= #[115] },{ data:= #[114] },{ data:= #[115] },{ data:= #[115,45,62,114] },{ data:= #[115,45,62,112] },{ data:= #[112] },{ data:= #[113] }] v rfl;refine⟨x,by rw[a];rfl,SG b (by decide)⟩
theorem nQ {k3:Nat}(u:k3<=100):∀(d j c:Nat) (s:ByteArray) (k:Nat),d=2-j->j<=2->d<c->s.size<=k->k+112*d<=100000->∃r,Jj n t0 (k3:Int) c (s,(j:Int))=some r/\r.size<=k+112*d
 |0,j,c,s,k,w,z,A,h,B=>by
  obtain⟨c,rfl⟩:=sx c;unfold Jj;grind
 |d+1,j,c,s,k,w,z,A,h,B=>by
  obtain⟨c,rfl⟩:=sx c;have i:=fun m C=>nQ u d (j+1) c m C (by omega) (by omega) (by omega);have⟨v,E⟩:=nO (n:=n) (t0:=t0) (k3+1+j);have e:i64.wrap (i64.wrap ((k3:Int)+1)+(j:Int))=((k3+1+j:Nat):Int):=by rw[Al,show((k3+1:Nat):Int)+(j:Int)=((k3+1+j:Nat):Int) by omega,JG]
  unfold Jj;rw[show decide ((j:Int)<2)=true by simp;omega,if_pos rfl,e,E,Zo,Al];have⟨s1,F,G⟩:=Da (y:={ data:= #[32] }) h (by decide) (by omega);have⟨x,H,I⟩:=UV (xs:=[({ data:= #[112] }:ByteArray),{ data:= #[113] }]) (v:=(j:Int)) j rfl (by simp;omega);have⟨m,J,K⟩:=Da (y:=x) G (SG I (by decide)) (by omega);have⟨s3,L,M⟩:=Da (y:={ data:= #[32,61,32] }) K (by decide) (by omega);have⟨a1,N,O⟩:=Zn (n:=n) v;have⟨s4,P,Q⟩:=Da M O (by omega);have⟨R,T,U⟩:=Wq [({ data:= #[32,43,32] }:ByteArray),{ data:= #[32,38,32] },{ data:= #[32,45,32] },{ data:= #[32,43,32] }] (sh v 4) rfl;have⟨s5,h7,z5⟩:=Da (y:=R) Q (SG U (by decide)) (by omega);have⟨a2,g2,y2⟩:=Zn (n:=n) (sh v 8);have⟨s6,h8,p⟩:=Da z5 y2 (by omega);rw[F,Zo,H,Zo,J,Zo,L,Zo,N,Zo,P,Zo,T,Zo,h7,Zo,g2,Zo,h8,Zo];split
  ·have⟨x3,h9,V⟩:=Wq [({ data:= #[32,43,32] }:ByteArray),{ data:= #[32,38,32] },{ data:= #[32,45,32] },{ data:= #[32,45,32,40] }] (sh v 13) rfl;have⟨s7,X,z7⟩:=Da (y:=x3) p (SG V (by decide)) (by omega);have⟨a3,g3,y3⟩:=Zn (n:=n) (sh v 16);have⟨s8,Y,q⟩:=Da z7 y3 (by omega);rw[h9,Zo,X,Zo,g3,Zo,Y,Zo];split
   ·have⟨f,a,b⟩:=Da (y:={ data:= #[32,38,32] }) q (by decide) (by omega);have⟨a4,g4,y4⟩:=Zn (n:=n) (sh v 20);have⟨ap,Z,aa⟩:=Da b y4 (by omega);have⟨aq,ab,ad⟩:=Da (y:={ data:= #[41] }) aa (by decide) (by omega);have⟨ag,ak,ao⟩:=Da (y:={ data:= #[59] }) ad (by decide) (by omega);rw[a,Zo,g4,Zo,Z,Zo,ab,Zo,ak,Zo];have⟨r,g,q2⟩:=i ag _ ao (by omega);exact⟨r,g,by omega⟩
   have⟨f,a,b⟩:=Da (y:={ data:= #[59] }) q (by decide) (by omega);rw[a,Zo];have⟨r,g,q2⟩:=i f _ b (by omega);exact⟨r,g,by omega⟩
  have⟨f,a,b⟩:=Da (y:={ data:= #[59] }) p (by decide) (by omega);grind
set_option maxRecDepth 4000 in
theorem nR (hn:10<n):∀(d j c:Nat) (s:ByteArray) (k:Nat),d=2-j->j<=2->d<c->s.size<=k->k+400*d<=10000->∃r,MN n t0 c (s,((3*j:Nat):Int),(j:Int))=some r/\r.size<=k+400*d
 |0,j,c,s,k,z,A,B,h,C=>by
  obtain⟨c,rfl⟩:=sx c;unfold MN;grind
 |d+1,j,c,s,k,z,A,B,h,C=>by
  obtain⟨c,rfl⟩:=sx c;have ih:=fun i E=>nR hn d (j+1) c i E (by omega) (by omega) (by omega);have⟨v,F⟩:=nO (n:=n) (t0:=t0) (3*j);have G:i64.wrap (((3*j:Nat):Int)+3)=((3*(j+1):Nat):Int):=by rw[show((3*j:Nat):Int)+3=((3*(j+1):Nat):Int) by omega,JG]
  unfold MN;rw[show decide ((j:Int)<2)=true by simp;omega,if_pos rfl,F,Al,G];have⟨s1,H,I⟩:=Da (y:={ data:= #[116,121,112,101,32] }) h (by decide) (by omega);have⟨x,J,K⟩:=UV (xs:=[({ data:= #[97] }:ByteArray),{ data:= #[98] }]) (v:=(j:Int)) j rfl (by simp;omega);have⟨i,L,M⟩:=Da (y:=x) I (SG K (by decide)) (by omega);have⟨s3,N,O⟩:=Da (y:={ data:= #[32,123,32,114,58,32] }) M (by decide) (by omega);have⟨a1,P,Q⟩:=nP (n:=n) v;have⟨b,R,T⟩:=Da O Q (by omega);rw[H,Zo,J,Zo,L,Zo,N,Zo,Zo,P,Zo,R,Zo,Zo];have U:∃a,(if (i64.wrap (an (sh v 8) 1:Int))==1 then(Ed b ({ data:= #[32,124,32] })).bind fun V=>(some v).bind fun X=>(PB n (sh X 9)).bind fun Y=>(Ed V Y).bind fun Z=>some Z else some b)=some a/\a.size<=k+48:=by
   split
   ·have⟨a,m,e⟩:=Da (y:={ data:= #[32,124,32] }) T (by decide) (by omega);have⟨a2,g2,y2⟩:=nP (n:=n) (sh v 9);have⟨s6,p,q⟩:=Da e y2 (by omega);grind
   exact⟨b,rfl,by omega⟩
  have⟨a,m,e⟩:=U;have⟨s6,p,q⟩:=Da (y:={ data:= #[59,32,115,58,32] }) e (by decide) (by omega);have⟨u,f,aa⟩:=SI [({ data:= #[97] }:ByteArray),{ data:= #[98] },{ data:= #[97,32,124,32,98] },{ data:= #[117,32,124,32,97] }] (sh v 20) 4 rfl (by decide);have f:CD [({ data:= #[97] }:ByteArray),{ data:= #[98] },{ data:= #[97,32,124,32,98] },{ data:= #[117,32,124,32,97] }] (Int.tmod (i64.wrap (an (sh v 20) 255:Int)) 4)=some u:=f;have⟨s7,h9,z7⟩:=Da (y:=u) q (SG aa (by decide)) (by omega);have⟨w,ab,z8⟩:=Da (y:={ data:= #[59] }) z7 (by decide) (by omega);have⟨s9,g,z9⟩:=nQ (n:=n) (t0:=t0) (k3:=3*j) (by omega) 2 0 n w _ rfl (by omega) (by omega) z8 (by omega);have g:Jj n t0 ((3*j:Nat):Int) n (w,0)=some s9:=g;have⟨ag,ad,ak⟩:=Da (y:={ data:= #[32,125,10] }) z9 (by decide) (by omega);rw[m,Zo,p,Zo,Zo,f,Zo,h9,Zo,ab,Zo,g,Zo,ad,Zo];grind
theorem xh (hn:10<n)(t0:List Int):∃s,QN n t0=some s/\s.size<=1000:=by
 have⟨r,a,b⟩:=nR (t0:=t0) hn 2 0 n { data:= #[116,121,112,101,32,117,10] } 7 rfl (by omega) (by omega) (by decide) (by omega);grind [MN,QN]
end
def PE:List ByteArray:=[{ data:= #[97] },{ data:= #[98] },{ data:= #[99] },{ data:= #[100] },{ data:= #[97,98] },{ data:= #[98,45,49] },{ data:= #[120,46,121] },{ data:= #[48] }]
def Zp:List ByteArray:=[{ data:= #[97] },{ data:= #[98] }]
def Zq:List ByteArray:=[{ data:= #[114] },{ data:= #[115] }]
def Wr:List ByteArray:=[{ data:= #[117] },{ data:= #[97] },{ data:= #[98] }]
structure HG (t:AD):Prop where
 ty:t.obj.type_∈Zp
 id:t.obj.id_∈PE
 rl:t.rel∈Zq
 st:t.sub_.type_∈Wr
 si:t.sub_.id_∈PE
 sr:t.sub_.rel=ByteArray.empty\/t.sub_.rel∈Zq
theorem QR (n:Nat)(z:Int):∃s,UT n z=some s/\s∈PE:=by
 unfold UT;have⟨x,a,b⟩:=SH PE z rfl;unfold PE at a;exact⟨x,by rw[a];rfl,b⟩
theorem nS (n:Nat)(z:Int):∃t,UU n z=some t/\HG t:=by
 unfold UU;have⟨q,g,b⟩:=QR n (sh z 1);have⟨u,h,c⟩:=QR n (sh z 13);have⟨v,i,d⟩:=PD { data:= #[97] } { data:= #[98] } z;have⟨w,j,e⟩:=PD { data:= #[114] } { data:= #[115] } (sh z 4);have⟨k,a,f⟩:=SI Wr (sh z 5) 3 rfl (by decide);have a:CD [({ data:= #[117] }:ByteArray),{ data:= #[97] },{ data:= #[98] }] (Int.tmod (i64.wrap (an (sh z 5) 255:Int)) 3)=some k:=a;have⟨x,m,p⟩:=PD { data:= #[114] } { data:= #[115] } (sh z 18);rw[i,Zo,g,Zo,j,Zo,a,Zo,h,Zo];split
 ·rw[m];exact⟨_,rfl,d,b,e,f,c,.inr p⟩
 exact⟨_,rfl,d,b,e,f,c,.inl rfl⟩
theorem nU {n:Nat}(l:List Int):∀(c:Nat) (a:List AD),a.length<=80->a.length<=l.length->80-a.length<c->(∀t∈a,HG t)->∃b,Wk n l c (a,(a.length:Int))=some b/\b.length<=80/\b.length<=l.length/\∀t∈b,HG t
 |0,_,_,_,h,_=>by omega
 |c+1,a,e,f,g,i=>by
  unfold Wk;by_cases h:a.length<l.length
  ·rw[EO h,if_pos rfl,Zo];by_cases j:a.length<80
   ·have⟨t,d,k⟩:=nS n l[a.length];rw[show decide ((a.length:Int)<80)=true by simp;omega,if_pos rfl,CL h,Zo,d,Zo,DV (by simp;omega),Zo,MR];have⟨b,m,p⟩:=nU (n:=n) l c (a++[t]) (by simp;omega) (by simp;omega) (by simp;omega) fun x q=>by
     grind
    grind
   grind
  grind
theorem xi (l:List Int)(hn:80<n):∃a,Wl n l=some a/\a.length<=80/\a.length<=l.length/\∀t∈a,HG t:=by
 have⟨a,b,c⟩:=nU (n:=n) l n [] (by simp) (by simp) (by simpa using hn) (by simp);grind [Wl,Wk]
theorem xj (n:Nat)(z:Int):∃a:Ak × ByteArray × AN,Wm n z=some a/\a.1.type_∈Zp/\a.1.id_∈PE/\a.2.2.type_∈Wr/\a.2.2.id_∈PE/\a.2.2.rel={ data:= #[] }:=by
 unfold Wm;have⟨t,c,b⟩:=nS n z;have⟨x,d,_⟩:=SH [({ data:= #[114] }:ByteArray),{ data:= #[115] },{ data:= #[112] },{ data:= #[113] },{ data:= #[112] },{ data:= #[113] },{ data:= #[122] },{ data:= #[112] }] (sh z 24) rfl;rw[c,Zo,d];exact⟨_,rfl,b.ty,b.id,b.st,b.si,rfl⟩
theorem Zr (m:Nat):∀x∈Zp++Zq++Wr,SD (m+10) x=some true/\S4 (m+10) x=some true:=by
 intro x a;simp only[Zp,Zq,Wr,LL,LA,Lr,L8,or_false] at a;rcases a with rfl |rfl |rfl |rfl |rfl |rfl |rfl<;>exact⟨by kernel_rfl,by kernel_rfl⟩
theorem nV (m:Nat):∀x∈PE,Wp (m+10) x=some true/\Xk (m+10) x=some true:=by
 intro x a;simp only[PE,Lr,L8,or_false] at a;rcases a with rfl |rfl |rfl |rfl |rfl |rfl |rfl |rfl<;>exact⟨by kernel_rfl,by kernel_rfl⟩
theorem xk {t:AD}(hn:10<=n)(h:HG t):SE n t=some true/\MB n t=some true:=by
 obtain⟨m,rfl⟩:∃m,n=m+10:=⟨n-10,by omega⟩;have a:=Zr m t.obj.type_ (by simp[h.ty]);have b:=nV m t.obj.id_ h.id;have c:=Zr m t.rel (by simp[h.rl]);have d:=Zr m t.sub_.type_ (by simp[h.st]);have f:=nV m t.sub_.id_ h.si;unfold SE MB;rw[a.1,a.2,b.1,b.2,c.1,c.2,d.1,d.2,f.1,f.2];simp only[Zo,if_true,DZ];rcases h.sr with e |e
 ·rw[e,decide_eq_true (show ByteArray.empty={ data:= #[] } from rfl)];exact⟨rfl,rfl⟩
 have g:=Zr m t.sub_.rel (by simp[e]);rw[g.1,g.2];constructor<;>split<;>rfl
instance (S:AC) (t:AD):Decidable (FL S t):=by unfold FL;infer_instance
def DU (S:AC)(t:AD):Bool:=decide (FL S t)
theorem xW {S:AC}{t:AD}(a:GZ S)(hn:1000<n)(h:MB n t=some true):S5 n S t=some (DU S t):=by
 have b:=(JS a ⟨t.obj.type_,t.rel⟩).1;unfold S5;rw[Hd,Zo,h,Zo,if_pos rfl,dx (by dsimp only;omega) (by dsimp only;omega)];rfl
theorem eE {n:Nat}{c:List AD}{S:AC}(b:GZ S)(hn:1000<n):∀(l a:List AD),(∀t∈l,MB n t=some true)->a.length+l.length<=4294967296->Dl (hY n c (S,0)) (iA n c (S,0)) l a=some (a++l.filter (DU S))
 |[],a,_,_=>by
  show some a=_;simp
 |t::l,a,hl,f=>by
  simp only[Lh] at f;have d:∀x∈l,MB n x=some true:=fun x g=>hl x (Lj _ g);rw[Dl];show(S5 n S t).bind _=_;rw[xW b hn (hl t (Lo ..)),Zo];cases e:DU S t with
  |true=>
   rw[if_pos rfl,DV (by simp only[Ll];omega),Zo,eE b hn l _ d (by rw[Ld,Ll];omega)];simp[e]
  |false=>
   rw[if_neg (by decide),eE b hn l _ d (by omega)];simp[e]
theorem xX {a:List AD}{S:AC}(h:Pa n ts=some (.inl S))(c:GZ S)(hn:1000000<n)(f:a.length<=1000000)(d:∀t∈a,MB n t=some true):Xo n ts a=some (⟨S,Ea (a.filter (DU S)),a.filter (DU S)⟩,0):=by
 have g:(a.filter (DU S)).length<=a.length:=NU _ _;have b:Qt n a (S,0) n (([]:List AD),0)=_:=g6_ n a (S,0) (by omega) n [] 0 (by omega) (by omega);rw[LJ,eE c (by omega) _ _ d (by simp only[Lu];omega),LA] at b;unfold Xo aY;rw[h];dsimp only;rw[Zo,if_neg (by simp),b,Zo,zU (by omega) hn,Zo];split
 ·rename_i e;rw[LV (of_decide_eq_true e)]
 rfl
def eG (n:Nat)(S:AC)(a:List AD)(o:Ak)(rel:ByteArray)(s:AN):Option (Bool × Int):=if s.rel={ data:= #[] } then(if Av (⟨o.type_,rel⟩:AA) S.rels then(JO n ⟨S,Ea (a.filter (DU S)),[]⟩ o rel s).map fun b=>(b,0) else some (false,12)) else some (false,13)
def Gu (rel:ByteArray)(l:List AW):Option AW:=l.find? fun g=>decide (g.name=rel)
def CI (ts:List AG)(a rel:ByteArray):Option AW:=(ts.find? fun t=>decide (t.name=a)).bind fun t=>Gu rel t.rels
theorem mv {n:Nat}{ts:List AG}{rel:ByteArray}{i:Nat}(a:i<ts.length)(e:ts[i].rels.length<=200):∀(d k c:Nat),d=ts[i].rels.length-k->k<=ts[i].rels.length->d<c->
  (PC n ts rel (i:Int) c (k:Int)=some (.inl ())/\Gu rel (ts[i].rels.drop k)=none)\/∃j:Nat,∃m:j<ts[i].rels.length,PC n ts rel (i:Int) c (k:Int)=some (.inr ((i:Int),(j:Int)))/\Gu rel (ts[i].rels.drop k)=some ts[i].rels[j]
 |0,k,c,f,g,h=>by
  obtain⟨c,rfl⟩:=sx c;refine .inl ⟨?_,by rw[LG (by omega)];rfl⟩;unfold PC;rw[CL a,Zo,DC,if_neg (by decide)]
 |d+1,k,c,f,g,h=>by
  obtain⟨c,rfl⟩:=sx c;have b:k<ts[i].rels.length:=by omega
  have p:=mv (n:=n) (rel:=rel) a e d (k+1) c (by omega) (by omega) (by omega);have q:PC n ts rel (i:Int) (c+1) (k:Int)=if decide (ts[i].rels[k].name=rel) then some (.inr ((i:Int),(k:Int))) else PC n ts rel (i:Int) c ((k+1:Nat):Int):=by
   conv=>lhs;unfold PC
   rw[CL a,Zo,EO b,if_pos rfl,CL b,Zo,DZ,Al]
  have u:Gu rel (ts[i].rels.drop k)=if decide (ts[i].rels[k].name=rel) then some ts[i].rels[k] else Gu rel (ts[i].rels.drop (k+1)):=by
   unfold Gu;rw[Lm b,List.find?_cons];cases decide (ts[i].rels[k].name=rel)<;>rfl
  grind
theorem eJ {n:Nat}{ts:List AG}{a rel:ByteArray}(hB:Ew ts)(hn:1000<n):∀(d i c:Nat),d=ts.length-i->i<=ts.length->d<c->
  (MO n ts a rel c (i:Int)=some (.inl ())/\(ts.drop i).find? (fun t=>decide (t.name=a))=none)\/∃k:Nat,∃x:k<ts.length,(ts.drop i).find? (fun t=>decide (t.name=a))=some ts[k]/\
   ((MO n ts a rel c (i:Int)=some (.inr ((k:Int), -1))/\Gu rel ts[k].rels=none)\/∃j:Nat,∃e:j<ts[k].rels.length,MO n ts a rel c (i:Int)=some (.inr ((k:Int),(j:Int)))/\Gu rel ts[k].rels=some ts[k].rels[j])
 |0,i,c,f,g,h=>by
  obtain⟨c,rfl⟩:=sx c;refine .inl ⟨?_,by rw[LG (by omega)];rfl⟩;unfold MO;rw[DC,if_neg (by decide)]
 |d+1,i,c,f,g,h=>by
  obtain⟨c,rfl⟩:=sx c;have b:i<ts.length:=by omega
  have y:=hB.1;have m:=(hB.2 ts[i] (LZ b)).1;have p:=eJ (a:=a) (rel:=rel) hB hn d (i+1) c (by omega) (by omega) (by omega);have q:MO n ts a rel (c+1) (i:Int)=if decide (ts[i].name=a) then(PC n ts rel (i:Int) n 0).bind (fun | .inl _=>some (.inr ((i:Int),(-1))) | .inr r=>some (.inr r)) else MO n ts a rel c ((i+1:Nat):Int):=by
   conv=>lhs;unfold MO
   rw[EO b,if_pos rfl,CL b,Zo,DZ,Al];rfl
  have u:(ts.drop i).find? (fun t=>decide (t.name=a))=if decide (ts[i].name=a) then some ts[i] else(ts.drop (i+1)).find? (fun t=>decide (t.name=a)):=by
   rw[Lm b,List.find?_cons];cases decide (ts[i].name=a)<;>rfl
  rw[q,u];cases z:decide (ts[i].name=a) with
  |true=>
   refine .inr ⟨i,b,rfl,?_⟩;rw[if_pos rfl];rcases mv (n:=n) (rel:=rel) b m _ 0 n rfl (Lg _) (by omega) with⟨v,w⟩ |⟨j,e,v,w⟩
   ·grind
   grind
  |false=>exact p
theorem QM (hB:Ew ts)(hn:1000<n)(a rel:ByteArray):Hr n ts a rel=some ((CI ts a rel).getD CX,(CI ts a rel).isSome):=by
 unfold Hr QO CI;rcases eJ (n:=n) (a:=a) (rel:=rel) hB hn _ 0 n rfl (Lg _) (by have:=hB.1;omega) with⟨c,q2⟩ |⟨k,hk,q2,b⟩
 ·grind
 rw[LJ] at q2;rw[q2];rcases b with⟨c,b⟩ |⟨j,d,c,b⟩
 ·grind
 simp_all [MO,Zo,C6,if_neg,CL]
theorem my {α b:Type}{f:α->b}:∀ {l:List α},(l.map f).Nodup->∀ {x y:α},x∈l->y∈l->f x=f y->x=y
 |[],_,_,_,h,_,_=>nomatch h
 |a::l,hn,x,y,c,d,e=>by
  rw[Li,Na] at hn;rcases Lr.1 c with rfl |g
  ·grind
  rcases Lr.1 d with rfl |i
  ·grind
  exact my hn.2 g i e
theorem eM {S:AC}(hW:HS ts S)(a rel:ByteArray):CI ts a rel=mget (⟨a,rel⟩:AA) S.rels:=by
 unfold CI;cases b:ts.find? fun t=>decide (t.name=a) with
 |none=>
  rw[Iw] at b;cases c:mget (⟨a,rel⟩:AA) S.rels with
  |none=>rfl
  |some g=>
   have⟨t,d,j,_,e,_⟩:=Zj hW (m:=⟨a,rel⟩) (by unfold Av;rw[c];rfl);grind
 |some t=>
  have d:=NQ b;have h:t.name=a:=of_decide_eq_true (p:=t.name=a) (OP (p:=fun(t:AG)=>decide (t.name=a)) b);rw[Zo];unfold Gu;cases f:t.rels.find? fun g=>decide (g.name=rel) with
  |some g=>
   have k:=NQ f;have q:g.name=rel:=of_decide_eq_true (p:=g.name=rel) (OP (p:=fun(g:AW)=>decide (g.name=rel)) f);rw[<-h,<-q,Xu hW.rels hW.keys d k]
  |none=>
   rw[Iw] at f;cases c:mget (⟨a,rel⟩:AA) S.rels with
   |none=>rfl
   |some g=>
    have⟨i,u,j,w,e,_⟩:=Zj hW (m:=⟨a,rel⟩) (by unfold Av;rw[c];rfl);have v:i.name=t.name:=(congrArg AA.typ e).symm.trans h.symm
    have:i=t:=my hW.tys u d v;grind
theorem xY (l:List α)(k:Nat):∃m,FV l 0 (if (k:Int)<(l.length:Int) then(k:Int) else(l.length:Int))=some m/\m.length<=k:=by
 split
 ·rename_i h;exact⟨_,Jn (a:=0) (b:=k) (Lg _) (by omega),by grind⟩
 rename_i h;exact⟨_,Jn (a:=0) (b:=l.length) (Lg _) (Lc _),by grind⟩
theorem mz {S:AC}(hW:EC ts S)(a rel:ByteArray):CI ts a rel=mget (⟨a,rel⟩:AA) S.rels:=eM hW.toHS a rel
theorem dQ {a:Type}{f:α->a}{l:List α}:(l.map f).Nodup↔∀(y:Nat) (b:y<l.length) (z:Nat) (c:z<y),f (l[z]'(by omega))≠f l[y]:=by
 grind [List.pairwise_iff_getElem]
section
variable {n:Nat}{l:List AG}(hB:l.length<=201)(hR:∀t∈l,t.rels.length<=200)
include hB in
theorem QA {i:Nat}(g:i<l.length):∀(d k c:Nat),d=i-k->k<=i->d<c->∃b:Bool,xm_ n l (i:Int) c (k:Int)=some (if b then .inr true else .inl ())/\(b=true↔∃j,∃a:j<i,k<=j/\(l[j]'(by omega)).name=l[i].name)
 |0,k,c,p,q,u=>by
  obtain⟨c,rfl⟩:=sx c;refine⟨false,?_,by simp;intro j h m;omega⟩;unfold xm_;rw[DC,if_neg (by decide)];rfl
 |d+1,k,c,p,q,u=>by
  obtain⟨c,rfl⟩:=sx c;have⟨b,h,m⟩:=QA g d (k+1) c (by omega) (by omega) (by omega);have v:k<l.length:=by omega
  unfold xm_;rw[EO,if_pos rfl,CL v,Zo,CL g,Zo,DZ,Al,h];by_cases e:l[k].name=l[i].name
  ·exact⟨true,by rw[decide_eq_true e];rfl,by grind⟩
  refine⟨b,by rw[decide_eq_false e];rfl,m.trans ⟨fun⟨j,a,w,f⟩=>⟨j,a,by omega,f⟩,fun⟨j,a,w,f⟩=>⟨j,a,?_,f⟩⟩⟩;grind
include hR in
theorem QB {i k:Nat}(f:i<l.length)(h:k<l[i].rels.length):∀(d j c:Nat),d=k-j->j<=k->d<c->∃b:Bool,Uc n l (i:Int) (k:Int) c (j:Int)=some (if b then .inr true else .inl ())/\(b=true↔∃z,∃a:z<k,j<=z/\(l[i].rels[z]'(by omega)).name=l[i].rels[k].name)
 |0,j,c,q,u,v=>by
  obtain⟨c,rfl⟩:=sx c;refine⟨false,?_,by simp;intro z m p;omega⟩;unfold Uc;rw[DC,if_neg (by decide)];rfl
 |d+1,j,c,q,u,v=>by
  obtain⟨c,rfl⟩:=sx c
  have:=hR _ (LZ f);have⟨b,m,p⟩:=QB f h d (j+1) c (by omega) (by omega) (by omega);have w:j<l[i].rels.length:=by omega
  unfold Uc;rw[EO,if_pos rfl,CL f,Zo,CL w,Zo,CL h,Zo,DZ,Al,m];by_cases e:l[i].rels[j].name=l[i].rels[k].name
  ·exact⟨true,by rw[decide_eq_true e];rfl,by grind⟩
  refine⟨b,by rw[decide_eq_false e];rfl,p.trans ⟨fun⟨z,a,x,g⟩=>⟨z,a,by omega,g⟩,fun⟨z,a,x,g⟩=>⟨z,a,?_,g⟩⟩⟩;grind
include hR in
theorem QC (hn:1000<n){i:Nat}(a:i<l.length):∀(d k c:Nat),d=l[i].rels.length-k->k<=l[i].rels.length->d<c->∃b:Bool,xo_ n l (i:Int) c (k:Int)=some (if b then .inr true else .inl ())/\(b=true↔∃y,∃x:y<l[i].rels.length,k<=y/\∃z,∃h:z<y,(l[i].rels[z]'(by omega)).name=l[i].rels[y].name)
 |0,k,c,j,m,p=>by
  obtain⟨c,rfl⟩:=sx c;refine⟨false,?_,by simp;intro y f u;omega⟩;unfold xo_;rw[CL a,Zo,DC,if_neg (by decide)];rfl
 |d+1,k,c,j,m,p=>by
  obtain⟨c,rfl⟩:=sx c
  have:=hR _ (LZ a);have g:k<l[i].rels.length:=by omega
  have⟨b,f,u⟩:=QC hn a d (k+1) c (by omega) (by omega) (by omega);have⟨v,e,w⟩:=QB (n:=n) hR a g k 0 n (by omega) (Lg _) (by omega);have e:Uc n l (i:Int) (k:Int) n 0=_:=e;unfold xo_;rw[CL a,Zo,EO g,if_pos rfl,e,Zo,Al,f];cases v with
  |true=>
   have⟨z,h,_,q⟩:=w.1 rfl;exact⟨true,rfl,by grind⟩
  |false=>
   grind
include hB hR in
theorem QD (hn:1000<n):∀(d i c:Nat),d=l.length-i->i<=l.length->d<c->∃b:Bool,Ud n l c (i:Int)=some (if b then .inr true else .inl ())/\(b=true↔∃x,∃I:x<l.length,i<=x/\((∃j,∃g:j<x,(l[j]'(by omega)).name=l[x].name)\/∃y,∃a:y<l[x].rels.length,∃z,∃v:z<y,(l[x].rels[z]'(by omega)).name=l[x].rels[y].name))
 |0,i,c,w,A,B=>by
  obtain⟨c,rfl⟩:=sx c;refine⟨false,?_,by simp;intro y p u;omega⟩;unfold Ud;rw[DC,if_neg (by decide)];rfl
 |d+1,i,c,w,A,B=>by
  obtain⟨c,rfl⟩:=sx c;have e:i<l.length:=by omega
  have:=hR _ (LZ e);have⟨b,p,u⟩:=QD hn d (i+1) c (by omega) (by omega) (by omega);have⟨C,k,E⟩:=QA (n:=n) hB e i 0 n (by omega) (Lg _) (by omega);have⟨F,m,G⟩:=QC hR hn e _ 0 n rfl (Lg _) (by omega);have k:xm_ n l (i:Int) n 0=_:=k;have m:xo_ n l (i:Int) n 0=_:=m;unfold Ud;rw[EO e,if_pos rfl,k,Zo,m,Al,p];cases C with
  |true=>
   have⟨j,g,_,q⟩:=E.1 rfl;exact⟨true,rfl,by simp only[true_iff];exact⟨i,e,Lc _,.inl ⟨j,g,q⟩⟩⟩
  |false=>
   cases F with
   |true=>
    have⟨y,a,_,q⟩:=G.1 rfl;exact⟨true,rfl,by simp only[true_iff];exact⟨i,e,Lc _,.inr ⟨y,a,q⟩⟩⟩
   |false=>
    refine⟨b,rfl,u.trans ⟨fun⟨y,a,H,f⟩=>⟨y,a,by omega,f⟩,fun⟨y,a,H,f⟩=>⟨y,a,?_,f⟩⟩⟩;rcases LY i y with h |h
    ·exact h
    have:y=i:=(by omega);subst this;rcases f with⟨j,g,q⟩ |⟨z,v,q⟩
    ·grind
    grind
def QE (l:List AG):Prop:=(l.map (·.name)).Nodup/\∀t∈l,(t.rels.map (·.name)).Nodup
include hB hR in
theorem wo (hn:1000<n):∃b,XI n l=some b/\(b=false↔QE l):=by
 have⟨b,a,c⟩:=QD hB hR hn _ 0 n rfl (Lg _) (by omega);have a:Ud n l n 0=_:=a;refine⟨b,?_,?_⟩
 ·unfold XI;rw[a];cases b<;>rfl
 have e:b=false↔¬b=true:=by simp
 rw[e,c];unfold QE;rw[dQ (f:=fun(t:AG)=>t.name) (l:=l)];constructor
 ·intro h;refine⟨fun y d z i q=>h ⟨y,d,Lg _,.inl ⟨z,i,q⟩⟩,fun t j=> ?_⟩;obtain⟨x,k,rfl⟩:=O7.1 j;rw[dQ (f:=fun(g:AW)=>g.name)];grind
 grind [dQ,List.getElem_mem]
theorem wq {k:Nat}(h:QE l):QE (l.take k):=⟨by rw[N8];exact h.1.sublist (List.take_sublist _ _),fun t a=>h.2 t (O8 a)⟩
include hB hR in
theorem mC (hn:1000<n):∀(d i c:Nat),d=l.length-i->i<=l.length->d<c->(QE l->jD_ n l c (i:Int)=some (.inl ()))/\(¬QE l->i<l.length->jD_ n l c (i:Int)=some (.inr 11))
 |0,i,c,e,f,g=>by
  obtain⟨c,rfl⟩:=sx c;refine⟨fun _=> ?_,fun _ h=>by omega⟩;unfold jD_;rw[DC,if_neg (by decide)]
 |d+1,i,c,e,f,g=>by
  obtain⟨c,rfl⟩:=sx c;have j:i<l.length:=by omega
  have⟨v,w⟩:=mC hn d (i+1) c (by omega) (by omega) (by omega);have x:(l.take (i+1)).length<=l.length:=by rw[LC];omega
  have⟨b,k,m⟩:=wo (n:=n) (l:=l.take (i+1)) (by omega) (fun t p=>hR t (O8 p)) hn;have q:FV l 0 (i64.wrap ((i:Int)+1))=some (l.take (i+1)):=by
   rw[Al]
   have:=Jn (xs:=l) (a:=0) (b:=i+1) (Lg _) (by omega);rw[LJ] at this;exact this
  unfold jD_;rw[EO j,if_pos rfl,q,Zo,k,Zo,Al];cases b with
  |false=>
   grind
  |true=>
   rw[if_pos rfl];exact⟨fun u=>absurd (m.2 (wq u)) (by decide),fun _ _=>rfl⟩
end
def R5 (ts:List AG)(a:ByteArray):Bool:=(ts.find? fun t=>decide (t.name=a)).isSome
theorem wt (hB:Ew ts)(hn:1000<n)(a rel:ByteArray):∃k j,QO n ts a rel=some (k,j)/\(decide (k<0)= !R5 ts a):=by
 unfold QO R5;rcases eJ (n:=n) (a:=a) (rel:=rel) hB hn _ 0 n rfl (Lg _) (by have:=hB.1;omega) with⟨q1,q2⟩ |⟨k,hk,q2,q3⟩
 ·simp_all
 grind
def FI (ts:List AG)(a rel:ByteArray):Bool:=(CI ts a rel).isSome
def Cz {α:Type}(f:α->Int):List α->Int
 |[]=>0
 |x::l=>if f x != 0 then f x else Cz f l
theorem MK (f:α->Int)(x:α)(l:List α):Cz f (x::l)=if f x != 0 then f x else Cz f l:=rfl
def QF (ts:List AG)(s:AN):Int:=if R5 ts s.type_&&(decide (s.rel={ data:= #[] })||FI ts s.type_ s.rel) then 0 else 12
def Hm (ts:List AG)(b:ByteArray)(s:AN):Int:=if FI ts s.type_ b&&decide (s.rel={ data:= #[] }) then 0 else 13
def HD (ts:List AG)(a:ByteArray)(x:AS):Int:=if FI ts a x.a then(if ((CI ts a x.a).getD CX).expr= [] then Cz (Hm ts x.b) ((CI ts a x.a).getD CX).subs else 13) else 12
def R6 (ts:List AG)(a:ByteArray)(x:AS):Int:=if x.kind==1 then(if FI ts a x.a then 0 else 12) else if x.kind==2 then HD ts a x else 0
def Ef (ts:List AG)(a:ByteArray)(g:AW):Int:=if Cz (QF ts) g.subs != 0 then Cz (QF ts) g.subs else Cz (R6 ts a) g.expr
theorem ZX (hB:Ew ts)(a rel:ByteArray):EV ((CI ts a rel).getD CX):=by
 cases h:CI ts a rel with
 |none=>exact⟨Lg _,Lg _,.inl rfl,(by intro _ h;cases h),Z2⟩
 |some g=>
  unfold CI at h;have⟨y,b,c⟩:=Od.1 h;exact(hB.2 y (NQ b)).2 g (NQ c)
section
variable {n:Nat}{ts:List AG}(hB:Ew ts)(hn:1000<n)
include hB hn in
theorem QG {s:AS}{q:AW × Bool}(b:q.1.subs.length<=51):∀(d i c:Nat),d=q.1.subs.length-i->i<=q.1.subs.length->d<c->XJ n ts s q c (i:Int)=some (if Cz (Hm ts s.b) (q.1.subs.drop i) != 0 then .inr (Cz (Hm ts s.b) (q.1.subs.drop i)) else .inl ())
 |0,i,c,f,g,h=>by
  obtain⟨c,rfl⟩:=sx c;unfold XJ;rw[DC,if_neg (by decide),LG (by omega)];rfl
 |d+1,i,c,f,g,h=>by
  obtain⟨c,rfl⟩:=sx c;have a:i<q.1.subs.length:=by omega
  have j:=QG (s:=s) b d (i+1) c (by omega) (by omega) (by omega);unfold XJ;rw[EO a,if_pos rfl,CL a,Zo,QM hB hn,Zo,DZ,Al,j,Lm a];rw[MK];have e:Hm ts s.b q.1.subs[i]=if FI ts q.1.subs[i].type_ s.b&&decide (q.1.subs[i].rel={ data:= #[] }) then 0 else 13:=rfl
  grind [FI,decide]
include hB hn in
theorem wu (a:ByteArray)(x:AS):Ue n ts a x=some (HD ts a x):=by
 have b:=ZX hB a x.a;unfold Ue HD FI;rw[QM hB hn,Zo];dsimp only;cases(CI ts a x.a).isSome with
 |false=>rfl
 |true=>
  rw[if_pos rfl,if_pos rfl];by_cases c:((CI ts a x.a).getD CX).expr= []
  ·have e:=QG (s:=x) (q:=((CI ts a x.a).getD CX,true)) hB hn b.1 _ 0 n rfl (Lg _) (by have:=b.1;dsimp only;omega);grind
  simp_all
include hB hn in
theorem mD {g:AW}:∀l:List AN,Dl (XK n ts g) (Z8 n ts g) l ()=some (if Cz (QF ts) l != 0 then .inr (Cz (QF ts) l) else .inl ())
 |[]=>rfl
 |x::l=>by
  have a:=mD (g:=g) l;rw[Dl];generalize Dl (XK n ts g) (Z8 n ts g) l=K at a⊢;have⟨k,j,b,c⟩:=wt hB hn x.type_ { data:= #[] };unfold XK;dsimp only;rw[b,Zo,QM hB hn,DZ,c];rw[MK];have e:QF ts x=if R5 ts x.type_&&(decide (x.rel={ data:= #[] })||FI ts x.type_ x.rel) then 0 else 12:=rfl
  grind [FI,R5,decide,CI]
include hB hn in
theorem mE {a:ByteArray}{g:AW}:∀l:List AS,Dl (XL n ts a g) (Z9 n ts a g) l ()=some (if Cz (R6 ts a) l != 0 then .inr (Cz (R6 ts a) l) else .inl ())
 |[]=>rfl
 |x::l=>by
  have b:=mE (a:=a) (g:=g) l;rw[Dl];generalize Dl (XL n ts a g) (Z9 n ts a g) l=K at b⊢;unfold XL;dsimp only;rw[QM hB hn,wu hB hn];rw[MK];have e:R6 ts a x=if x.kind==1 then(if FI ts a x.a then 0 else 12) else if x.kind==2 then HD ts a x else 0:=rfl
  grind [FI,CI,HD]
include hB hn in
theorem wv {a:ByteArray}{g:AW}(b:EV g):XM n ts a g=some (Ef ts a g):=by
 have e:=b.1;have f:=b.2.1;have c:xq_ n ts g n 0=_:=yT n ts g (by omega) n () 0 (Lg _) (by omega);have d:jT_ n ts a g n 0=_:=yU n ts a g (by omega) n () 0 (Lg _) (by omega);rw[LJ,mD hB hn] at c;rw[LJ,mE hB hn] at d;unfold XM Ef;grind
end
end Go.Proofs.YtnmkbmefohakmaaGreat.Ab
