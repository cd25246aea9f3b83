/-
 The document's reader of schemas: all types.
-/
import Derived.Test.YtnmkbmefohakmaaGreatPrw
set_option linter.all false
namespace Go.Proofs.YtnmkbmefohakmaaGreat.Ab
open Go.RowKit
def bType:ByteArray:={ data:= #[116,121,112,101] }
def tyM (x:Aj):Aj:=
 if x.e==0 then(match x.l[x.p]? with
  |some t=>if t.kind==1 then(if t.text.toList==bType.toList then x else jS_ x 9) else jS_ x 9
  |none=>jS_ x 9) else x
def Kz (n c f:Nat)(x:Aj):Option (Aj × AG):=(zI_ n { tyM x with p:=(tyM x).p+1 }).bind fun r=>(if r.1.e==0&&isM r.1 SY then(Hb n c f c { r.1 with p:=r.1.p+1 } []).map fun q=>(Do q.1 GS,q.2) else some (r.1,[])).bind fun q=>some (q.1,⟨r.2,q.2⟩)
def JC (n c f:Nat):Nat->Aj->List AG->Option (Aj × List AG)
 |0,_,_=>none
 |k+1,x,ts=>if D8 x/\x.deep=0/\ts.length<=201 then (if x.e==0&&decide (x.p<x.l.length) then(Kz n c f (if ts.length=200 then jS_ x 8 else x)).bind fun r=>JC n c f k r.1 (ts++[r.2]) else some (x,ts)) else none
def K0 (n c f:Nat)(s:ByteArray):Option (List AG × Int × Int):=(SQ n s).bind fun t=>if t.2.2==0 then(JC n c f c ⟨t.1,0,(s.size:Int),0,0,0,[],0⟩ []).bind fun r=>if r.1.e==0 then some (r.2,0,0) else some ([],r.1.bad,r.1.e) else some ([],t.2.1,t.2.2)
variable {a:Cx}{bl:Bool}{es:List (List D)}{f:Nat->Nat}{hp:Hp}{id n nx2 oid over q rid rver sz t ver:Nat}{rs:List AW}{ts:List AG}{x:Aj}
section
variable {n:Nat}{L:List CN}(hT:∀t∈L,∃b,Gc n t.text=some b)
theorem SZ (w:D8 x):Kp x (tyM x)/\(tyM x).p=x.p:=by
 have c:=Kp.fail w 9;have e:Kp x x:=⟨rfl,Lc _,w.2.1,w.2.2.1,rfl,id⟩;have d:(jS_ x 9).p=x.p:=(I9 x 9).2.2.2;unfold tyM;split
 ·split
  ·split
   ·split
    ·exact⟨e,rfl⟩
    exact⟨c,d⟩
   exact⟨c,d⟩
  exact⟨c,d⟩
 exact⟨e,rfl⟩
include hT in
theorem ot {c f:Nat}(F:L.length+1<c)(u:20<f)(k:x.l=L)(w:D8 x)(v:x.deep=0)(hp:x.p<x.l.length):∃y,Kz n c f x=some y/\Kp x y.1/\x.p<y.1.p:=by
 unfold Kz;have⟨e,z⟩:=SZ w;have l:=e.w w;have m:=Kp.one l (by rw[e.l,z];exact hp);have A:=m.w l;have⟨r,B,o⟩:=Ua hT (x:={ tyM x with p:=(tyM x).p+1 }) (e.l.trans k) A;have d:=e.trans (m.trans o);have g:=d.w w;have G:x.p+1<=r.1.p:=by have:(tyM x).p+1<=r.1.p:=o.p;omega
 rw[B,Zo];split
 ·rename_i h;rw[Ln] at h;have C:=GR h.2;have i:=Kp.one g C;have⟨y,E,j⟩:=fP hT (c:=c) (f:=f) (by omega) u c { r.1 with p:=r.1.p+1 } [] (d.l.trans k) (i.w g) (d.d.trans v) (Lg _) (by split<;>omega);have s:=Kp.want (j.w (i.w g)) GS;have H:r.1.p+1<=y.1.p:=j.p;have I:=s.p;rw[E];exact⟨_,rfl,d.trans (i.trans (j.trans s)),by show x.p<(Do y.1 GS).p;omega⟩
 exact⟨_,rfl,d,by show x.p<r.1.p;omega⟩
include hT in
theorem fR {c f:Nat}(l:L.length+1<c)(m:20<f):∀(k:Nat) (x:Aj) (ts:List AG),x.l=L->D8 x->x.deep=0->ts.length<=201->((x.e==0)=true->ts.length<=200)->L.length-x.p<k->∃y,JC n c f k x ts=some y
 |0,_,_,_,_,_,_,_,h=>absurd h (LN _)
 |k+1,x,ts,i,w,j,r,s,B=>by
  unfold JC;rw[if_pos ⟨w,j,r⟩];split
  ·rename_i h;rw[Ln,decide_eq_true_eq] at h;have C:=s h.1;have u:=h.2;rw[i] at u;by_cases p:ts.length=200
   ·rw[if_pos p];have v:=XE (c:=8) h.1 rfl;have e:=Kp.fail w 8;have z:(jS_ x 8).p=x.p:=(I9 x 8).2.2.2;have⟨y,o,d,A⟩:=ot hT l m (x:=jS_ x 8) (e.l.trans i) (e.w w) (e.d.trans j) (by rw[e.l,z];exact h.2);rw[o,Zo];refine fR l m k _ _ (d.l.trans (e.l.trans i)) (d.w (e.w w)) (d.d.trans (e.d.trans j)) (by rw[Ld,Ll];omega) (fun g=> ?_) (by omega)
    have:=d.e v;rw[g] at this;cases this
   rw[if_neg p];have⟨y,o,d,A⟩:=ot hT l m (x:=x) i w j h.2;rw[o,Zo];exact fR l m k _ _ (d.l.trans i) (d.w w) (d.d.trans j) (by rw[Ld,Ll];omega) (fun _=>by rw[Ld,Ll];omega) (by omega)
  exact⟨_,rfl⟩
end
theorem AU.canon {P:Program}{f:FuncId}{vs:List AV}{hp0:Hp}{nx:Nat}{R:AV->Hp->Nat->Prop}{m:AV}(h:AU P f vs hp nx R)(k:∀v p nx2,R v p nx2->nx<=nx2->CH nx ⟨upd 0 m AK,hp0,nx⟩ ⟨upd 0 v AK,p,nx2⟩):
  AU P f vs hp nx fun v p nx2=>v=m/\p=hp0/\nx2=nx:=by
 refine⟨h.1,fun g c M N s G O Q=> ?_⟩;let w:Gh:=⟨g.base,g.M0,0⟩;refine(h.2 w c M N s (G.fb 0) O fun j x S=>by have⟨u,y,z⟩:=Q j x S;exact⟨u,y,z.tr (Gj.fb g c 0)⟩).mono ?_;rintro e w' ⟨u,v,A,H,y,z,T,U,V,X,B,I⟩;have Y:=k v A.hp H z B;obtain⟨a,C,hd⟩:∃a:Act,a.tmps= #[u]/\a.defers= []:=⟨{ tmps:= #[u],defers:=[] },rfl,rfl⟩;have hs:EF w ⟨upd 0 v AK,A.hp,H⟩ A a 1:=by
  refine⟨rfl,V,fun i r=> ?_,fun t=> ?_,by rw[C];rfl,Lg _,by rw[hd];trivial⟩
  ·rcases I i r with d |d
   ·exact LF (s i d) B
   exact d.2
  cases t with |zero=>rw[C];exact X |succ t=>trivial
 have⟨E,l,q2,q3,q4,q5⟩:=hs.weakR B Y;have hu:Au w E m u:=by
  have:=l.fr 0;rw[C] at this;exact this
 have J:=Gj.unfb g E 0;refine⟨u,m,E,nx,y,⟨rfl,l.hp,rfl⟩,q2.trans T,(U.toR.trans q3).toE (G.fb 0) s,l.hr.tr J l.hr.le l.hr.m0 (fun id o ho=>(l.hr.dom id o ho).2.1) (Lc _),hu.tr J,Lc _,fun i r=> ?_⟩;have K:=l.kn i r;rcases q5 i r with d |d
 ·rcases I i d with F |F
  ·exact .inl F
  exact absurd K (Nat.not_lt.2 F.1)
 exact absurd K (Nat.not_lt.2 d)
def Gy (nx:Nat):Nat->Option Nat:=fun i=>if i<nx then some i else none
def Jr (nx:Nat)(hp:Hp):Prop:=∀i o,hp i=some o->Cc (Gy nx) o=some o
theorem oI (h:es≠[]->hp id=some (.rw es sz ver false false)):∃is,Ce hp (Ac id ver es)=some (.sl es,false,is)/\∀i∈is,es≠[]/\i=id:=by
 cases es with
 |nil=>exact⟨[],rfl,fun i c=>nomatch c⟩
 |cons a r=>
  have d:=h (by simp);exact⟨[id],by simp[Ac,Ce,d],fun i c=>⟨by simp,Lt.1 c⟩⟩
def ovD (c:Bool)(g:AW)(ov:AV):AV:=if c then .d (.sl (g.expr.map AX)) false else ov
theorem oJ {c f:Nat}{nx:Nat}{y:Aj × AW}{ov:AV}(r:∀j,nx<=j->hp j=none)(H:Jr nx hp)(A:hp q=some (Aq x bl ov))(h:Eh n c f x=some y):
  AU Tryz.prog 57 [.pt q 0] hp nx fun v s nx2=>v= .ag [.v (.string y.2.name),.d (.sl (y.2.subs.map AR)) false,.d (.sl (y.2.expr.map AX)) false]/\s=upd q (some (Aq y.1 bl (ovD (wF_ n x) y.2 ov))) hp/\nx2=nx:=by
 have Z:q<nx:=Cd r A;refine(SW r A h).canon ?_;rintro v s nx2 ⟨aa,P,Q,R,S,rfl,T,u,I,J,U,ab,le⟩ ad;have V:CY (Gy nx) ov=some ov:=by
  have g:=H q _ A;simp only[Aq,Cc,ED,CY,La] at g;cases e:CY (Gy nx) ov with |none=>rw[e] at g;simp at g |some w=>rw[e] at g;simpa using g
 have⟨K,X,Y⟩:=oI (hp:=s) (id:=P) (ver:=Q) (sz:=3) (es:=y.2.subs.map AR) fun B=>(I (by simpa using B)).1;have⟨C,M,m2⟩:=oI (hp:=s) (id:=R) (ver:=S) (sz:=3) (es:=y.2.expr.map AX) fun B=>(J (by simpa using B)).1;obtain⟨l,p⟩:∃l,l=upd q (some (Aq y.1 bl (ovD (wF_ n x) y.2 ov))) hp:=⟨_,rfl⟩;rw[<-p];have E:∀j o,l j=some o->j<nx:=fun j o F=>by
  rw[p] at F;by_cases e:j=q
  ·omega
  rw[Ai _ _ e] at F;exact Cd r F
 have f1:∀i∈K,∀o,l i=some o->o.fz=true:=fun i k o d=>by
  obtain⟨G,rfl⟩:=Y i k
  have:=E _ _ d
  have:=(I (by simpa using G)).2.1;omega
 have N:∀i∈C,∀o,l i=some o->o.fz=true:=fun i k o d=>by
  obtain⟨G,rfl⟩:=m2 i k
  have:=E _ _ d
  have:=(J (by simpa using G)).2.1;omega
 refine .trans (m:=⟨upd 0 (.ag [.v (.string y.2.name),.d (.sl (y.2.subs.map AR)) false,.d (.sl (y.2.expr.map AX)) false]) AK,l,nx2⟩) (.ren (Gy nx) ⟨fun i k=>if_pos k,fun i j k h=> ?_,fun i i' j g z=> ?_,fun t=> ?_,fun i o d=> ?_,Lc _⟩) (.dat ⟨fun t=> ?_,fun i o' d=> ?_,Lc _⟩)
 ·rw[show Gy nx i=none from ifn] at h;cases h
 ·unfold Gy at g z;split at g
  ·split at z
   ·cases g;cases z;rfl
   cases z
  cases g
 ·cases t with |zero=>exact .inr rfl |succ t=>exact .inl rfl
 ·have k:=E _ _ d;refine⟨i,o,if_pos k,?_,d⟩;by_cases e:i=q
  ·subst e;dsimp only at d;rw[p,Ap] at d;cases d;unfold ovD;split
   ·rfl
   simp[Aq,Cc,ED,CY,V]
  dsimp only at d;rw[p,Ai _ _ e] at d;exact H i o d
 ·cases t with |zero=>exact .ag (.cons (.same _) (.cons (.dat _ _ _ _ K X id f1) (.cons (.dat _ _ _ _ C M id N) .nil))) |succ t=>exact .same _
 dsimp only at d⊢;by_cases e:i=q
 ·subst e;rw[p,Ap] at d;cases d;refine⟨_,T,?_⟩;cases O:wF_ n x with
  |true=>
   rw[O,if_pos rfl] at u;rw[u];exact .bx (cs:=[_,_,_,_,_,_,_,_]) (.cons (.same _) (.cons (.same _) (.cons (.same _) (.cons (.same _) (.cons (.same _) (.cons (.same _) (.cons (.dat _ _ _ _ C M id N) (.cons (.same _) .nil))))))))
  |false=>
   rw[O,if_neg (by decide)] at u;rw[u];exact .same _
 rw[p,Ai _ _ e] at d;exact⟨o',by rw[U i (Cd r d) e];exact d,.same _⟩
theorem Zz (x:Aj)(s:AS)(a:Int):(DO x s a).l=x.l:=by
 unfold DO;split
 ·split
  ·rfl
  rfl
 rfl
theorem oL {ex:Aj->Option Aj}(d:∀x y,ex x=some y->y.l=x.l){y:Aj}(h:EU n ex x=some y):y.l=x.l:=by
 unfold EU at h;split at h;rotate_left
 ·cases h
 split at h
 ·split at h
  ·cases h;exact(I9 x 10).1
  have⟨z,c,h⟩:=AL h;split at h
  ·cases h;have e:=d _ _ c;exact(XA z Ha).1.trans e
  cases h
 have⟨r,c,h⟩:=AL h;split at h
 ·have⟨s,g,h⟩:=AL h;cases h;exact(Zz _ _ _).trans ((JA g).1.trans (JA c).1)
 cases h;exact(Zz _ _ _).trans (JA c).1
theorem oM {n:Nat}{ex:Aj->Option Aj}(d:∀x y,ex x=some y->y.l=x.l):∀(c:Nat) {x y:Aj},G6 n ex c x=some y->y.l=x.l
 |0,_,_,h=>by cases h
 |c+1,x,y,h=>by
  unfold G6 at h;split at h;rotate_left
  ·cases h
  split at h
  ·have⟨z,e,h⟩:=AL h;split at h
   ·have g:=oL d e;exact(oM d c h).trans ((Zz _ _ _).trans g)
   cases h
  cases h;rfl
theorem oO {c:Nat}{ex:Aj->Option Aj}(d:∀x y,ex x=some y->y.l=x.l){y:Aj}(h:F6 n ex c x=some y):y.l=x.l:=by
 unfold F6 at h;have⟨z,e,h⟩:=AL h;exact(oM d c h).trans (oL d e)
theorem oP {d:Aj->Option Aj}(e:∀x y,d x=some y->y.l=x.l):∀(c:Nat) {x y:Aj},GH d c x=some y->y.l=x.l
 |0,_,_,h=>by cases h
 |c+1,x,y,h=>by
  unfold GH at h;split at h;rotate_left
  ·cases h
  split at h
  ·have⟨z,g,h⟩:=AL h;split at h
   ·have i:=e _ _ g;exact(oP e c h).trans ((Zz _ _ _).trans i)
   cases h
  cases h;rfl
theorem fM {n c:Nat}:∀(f:Nat) (x y:Aj),E8 n c f x=some y->y.l=x.l
 |0,_,_,h=>by cases h
 |f+1,x,y,h=>by
  unfold E8 at h;have⟨z,d,h⟩:=AL h;exact(oP (fun x y h=>oO (fM f) h) c h).trans (oO (fM f) d)
theorem oQ {n:Nat}:∀(c:Nat) {x:Aj} {e:List AN} {y:Aj × List AN},G7 n c x e=some y->y.1.l=x.l
 |0,_,_,_,h=>by cases h
 |c+1,x,e,y,h=>by
  unfold G7 at h;split at h;rotate_left
  ·cases h
  split at h;rotate_left
  ·cases h;rfl
  have⟨g,k,h⟩:=AL h;have i:g.1.l=x.l:=by
   have:=(JA k).1;split at this
   ·exact this.trans (I9 x 8).1
   exact this
  have⟨l,d,h⟩:=AL h;have j:l.1.l=g.1.l:=by
   split at d
   ·exact(JA d).1
   cases d;rfl
  split at h
  ·have m:=oQ c h;exact m.trans (j.trans i)
  cases h;exact(XA _ _).1.trans (j.trans i)
theorem oS {c f:Nat}{y:Aj × AW}(h:Eh n c f x=some y):y.1.l=x.l:=by
 unfold Eh at h;split at h;rotate_left
 ·cases h
 have⟨r,g,h⟩:=AL h;have e:=(JA g).1;split at h
 ·have⟨z,d,h⟩:=AL h;split at h
  ·cases h;have i:=fM f _ _ d;exact(XA _ _).1.trans (i.trans e)
  cases h
 obtain⟨p,d,rfl⟩:=La.1 h;exact(oQ c d).trans ((XA _ _).1.trans e)
def HJ (f:Nat->Nat)(a:Cx):Cx:=if a.g then⟨[Df],a.ks.map f,true⟩ else H0 f a
theorem UZ:(HJ f a).ks=a.ks.map f:=by
 unfold HJ;split
 ·rfl
 rfl
theorem QZ:(HJ f a).g=a.g:=by
 unfold HJ;split
 ·rename_i h;exact h.symm
 rfl
theorem fK (h:a.g=true):Ff (HJ f a)=true:=by
 unfold HJ;rw[if_pos h];simp[Ff]
theorem oG (h:Ff a=true):a.g=true:=by
 unfold Ff at h;rw[Ln] at h;exact h.1
theorem yD {xs c:List Nat}(h:De xs c=true):xs≠[]/\c≠[]:=by
 unfold De at h;simp only[Nh,Bu] at h;have⟨i,d,e⟩:=h;exact⟨Is d,Is e⟩
theorem oH {b:Cx}(h:De a.ks b.ids=true):De (HJ f a).ks (HJ f b).ids=true\/(Ff (HJ f b)=true/\(HJ f a).ks≠[]):=by
 cases c:b.g with
 |true=>exact .inr ⟨fK c,by rw[UZ];simpa using(yD h).1⟩
 |false=>
  refine .inl ?_;rw[UZ];unfold HJ;rw[c,if_neg (by decide)];exact aJ h
theorem yE {xs e g:List Nat}:De xs (e++g)=(De xs e||De xs g):=by
 unfold De;rw[Ni];simp only[Nh,Bu,Ly,LR];constructor
 ·rintro⟨i,d,c |c⟩
  ·exact .inl ⟨i,d,c⟩
  exact .inr ⟨i,d,c⟩
 rintro(⟨i,d,c⟩ |⟨i,d,c⟩)
 ·exact⟨i,d,.inl c⟩
 exact⟨i,d,.inr c⟩
theorem yF {b:Cx}(h:F1 a b=true):F1 (HJ f a) (HJ f b)=true:=by
 simp only[F1,Jb,yE,LR,Ln,NF,List.isEmpty_eq_false_iff] at h⊢;rcases h with((((h |h) |h) |h) |h |h)
 ·rcases oH (f:=f) h with c |c
  ·exact .inl (.inl (.inl (.inl c)))
  exact .inr (.inr c)
 ·exact .inl (.inl (.inl (.inr (by rw[UZ,UZ];exact aJ h))))
 ·rcases oH (f:=f) h with c |c
  ·exact .inl (.inl (.inr c))
  exact .inr (.inl c)
 ·exact .inl (.inr ⟨by rw[QZ];exact h.1,by rw[QZ];exact h.2⟩)
 ·exact .inr (.inl ⟨fK (oG h.1),by rw[UZ];simpa using h.2⟩)
 exact .inr (.inr ⟨fK (oG h.1),by rw[UZ];simpa using h.2⟩)
theorem yG {ops:Array Oper}{rs:List Cx}(h:HT ops (rs.map (HJ f))=true):HT ops rs=true:=by
 simp only[HT,TN,Ln,LP] at h⊢;refine⟨h.1,fun j g i k=> ?_⟩;have c:=h.2 j g i k;rw[Lp,Lp] at c;cases d:rs[i]? with
 |none=>
  rw[d] at c;exact c
 |some a=>
  cases e:rs[j]? with
  |none=>
   rw[d,e] at c;exact c
  |some b=>
   rw[d,e] at c;simp only[LQ] at c⊢;cases l:F1 a b with
   |false=>
    rw[LR] at c⊢;rcases c with c |c
    ·exact .inl c
    ·refine .inr ?_;rw[Ln] at c⊢;exact⟨c.1,rfl⟩
   |true=>
    rw[yF l] at c;simpa using c
theorem fL {P:Program}{tab:Nat->TI}{ops:Array Oper}{d nx i:Nat}{k:List It}{Q:Ex->St->Prop}{c:List Cx}{fr:Fr}(f:Nat->Nat)(rs:List Cx)(e:c.reverse.map (HJ f)=rs)(g:RN ops rs=true)(h:run P tab k Q ⟨fr,hp,nx⟩):Rd P tab ops d nx k Q i [] c fr hp:=
 ⟨yG (VK (e▸g)),h⟩
theorem Qa {ids c:List Nat}:HJ f ⟨ids,c,false⟩=⟨ids.map f,c.map f,false⟩:=rfl
theorem Qb {ids c:List Nat}:HJ f ⟨ids,c,true⟩=⟨[Df],c.map f,true⟩:=rfl
structure Jq (q oid over:Nat) (bl:Bool) (ov:AV) (x:Aj) (ts:List AG) (hp:Hp) (nx:Nat):Prop where
 box:hp q=some (Aq x bl ov)
 out:ts≠[]->hp oid=some (.rw (ts.map AQ) 2 over false false)/\oid≠q/\oid<nx
 new:∀j,nx<=j->hp j=none
 qn:q<nx
structure Hw (q oid over t rid rver:Nat) (bl:Bool) (ov:AV) (x:Aj) (ts:List AG) (nm:ByteArray) (rs:List AW) (hp:Hp) (nx:Nat):Prop where
 a:Jq q oid over bl ov x ts hp nx
 tb:hp t=some (.bx [.v (.string nm),Ac rid rver (rs.map Ah)])
 row:rs≠[]->hp rid=some (.rw (rs.map Ah) 3 rver false false)/\rid≠q/\rid≠t/\(ts≠[]->rid≠oid)/\rid<nx
 tq:t≠q
 to:ts≠[]->t≠oid
 tn:t<nx
theorem Jq.put {ov ov2:AV}{x2:Aj}{nx:Nat}(h:Jq q oid over bl ov x ts hp nx)(e:nx<=nx2):Jq q oid over bl ov2 x2 ts (upd q (some (Aq x2 bl ov2)) hp) nx2 where
 box:=Ap _ _ _
 out:=fun d=>by
  have c:=h.out d;exact⟨by rw[Ai _ _ c.2.1];exact c.1,c.2.1,by omega⟩
 new:=fun j c=>by have:=h.qn;rw[Aa];exact h.new j (by omega)
 qn:=by have:=h.qn;omega
theorem Jq.up {ov:AV}{nx:Nat}(h:Jq q oid over bl ov x ts hp nx)(e:nx<=nx2):Jq q oid over bl ov x ts hp nx2 where
 box:=h.box
 out:=fun d=>by
  have c:=h.out d;exact⟨c.1,c.2.1,by omega⟩
 new:=fun j c=>h.new j (by omega)
 qn:=by have:=h.qn;omega
theorem Hw.put {ov ov2:AV}{x2:Aj}{nm:ByteArray}{nx:Nat}(h:Hw q oid over t rid rver bl ov x ts nm rs hp nx)(d:nx<=nx2):Hw q oid over t rid rver bl ov2 x2 ts nm rs (upd q (some (Aq x2 bl ov2)) hp) nx2 where
 a:=h.a.put d
 tb:=by rw[Ai _ _ h.tq];exact h.tb
 row:=fun e=>by
  have c:=h.row e;exact⟨by rw[Ai _ _ c.2.1];exact c.1,c.2.1,c.2.2.1,c.2.2.2.1,by omega⟩
 tq:=h.tq
 to:=h.to
 tn:=by have:=h.tn;omega
theorem Hw.up {ov:AV}{nm:ByteArray}{nx:Nat}(h:Hw q oid over t rid rver bl ov x ts nm rs hp nx)(c:nx<=nx2):Hw q oid over t rid rver bl ov x ts nm rs hp nx2 where
 a:=h.a.up c
 tb:=h.tb
 row:=fun d=>by
  have e:=h.row d;grind
 tq:=h.tq
 to:=h.to
 tn:=by have:=h.tn;omega
def Dy (id sz ver:Nat)(es:List (List D))(hp:Hp):Hp:=if es= [] then hp else upd id (some (.rw es sz ver false false)) hp
def hpE (q oid over t rid rver:Nat)(c:AO)(ts:List AG)(nm:ByteArray)(rs:List AW):Hp:=upd q (some c) (upd t (some (.bx [.v (.string nm),Ac rid rver (rs.map Ah)])) (Dy oid 2 over (ts.map AQ) (Dy rid 3 rver (rs.map Ah) AM)))
def Cl (v:AV):Prop:=∀c,CY c v=some v
theorem oD {c:Bool}{g:AW}{ov:AV}(h:Cl ov):Cl (ovD c g ov):=by
 unfold ovD;split
 ·exact fun _=>rfl
 exact h
theorem JB {j:Nat}(h:es≠[]->j≠id):Dy id sz ver es hp j=hp j:=by
 unfold Dy;split
 ·rfl
 rename_i c;exact Ai _ _ (h c)
theorem MX (h:es≠[]):Dy id sz ver es hp id=some (.rw es sz ver false false):=by
 unfold Dy;rw[if_neg h,Ap]
structure PI (q oid t rid:Nat) (ts:List AG) (rs:List AW) (nx:Nat):Prop where
 oq:ts≠[]->oid≠q/\oid<nx
 row:rs≠[]->rid≠q/\rid≠t/\(ts≠[]->rid≠oid)/\rid<nx
 tq:t≠q
 to:ts≠[]->t≠oid
 tn:t<nx
 qn:q<nx
theorem PI.b {nx:Nat}{ov:AV}{nm:ByteArray}(h:PI q oid t rid ts rs nx):Hw q oid over t rid rver bl ov x ts nm rs (hpE q oid over t rid rver (Aq x bl ov) ts nm rs) nx where
 a:={
  box:=Ap _ _ _
  out:=fun c=>by
   have d:=h.oq c;refine⟨?_,d.1,d.2⟩;unfold hpE;rw[Ai _ _ d.1,Ai _ _ (h.to c).symm,MX (by simpa using c)]
  new:=fun j e=>by
   have:=h.qn
   have:=h.tn;unfold hpE;rw[Aa,Aa,JB (fun c=>by have:=(h.oq (by simpa using c)).2;omega),JB (fun c=>by have:=(h.row (by simpa using c)).2.2.2;omega)];rfl
  qn:=h.qn }
 tb:=by unfold hpE;rw[Ai _ _ h.tq,Ap]
 row:=fun c=>by
  have⟨d,g,i,k⟩:=h.row c;simp_all [hpE,Ai,JB,MX]
 tq:=h.tq
 to:=h.to
 tn:=h.tn
theorem Hw.dis {ov:AV}{nm:ByteArray}{nx:Nat}(h:Hw q oid over t rid rver bl ov x ts nm rs hp nx):PI q oid t rid ts rs nx:=
 ⟨fun c=>(h.a.out c).2,fun c=>(h.row c).2,h.tq,h.to,h.tn,h.a.qn⟩
theorem Hw.toE {ov:AV}{nm:ByteArray}{nx:Nat}(h:Hw q oid over t rid rver bl ov x ts nm rs hp nx)(i:Nat):hpE q oid over t rid rver (Aq x bl ov) ts nm rs i=none\/hpE q oid over t rid rver (Aq x bl ov) ts nm rs i=hp i:=by
 have c:=(h.dis.b (over:=over) (rver:=rver) (bl:=bl) (ov:=ov) (x:=x) (nm:=nm));by_cases j:i=q
 ·exact .inr (by rw[j,c.a.box,h.a.box])
 by_cases k:i=t
 ·exact .inr (by rw[k,c.tb,h.tb])
 by_cases d:ts≠[]/\i=oid
 ·exact .inr (by rw[d.2,(c.a.out d.1).1,(h.a.out d.1).1])
 by_cases e:rs≠[]/\i=rid
 ·exact .inr (by rw[e.2,(c.row e.1).1,(h.row e.1).1])
 refine .inl ?_;unfold hpE;rw[Ai _ _ j,Ai _ _ k,JB (fun g=>fun h=>d ⟨by simpa using g,h⟩),JB (fun g=>fun h=>e ⟨by simpa using g,h⟩)];rfl
theorem fJ {nx i:Nat}{o:AO}(h:Jr nx hp)(d:Cc (Gy nx) o=some o):Jr nx (upd i (some o) hp):=fun j p c=>by
 by_cases e:j=i
 ·subst e;rw[Ap] at c;cases c;exact d
 rw[Ai _ _ e] at c;exact h j p c
theorem oE {nx:Nat}(h:Jr nx hp):Jr nx (Dy id sz ver es hp):=by
 unfold Dy;split
 ·exact h
 exact fJ h rfl
theorem PI.shut {nx:Nat}{ov:AV}{nm:ByteArray}(h:PI q oid t rid ts rs nx)(e:nx<=nx2)(c:Cl ov):Jr nx2 (hpE q oid over t rid rver (Aq x bl ov) ts nm rs):=by
 unfold hpE;refine fJ (fJ (oE (oE fun j o d=>by cases d)) ?_) ?_
 ·cases rs with
  |nil=>rfl
  |cons a r=>
   have g:=(h.row (by simp)).2.2.2
   have:Gy nx2 rid=some rid:=ifp;simp[Cc,ED,CY,Ac,this]
 simp[Aq,Cc,ED,CY,c (Gy nx2)]
theorem PI.up {nx:Nat}(h:PI q oid t rid ts rs nx)(d:nx<=nx2):PI q oid t rid ts rs nx2:=
 ⟨fun c=>by have:=h.oq c;exact⟨this.1,by omega⟩,fun c=>by have:=h.row c;grind,h.tq,h.to,by have:=h.tn;omega,by have:=h.qn;omega⟩
theorem oF (x:Aj)(b:ByteArray):(Do x b).l=x.l:=by
 unfold Do;split
 ·split
  ·rfl
  exact(I9 x 9).1
 rfl
set_option maxRecDepth 8000 in
theorem yC {c f:Nat}{s:ByteArray}{y:List AG × Int × Int}(h:K0 n c f s=some y):AI Tryz.prog 26 [D.v (.string s)] (D.tu [D.sl (y.1.map AQ),D.v (.int .i64 y.2.1),D.v (.int .i64 y.2.2)]) false:=by
 unfold K0 at h;have⟨t,ht,h⟩:=AL h;refine zP #[.tmp 2,.tmp 3,.tmp 4] Tryz.func26 ?_;refine EE ?_;refine Cn (xy ht) ?_;refine Z0 ?_;refine AT (AT ?_);refine ZT 1 ?_;cases O:(t.2.2==0) with
 |false=>
  have ar:(t.2.2 != 0)=true:=by rw[bne,O];rfl
  rw[O,if_neg (by decide)] at h;cases h;refine Z1 ar ?_;refine ET (c:=true) rfl rfl ?_;refine Ay ?_;refine AP ?_;exact Ax
 |true=>
  have ar:(t.2.2 != 0)=false:=by rw[bne,O];rfl
  rw[O,if_pos rfl] at h;have⟨r,hr,h⟩:=AL h;refine Z1 ar ?_;refine DN (c:=false) rfl rfl ?_;refine AP ?_;refine EE ?_;refine AT (CS ?_);have L0:Jq 18 0 0 false (.v (.slice none 0 0)) ⟨t.1,0,(s.size:Int),0,0,0,[],0⟩ [] (upd 18 (some (Aq ⟨t.1,0,(s.size:Int),0,0,0,[],0⟩ false (.v (.slice none 0 0)))) AM) 21:=
   ⟨Ap _ _ _,fun hn=>absurd rfl hn,fun j aa=>by rw[Aa];rfl,by decide⟩
  refine DQ (α:={ z:Nat × Aj × List AG × Nat × Nat × AV × Hp × Nat // Jq 18 z.2.2.2.1 z.2.2.2.2.1 false z.2.2.2.2.2.1 z.2.1 z.2.2.1 z.2.2.2.2.2.2.1 z.2.2.2.2.2.2.2/\z.2.1.l=t.1/\JC n c f z.1 z.2.1 z.2.2.1=some r/\Cl z.2.2.2.2.2.1 })
   (fun z=>⟨upd 5 (.d (.sl (t.1.map Am)) false) (upd 8 (.pt 18 0) (upd 9 (Ac z.1.2.2.2.1 z.1.2.2.2.2.1 (z.1.2.2.1.map AQ)) AK)),z.1.2.2.2.2.2.2.1,z.1.2.2.2.2.2.2.2⟩) (fun z=>z.1.1)
   ⟨(c,⟨t.1,0,(s.size:Int),0,0,0,[],0⟩,[],0,0,.v (.slice none 0 0),_,21),L0,rfl,hr,fun _=>rfl⟩ ?_ ?_
  ·exact CT
  rintro⟨⟨k,x,ts,oid,over,K,a6,b8⟩,L,ab,m,a7⟩;dsimp only at L ab m a7;cases k with
  |zero=>cases m
  |succ k=>
  unfold JC at m;split at m;rotate_left
  ·cases m
  rename_i hw;have⟨⟨z1,z2,z3,z4⟩,z5,z6⟩:=hw;have c9:(x.l.map Am).length=t.1.length:=by rw[ab,LE]
  have da:x.p<=t.1.length:=by rw[<-ab];exact z2
  refine AT (AT ?_);refine ZT 1 ?_;cases O:(x.e==0) with
  |false=>
   have ar:(x.e != 0)=true:=(by rw[bne,O];rfl);rw[O,LT,if_neg (by decide)] at m;have⟨m1,m2⟩:=B5 (LM m);rw[<-m1,O,if_neg (by decide)] at h;cases h;refine Z1 (Y2 L.box O) ?_;refine AP ?_;refine AT (AT ?_);refine ZT 1 ?_;refine Z1 (Y2 L.box ar) ?_;refine ET (c:=true) rfl rfl ?_;refine AT (ZT 1 ?_);refine Z1 L.box ?_;refine DF (by rfl) ?_;refine AP ?_;exact Ax
  |true=>
   have ar:(x.e != 0)=false:=(by rw[bne,O];rfl);by_cases ad:x.p<t.1.length;rotate_left
   ·have c1:(decide ((x.p:Int)<(t.1.length:Int)))=false:=C6;rw[O,NC,if_neg (by rw[decide_eq_true_eq,ab];exact ad)] at m;have⟨m1,m2⟩:=B5 (LM m);rw[<-m1,<-m2,O,if_pos rfl] at h;cases h;refine Z1 (Y3 L.box O c1) ?_;refine AP ?_;refine AT (AT ?_);refine ZT 1 ?_;refine Z1 (Y2 L.box ar) ?_;refine DN (c:=false) rfl rfl ?_;refine AP ?_;refine Ay ?_;refine AP ?_;have bo:∃is,toR a6 (.tu [Ac oid over (ts.map AQ),.v (.int .i64 0),.v (.int .i64 0)])=some (D.tu [D.sl (ts.map AQ),D.v (.int .i64 0),D.v (.int .i64 0)],false,is):=by
     cases ts with
     |nil=>exact⟨_,rfl⟩
     |cons a u=>
      have lo:=(L.out (by simp)).1;exact⟨[oid],by simp[toR,Cj,Ek,Ce,Ac,lo,ca]⟩
    have⟨is,bo⟩:=bo;exact IU (v:=.tu [Ac oid over (ts.map AQ),.v (.int .i64 0),.v (.int .i64 0)]) (by simp -implicitDefEqProofs only[go_sem, ↓reduceIte,Ap,Nat.reduceEqDiff]<;>rfl) bo rfl fun _=>rfl
   have c1:(decide ((x.p:Int)<(t.1.length:Int)))=true:=Cp;rw[O,NC,if_pos (by rw[decide_eq_true_eq,ab];exact ad)] at m;have⟨tt,ao,m⟩:=AL m;refine Z1 (Y3 L.box O c1) ?_;refine AP ?_;refine CS ?_;obtain⟨zz,ap⟩:∃zz,zz=(if ts.length=200 then jS_ x 8 else x):=⟨_,rfl⟩;rw[<-ap] at ao;have kz:zz.l=x.l/\zz.out=x.out/\zz.deep=x.deep/\zz.p=x.p:=by
    rw[ap];split
    ·exact I9 x 8
    exact⟨rfl,rfl,rfl,rfl⟩
   refine AT (D3 (α:={ k:Nat // b8<=k }) (fun y=>⟨upd 5 (.d (.sl (t.1.map Am)) false) (upd 8 (.pt 18 0) (upd 9 (Ac oid over (ts.map AQ)) AK)),upd 18 (some (Aq zz false K)) a6,y.1⟩) ?_ ?_)
   ·refine AT (ZT 1 ?_);have lo:=L.out;cases ts with
    |nil=>
     rw[if_neg (by decide)] at ap;refine Z0 ?_;refine DN (c:=false) rfl rfl ?_;refine AP ?_;rw[ap];exact⟨⟨_,by omega⟩,Gd (Fv L.box) DS⟩
    |cons a u=>
     have lo:=(L.out (by simp)).1;by_cases ag:(a::u).length=200
     ·have av:(((u.length+1:Nat):Int)==200)=true:=(by simp at ag⊢;omega);rw[if_pos ag] at ap;refine Z1 (Y2 lo av) ?_;refine AP ?_;refine CR ((MS L.box (by omega)).mono ?_);rintro v br bs ⟨rfl,rfl,aE⟩;dsimp only at aE;refine Z0 ?_;rw[ap];exact⟨⟨_,by omega⟩,CT⟩
     have av:(((u.length+1:Nat):Int)==200)=false:=(by simp at ag⊢;omega);rw[if_neg ag] at ap;refine Z1 (Y2 lo av) ?_;refine DN (c:=false) rfl rfl ?_;refine AP ?_;rw[ap];exact⟨⟨_,by omega⟩,Gd (Fv L.box) DS⟩
   rintro⟨o,hk⟩;have L1:=L.put (x2:=zz) (ov2:=K) hk;refine AT ?_;obtain⟨S,P⟩:∃S,S=tyM zz:=⟨_,rfl⟩;unfold Kz at ao;rw[<-P] at ao;refine D3 (α:={ k:Nat // o<=k }) (fun y=>⟨upd 5 (.d (.sl (t.1.map Am)) false) (upd 8 (.pt 18 0) (upd 9 (Ac oid over (ts.map AQ)) AK)),upd 18 (some (Aq S false K)) (upd 18 (some (Aq zz false K)) a6),y.1⟩) ?_ ?_
   ·refine AT (ZT 1 ?_);have et:t.1[zz.p]? =some t.1[x.p]:=(by rw[kz.2.2.2];exact Le ad);have e2:(t.1.map Am)[zz.p]? =some [D.v (.int .i64 t.1[x.p].kind),D.v (.int .i64 t.1[x.p].at_),D.v (.string t.1[x.p].text)]:=Cr Am et;unfold tyM at P;rw[kz.1,ab,et] at P;dsimp only at P;have w:=Y2 L1.box (Y3 e2 (A8 .i64 (show(0:Int)<=(zz.p:Int) by omega)) (show((zz.p:Int)).toNat=zz.p from Lk _));cases a1:(zz.e==0) with
    |false=>
     rw[a1,if_neg (by decide)] at P;refine Z1 (Y2 a1 w) ?_;refine DN (c:=false) rfl rfl ?_;refine AP ?_;rw[P];exact⟨⟨_,by omega⟩,Gd (Em ..) DS⟩
    |true=>
     rw[a1,if_pos rfl] at P;cases a8:(t.1[x.p].kind==1) with
     |false=>
      have a9:(t.1[x.p].kind != 1)=true:=(by rw[bne,a8];rfl);rw[a8,if_neg (by decide)] at P;refine Z1 (Y3 a1 a9 w) ?_;refine AP ?_;refine CR ((MS L1.box (by rw[kz.1];omega)).mono ?_);rintro v br bs ⟨rfl,rfl,aE⟩;dsimp only at aE;refine Z0 ?_;rw[P];exact⟨⟨_,by omega⟩,CT⟩
     |true=>
      have a9:(t.1[x.p].kind != 1)=false:=(by rw[bne,a8];rfl);rw[a8,if_pos rfl] at P;cases ba:(t.1[x.p].text.toList==bType.toList) with
      |true=>
       have bx:(t.1[x.p].text.toList==({ data:= #[116,121,112,101] }:ByteArray).toList)=true:=ba;rw[ba,if_pos rfl] at P;refine Z1 (Y4 a1 a9 bx w) ?_;refine DN (c:=false) rfl rfl ?_;refine AP ?_;rw[P];exact⟨⟨_,by omega⟩,Gd (Em ..) DS⟩
      |false=>
       have bx:(t.1[x.p].text.toList==({ data:= #[116,121,112,101] }:ByteArray).toList)=false:=ba;rw[ba,if_neg (by decide)] at P;refine Z1 (Y4 a1 a9 bx w) ?_;refine AP ?_;refine CR ((MS L1.box (by rw[kz.1];omega)).mono ?_);rintro v br bs ⟨rfl,rfl,aE⟩;dsimp only at aE;refine Z0 ?_;rw[P];exact⟨⟨_,by omega⟩,CT⟩
   rintro⟨g,hl⟩;have b0:S.l=t.1/\S.p=x.p/\S.deep=x.deep:=by
    have k8:=(I9 zz 9);rw[P];unfold tyM;rw[<-ab,<-kz.1,<-kz.2.2.2,<-kz.2.2.1];split
    ·split
     ·split
      ·split
       ·exact⟨rfl,rfl,rfl⟩
       exact⟨k8.1,k8.2.2.2,k8.2.2.1⟩
      exact⟨k8.1,k8.2.2.2,k8.2.2.1⟩
     exact⟨k8.1,k8.2.2.2,k8.2.2.1⟩
    exact⟨rfl,rfl,rfl⟩
   have L2:=(L1.put (x2:=S) (ov2:=K) hl);rw[Em] at L2⊢;have⟨l,b4,ao⟩:=AL ao;refine AT (ZT 1 ?_);refine Z1 (Y2 L2.box (Al (n:=S.p) (by rw[b0.2.1];omega))) ?_;refine Ay ?_;have L3:=L2.put (x2:={ S with p:=S.p+1 }) (ov2:=K) (Lc _);refine CR ((QY L3.box (by show S.l.length<_;rw[b0.1,<-ab];omega) b4).mono ?_);rintro v dd b5 ⟨rfl,rfl,b9⟩;dsimp only at b9;refine Z0 ?_;have L4:Hw 18 oid over (g+8+3) 0 0 false K l.1 ts l.2 [] (upd (g+8+3) (some (.bx [.v (.string l.2),.v (.slice none 0 0)])) (upd (g+8+3) (some (.bx [.v (.string ByteArray.empty),.v (.slice none 0 0)])) (upd 18 (some (Aq l.1 false K)) (upd 18 (some (Aq { S with p:=S.p+1 } false K)) (upd 18 (some (Aq S false K)) a6))))) b5:=by
    have L5:=L3.put (x2:=l.1) (ov2:=K) (nx2:=b5) (by omega);have df:=L2.qn;refine⟨⟨by rw[Aa,Aa];exact L5.box,fun Q=> ?_,fun j aa=>by rw[Aa,Aa];exact L5.new j aa,L5.qn⟩,Ap _ _ _,fun hn=>absurd rfl hn,by omega,fun Q=> ?_,by omega⟩
    ·have A:=L5.out Q;have T:=(L2.out Q).2.2;exact⟨by rw[Aa,Aa];exact A.1,A.2⟩
    have T:=(L2.out Q).2.2;omega
   generalize eH:(upd (g+8+3) (some _) _:Hp)=cb at L4⊢;have⟨q,hq,ao⟩:=AL ao;cases ao;have cf:=JA b4;have a3:l.1.l=t.1:=cf.1.trans b0.1;have dk:t.1.length<1152921504606846976:=(by rw[<-ab];exact z1);refine AT (D3 (α:={ z:Nat × Nat × AV × Hp × Nat // Hw 18 oid over (g+8+3) z.1 z.2.1 false z.2.2.1 q.1 ts l.2 q.2 z.2.2.2.1 z.2.2.2.2/\Cl z.2.2.1/\q.1.l=t.1 }) (fun z=>⟨upd 5 (.d (.sl (t.1.map Am)) false) (upd 8 (.pt 18 0) (upd 9 (Ac oid over (ts.map AQ)) (upd 10 (.pt (g+8+3) 0) AK))),z.1.2.2.2.1,z.1.2.2.2.2⟩) ?_ ?_)
   ·refine AT (ZT 1 ?_);cases bb:(l.1.e==0) with
    |false=>
     rw[bb,LT,if_neg (by decide)] at hq;cases hq;refine Z1 (Y2 L4.a.box bb) ?_;refine DN (c:=false) rfl rfl ?_;refine AP ?_;exact⟨⟨(0,0,K,cb,_),L4.up (by dsimp only;omega),a7,a3⟩,CT⟩
    |true=>
     rw[bb,NC] at hq;refine Z1 (Y2 L4.a.box bb) ?_;refine CR ((I8 L4.a.box (by rw[a3];omega)).mono ?_);rintro v ch b6 ⟨rfl,rfl,cp⟩;dsimp only at cp;cases hi:isM l.1 SY with
     |false=>
      have a0:isM l.1 { data:= #[123] }=false:=hi;rw[hi,if_neg (by decide)] at hq;cases hq;refine Z1 a0 ?_;refine DN (c:=false) rfl rfl ?_;refine AP ?_;exact⟨⟨(0,0,K,ch,_),L4.up (by dsimp only;omega),a7,a3⟩,CT⟩
     |true=>
      have a0:isM l.1 { data:= #[123] }=true:=hi;have cs:=GR hi;rw[a3] at cs;rw[hi,if_pos rfl] at hq;obtain⟨⟨xf,cx⟩,cN,rfl⟩:=La.1 hq;refine Z1 a0 ?_;refine ET (c:=true) rfl rfl ?_;refine AT (ZT 1 ?_);refine Z1 (Y2 L4.a.box (Al (n:=l.1.p))) ?_;have L5:=L4.put (x2:={ l.1 with p:=l.1.p+1 }) (ov2:=K) (nx2:=b6+8) (by omega);refine AT (CS ?_);refine DQ (α:={ z:Nat × Aj × List AW × Nat × Nat × AV × Nat // PI 18 oid (g+8+3) z.2.2.2.1 ts z.2.2.1 z.2.2.2.2.2.2/\Cl z.2.2.2.2.2.1/\z.2.1.l=t.1/\Hb n c f z.1 z.2.1 z.2.2.1=some (xf,cx) })
       (fun z=>⟨upd 5 (.d (.sl (t.1.map Am)) false) (upd 8 (.pt 18 0) (upd 9 (Ac oid over (ts.map AQ)) (upd 10 (.pt (g+8+3) 0) AK))),hpE 18 oid over (g+8+3) z.1.2.2.2.1 z.1.2.2.2.2.1 (Aq z.1.2.1 false z.1.2.2.2.2.2.1) ts l.2 z.1.2.2.1,z.1.2.2.2.2.2.2⟩) (fun z=>z.1.1)
       ⟨(c,{ l.1 with p:=l.1.p+1 },[],0,0,K,b6+8),L5.dis,a7,a3,cN⟩ ?_ ?_
      ·exact .weak ⟨DE rfl DS,fun i=>L5.toE i,Lc _⟩
      rintro⟨⟨kk,w,rs,rid,rver,N,dl⟩,D,aq,V,G⟩;dsimp only at D aq V G;cases kk with
      |zero=>cases G
      |succ kk=>
      unfold Hb at G;split at G;rotate_left
      ·cases G
      rename_i c0;have⟨⟨w1,w2,w3,w4⟩,w5,w6⟩:=c0;have B:=D.b (over:=over) (rver:=rver) (bl:=false) (ov:=N) (x:=w) (nm:=l.2);have dm:w.p<=t.1.length:=(by rw[<-V];exact w2);refine AT (AT ?_);refine ZT 1 ?_;cases a2:(w.e==0) with
      |false=>
       rw[a2,LT,if_neg (by decide)] at G;refine Z1 (Y2 B.a.box a2) ?_;have⟨b1,b2⟩:=B5 (LM G);subst b1;subst b2;refine AP ?_;refine AP ?_;refine CR ((SS B.a.box (by rw[V];omega) (by omega)).mono ?_);rintro v c2 c3 ⟨rfl,rfl,b3⟩;dsimp only at b3;refine Z0 ?_;exact⟨⟨(rid,rver,N,_,_),B.put (by dsimp only;omega),aq,(oF w GS).trans V⟩,CT⟩
      |true=>
       rw[a2,NC] at G;refine Z1 (Y2 B.a.box a2) ?_;refine CR ((I8 B.a.box (by rw[V];omega)).mono ?_);rintro v hpB c4 ⟨rfl,rfl,c5⟩;dsimp only at c5;cases bd:isM w GS with
       |true=>
        have a0:isM w { data:= #[125] }=true:=bd;rw[bd,if_neg (by decide)] at G;refine Z1 a0 ?_;have⟨b1,b2⟩:=B5 (LM G);subst b1;subst b2;refine AP ?_;refine AP ?_;refine CR ((SS B.a.box (by rw[V];omega) (by omega)).mono ?_);rintro v c2 c3 ⟨rfl,rfl,b3⟩;dsimp only at b3;refine Z0 ?_;exact⟨⟨(rid,rver,N,_,_),B.put (by dsimp only;omega),aq,(oF w GS).trans V⟩,CT⟩
       |false=>
        have a0:isM w { data:= #[125] }=false:=bd;rw[bd,if_pos (by decide)] at G;refine Z1 a0 ?_;refine AP ?_;refine CS ?_;obtain⟨J,U⟩:∃J,J=(if rs.length=200 then jS_ w 8 else w):=⟨_,rfl⟩;refine AT (D3 (α:={ k:Nat // c4<=k }) (fun y=>⟨upd 5 (.d (.sl (t.1.map Am)) false) (upd 8 (.pt 18 0) (upd 9 (Ac oid over (ts.map AQ)) (upd 10 (.pt (g+8+3) 0) AK))),hpE 18 oid over (g+8+3) rid rver (Aq J false N) ts l.2 rs,y.1⟩) ?_ ?_)
        ·refine AT (ZT 1 ?_);have lt:=B.tb;cases rs with
         |nil=>
          rw[if_neg (by decide)] at U;refine Z1 lt ?_;refine DN (c:=false) rfl rfl ?_;refine AP ?_;rw[U];exact⟨⟨_,by omega⟩,CT⟩
         |cons a u=>
          by_cases ag:(a::u).length=200
          ·have av:(((u.length+1:Nat):Int)==200)=true:=(by simp at ag⊢;omega);rw[if_pos ag] at U;refine Z1 (Y2 lt av) ?_;refine AP ?_;refine CR ((MS B.a.box (by rw[V];omega)).mono ?_);rintro v br bs ⟨rfl,rfl,aE⟩;dsimp only at aE;refine Z0 ?_;rw[U];exact⟨⟨_,by omega⟩,.weak ⟨DE rfl DS,fun i=>(B.put (x2:=jS_ w 8) (ov2:=N) (Lc _)).toE i,Lc _⟩⟩
          have av:(((u.length+1:Nat):Int)==200)=false:=(by simp at ag⊢;omega);rw[if_neg ag] at U;refine Z1 (Y2 lt av) ?_;refine DN (c:=false) rfl rfl ?_;refine AP ?_;rw[U];exact⟨⟨_,by omega⟩,CT⟩
        rintro⟨o,hk⟩;have Dz:=D.up (nx2:=o) (by omega);have d:=Dz.b (over:=over) (rver:=rver) (bl:=false) (ov:=N) (x:=J) (nm:=l.2);have c6:J.l=w.l/\J.p=w.p:=by
         rw[U];split
         ·exact⟨(I9 w 8).1,(I9 w 8).2.2.2⟩
         exact⟨rfl,rfl⟩
        refine AT (ZT 1 ?_);by_cases b7:rs.length=200
        ·rw[if_pos b7] at U G;have c7:(J.e==0)=false:=(by rw[U];exact XE a2 rfl);rw[<-U] at G;refine Z1 (Y2 d.a.box c7) ?_;refine DN (c:=false) rfl rfl ?_;refine AP ?_;exact⟨⟨(kk,J,rs,rid,rver,N,_),Dz.up (by dsimp only;omega),aq,c6.1.trans V,G⟩,CT,Ls kk⟩
        rw[if_neg b7] at U G;subst U;have⟨C,be,G⟩:=AL G;refine Z1 (Y2 d.a.box a2) ?_;refine ZT 1 ?_;cases rs with
        |nil=>
         refine Z1 d.tb ?_;refine Pv (δ:=[(18,Aq C.1 false (ovD (wF_ n J) C.2 N))]) (oJ (fun j aa=>d.a.new j (by omega)) (Dz.shut (by omega) aq) d.a.box be) ?_;have g1:(g+8+3=18)=False:=eq_false d.tq;have g2:(g+8+3=o+5+4)=False:=eq_false (by have:=d.tn;omega);have g3:(g+8+3=o+5+5)=False:=eq_false (by have:=d.tn;omega);refine Z1 (Y4 d.tb g1 g2 g3) ?_;have v1:Ci (g+8+3) 18 (o+5+4) (o+5+5) (g+8+3)=1:=(by simp[Ci]);have v2:Ci (g+8+3) 18 (o+5+4) (o+5+5) 18=2:=(by unfold Ci;rw[if_neg (Ne.symm d.tq),if_pos rfl]);have v3:Ci (g+8+3) 18 (o+5+4) (o+5+5) (o+5+4)=3:=(by unfold Ci;rw[if_neg (by have:=d.tn;omega),if_neg (by have:=d.a.qn;omega),if_pos rfl]);have v4:Ci (g+8+3) 18 (o+5+4) (o+5+5) (o+5+5)=4:=(by unfold Ci;rw[if_neg (by have:=d.tn;omega),if_neg (by have:=d.a.qn;omega),ifn,if_pos rfl]);refine fL (Ci (g+8+3) 18 (o+5+4) (o+5+5)) _ rfl (by simp only[Nl,Np,LA,LL,Li,Lw,Qa,Qb,v1,v2,v3,v4];rfl) ?_;generalize eU:(upd (g+8+3) (some _) _:Hp)=ak;have u1:ak (g+8+3)=some (.bx [.v (.string l.2),.so (o+5+5) 0 0 1]):=(by rw[<-eU,Ap]);have X:ak (o+5+5)=some (.rw ([[.v (.string C.2.name),.sl (C.2.subs.map AR),.sl (C.2.expr.map AX)]]) 3 (0) false false):=(by rw[<-eU,Ai _ _ (by have:=d.tn;omega),Ap]);have H:∀j,j≠g+8+3->j≠o+5+5->j≠o+5+4->ak j=upd 18 (some (Aq C.1 false (ovD (wF_ n J) C.2 N))) (hpE 18 oid over (g+8+3) rid rver (Aq J false N) ts l.2 ([])) j:=fun j A T h3=>(by rw[<-eU,Ai _ _ A,Ai _ _ T,Ai _ _ h3]);have tn:=d.tn;have qn:=d.a.qn;have L9:Hw 18 oid over (g+8+3) (o+5+5) (0) false (ovD (wF_ n J) C.2 N) C.1 ts l.2 ([]++[C.2]) ak (o+5+8):=by
          refine⟨⟨(H 18 (Ne.symm d.tq) (by omega) (by omega)).trans (Ap _ _ _),fun Q=> ?_,fun j aa=> ?_,by omega⟩,u1.trans (by rfl),fun _=>⟨X.trans (by rfl),by have:=d.a.qn;omega,by have:=d.tn;omega,fun Q=> ?_,by omega⟩,d.tq,d.to,by omega⟩
          ·have A:=d.a.out Q;exact⟨(H oid (d.to Q).symm (by have:=A.2.2;omega) (by have:=A.2.2;omega)).trans (by rw[Ai _ _ A.2.1];exact A.1),A.2.1,by have:=A.2.2;omega⟩
          ·exact(H j (by omega) (by omega) (by omega)).trans (by rw[Aa];exact d.a.new j (by omega))
          have:=(d.a.out Q).2.2;omega
         exact⟨⟨(kk,C.1,[]++[C.2],o+5+5,0,ovD (wF_ n J) C.2 N,o+5+8),L9.dis,oD aq,(oS be).trans V,G⟩,.weak ⟨DE rfl DS,fun i=>L9.toE i,Lc _⟩,Ls kk⟩
        |cons a u=>
         refine Z1 d.tb ?_;refine Pv (δ:=[(18,Aq C.1 false (ovD (wF_ n J) C.2 N))]) (oJ (fun j aa=>d.a.new j (by omega)) (Dz.shut (by omega) aq) d.a.box be) ?_;have g1:(g+8+3=18)=False:=eq_false d.tq;have g2:(g+8+3=o+5+4)=False:=eq_false (by have:=d.tn;omega);have F:=d.row (by simp);have g3:(g+8+3=rid)=False:=eq_false F.2.2.1.symm;have g4:(rid=18)=False:=eq_false F.2.1;have g5:(rid=o+5+4)=False:=eq_false (by have:=F.2.2.2.2;omega);have ad:(u.length+1+1<=4294967296)=True:=eq_true (by simp only[Lh] at w6;omega);refine Z1 (Y2 (Y6 d.tb F.1 g1 g2 g3 g4) (Y2 g5 ad)) ?_;have v1:Ci (g+8+3) 18 (o+5+4) (rid) (g+8+3)=1:=(by simp[Ci]);have v2:Ci (g+8+3) 18 (o+5+4) (rid) 18=2:=(by unfold Ci;rw[if_neg (Ne.symm d.tq),if_pos rfl]);have v3:Ci (g+8+3) 18 (o+5+4) (rid) (o+5+4)=3:=(by unfold Ci;rw[if_neg (by have:=d.tn;omega),if_neg (by have:=d.a.qn;omega),if_pos rfl]);have v4:Ci (g+8+3) 18 (o+5+4) (rid) (rid)=4:=(by unfold Ci;rw[if_neg (F.2.2.1),if_neg (F.2.1),if_neg (by have:=F.2.2.2.2;omega),if_pos rfl]);refine fL (Ci (g+8+3) 18 (o+5+4) (rid)) _ rfl (by simp only[Nl,Np,LA,LL,Li,Lw,Qa,Qb,v1,v2,v3,v4];rfl) ?_;generalize eU:(upd (g+8+3) (some _) _:Hp)=ak;have u1:ak (g+8+3)=some (.bx [.v (.string l.2),.so rid (rver+1) 0 (u.length+1+1)]):=(by rw[<-eU,Ap]);have X:ak (rid)=some (.rw (Ah a::(u.map Ah++[[.v (.string C.2.name),.sl (C.2.subs.map AR),.sl (C.2.expr.map AX)]])) 3 (rver+1) false false):=(by rw[<-eU,Ai _ _ (F.2.2.1),Ap]);have H:∀j,j≠g+8+3->j≠rid->j≠o+5+4->ak j=upd 18 (some (Aq C.1 false (ovD (wF_ n J) C.2 N))) (hpE 18 oid over (g+8+3) rid rver (Aq J false N) ts l.2 ((a::u))) j:=fun j A T h3=>(by rw[<-eU,Ai _ _ A,Ai _ _ T,Ai _ _ h3]);have tn:=d.tn;have qn:=d.a.qn;have L9:Hw 18 oid over (g+8+3) (rid) (rver+1) false (ovD (wF_ n J) C.2 N) C.1 ts l.2 ((a::u)++[C.2]) ak (o+5+8):=by
          refine⟨⟨(H 18 (Ne.symm d.tq) (Ne.symm F.2.1) (by omega)).trans (Ap _ _ _),fun Q=> ?_,fun j aa=> ?_,by omega⟩,u1.trans (by simp[Ac]),fun _=>⟨X.trans (by simp),F.2.1,F.2.2.1,fun Q=> ?_,by have:=F.2.2.2.2;omega⟩,d.tq,d.to,by omega⟩
          ·have A:=d.a.out Q;exact⟨(H oid (d.to Q).symm (fun e=>F.2.2.2.1 Q e.symm) (by have:=A.2.2;omega)).trans (by rw[Ai _ _ A.2.1];exact A.1),A.2.1,by have:=A.2.2;omega⟩
          ·exact(H j (by omega) (by have:=F.2.2.2.2;omega) (by omega)).trans (by rw[Aa];exact d.a.new j (by omega))
          exact F.2.2.2.1 Q
         exact⟨⟨(kk,C.1,(a::u)++[C.2],rid,rver+1,ovD (wF_ n J) C.2 N,o+5+8),L9.dis,oD aq,(oS be).trans V,G⟩,.weak ⟨DE rfl DS,fun i=>L9.toE i,Lc _⟩,Ls kk⟩
   rintro⟨⟨rid,rver,R,bg,E⟩,M,a4,a5⟩;have⟨qx,qr⟩:=q;dsimp only at M a4 a5 m;refine ZT 1 ?_;have tn:=M.tn;have qn:=M.a.qn;cases qr with
   |nil=>
    cases ts with
    |nil=>
     refine Z1 M.tb ?_;generalize Y:(upd (E+3) (some _) _:Hp)=I;have X:I (E+3)=some (.rw ((([]++[(⟨l.2,[]⟩:AG)]):List AG).map AQ) 2 (0) false false):=(by rw[<-Y,Ap];simp);have H:∀j,j≠E+3->j≠E+2->I j=bg j:=fun j A T=>(by rw[<-Y,Ai _ _ A,Ai _ _ T]);have PA:Jq 18 (E+3) (0) false R qx ([]++[⟨l.2,[]⟩]) I (E+5):=⟨(H 18 (Ne.symm (by omega)) (by omega)).trans M.a.box,fun _=>⟨X,by omega,by omega⟩,fun j aa=>(H j (by omega) (by omega)).trans (M.a.new j (by omega)),by omega⟩
     exact⟨⟨(k,qx,[]++[⟨l.2,[]⟩],E+3,0,R,I,E+5),PA,a5,m,a4⟩,Mg (DE rfl (DE rfl (DE (by simp[Ac,upd]) (MH _)))),Ls k⟩
    |cons a u=>
     have Z:=M.a.out (by simp);have g1:(oid=E+2)=False:=Ey;have ad:(u.length+1+1<=4294967296)=True:=eq_true (by simp only[Lh] at z6;omega);refine Z1 (Y4 M.tb Z.1 g1 ad) ?_;generalize Y:(upd (oid) (some _) _:Hp)=I;have X:I (oid)=some (.rw ((((a::u)++[(⟨l.2,[]⟩:AG)]):List AG).map AQ) 2 (over+1) false false):=(by rw[<-Y,Ap];simp);have H:∀j,j≠oid->j≠E+2->I j=bg j:=fun j A T=>(by rw[<-Y,Ai _ _ A,Ai _ _ T]);have PA:Jq 18 (oid) (over+1) false R qx ((a::u)++[⟨l.2,[]⟩]) I (E+5):=⟨(H 18 (Ne.symm (Z.2.1)) (by omega)).trans M.a.box,fun _=>⟨X,Z.2.1,by have:=Z.2.2;omega⟩,fun j aa=>(H j (by have:=Z.2.2;omega) (by omega)).trans (M.a.new j (by omega)),by omega⟩
     exact⟨⟨(k,qx,(a::u)++[⟨l.2,[]⟩],oid,over+1,R,I,E+5),PA,a5,m,a4⟩,Mg (DE rfl (DE rfl (DE (by simp[Ac,upd]) (MH _)))),Ls k⟩
   |cons b w=>
    have F:=M.row (by simp);cases ts with
    |nil=>
     have g2:(rid=E+2)=False:=Ey;refine Z1 (Y3 M.tb F.1 g2) ?_;generalize Y:(upd (E+3) (some _) _:Hp)=I;have X:I (E+3)=some (.rw ((([]++[(⟨l.2,(b::w)⟩:AG)]):List AG).map AQ) 2 (0) false false):=(by rw[<-Y,Ap];simp);have H:∀j,j≠E+3->j≠E+2->j≠rid->I j=bg j:=fun j A T h3=>(by rw[<-Y,Ai _ _ A,Ai _ _ T,Ai _ _ h3]);have PA:Jq 18 (E+3) (0) false R qx ([]++[⟨l.2,(b::w)⟩]) I (E+5):=⟨(H 18 (Ne.symm (by omega)) (by omega) (Ne.symm F.2.1)).trans M.a.box,fun _=>⟨X,by omega,by omega⟩,fun j aa=>(H j (by omega) (by omega) (by have:=F.2.2.2.2;omega)).trans (M.a.new j (by omega)),by omega⟩
     exact⟨⟨(k,qx,[]++[⟨l.2,(b::w)⟩],E+3,0,R,I,E+5),PA,a5,m,a4⟩,Mg (DE rfl (DE rfl (DE (by simp[Ac,upd]) (MH _)))),Ls k⟩
    |cons a u=>
     have Z:=M.a.out (by simp);have g1:(oid=E+2)=False:=Ey;have g2:(rid=E+2)=False:=Ey;have g3:(oid=rid)=False:=eq_false (fun e=>F.2.2.2.1 (by simp) e.symm);have ad:(u.length+1+1<=4294967296)=True:=eq_true (by simp only[Lh] at z6;omega);refine Z1 (Y2 (Y6 M.tb F.1 Z.1 g1 g2 g3) ad) ?_;generalize Y:(upd (oid) (some _) _:Hp)=I;have X:I (oid)=some (.rw ((((a::u)++[(⟨l.2,(b::w)⟩:AG)]):List AG).map AQ) 2 (over+1) false false):=(by rw[<-Y,Ap];simp);have H:∀j,j≠oid->j≠E+2->j≠rid->I j=bg j:=fun j A T h3=>(by rw[<-Y,Ai _ _ A,Ai _ _ T,Ai _ _ h3]);have PA:Jq 18 (oid) (over+1) false R qx ((a::u)++[⟨l.2,(b::w)⟩]) I (E+5):=⟨(H 18 (Ne.symm (Z.2.1)) (by omega) (Ne.symm F.2.1)).trans M.a.box,fun _=>⟨X,Z.2.1,by have:=Z.2.2;omega⟩,fun j aa=>(H j (by have:=Z.2.2;omega) (by omega) (by have:=F.2.2.2.2;omega)).trans (M.a.new j (by omega)),by omega⟩
     exact⟨⟨(k,qx,(a::u)++[⟨l.2,(b::w)⟩],oid,over+1,R,I,E+5),PA,a5,m,a4⟩,Mg (DE rfl (DE rfl (DE (by simp[Ac,upd]) (MH _)))),Ls k⟩
end Go.Proofs.YtnmkbmefohakmaaGreat.Ab
