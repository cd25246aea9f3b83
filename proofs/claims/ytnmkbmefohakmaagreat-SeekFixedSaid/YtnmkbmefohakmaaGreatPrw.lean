/-
 The document's tokens come to an end, and are none longer than their text. No program in sight.
-/
import Derived.Test.YtnmkbmefohakmaaGreatPrd
import Derived.Test.YtnmkbmefohakmaaGreatAbS
set_option linter.all false
namespace Go.Proofs.YtnmkbmefohakmaaGreat.Ab
open Go.RowKit
def Ky:ByteArray:={ data:= #[43] }
def DW:ByteArray:={ data:= #[45] }
def GH (a:Aj->Option Aj):Nat->Aj->Option Aj
 |0,_=>none
 |c+1,x=>if D8 x then(if x.e==0&&(isM x Ky||isM x DW) then(a { x with p:=x.p+1 }).bind fun y=>if y.out.length<=200 then GH a c (DO y ⟨if isM x DW then 4 else 3,ByteArray.empty,ByteArray.empty⟩ (Hv x)) else none else some x) else none
def E8 (n c:Nat):Nat->Aj->Option Aj
 |0,_=>none
 |f+1,x=>(F6 n (E8 n c f) c x).bind (GH (F6 n (E8 n c f) c) c)
set_option maxRecDepth 8000 in
theorem oC {n c:Nat}:∀f:Nat,XB 86 (E8 n c f)
 |0=>fun _ _ _ _ _ _ _ _ _ _ _ h=>by cases h
 |f+1=>by
  intro hp g q e ar x y bl hf hI ho h;have u:=yB (n:=n) (c:=c) (oC (n:=n) (c:=c) f);unfold E8 at h;have⟨x1,h1,h⟩:=AL h;generalize F6 n (E8 n c f) c=av at u h1 h;have a7:q<g:=Cd hf hI.box;refine zq Tryz.func86 ?_;refine Ay ?_;refine CR ((u _ _ q e ar _ x1 bl (fun j a=> ?_) hI (by dsimp only;omega) h1).mono ?_)
  ·dsimp only at a⊢;exact hf j (by omega)
  rintro v aE nx2 ⟨rfl,hP⟩;refine Z0 ?_;refine CS ?_;refine DQ (α:={ t:Nat × Aj × Hp × Nat // MT hp g q e x t.2.1 bl t.2.2.1 t.2.2.2/\GH av t.1 t.2.1=some y })
   (fun t=>⟨upd 0 (.pt q 0) AK,t.1.2.2.1,t.1.2.2.2⟩) (fun t=>t.1.1) ⟨(c,x1,aE,nx2),?_,h⟩ ?_ ?_
  ·exact hP.trans (oid1:=e) (by dsimp only;omega) (by dsimp only;omega) (fun b=>.inl ⟨b,rfl⟩) fun _ _ _ _=>rfl
  ·exact CT
  rintro⟨⟨c,z,a8,V⟩,X,m⟩;dsimp only at X m;cases c with
  |zero=>cases m
  |succ c=>
  unfold GH at m;split at m;rotate_left
  ·cases m
  rename_i hw;have⟨w1,w2,w3,w4⟩:=hw;have ag:=X;have⟨P,Q,I,fr,Y,a9,ba,oc⟩:=X;have d:=I.box;obtain⟨ov,R⟩:∃ov,ov=Ac P Q (z.out.map AX):=⟨_,rfl⟩;rw[<-R] at d;refine AT (AT ?_);refine ZT 1 ?_;cases S:(z.e==0) with
  |false=>
   rw[S,LT,if_neg (by decide)] at m;cases m;refine Z1 (Y2 d S) ?_;refine AP ?_;exact⟨_,_,rfl,⟨fun _=>.inr rfl⟩,rfl,ag.up (by dsimp only;omega)⟩
  |true=>
   refine Z1 (Y2 d S) ?_;refine CR ((I8 d (by omega)).mono ?_);rintro v bb bd ⟨rfl,rfl,a0⟩;dsimp only at a0;rw[S,NC] at m;cases w:isM z Ky with
   |true=>
    have Z:isM z { data:= #[43] }=true:=w;have a1:=GR w;rw[w,Oq,if_pos rfl] at m;refine Z1 Z ?_;have⟨l,T,m⟩:=AL m;split at m;rotate_left
    ·cases m
    rename_i U;refine AP ?_;refine CS ?_;refine Ay ?_;refine CR ((W9 d (by omega)).mono ?_);rintro v a2 a3 ⟨rfl,rfl,aa⟩;dsimp only at aa;refine Dt ?_;refine Z0 ?_;refine EZ ?_;refine CR ((I8 d (by omega)).mono ?_);rintro v a4 a5 ⟨rfl,rfl,ab⟩;dsimp only at ab;cases i:isM z DW with
    |true=>
     have o:isM z { data:= #[45] }=true:=i;rw[i,if_pos rfl] at m;refine Z1 o ?_;refine AP ?_;have A:=I.upd (y:={ z with p:=z.p+1 }) rfl R;refine AT (ZT 1 ?_);refine Z1 (Y2 d (Al (n:=z.p))) ?_;refine Ay ?_;refine CR ((u _ _ q P Q _ l bl (fun j a=> ?_) A (by dsimp only;omega) T).mono ?_)
     ·dsimp only at a⊢
      have:q<V:=by omega
      repeat rw[Aa]
      exact Y j (by omega)
     rintro v ak ao ⟨rfl,B⟩;have C:=B.trans (hp:=hp) (nx:=g) (x0:=x) (oid:=e) (by dsimp only;omega) (by dsimp only;omega) oc fun j E k F=>by
      repeat rw[Ai _ _ k]
      exact fr j E k F
     have⟨o2,v2,J,G,H,ap,aq,K⟩:=C;refine Fc ?_;refine CR ((MU (s:=⟨4,ByteArray.empty,ByteArray.empty⟩) (fun j a=> ?_) J (by dsimp only;omega) rfl U).mono ?_)
     ·dsimp only at a⊢;exact H j (by omega)
     rintro v M N ⟨rfl,O⟩;refine Z0 ?_;exact⟨⟨(c,DO l ⟨4,ByteArray.empty,ByteArray.empty⟩ (Hv z),M,N),O.trans (by dsimp only;omega) (by dsimp only;omega) K G,m⟩,CT,Ls c⟩
    |false=>
     have o:isM z { data:= #[45] }=false:=i;rw[i,if_neg (by decide)] at m;refine Z1 o ?_;refine DN (c:=false) rfl rfl ?_;refine AP ?_;have A:=I.upd (y:={ z with p:=z.p+1 }) rfl R;refine AT (ZT 1 ?_);refine Z1 (Y2 d (Al (n:=z.p))) ?_;refine Ay ?_;refine CR ((u _ _ q P Q _ l bl (fun j a=> ?_) A (by dsimp only;omega) T).mono ?_)
     ·dsimp only at a⊢
      have:q<V:=by omega
      repeat rw[Aa]
      exact Y j (by omega)
     rintro v ak ao ⟨rfl,B⟩;have C:=B.trans (hp:=hp) (nx:=g) (x0:=x) (oid:=e) (by dsimp only;omega) (by dsimp only;omega) oc fun j E k F=>by
      repeat rw[Ai _ _ k]
      exact fr j E k F
     have⟨o2,v2,J,G,H,ap,aq,K⟩:=C;refine Fc ?_;refine CR ((MU (s:=⟨3,ByteArray.empty,ByteArray.empty⟩) (fun j a=> ?_) J (by dsimp only;omega) rfl U).mono ?_)
     ·dsimp only at a⊢;exact H j (by omega)
     rintro v M N ⟨rfl,O⟩;refine Z0 ?_;exact⟨⟨(c,DO l ⟨3,ByteArray.empty,ByteArray.empty⟩ (Hv z),M,N),O.trans (by dsimp only;omega) (by dsimp only;omega) K G,m⟩,CT,Ls c⟩
   |false=>
    have Z:isM z { data:= #[43] }=false:=w;rw[w,Be] at m;refine Z1 Z ?_;refine CR ((I8 d (by omega)).mono ?_);rintro v be bg ⟨rfl,rfl,a6⟩;dsimp only at a6;cases r:isM z DW with
    |true=>
     have ad:isM z { data:= #[45] }=true:=r;have a1:=GR r;rw[r,if_pos rfl] at m;refine Z1 ad ?_;have⟨l,T,m⟩:=AL m;split at m;rotate_left
     ·cases m
     rename_i U;refine AP ?_;refine CS ?_;refine Ay ?_;refine CR ((W9 d (by omega)).mono ?_);rintro v a2 a3 ⟨rfl,rfl,aa⟩;dsimp only at aa;refine Dt ?_;refine Z0 ?_;refine EZ ?_;refine CR ((I8 d (by omega)).mono ?_);rintro v a4 a5 ⟨rfl,rfl,ab⟩;dsimp only at ab;cases i:isM z DW with
     |true=>
      have o:isM z { data:= #[45] }=true:=i;rw[if_pos rfl] at m;refine Z1 o ?_;refine AP ?_;have A:=I.upd (y:={ z with p:=z.p+1 }) rfl R;refine AT (ZT 1 ?_);refine Z1 (Y2 d (Al (n:=z.p))) ?_;refine Ay ?_;refine CR ((u _ _ q P Q _ l bl (fun j a=> ?_) A (by dsimp only;omega) T).mono ?_)
      ·dsimp only at a⊢
       have:q<V:=by omega
       repeat rw[Aa]
       exact Y j (by omega)
      rintro v ak ao ⟨rfl,B⟩;have C:=B.trans (hp:=hp) (nx:=g) (x0:=x) (oid:=e) (by dsimp only;omega) (by dsimp only;omega) oc fun j E k F=>by
       repeat rw[Ai _ _ k]
       exact fr j E k F
      have⟨o2,v2,J,G,H,ap,aq,K⟩:=C;refine Fc ?_;refine CR ((MU (s:=⟨4,ByteArray.empty,ByteArray.empty⟩) (fun j a=> ?_) J (by dsimp only;omega) rfl U).mono ?_)
      ·dsimp only at a⊢;exact H j (by omega)
      rintro v M N ⟨rfl,O⟩;refine Z0 ?_;exact⟨⟨(c,DO l ⟨4,ByteArray.empty,ByteArray.empty⟩ (Hv z),M,N),O.trans (by dsimp only;omega) (by dsimp only;omega) K G,m⟩,CT,Ls c⟩
     |false=>
      have o:isM z { data:= #[45] }=false:=i;exact absurd (r.symm.trans i) (by decide)
    |false=>
     have ad:isM z { data:= #[45] }=false:=r;rw[r,if_neg (by decide)] at m;cases m;refine Z1 ad ?_;refine AP ?_;exact⟨_,_,rfl,⟨fun _=>.inr rfl⟩,rfl,ag.up (by dsimp only;omega)⟩
structure Kp (x y:Aj):Prop where
 l:y.l=x.l
 p:x.p<=y.p
 p2:y.p<=x.l.length
 o:y.out.length<=200
 d:y.deep=x.deep
 e:(x.e==0)=false->(y.e==0)=false
variable {bl:Bool}{hp hpz:Hp}{n nx2 nxz q sid sver:Nat}{ss:List AN}{x z:Aj}
theorem Kp.trans {y:Aj}(h:Kp x y)(k:Kp y z):Kp x z:=⟨k.l.trans h.l,Lv h.p k.p,by have:=k.p2;rw[h.l] at this;exact this,k.o,k.d.trans h.d,fun g=>k.e (h.e g)⟩
theorem Kp.w {x y:Aj}(h:Kp x y)(w:D8 x):D8 y:=⟨by rw[h.l];exact w.1,by rw[h.l];exact h.p2,h.o,by rw[h.d];exact w.2.2.2⟩
theorem Kp.fail (w:D8 x)(c:Int):Kp x (jS_ x c):=by
 have k:=I9 x c;exact⟨k.1,by rw[k.2.2.2];exact Lc _,by rw[k.2.2.2];exact w.2.1,by rw[k.2.1];exact w.2.2.1,k.2.2.1,fun g=>by unfold jS_;rw[g,if_neg (by decide)];exact g⟩
theorem Kp.one (w:D8 x)(h:x.p<x.l.length):Kp x { x with p:=x.p+1 }:=⟨rfl,BB _,h,w.2.2.1,rfl,id⟩
theorem Kp.put (w:D8 x)(s:AS)(a:Int):Kp x (DO x s a):=by
 unfold DO;split
 ·rename_i c;split
  ·exact⟨rfl,Lc _,w.2.1,w.2.2.1,rfl,fun g=>by rw[g] at c;cases c⟩
  have:=w.2.2.1;exact⟨rfl,Lc _,w.2.1,by grind,rfl,id⟩
 exact⟨rfl,Lc _,w.2.1,w.2.2.1,rfl,id⟩
theorem Kp.want (w:D8 x)(t:ByteArray):Kp x (Do x t):=by
 unfold Do;split
 ·split
  ·rename_i h;exact Kp.one w (GR h)
  exact Kp.fail w 9
 exact⟨rfl,Lc _,w.2.1,w.2.2.1,rfl,id⟩
section
variable {n:Nat}{L:List CN}(hT:∀t∈L,∃b,Gc n t.text=some b)
include hT in
theorem Ua (f:x.l=L)(w:D8 x):∃r,zI_ n x=some r/\Kp x r.1:=by
 have a:=Kp.fail w 9;unfold zI_;split
 ·split
  ·rename_i t e;have c:=(Lb.1 e);have⟨b,d⟩:=hT t (by grind);split
   ·rw[d,Zo];split
    ·exact⟨_,rfl,Kp.one w c.1⟩
    exact⟨_,rfl,a⟩
   exact⟨_,rfl,a⟩
  exact⟨_,rfl,a⟩
 exact⟨_,rfl,⟨rfl,Lc _,w.2.1,w.2.2.1,rfl,id⟩⟩
include hT in
theorem oY {ex:Aj->Option Aj}{d:Nat}(o:d<20->∀z,z.l=L->D8 z->z.deep=d+1->∃y,ex z=some y/\Kp z y)(f:x.l=L)(w:D8 x)(B:x.deep=d):∃y,EU n ex x=some y/\Kp x y:=by
 unfold EU;rw[if_pos w];split
 ·rename_i h;rw[Ln] at h;have u:=GR h.2;split
  ·exact⟨_,rfl,Kp.fail w 10⟩
  rename_i C;have v:d<20:=by have:=w.2.2.2;omega
  have c:D8 { x with deep:=x.deep+1,p:=x.p+1 }:=⟨w.1,u,w.2.2.1,by show x.deep+1<=20;omega⟩;have⟨y,i,a⟩:=o v { x with deep:=x.deep+1,p:=x.p+1 } f c (by show x.deep+1=d+1;omega);have k:=a.w c;have e:=Kp.want k Ha;have E:y.deep=x.deep+1:=a.d;have l:y.l=x.l:=a.l;have F:x.p+1<=y.p:=a.p;rw[i,Zo,if_pos ⟨k,by omega⟩];refine⟨_,rfl,⟨e.l.trans l,?_,?_,e.o,?_,fun g=>e.e (a.e g)⟩⟩
  ·have:=e.p;show x.p<=(Do y Ha).p;omega
  ·have:=e.p2;rw[l] at this;exact this
  show y.deep-1=x.deep;omega
 have⟨r,i,a⟩:=Ua hT f w;rw[i,Zo];split
 ·rename_i h;rw[Ln] at h;have c:=a.w w;have j:=Kp.one c (GR h.2);have⟨s,A,m⟩:=Ua hT (x:={ r.1 with p:=r.1.p+1 }) (a.l.trans f) (j.w c);rw[A,Zo];exact⟨_,rfl,a.trans (j.trans (m.trans (Kp.put (m.w (j.w c)) _ _)))⟩
 exact⟨_,rfl,a.trans (Kp.put (a.w w) _ _)⟩
include hT in
theorem oZ {ex:Aj->Option Aj}{d:Nat}(i:d<20->∀z,z.l=L->D8 z->z.deep=d+1->∃y,ex z=some y/\Kp z y):∀(c:Nat) (x:Aj),x.l=L->D8 x->x.deep=d->L.length-x.p<c->∃y,G6 n ex c x=some y/\Kp x y
 |0,_,_,_,_,h=>absurd h (LN _)
 |c+1,x,e,w,j,u=>by
  unfold G6;rw[if_pos w];split
  ·rename_i h;rw[Ln] at h;have k:=GR h.2;have f:=Kp.one w k;have⟨y,o,g⟩:=oY hT i (x:={ x with p:=x.p+1 }) e (f.w w) j;have l:=g.w (f.w w);have m:=Kp.put l ⟨5,ByteArray.empty,ByteArray.empty⟩ (Hv x);have a:=(f.trans g).trans m;have hp:x.p+1<=y.p:=g.p;have v:=m.p;rw[e] at k;have⟨z,r,s⟩:=oZ i c _ (a.l.trans e) (a.w w) (a.d.trans j) (by omega);rw[o,Zo,if_pos l.2.2.1];exact⟨z,r,a.trans s⟩
  exact⟨x,rfl,⟨rfl,Lc _,w.2.1,w.2.2.1,rfl,id⟩⟩
include hT in
theorem yK {ex:Aj->Option Aj}{d c:Nat}(e:d<20->∀z,z.l=L->D8 z->z.deep=d+1->∃y,ex z=some y/\Kp z y)(k:L.length<c)(f:x.l=L)(w:D8 x)(g:x.deep=d):∃y,F6 n ex c x=some y/\Kp x y:=by
 have⟨y,h,a⟩:=oY hT e f w g;have⟨z,i,j⟩:=oZ hT e c y (a.l.trans f) (a.w w) (a.d.trans g) (by omega);exact⟨z,by unfold F6;rw[h,Zo,i],a.trans j⟩
theorem oa {i:Aj->Option Aj}{d:Nat}(j:∀z,z.l=L->D8 z->z.deep=d->∃y,i z=some y/\Kp z y):∀(c:Nat) (x:Aj),x.l=L->D8 x->x.deep=d->L.length-x.p<c->∃y,GH i c x=some y/\Kp x y
 |0,_,_,_,_,h=>absurd h (LN _)
 |c+1,x,e,w,k,v=>by
  unfold GH;rw[if_pos w];split
  ·rename_i h;rw[Ln,LR] at h;have l:x.p<x.l.length:=h.2.elim GR GR;have f:=Kp.one w l;have⟨y,r,g⟩:=j { x with p:=x.p+1 } e (f.w w) k;have m:=g.w (f.w w);have o:=Kp.put m ⟨if isM x DW then 4 else 3,ByteArray.empty,ByteArray.empty⟩ (Hv x);have a:=(f.trans g).trans o;have hp:x.p+1<=y.p:=g.p;have A:=o.p;rw[e] at l;have⟨z,s,u⟩:=oa j c _ (a.l.trans e) (a.w w) (a.d.trans k) (by omega);rw[r,Zo,if_pos m.2.2.1];exact⟨z,s,a.trans u⟩
  exact⟨x,rfl,⟨rfl,Lc _,w.2.1,w.2.2.1,rfl,id⟩⟩
include hT in
theorem od {c:Nat}(l:L.length<c):∀(f d:Nat),20<f+d->∀x:Aj,x.l=L->D8 x->x.deep=d->∃y,E8 n c f x=some y/\Kp x y
 |0,d,h,x,_,w,g=>by have:=w.2.2.2;omega
 |f+1,d,h,x,m,w,g=>by
  have p:∀e,e=d->(e<20->∀z,z.l=L->D8 z->z.deep=e+1->∃y,E8 n c f z=some y/\Kp z y):=fun e v _ z i j k=>od l f (e+1) (by omega) z i j k;have o:∀z,z.l=L->D8 z->z.deep=d->∃y,F6 n (E8 n c f) c z=some y/\Kp z y:=fun z i j k=>yK hT (p d rfl) l i j k;have⟨y,r,a⟩:=o x m w g;have⟨z,s,u⟩:=oa o c y (a.l.trans m) (a.w w) (a.d.trans g) (by omega);exact⟨z,by unfold E8;rw[r,Zo,s],a.trans u⟩
end
def MW:ByteArray:={ data:= #[61] }
def Eo:ByteArray:={ data:= #[59] }
def FN:ByteArray:={ data:= #[58] }
def dY_:ByteArray:={ data:= #[35] }
def Fm:ByteArray:={ data:= #[124] }
def G7 (n:Nat):Nat->Aj->List AN->Option (Aj × List AN)
 |0,_,_=>none
 |c+1,x,ss=>if D8 x/\ss.length<=50 then (if x.e==0 then(zI_ n (if ss.length=50 then jS_ x 8 else x)).bind fun a=>(if a.1.e==0&&isM a.1 dY_ then zI_ n { a.1 with p:=a.1.p+1 } else some (a.1,ByteArray.empty)).bind fun d=>if d.1.e==0&&isM d.1 Fm then G7 n c { d.1 with p:=d.1.p+1 } (ss++[⟨a.2,ByteArray.empty,d.2⟩]) else some (Do d.1 Eo,ss++[⟨a.2,ByteArray.empty,d.2⟩]) else some (x,ss)) else none
def Eh (n c f:Nat)(x:Aj):Option (Aj × AW):=if D8 x then(zI_ n x).bind fun a=>if a.1.e==0&&isM a.1 MW then(E8 n c f { a.1 with p:=a.1.p+1,out:=[] }).bind fun y=>if D8 y then some (Do y Eo,⟨a.2,[],y.out⟩) else none else(G7 n c (Do a.1 FN) []).map fun p=>(p.1,⟨a.2,p.2,[]⟩) else none
def wF_ (n:Nat)(x:Aj):Bool:=match zI_ n x with
 |some r=>r.1.e==0&&isM r.1 MW
 |none=>false
def XC (hp:Hp)(nx q:Nat)(x:Aj)(g:AW)(bl f:Bool)(h v:AV)(a:Hp)(nx2:Nat):Prop:=∃e sid sver c d,v= .ag [.v (.string g.name),Ac sid sver (g.subs.map AR),Ac c d (g.expr.map AX)]/\a q=some (Aq x bl e)/\(e=if f then Ac c d (g.expr.map AX) else h)/\(g.subs≠[]->a sid=some (.rw (g.subs.map AR) 3 sver false false)/\nx<=sid/\sid<nx2)/\(g.expr≠[]->a c=some (.rw (g.expr.map AX) 3 d false false)/\nx<=c/\c<nx2)/\(∀j,j<nx->j≠q->a j=hp j)/\(∀j,nx2<=j->a j=none)/\nx<=nx2
structure Jp (hp:Hp) (nx q:Nat) (bl:Bool) (nm:ByteArray) (ov:AV) (z:Aj) (ss:List AN) (sid sver:Nat) (hpz:Hp) (nxz:Nat):Prop where
 box:hpz q=some (Aq z bl ov)
 o:hpz (nx+1+3)=some (.bx [.v (.string nm),Ac sid sver (ss.map AR),.v (.slice none 0 0)])
 res:hpz nx=some (.bx [.v (.string ByteArray.empty),.v (.slice none 0 0),.v (.slice none 0 0)])
 row:ss≠[]->hpz sid=some (.rw (ss.map AR) 3 sver false false)/\nx+1+5<=sid/\sid<nxz
 fr:∀j,j<nx->j≠q->hpz j=hp j
 new:∀j,nxz<=j->hpz j=none
 le:nx+1+5<=nxz
theorem Jp.put {nx:Nat}{nm:ByteArray}{ov:AV}{z2:Aj}(h:Jp hp nx q bl nm ov z ss sid sver hpz nxz)(e:q<nx)(f:nxz<=nx2):Jp hp nx q bl nm ov z2 ss sid sver (upd q (some (Aq z2 bl ov)) hpz) nx2 where
 box:=Ap _ _ _
 o:=by rw[Aa];exact h.o
 res:=by rw[Aa];exact h.res
 row:=fun d=>by
  have a:=h.row d;exact⟨by rw[Aa];exact a.1,a.2.1,by omega⟩
 fr:=fun j a c=>by rw[Ai _ _ c];exact h.fr j a c
 new:=fun j a=>by have:=h.le;rw[Aa];exact h.new j (by omega)
 le:=by have:=h.le;omega
theorem Jp.ext {nx:Nat}{nm:ByteArray}{ov:AV}{id:Nat}(h:Jp hp nx q bl nm ov z ss sid sver hpz nxz)(g:nxz<=nx2)(d:id≠q)(i:nx+1+5<=id)(e:ss≠[]->id≠sid)(k:id<nx2)(o:Option AO):Jp hp nx q bl nm ov z ss sid sver (upd id o hpz) nx2 where
 box:=by rw[Ai _ _ (Ne.symm d)];exact h.box
 o:=by rw[Aa];exact h.o
 res:=by rw[Aa];exact h.res
 row:=fun c=>by
  have a:=h.row c;exact⟨by rw[Ai _ _ (Ne.symm (e c))];exact a.1,a.2.1,by omega⟩
 fr:=fun j a f=>by rw[Aa];exact h.fr j a f
 new:=fun j a=>by rw[Aa];exact h.new j (by omega)
 le:=by have:=h.le;omega
theorem Jp.fin {nx:Nat}{nm:ByteArray}{ov:AV}(h:Jp hp nx q bl nm ov z ss sid sver hpz nxz)(f:q<nx)(c:nxz<=nx2)(o:Option AO):XC hp nx q z ⟨nm,ss,[]⟩ bl false ov (.ag [.v (.string nm),Ac sid sver (ss.map AR),.v (.slice none 0 0)]) (upd nx o hpz) nx2:=by
 have g:=h.le;refine⟨ov,sid,sver,0,0,rfl,by rw[Aa];exact h.box,rfl,fun d=> ?_,fun c=>absurd rfl c,fun j a e=>by rw[Aa];exact h.fr j a e,fun j a=>by rw[Aa];exact h.new j (by omega),by omega⟩;have a:=h.row d;exact⟨by rw[Aa];exact a.1,by omega,by omega⟩
set_option maxRecDepth 8000 in
theorem SW {c f:Nat}{nx:Nat}{y:Aj × AW}{ov:AV}(hf:∀j,nx<=j->hp j=none)(hq:hp q=some (Aq x bl ov))(h:Eh n c f x=some y):
  AU Tryz.prog 57 [.pt q 0] hp nx fun v bo nx2=>XC hp nx q y.1 y.2 bl (wF_ n x) ov v bo nx2:=by
 have H:q<nx:=Cd hf hq;unfold Eh at h;split at h;rotate_left
 ·cases h
 rename_i hw;have⟨w1,w2,w3,w4⟩:=hw;have⟨r,hr,h⟩:=AL h;have k1:=JA hr;refine zq Tryz.func57 ?_;refine Ay ?_;refine AT (ZT 1 ?_);have b4:∀o:Option AO,upd nx o hp q=some (Aq x bl ov):=fun o=>by rw[Aa];exact hq
 refine Z0 ?_;refine CR ((QY (b4 _) (by omega) hr).mono ?_);rintro v bo nx2 ⟨rfl,rfl,br⟩;dsimp only at br;refine Z0 ?_;generalize eH:(upd (nx+1+3) (some _) _:Hp)=S;have V:S q=some (Aq r.1 bl ov):=by rw[<-eH,Aa,Aa,Ap]
 have b3:S (nx+1+3)=some (.bx [.v (.string r.2),.v (.slice none 0 0),.v (.slice none 0 0)]):=by rw[<-eH,Ap]
 have b2:S nx=some (.bx [.v (.string ByteArray.empty),.v (.slice none 0 0),.v (.slice none 0 0)]):=by rw[<-eH,Aa,Aa,Aa,Ap]
 have bs:∀j,j<nx->j≠q->S j=hp j:=fun j e i=>by rw[<-eH,Aa,Aa,Ai _ _ i,Aa]
 have n3:∀j,nx2<=j->S j=none:=fun j e=>by rw[<-eH,Aa,Aa,Aa,Aa];exact hf j (by omega)
 refine AT (D3 (α:={ k:Nat // nx2<=k/\(G7 n c (Do r.1 FN) []).map (fun p=>(p.1,(⟨r.2,p.2,[]⟩:AW)))=some y/\wF_ n x=false }) (fun y=>⟨upd 0 (.pt q 0) (upd 2 (.pt nx 0) (upd 3 (.pt (nx+1+3) 0) AK)),S,y.1⟩) ?_ ?_)
 ·refine AT (ZT 1 ?_);cases u:(r.1.e==0) with
  |false=>
   rw[u,LT,if_neg (by decide)] at h;refine Z1 (Y2 V u) ?_;refine DN (c:=false) rfl rfl ?_;refine AP ?_;exact⟨⟨_,by omega,h,by unfold wF_;rw[hr];exact(by simp[u])⟩,CT⟩
  |true=>
   rw[u,NC] at h;refine Z1 (Y2 V u) ?_;refine CR ((I8 V (by rw[k1.1];omega)).mono ?_);rintro v bx ar ⟨rfl,rfl,av⟩;dsimp only at av;cases s:isM r.1 MW with
   |false=>
    have w:isM r.1 { data:= #[61] }=false:=s;rw[s,if_neg (by decide)] at h;refine Z1 w ?_;refine DN (c:=false) rfl rfl ?_;refine AP ?_;exact⟨⟨_,by omega,h,by unfold wF_;rw[hr];exact(by simp[s])⟩,CT⟩
   |true=>
    have w:isM r.1 { data:= #[61] }=true:=s;have b5:=GR s;rw[k1.1] at b5;rw[s,if_pos rfl] at h;have⟨z,hz,h⟩:=AL h;split at h;rotate_left
    ·cases h
    rename_i aE;have⟨z1,O,z3,z4⟩:=aE;cases h;refine Z1 w ?_;refine ET (c:=true) rfl rfl ?_;refine AT (ZT 1 ?_);refine Z1 (Y2 V (Al (n:=r.1.p))) ?_;refine EE ?_;generalize eK:(upd q (some _) _:Hp)=a0;have I5:SU a0 q { r.1 with p:=r.1.p+1,out:=[] } bl 0 0:=⟨by rw[<-eK,Ap];rfl,fun l=>absurd rfl l⟩;have a1:∀j,j≠q->a0 j=bx j:=fun j i=>by
     rw[<-eK];repeat rw[Ai _ _ i]
    refine CR ((oC f _ _ q 0 0 _ z bl (fun j hj=> ?_) I5 (by dsimp only;omega) hz).mono ?_)
    ·grind
    rintro v ab ad ⟨rfl,o6,v6,J,ag,cb,cf,c5,ch⟩;dsimp only at ag cf ch;have a2:=J.box;have b6:ab (nx+1+3)=some (.bx [.v (.string r.2),.v (.slice none 0 0),.v (.slice none 0 0)]):=(by rw[ag _ (by omega) (by omega) fun l=>absurd rfl l,a1 _ (by omega)];exact b3);have b7:ab nx=some (.bx [.v (.string ByteArray.empty),.v (.slice none 0 0),.v (.slice none 0 0)]):=(by rw[ag _ (by omega) (by omega) fun l=>absurd rfl l,a1 _ (by omega)];exact b2);refine Dt ?_;refine Z1 (Y2 a2 b6) ?_;obtain⟨ev,a3⟩:∃ev,ev=Ac o6 v6 (z.out.map AX):=⟨_,rfl⟩;rw[<-a3] at a2⊢;generalize eL:(upd (nx+1+3) (some _) ab:Hp)=X;have A:z.out≠[]->nx+1+5<=o6:=fun l=>by
     grind
    have q7:X q=some (Aq z bl ev):=(by rw[<-eL,Aa];exact a2);have b8:X (nx+1+3)=some (.bx [.v (.string r.2),.v (.slice none 0 0),ev]):=(by rw[<-eL,Ap]);have b9:X nx=some (.bx [.v (.string ByteArray.empty),.v (.slice none 0 0),.v (.slice none 0 0)]):=(by rw[<-eL,Aa];exact b7);refine Ay ?_;refine CR ((SS q7 (by omega) (by omega)).mono ?_);rintro v b0 cp ⟨rfl,rfl,a4⟩;dsimp only at a4;refine Dt ?_;have f1:(nx+1+3=q)=False:=Ey;have f2:(nx=q)=False:=Ey;refine Z1 (Y4 b8 b9 f1 f2) ?_;refine AP ?_;refine⟨.ag [.v (.string r.2),.v (.slice none 0 0),ev],_,by simp -implicitDefEqProofs only[go_sem, ↓reduceIte,Tryz.f57,Ap,Nat.reduceEqDiff]<;>rfl,⟨fun _=>.inr rfl⟩,ev,0,0,o6,v6,by rw[a3];rfl,?_,by rw[show wF_ n x=true by unfold wF_;rw[hr];simp[u,s]];exact a3,fun l=>absurd rfl l,fun l=> ?_,fun j e i=> ?_,fun j e=> ?_,by dsimp only;omega⟩
    ·dsimp only;rw[Aa,Ap];rfl
    ·have h3:=(J.row l).1;have h4:=(J.row l).2;have h5:=A l;dsimp only;refine⟨?_,by omega,by omega⟩;rw[Aa,Ai _ _ h4,<-eL,Aa];exact h3
    ·dsimp only;rw[Aa,Ai _ _ i,<-eL,Aa,ag j (by omega) i fun l=>absurd rfl l,a1 j i];exact bs j e i
    dsimp only at e⊢;rw[Aa,Aa,<-eL,Aa];exact cb j (by omega)
 rintro⟨c6,hj,h,a5⟩;obtain⟨⟨zf,sf⟩,hs,rfl⟩:=La.1 h;refine Ay ?_;refine CR ((SS V (by rw[k1.1];omega) (by have:=k1.2.2.2 w2;omega)).mono ?_);rintro v bx ar ⟨rfl,rfl,av⟩;dsimp only at av;refine Z0 ?_;have L0:Jp hp nx q bl r.2 ov (Do r.1 FN) [] 0 0 (upd q (some (Aq (Do r.1 FN) bl ov)) S) ar:=
  Jp.put (z:=r.1) ⟨V,b3,b2,fun l=>absurd rfl l,bs,n3,br⟩ H (by omega)
 refine AT (CS ?_);refine DQ (α:={ t:Nat × Aj × List AN × Nat × Nat × Hp × Nat // Jp hp nx q bl r.2 ov t.2.1 t.2.2.1 t.2.2.2.1 t.2.2.2.2.1 t.2.2.2.2.2.1 t.2.2.2.2.2.2/\G7 n t.1 t.2.1 t.2.2.1=some (zf,sf) })
  (fun t=>⟨upd 0 (.pt q 0) (upd 2 (.pt nx 0) (upd 3 (.pt (nx+1+3) 0) AK)),t.1.2.2.2.2.2.1,t.1.2.2.2.2.2.2⟩) (fun t=>t.1.1) ⟨(c,Do r.1 FN,[],0,0,_,ar),L0,hs⟩ ?_ ?_
 ·exact CT
 rintro⟨⟨c,z,ss,sid,sver,hpz,nxz⟩,L,m⟩;dsimp only at L m;cases c with
 |zero=>cases m
 |succ c=>
 unfold G7 at m;split at m;rotate_left
 ·cases m
 rename_i aE;have⟨⟨z1,O,z3,z4⟩,z5⟩:=aE;refine AT (AT ?_);refine ZT 1 ?_;cases u:(z.e==0) with
 |false=>
  rw[u,if_neg (by decide)] at m;have⟨m1,m2⟩:=B5 (LM m);subst m1;subst m2;refine Z1 (Y2 L.box u) ?_;refine AP ?_;refine AT (ZT 1 ?_);obtain⟨B,P⟩:∃B,B=Ac sid sver (ss.map AR):=⟨_,rfl⟩;have A:=L.o;rw[<-P] at A;refine Z1 (Y2 A L.res) ?_;refine AP ?_;refine⟨.ag [.v (.string r.2),B,.v (.slice none 0 0)],_,by simp -implicitDefEqProofs only[go_sem, ↓reduceIte,Tryz.f57,Ap,reduceCtorEq,Nat.reduceEqDiff]<;>rfl,⟨fun _=>.inr rfl⟩,?_⟩;rw[P];rw[a5];exact L.fin H (by dsimp only;omega) _
 |true=>
  rw[u,if_pos rfl] at m;refine Z1 (Y2 L.box u) ?_;refine AP ?_;refine CS ?_;obtain⟨zz,Q⟩:∃zz,zz=(if ss.length=50 then jS_ z 8 else z):=⟨_,rfl⟩;rw[<-Q] at m;have Y:zz.l=z.l/\zz.out=z.out/\zz.deep=z.deep/\zz.p=z.p:=by
   rw[Q];split
   ·exact I9 z 8
   exact⟨rfl,rfl,rfl,rfl⟩
  refine AT (D3 (α:={ k:Nat // nxz<=k }) (fun y=>⟨upd 0 (.pt q 0) (upd 2 (.pt nx 0) (upd 3 (.pt (nx+1+3) 0) AK)),upd q (some (Aq zz bl ov)) hpz,y.1⟩) ?_ ?_)
  ·refine AT (ZT 1 ?_);have A:=L.o;cases ss with
   |nil=>
    rw[if_neg (by decide)] at Q;refine Z1 A ?_;refine DN (c:=false) rfl rfl ?_;refine AP ?_;rw[Q];exact⟨⟨_,by omega⟩,Gd (Fv L.box) DS⟩
   |cons a t=>
    by_cases ak:(a::t).length=50
    ·have a6:(((t.length+1:Nat):Int)==50)=true:=(by simp at ak⊢;omega);rw[if_pos ak] at Q;refine Z1 (Y2 A a6) ?_;refine AP ?_;refine CR ((MS L.box (by omega)).mono ?_);rintro v a0 c7 ⟨rfl,rfl,cs⟩;dsimp only at cs;refine Z0 ?_;rw[Q];exact⟨⟨_,by omega⟩,CT⟩
    have a6:(((t.length+1:Nat):Int)==50)=false:=(by simp at ak⊢;omega);rw[if_neg ak] at Q;refine Z1 (Y2 A a6) ?_;refine DN (c:=false) rfl rfl ?_;refine AP ?_;rw[Q];exact⟨⟨_,by omega⟩,Gd (Fv L.box) DS⟩
  rintro⟨C,hk⟩;have L1:=L.put (z2:=zz) H hk;have⟨g,b1,m⟩:=AL m;refine Ay ?_;refine CR ((QY L1.box (by rw[Y.1];omega) b1).mono ?_);rintro v ab ad ⟨rfl,rfl,cx⟩;dsimp only at cx;refine Z0 ?_;have c9:=L.le;have L2:=L1.put (z2:=g.1) H (nx2:=ad) (by omega);have a7:ss≠[]->C+3≠sid:=fun hs=>by have:=(L.row hs).2.2;omega
  have R:Jp hp nx q bl r.2 ov g.1 ss sid sver (upd (C+3) (some (.bx [.v (.string g.2),.v (.string ByteArray.empty),.v (.string ByteArray.empty)])) (upd (C+3) (some (.bx [.v (.string ByteArray.empty),.v (.string ByteArray.empty),.v (.string ByteArray.empty)])) (upd q (some (Aq g.1 bl ov)) (upd q (some (Aq zz bl ov)) hpz)))) ad:=
   (L2.ext (Lc _) (by omega) (by omega) a7 (by omega) _).ext (Lc _) (by omega) (by omega) a7 (by omega) _
  generalize eS:(upd (C+3) (some _) _:Hp)=X at R⊢;have s7:X (C+3)=some (.bx [.v (.string g.2),.v (.string ByteArray.empty),.v (.string ByteArray.empty)]):=by rw[<-eS,Ap]
  have kr:=JA b1;have⟨d,K,m⟩:=AL m;refine AT (D3 (α:={ k:Nat // ad<=k }) (fun y=>⟨upd 0 (.pt q 0) (upd 2 (.pt nx 0) (upd 3 (.pt (nx+1+3) 0) (upd 4 (.pt (C+3) 0) AK))),upd (C+3) (some (.bx [.v (.string g.2),.v (.string ByteArray.empty),.v (.string d.2)])) (upd q (some (Aq d.1 bl ov)) X),y.1⟩) ?_ ?_)
  ·refine AT (ZT 1 ?_);cases ao:(g.1.e==0) with
   |false=>
    rw[ao,LT,if_neg (by decide)] at K;cases K;refine Z1 (Y2 R.box ao) ?_;refine DN (c:=false) rfl rfl ?_;refine AP ?_;exact⟨⟨_,by omega⟩,Gd (by rw[Fv R.box,Fv s7]) DS⟩
   |true=>
    rw[ao,NC] at K;refine Z1 (Y2 R.box ao) ?_;refine CR ((I8 R.box (by rw[kr.1,Y.1];omega)).mono ?_);rintro v b0 cp ⟨rfl,rfl,a4⟩;dsimp only at a4;cases s:isM g.1 dY_ with
    |false=>
     have w:isM g.1 { data:= #[35] }=false:=s;rw[s,if_neg (by decide)] at K;cases K;refine Z1 w ?_;refine DN (c:=false) rfl rfl ?_;refine AP ?_;exact⟨⟨_,by omega⟩,Gd (by rw[Fv R.box,Fv s7]) DS⟩
    |true=>
     have w:isM g.1 { data:= #[35] }=true:=s;have cN:=GR s;rw[kr.1,Y.1] at cN;rw[s,if_pos rfl] at K;refine Z1 w ?_;refine ET (c:=true) rfl rfl ?_;refine AT (ZT 1 ?_);refine Z1 (Y2 R.box (Al (n:=g.1.p))) ?_;refine ZT 1 ?_;have q8:upd q (some (Aq { g.1 with p:=g.1.p+1 } bl ov)) b0 q=some (Aq { g.1 with p:=g.1.p+1 } bl ov):=Ap _ _ _;refine Z0 ?_;refine CR ((QY q8 (by grind) K).mono ?_);rintro v da dd ⟨rfl,rfl,c0⟩;dsimp only at c0;have f3:(C+3=q)=False:=Ey;refine Z1 (Y2 s7 f3) ?_;exact⟨⟨_,by omega⟩,Gd (by rw[Em]) DS⟩
  rintro⟨E,hl⟩;have F:=(R.put (z2:=d.1) H hl).ext (id:=C+3) (Lc _) (by omega) (by omega) a7 (by omega) (some (.bx [.v (.string g.2),.v (.string ByteArray.empty),.v (.string d.2)]));generalize eT:(upd (C+3) (some _) _:Hp)=a8 at F⊢;have s8:a8 (C+3)=some (.bx [.v (.string g.2),.v (.string ByteArray.empty),.v (.string d.2)]):=by rw[<-eT,Ap]
  have A:=F.o;obtain⟨Z,aa⟩:∃Z:AN,Z=⟨g.2,ByteArray.empty,d.2⟩:=⟨_,rfl⟩;rw[<-aa] at m;refine AT (D3 (α:={ t:Nat × Nat × Hp × Nat // Jp hp nx q bl r.2 ov d.1 (ss++[Z]) t.1 t.2.1 t.2.2.1 t.2.2.2 }) (fun t=>⟨upd 0 (.pt q 0) (upd 2 (.pt nx 0) (upd 3 (.pt (nx+1+3) 0) AK)),t.1.2.2.1,t.1.2.2.2⟩) ?_ ?_)
  ·refine ZT 1 ?_;have f4:(nx+1+3=E+3)=False:=Ey;have f5:(nx+1+3=E+4)=False:=Ey;cases ss with
   |nil=>
    refine Z1 (Y4 A s8 f4 f5) ?_;generalize T:(upd (nx+1+3) (some _) _:Hp)=M;have u1:M (nx+1+3)=some (.bx [.v (.string r.2),.so (E+4) 0 0 1,.v (.slice none 0 0)]):=(by rw[<-T,Ap]);have u2:M (E+4)=some (.rw ([[.v (.string g.2),.v (.string ByteArray.empty),.v (.string d.2)]]) 3 0 false false):=(by rw[<-T,Aa,Ap]);have N:∀j,j≠nx+1+3->j≠E+4->j≠E+3->M j=a8 j:=fun j e i h3=>(by rw[<-T,Ai _ _ e,Ai _ _ i,Ai _ _ h3]);refine⟨⟨(E+4,0,M,E+7),?_⟩,CT⟩
    exact⟨(N _ (by omega) (by omega) (by omega)).trans F.box,u1.trans (by rw[aa];rfl),(N _ (by omega) (by omega) (by omega)).trans F.res,fun _=>⟨u2.trans (by rw[aa];rfl),by dsimp only;omega,by dsimp only;omega⟩,fun j e i=>(N _ (by omega) (by omega) (by omega)).trans (F.fr j e i),fun j e=>(N _ (by dsimp only at e;omega) (by dsimp only at e;omega) (by dsimp only at e;omega)).trans (F.new j (by dsimp only at e;omega)),by dsimp only;omega⟩
   |cons a t=>
    have c1:=F.row (by simp);have f6:(nx+1+3=sid)=False:=Ey;have f7:(sid=E+3)=False:=Ey;have c2:(t.length+1+1<=4294967296)=True:=eq_true (by grind);have f8:(sid=nx+1+3)=False:=Ey;refine Z1 (Y2 (Y6 A s8 c1.1 f4 f6 f7) (Y2 f8 c2)) ?_;generalize T:(upd (nx+1+3) (some _) _:Hp)=M;have u1:M (nx+1+3)=some (.bx [.v (.string r.2),.so sid (sver+1) 0 (t.length+1+1),.v (.slice none 0 0)]):=(by rw[<-T,Ap]);have u2:M (sid)=some (.rw (AR a::(t.map AR++[[.v (.string g.2),.v (.string ByteArray.empty),.v (.string d.2)]])) 3 (sver+1) false false):=(by rw[<-T,Aa,Ap]);have N:∀j,j≠nx+1+3->j≠sid->j≠E+3->M j=a8 j:=fun j e i h3=>(by rw[<-T,Ai _ _ e,Ai _ _ i,Ai _ _ h3]);refine⟨⟨(sid,(sver+1),M,E+7),?_⟩,CT⟩
    exact⟨(N _ (by omega) (by omega) (by omega)).trans F.box,u1.trans (by rw[aa];simp[Ac]),(N _ (by omega) (by omega) (by omega)).trans F.res,fun _=>⟨u2.trans (by rw[aa];simp),by dsimp only;omega,by dsimp only;omega⟩,fun j e i=>(N _ (by omega) (by omega) (by omega)).trans (F.fr j e i),fun j e=>(N _ (by dsimp only at e;omega) (by dsimp only at e;omega) (by dsimp only at e;omega)).trans (F.new j (by dsimp only at e;omega)),by dsimp only;omega⟩
  rintro⟨⟨a9,ba,hpB,df⟩,I⟩;dsimp only at I;have ke:d.1.l=z.l/\d.1.p<=z.l.length:=by
   have dk:g.1.p<=z.l.length:=by
    have:=kr.2.2.2 (by rw[Y.2.2.2,Y.1];exact O);rw[Y.1] at this;exact this
   split at K
   ·rename_i hc;rw[Ln] at hc;have k5:=JA K;grind [GR,trans]
   grind
  refine AT (AT ?_);refine ZT 1 ?_;cases ap:(d.1.e==0) with
  |false=>
   rw[ap,LT,if_neg (by decide)] at m;refine Z1 (Y2 I.box ap) ?_;refine DN (c:=false) rfl rfl ?_;refine AP ?_;have⟨m1,m2⟩:=B5 (LM m);subst m1;subst m2;refine Ay ?_;refine CR ((SS I.box (by rw[ke.1];omega) (by omega)).mono ?_);rintro v hpC bb ⟨rfl,rfl,bd⟩;dsimp only at bd;have G:=I.put (z2:=Do d.1 Eo) H (nx2:=bb) (by omega);refine Dt ?_;obtain⟨B,P⟩:∃B,B=Ac a9 ba ((ss++[Z]).map AR):=⟨_,rfl⟩;have U:=G.o;rw[<-P] at U;have c3:=G;generalize eV:(upd q (some (Aq (Do d.1 Eo) bl ov)) hpB:Hp)=be at G U;have bg:(upd q (some (Aq (Do d.1 { data:= #[59] }) bl ov)) hpB:Hp)=be:=eV;rw[bg];refine Z1 (Y2 U G.res) ?_;refine AP ?_;refine⟨.ag [.v (.string r.2),B,.v (.slice none 0 0)],_,by simp -implicitDefEqProofs only[go_sem, ↓reduceIte,Tryz.f57,Ap,reduceCtorEq,Nat.reduceEqDiff]<;>rfl,⟨fun _=>.inr rfl⟩,?_⟩;rw[P];rw[a5];exact G.fin H (by dsimp only;omega) _
  |true=>
   rw[ap,NC] at m;refine Z1 (Y2 I.box ap) ?_;refine CR ((I8 I.box (by rw[ke.1];omega)).mono ?_);rintro v hpE dl ⟨rfl,rfl,c4⟩;dsimp only at c4;cases aq:isM d.1 Fm with
   |false=>
    have w:isM d.1 { data:= #[124] }=false:=aq;rw[aq,if_neg (by decide)] at m;refine Z1 w ?_;refine DN (c:=false) rfl rfl ?_;refine AP ?_;have⟨m1,m2⟩:=B5 (LM m);subst m1;subst m2;refine Ay ?_;refine CR ((SS I.box (by rw[ke.1];omega) (by omega)).mono ?_);rintro v hpC bb ⟨rfl,rfl,bd⟩;dsimp only at bd;have G:=I.put (z2:=Do d.1 Eo) H (nx2:=bb) (by omega);refine Dt ?_;obtain⟨B,P⟩:∃B,B=Ac a9 ba ((ss++[Z]).map AR):=⟨_,rfl⟩;have U:=G.o;rw[<-P] at U;have c3:=G;generalize eV:(upd q (some (Aq (Do d.1 Eo) bl ov)) hpE:Hp)=be at G U;have bg:(upd q (some (Aq (Do d.1 { data:= #[59] }) bl ov)) hpE:Hp)=be:=eV;rw[bg];refine Z1 (Y2 U G.res) ?_;refine AP ?_;refine⟨.ag [.v (.string r.2),B,.v (.slice none 0 0)],_,by simp -implicitDefEqProofs only[go_sem, ↓reduceIte,Tryz.f57,Ap,reduceCtorEq,Nat.reduceEqDiff]<;>rfl,⟨fun _=>.inr rfl⟩,?_⟩;rw[P];rw[a5];exact G.fin H (by dsimp only;omega) _
   |true=>
    have w:isM d.1 { data:= #[124] }=true:=aq;rw[aq,if_pos rfl] at m;refine Z1 w ?_;refine ET (c:=true) rfl rfl ?_;refine AT (ZT 1 ?_);refine Z1 (Y2 I.box (Al (n:=d.1.p))) ?_;refine AP ?_;refine⟨⟨(c,{ d.1 with p:=d.1.p+1 },ss++[Z],a9,ba,_,_),?_,m⟩,CT,Ls c⟩;exact I.put (z2:={ d.1 with p:=d.1.p+1 }) H (by dsimp only;omega)
theorem XE {c:Int}(h:(x.e==0)=true)(a:(c==0)=false):((jS_ x c).e==0)=false:=by
 unfold jS_;rw[if_pos h];exact a
theorem yL (h:(x.e==0)=false):zI_ n x=some (x,{ data:= #[] }):=by
 unfold zI_;rw[h,if_neg (by decide)]
theorem yM {r:Aj × ByteArray}(h:zI_ n x=some r)(a:(x.e==0)=true):(r.1.e==0)=false\/r.1.p=x.p+1:=by
 have c:((jS_ x 9).e==0)=false:=XE a rfl;unfold zI_ at h;rw[a,if_pos rfl] at h;split at h
 ·split at h
  ·have⟨b,_,h⟩:=AL h;grind
  cases h;exact .inl c
 cases h;exact .inl c
section
variable {n:Nat}{L:List CN}(hT:∀t∈L,∃b,Gc n t.text=some b)
include hT in
theorem oe:∀(c:Nat) (x:Aj) (ss:List AN),x.l=L->D8 x->ss.length<=50->L.length-x.p<c->∃y,G7 n c x ss=some y/\Kp x y.1
 |0,_,_,_,_,_,h=>absurd h (LN _)
 |c+1,x,ss,g,w,v,I=>by
  unfold G7;rw[if_pos ⟨w,v⟩];split
  ·rename_i A;by_cases m:ss.length=50
   ·have j:=XE (c:=8) A rfl;rw[if_pos m,yL j,Zo];dsimp only;rw[j,LT,if_neg (by decide),Zo];dsimp only;rw[j,LT,if_neg (by decide)];have e:=Kp.fail w 8;exact⟨_,rfl,e.trans (Kp.want (e.w w) Eo)⟩
   rw[if_neg m];have⟨a,B,e⟩:=Ua hT g w;have i:=e.w w;rw[B,Zo];obtain⟨d,C,E⟩:∃d,(if a.1.e==0&&isM a.1 dY_ then zI_ n { a.1 with p:=a.1.p+1 } else some (a.1,ByteArray.empty))=some d/\Kp a.1 d.1:=by
    split
    ·rename_i h;rw[Ln] at h;have o:=Kp.one i (GR h.2);have⟨s,F,k⟩:=Ua hT (x:={ a.1 with p:=a.1.p+1 }) (e.l.trans g) (o.w i);exact⟨s,F,o.trans k⟩
    exact⟨_,rfl,⟨rfl,Lc _,i.2.1,i.2.2.1,rfl,id⟩⟩
   rw[C,Zo];have f:=e.trans E;have r:=f.w w;split
   ·rename_i h;rw[Ln] at h;have u:=GR h.2;have k:=Kp.one r u;have l:=f.trans k;have hp:=f.p;rw[f.l,g] at u;have⟨y,G,H⟩:=oe c { d.1 with p:=d.1.p+1 } (ss++[⟨a.2,ByteArray.empty,d.2⟩]) (l.l.trans g) (l.w w) (by grind) (by show L.length-(d.1.p+1)<c;omega);exact⟨y,G,l.trans H⟩
   exact⟨_,rfl,f.trans (Kp.want r Eo)⟩
  exact⟨_,rfl,⟨rfl,Lc _,w.2.1,w.2.2.1,rfl,id⟩⟩
include hT in
theorem yN {c f d:Nat}(B:L.length<c)(C:20<f+d)(j:x.l=L)(w:D8 x)(E:x.deep=d):∃y,Eh n c f x=some y/\Kp x y.1/\((x.e==0)=true->(y.1.e==0)=false\/x.p<y.1.p):=by
 unfold Eh;rw[if_pos w];have⟨r,l,e⟩:=Ua hT j w;have on:∀z:Aj,Kp r.1 z->(x.e==0)=true->(z.e==0)=false\/x.p<z.p:=fun z m F=>by
  rcases yM l F with o |o
  ·exact .inl (m.e o)
  exact .inr (by have:=m.p;omega)
 have g:=e.w w;rw[l,Zo];split
 ·rename_i h;rw[Ln] at h;have G:=GR h.2;have s:D8 { r.1 with p:=r.1.p+1,out:=[] }:=⟨g.1,G,Lg _,g.2.2.2⟩;have⟨y,k,a⟩:=od hT B f d C { r.1 with p:=r.1.p+1,out:=[] } (e.l.trans j) s (e.d.trans E);have u:=a.w s;have v:=Kp.want u Eo;rw[k,Zo,if_pos u];have A:Kp r.1 y:=⟨a.l,by have:r.1.p+1<=y.p:=a.p;omega,a.p2,a.o,a.d,a.e⟩;exact⟨_,rfl,e.trans (A.trans v),on _ (A.trans v)⟩
 have i:=Kp.want g FN;have⟨y,k,a⟩:=oe hT c (Do r.1 FN) [] (i.l.trans (e.l.trans j)) (i.w g) (Lg _) (by omega);rw[k];exact⟨_,rfl,e.trans (i.trans a),on _ (i.trans a)⟩
end
def SY:ByteArray:={ data:= #[123] }
def GS:ByteArray:={ data:= #[125] }
def Hb (n c f:Nat):Nat->Aj->List AW->Option (Aj × List AW)
 |0,_,_=>none
 |k+1,x,a=>if D8 x/\x.deep=0/\a.length<=200 then (if x.e==0&& !isM x GS then(if a.length=200 then Hb n c f k (jS_ x 8) a else(Eh n c f x).bind fun p=>Hb n c f k p.1 (a++[p.2])) else some (x,a)) else none
section
variable {n:Nat}{L:List CN}(hT:∀t∈L,∃b,Gc n t.text=some b)
include hT in
theorem fP {c f:Nat}(l:L.length<c)(m:20<f):∀(k:Nat) (x:Aj) (e:List AW),x.l=L->D8 x->x.deep=0->e.length<=200->(if x.e==0 then L.length-x.p+1 else 0)<k->∃y,Hb n c f k x e=some y/\Kp x y.1
 |0,_,_,_,_,_,_,h=>absurd h (LN _)
 |k+1,x,e,g,w,i,r,u=>by
  unfold Hb;rw[if_pos ⟨w,i,r⟩];split
  ·rename_i h;rw[Ln] at h;rw[if_pos h.1] at u;split
   ·have v:=XE (c:=8) h.1 rfl;have j:=Kp.fail w 8;have⟨y,o,a⟩:=fP l m k (jS_ x 8) e (j.l.trans g) (j.w w) (j.d.trans i) r (by rw[v,if_neg (by decide)];omega);exact⟨y,o,j.trans a⟩
   have⟨p,o,a,A⟩:=yN hT l (d:=0) m g w i;have B:=a.p2;have hp:=a.p;rw[g] at B;have⟨y,C,E⟩:=fP l m k p.1 (e++[p.2]) (a.l.trans g) (a.w w) (a.d.trans i) (by rw[Ld,Ll];omega) (by
    rcases A h.1 with s |s
    ·rw[s,if_neg (by decide)];omega
    split<;>omega)
   rw[o,Zo];exact⟨y,C,a.trans E⟩
  exact⟨_,rfl,⟨rfl,Lc _,w.2.1,w.2.2.1,rfl,id⟩⟩
end
theorem XF {α a:Type}{X:Option α}{F:α->Option a}{P:a->Prop}(Q:α->Prop)(h:∃q,X=some q/\Q q)(k:∀q,Q q->∃r,F q=some r/\P r):∃r,X.bind F=some r/\P r:=by
 grind
theorem Z5 (n:Nat)(c:Int):∃b,KE n c=some b:=by
 unfold KE;split
 ·split
  ·exact⟨_,rfl⟩
  split
  ·split
   ·exact⟨_,rfl⟩
   exact⟨_,rfl⟩
  exact⟨_,rfl⟩
 split
 ·split
  ·exact⟨_,rfl⟩
  exact⟨_,rfl⟩
 exact⟨_,rfl⟩
theorem og {n:Nat}{s:ByteArray}(a:s.size<4611686018427387900):∀(c i:Nat),s.size-i<c->∃r,Zy n s c (i:Int)=some r
 |0,_,h=>absurd h (LN _)
 |c+1,i,e=>by
  unfold Zy;by_cases h:i<s.size
  ·rw[if_pos Cp,HI h,Zo];have⟨b,d⟩:=Z5 n ((s.data.toList[i]'(by rw[v6_];exact h)).toNat:Int);rw[d,Zo];cases b with
   |true=>
    rw[if_pos rfl,Al];exact og a c (i+1) (by omega)
   |false=>exact⟨_,rfl⟩
  rw[if_neg (by rw[decide_eq_true_eq];omega)];exact⟨_,rfl⟩
theorem yO {s:ByteArray}(a:s.size<4611686018427387900)(c:s.size<n):∃b,Gc n s=some b:=by
 unfold Gc;have⟨r,e⟩:=og (n:=n) a n 0 (by omega);rw[show(0:Int)=((0:Nat):Int) from rfl,e,Zo];cases r with
 |inr r=>exact⟨_,rfl⟩
 |inl u=>
  dsimp only;by_cases h:1<=(s.size:Int)
  ·rw[if_pos (decide_eq_true h)];split
   ·rw[HI (by omega),Zo];split
    ·exact⟨_,rfl⟩
    exact⟨_,rfl⟩
   exact⟨_,rfl⟩
  rw[if_neg (by rw[decide_eq_true_eq];exact h)];exact⟨_,rfl⟩
theorem oh {n:Nat}{s:ByteArray}{ch:Int}(a:s.size<4611686018427387900):∀(c i:Nat),s.size-i<c->∃r,xO_ n s ch c (i:Int)=some r
 |0,_,h=>absurd h (LN _)
 |c+1,i,d=>by
  unfold xO_;by_cases h:i<s.size
  ·rw[if_pos Cp,HI h,Zo];split
   ·exact⟨_,rfl⟩
   rw[Al];exact oh a c (i+1) (by omega)
  rw[if_neg (by rw[decide_eq_true_eq];omega)];exact⟨_,rfl⟩
theorem ol {n:Nat}{s:ByteArray}(a:s.size<4611686018427387900):∀(c i:Nat),s.size-i<c->i<=s.size->∃r,Zw n s c (i:Int)=some r/\∃j:Nat,r=j/\i<=j/\j<=s.size
 |0,_,h,_=>absurd h (LN _)
 |c+1,i,g,k=>by
  unfold Zw;by_cases h:i<s.size
  ·rw[if_pos Cp,HI h,Zo];split
   ·rw[Al];have⟨r,e,j,d,l,f⟩:=ol (n:=n) a c (i+1) (by omega) (by omega);exact⟨r,e,j,d,by omega,f⟩
   grind
  grind
theorem om {n:Nat}{s:ByteArray}(a:s.size<4611686018427387900):∀(c i:Nat),s.size-i<c->i<=s.size->∃r,SP n s c (i:Int)=some r/\∃j:Nat,r=j/\i<=j/\j<=s.size
 |0,_,h,_=>absurd h (LN _)
 |c+1,i,k,l=>by
  unfold SP;by_cases h:i<s.size
  ·rw[if_pos Cp,HI h,Zo];have⟨b,d⟩:=Z5 n ((s.data.toList[i]'(by rw[v6_];exact h)).toNat:Int);rw[d,Zo];cases b with
   |true=>
    rw[if_pos rfl,Al];have⟨r,e,j,f,m,g⟩:=om (n:=n) a c (i+1) (by omega) (by omega);exact⟨r,e,j,f,by omega,g⟩
   |false=>grind
  grind
def XG (k:Nat)(l:List CN):Prop:=l.length<=k/\∀t∈l,t.text.size<=k
theorem Hx {α:Type}{P:α->Prop}{b:Bool}{x y:Option α}(a:b=true->∃r,x=some r/\P r)(c:b=false->∃r,y=some r/\P r):∃r,(if b=true then x else y)=some r/\P r:=by
 cases b with
 |true=>exact a rfl
 |false=>exact c rfl
theorem fQ {n:Nat}{s:ByteArray}(m:s.size<=100000)(o:s.size+20<n):∀(c i:Nat) (l:List CN),i<=s.size->l.length<=i->(∀t∈l,t.text.size<=s.size)->s.size-i<c->∃r,Kx n s c (l,(i:Int))=some r/\(match r with | .inl l=>XG s.size l | .inr x=>x.1= [])
 |0,_,_,_,_,_,h=>absurd h (LN _)
 |c+1,i,l,G,H,p,I=>by
  unfold Kx;refine Hx (fun h=> ?_) (fun h=>⟨_,rfl,by omega,p⟩);rw[decide_eq_true_eq] at h;have w:i<s.size:=by omega
  rw[HI w,Zo];obtain⟨d,A⟩:∃d:Int,d=((s.data.toList[i]'(by rw[v6_];exact w)).toNat:Int):=⟨_,rfl⟩;rw[<-A];have B:IntKind.i64.wrap ((i:Int)+1)=((i+1:Nat):Int):=Al;rw[B];refine XF (fun q=>match q with | .inl v=>∃j:Nat,v.1=(j:Int)/\i<j/\j<=s.size | .inr x=>x.1= []) ?_ ?_
  ·refine XF (fun _=>True) ?_ fun b _=> ?_
   ·refine Hx (fun _=>⟨_,rfl,trivial⟩) fun _=>Hx (fun _=>⟨_,rfl,trivial⟩) fun _=>Hx (fun _=>⟨_,rfl,trivial⟩) fun _=>⟨_,rfl,trivial⟩
   refine Hx (fun _=>⟨_,rfl,i+1,rfl,by omega,by omega⟩) fun _=> ?_;refine XF (fun _=>True) ?_ fun J _=> ?_
   ·refine Hx (fun _=>Hx (fun a=> ?_) fun _=>⟨_,rfl,trivial⟩) fun _=>⟨_,rfl,trivial⟩;rw[decide_eq_true_eq] at a;rw[HI (by omega),Zo];exact⟨_,rfl,trivial⟩
   refine Hx (fun _=> ?_) fun _=> ?_
   ·have⟨r,e,j,f,a,g⟩:=ol (n:=n) (s:=s) (by omega) n (i+1) (by omega) (by omega);rw[e,Zo];exact⟨_,rfl,j,f,by omega,g⟩
   have⟨K,C⟩:=Z5 n d;rw[C,Zo];refine Hx (fun _=> ?_) fun _=> ?_
   ·have⟨r,e,j,f,a,g⟩:=om (n:=n) (s:=s) (by omega) n (i+1) (by omega) (by omega);rw[e,Zo];exact⟨_,rfl,j,f,by omega,g⟩
   refine XF (fun y=>y=true->i+1<s.size) ?_ fun y E=> ?_
   ·refine Hx (fun _=>Hx (fun a=> ?_) fun _=>⟨_,rfl,fun h=>by cases h⟩) fun _=>⟨_,rfl,fun h=>by cases h⟩;rw[decide_eq_true_eq] at a;rw[HI (by omega),Zo];exact⟨_,rfl,fun _=>by omega⟩
   refine Hx (fun F=> ?_) fun _=> ?_
   ·have M:=E F;rw[Al];exact⟨_,rfl,i+1+1,rfl,by omega,by omega⟩
   unfold W8;have⟨r,e⟩:=oh (n:=n) (s:={ data:= #[123,125,58,59,124,35,61,43,45,38,40,41] }) (ch:=d) (by decide) n 0 (by show 12-0<n;omega);rw[show(0:Int)=((0:Nat):Int) from rfl,e,Zo];cases r with
   |inl u=>
    rw[Zo];exact⟨_,rfl,rfl⟩
   |inr u=>
    rw[Zo];exact Hx (fun _=>⟨_,rfl,rfl⟩) fun _=>⟨_,rfl,i+1,rfl,by omega,by omega⟩
  rintro(⟨v,k⟩ |x) hq
  ·obtain⟨j,rfl,f,a⟩:=hq;dsimp only;refine Hx (fun _=> ?_) fun _=> ?_
   ·rw[I7 (by omega) a,Zo,DG,if_pos (by rw[Ll];omega),Zo];refine fQ m o c j _ a (by grind) (fun t N=> ?_) (by omega);grind [List.mem_singleton,ByteArray.size_extract]
   exact fQ m o c j l a (by omega) p (by omega)
  exact⟨_,rfl,hq⟩
theorem oo (s:ByteArray)(n:Nat)(c:s.size+100<=n):∃r,SQ n s=some r/\XG 100000 r.1:=by
 unfold SQ;refine Hx (fun _=>⟨_,rfl,Lg _,fun t h=>by cases h⟩) fun h=> ?_;rw[decide_eq_false_iff_not] at h;refine XF _ (fQ (n:=n) (s:=s) (by omega) (by omega) n 0 [] (by omega) (by exact Lc _) (fun t h=>by cases h) (by omega)) ?_;rintro(l |x) hq
 ·exact⟨_,rfl,Lv hq.1 (by omega),fun t a=>Lv (hq.2 t a) (by omega)⟩
 refine⟨_,rfl,?_⟩;rw[show x.1= [] from hq];exact⟨Lg _,fun t h=>by cases h⟩
end Go.Proofs.YtnmkbmefohakmaaGreat.Ab
