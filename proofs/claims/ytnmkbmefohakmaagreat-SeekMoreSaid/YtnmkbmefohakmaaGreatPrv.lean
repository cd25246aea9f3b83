/-
 The document's reader of schemas comes to an end: types. No program in sight.
-/
import Derived.Test.YtnmkbmefohakmaaGreatPrc
set_option linter.all false
namespace Go.Proofs.YtnmkbmefohakmaaGreat.Ab
open Go.RowKit
def D2:ByteArray:={ data:= #[38] }
def GQ (n:Nat)(ex:Ae->Option Ae):Nat->Ae->Option Ae
 |0,_=>none
 |c+1,x=>if Dr x then(if x.e==0&&isM x D2 then(EB n ex { x with p:=x.p+1 }).bind fun y=>if y.out.length<=200 then GQ n ex c (C5 y ⟨5,ByteArray.empty,ByteArray.empty⟩ (HD x)) else none else some x) else none
def FQ (n:Nat)(ex:Ae->Option Ae)(c:Nat)(x:Ae):Option Ae:=(EB n ex x).bind (GQ n ex c)
theorem KV.up {hp hp2:Hp}{nx nx2 nx3 q oid:Nat}{x0 x:Ae}{bl:Bool}(h:KV hp nx q oid x0 x bl hp2 nx2)(hn:nx2<=nx3):KV hp nx q oid x0 x bl hp2 nx3:=by
 obtain⟨oid2,ver2,a1,a2,a3,a4,a5,a6⟩:=h;exact⟨oid2,ver2,a1,a2,fun j hj=>a3 j (by omega),by omega,by omega,a6⟩
set_option maxRecDepth 8000 in
theorem th {n c:Nat}{ex:Ae->Option Ae}(hex:VG 86 ex):VG 111 (FQ n ex c):=by
 intro hp nx q oid ver x y bl hf hI ho h;have hfac:=Qo (n:=n) hex;unfold FQ at h;obtain⟨x1,h1,h⟩:=AJ h;have hqn:q<nx:=CR hf hI.box;refine zq Tryz.func111 ?_;refine Az ?_;refine CG ((hfac _ _ q oid ver _ x1 bl (fun j hj=> ?_) hI (by dsimp only;omega) h1).mono ?_)
 ·dsimp only at hj⊢;exact hf j (by omega)
 rintro v hp2 nx2 ⟨rfl,hP⟩;refine Z0 ?_;refine CN ?_;refine DS (α:={ t:Nat × Ae × Hp × Nat // KV hp nx q oid x t.2.1 bl t.2.2.1 t.2.2.2/\GQ n ex t.1 t.2.1=some y })
  (fun t=>⟨upd 0 (.pt q 0) AQ,t.1.2.2.1,t.1.2.2.2⟩) (fun t=>t.1.1) ⟨(c,x1,hp2,nx2),?_,h⟩ ?_ ?_
 ·exact hP.trans (oid1:=oid) (by dsimp only;omega) (by dsimp only;omega) (fun b=>.inl ⟨b,rfl⟩) fun _ _ _ _=>rfl
 ·exact CH
 rintro⟨⟨c,z,hp3,nx3⟩,hP3,m⟩;dsimp only at hP3 m;cases c with
 |zero=>cases m
 |succ c=>
 unfold GQ at m;split at m;rotate_left
 ·cases m
 rename_i hw;obtain⟨w1,w2,w3,w4⟩:=hw;have hP3':=hP3;obtain⟨o1,v1,I,fr,new,nle,olt,oc⟩:=hP3;have hq:=I.box;obtain⟨ov,hov⟩:∃ov,ov=Aa o1 v1 (z.out.map Aj):=⟨_,rfl⟩;rw[<-hov] at hq;refine AW (AW ?_);refine ZT 1 ?_;cases he:(z.e==0) with
 |false=>
  rw[he,Nj,if_neg (by decide)] at m;cases m;refine Z1 (Y2 hq he) ?_;refine AN ?_;exact⟨_,_,rfl,⟨fun _=>.inr rfl⟩,rfl,hP3'.up (by dsimp only;omega)⟩
 |true=>
  refine Z1 (Y2 hq he) ?_;refine CG ((Hd hq (by omega)).mono ?_);rintro v hp4 nx4 ⟨rfl,rfl,hle4⟩;dsimp only at hle4;rw[he,NG] at m;cases hi:isM z D2 with
  |false=>
   have hi':isM z { data:= #[38] }=false:=hi;rw[hi,if_neg (by decide)] at m;cases m;refine Z1 hi' ?_;refine AN ?_;exact⟨_,_,rfl,⟨fun _=>.inr rfl⟩,rfl,hP3'.up (by dsimp only;omega)⟩
  |true=>
   have hi':isM z { data:= #[38] }=true:=hi;have lt0:=Fp hi;rw[hi,if_pos rfl] at m;obtain⟨z2,h2,m⟩:=AJ m;split at m;rotate_left
   ·cases m
   rename_i w5;refine Z1 hi' ?_;refine AN ?_;refine CN ?_;refine Az ?_;refine CG ((VE hq (by omega)).mono ?_);rintro v hp5 nx5 ⟨rfl,rfl,hle5⟩;dsimp only at hle5;refine Dj ?_;refine Z1 (Y2 hq (As (n:=z.p))) ?_;have I1:=I.upd (y:={ z with p:=z.p+1 }) rfl hov;refine Az ?_;refine CG ((hfac _ _ q o1 v1 _ z2 bl (fun j hj=> ?_) I1 (by dsimp only;omega) h2).mono ?_)
   ·dsimp only at hj⊢
    have:q<nx3:=by omega
    repeat rw[AR]
    exact new j (by omega)
   rintro v hp6 nx6 ⟨rfl,hP6⟩;have hP6':=hP6.trans (hp:=hp) (nx:=nx) (x0:=x) (oid:=oid) (by dsimp only;omega) (by dsimp only;omega) oc fun j b1 b2 b3=>by
    repeat rw[Ad _ _ b2]
    exact fr j b1 b2 b3
   obtain⟨o2,v2,J,fr2,new2,nle2,olt2,oc2⟩:=hP6';refine GI ?_;refine CG ((KW (s:=⟨5,ByteArray.empty,ByteArray.empty⟩) (fun j hj=> ?_) J (by dsimp only;omega) rfl w5).mono ?_)
   ·dsimp only at hj⊢;exact new2 j (by omega)
   rintro v hp7 nx7 ⟨rfl,hP7⟩;refine Z0 ?_;exact⟨⟨(c,C5 z2 ⟨5,ByteArray.empty,ByteArray.empty⟩ (HD z),hp7,nx7),hP7.trans (by dsimp only;omega) (by dsimp only;omega) oc2 fr2,m⟩,CH,LF c⟩
def J0:ByteArray:={ data:= #[43] }
def C9:ByteArray:={ data:= #[45] }
def Fd (trm:Ae->Option Ae):Nat->Ae->Option Ae
 |0,_=>none
 |c+1,x=>if Dr x then(if x.e==0&&(isM x J0||isM x C9) then(trm { x with p:=x.p+1 }).bind fun y=>if y.out.length<=200 then Fd trm c (C5 y ⟨if isM x C9 then 4 else 3,ByteArray.empty,ByteArray.empty⟩ (HD x)) else none else some x) else none
def EZ (n c:Nat):Nat->Ae->Option Ae
 |0,_=>none
 |f+1,x=>(FQ n (EZ n c f) c x).bind (Fd (FQ n (EZ n c f) c) c)
set_option maxRecDepth 8000 in
theorem jk {n c:Nat}:∀f:Nat,VG 86 (EZ n c f)
 |0=>fun _ _ _ _ _ _ _ _ _ _ _ h=>by cases h
 |f+1=>by
  intro hp nx q oid ver x y bl hf hI ho h;have htm:=th (n:=n) (c:=c) (jk (n:=n) (c:=c) f);unfold EZ at h;obtain⟨x1,h1,h⟩:=AJ h;generalize FQ n (EZ n c f) c=trm at htm h1 h;have hqn:q<nx:=CR hf hI.box;refine zq Tryz.func86 ?_;refine Az ?_;refine CG ((htm _ _ q oid ver _ x1 bl (fun j hj=> ?_) hI (by dsimp only;omega) h1).mono ?_)
  ·dsimp only at hj⊢;exact hf j (by omega)
  rintro v hp2 nx2 ⟨rfl,hP⟩;refine Z0 ?_;refine CN ?_;refine DS (α:={ t:Nat × Ae × Hp × Nat // KV hp nx q oid x t.2.1 bl t.2.2.1 t.2.2.2/\Fd trm t.1 t.2.1=some y })
   (fun t=>⟨upd 0 (.pt q 0) AQ,t.1.2.2.1,t.1.2.2.2⟩) (fun t=>t.1.1) ⟨(c,x1,hp2,nx2),?_,h⟩ ?_ ?_
  ·exact hP.trans (oid1:=oid) (by dsimp only;omega) (by dsimp only;omega) (fun b=>.inl ⟨b,rfl⟩) fun _ _ _ _=>rfl
  ·exact CH
  rintro⟨⟨c,z,hp3,nx3⟩,hP3,m⟩;dsimp only at hP3 m;cases c with
  |zero=>cases m
  |succ c=>
  unfold Fd at m;split at m;rotate_left
  ·cases m
  rename_i hw;obtain⟨w1,w2,w3,w4⟩:=hw;have hP3':=hP3;obtain⟨o1,v1,I,fr,new,nle,olt,oc⟩:=hP3;have hq:=I.box;obtain⟨ov,hov⟩:∃ov,ov=Aa o1 v1 (z.out.map Aj):=⟨_,rfl⟩;rw[<-hov] at hq;refine AW (AW ?_);refine ZT 1 ?_;cases he:(z.e==0) with
  |false=>
   rw[he,Nj,if_neg (by decide)] at m;cases m;refine Z1 (Y2 hq he) ?_;refine AN ?_;exact⟨_,_,rfl,⟨fun _=>.inr rfl⟩,rfl,hP3'.up (by dsimp only;omega)⟩
  |true=>
   refine Z1 (Y2 hq he) ?_;refine CG ((Hd hq (by omega)).mono ?_);rintro v hp4 nx4 ⟨rfl,rfl,hle4⟩;dsimp only at hle4;rw[he,NG] at m;cases hi:isM z J0 with
   |true=>
    have hi':isM z { data:= #[43] }=true:=hi;have lt0:=Fp hi;rw[hi,Ox,if_pos rfl] at m;refine Z1 hi' ?_;obtain⟨z2,h2,m⟩:=AJ m;split at m;rotate_left
    ·cases m
    rename_i w5;refine AN ?_;refine CN ?_;refine Az ?_;refine CG ((VE hq (by omega)).mono ?_);rintro v hp5 nx5 ⟨rfl,rfl,hle5⟩;dsimp only at hle5;refine Dj ?_;refine Z0 ?_;refine ET ?_;refine CG ((Hd hq (by omega)).mono ?_);rintro v hp8 nx8 ⟨rfl,rfl,hle8⟩;dsimp only at hle8;cases hm:isM z C9 with
    |true=>
     have hm':isM z { data:= #[45] }=true:=hm;rw[hm,if_pos rfl] at m;refine Z1 hm' ?_;refine AN ?_;have I1:=I.upd (y:={ z with p:=z.p+1 }) rfl hov;refine AW (ZT 1 ?_);refine Z1 (Y2 hq (As (n:=z.p))) ?_;refine Az ?_;refine CG ((htm _ _ q o1 v1 _ z2 bl (fun j hj=> ?_) I1 (by dsimp only;omega) h2).mono ?_)
     ·dsimp only at hj⊢
      have:q<nx3:=by omega
      repeat rw[AR]
      exact new j (by omega)
     rintro v hp6 nx6 ⟨rfl,hP6⟩;have hP6':=hP6.trans (hp:=hp) (nx:=nx) (x0:=x) (oid:=oid) (by dsimp only;omega) (by dsimp only;omega) oc fun j b1 b2 b3=>by
      repeat rw[Ad _ _ b2]
      exact fr j b1 b2 b3
     obtain⟨o2,v2,J,fr2,new2,nle2,olt2,oc2⟩:=hP6';refine GI ?_;refine CG ((KW (s:=⟨4,ByteArray.empty,ByteArray.empty⟩) (fun j hj=> ?_) J (by dsimp only;omega) rfl w5).mono ?_)
     ·dsimp only at hj⊢;exact new2 j (by omega)
     rintro v hp7 nx7 ⟨rfl,hP7⟩;refine Z0 ?_;exact⟨⟨(c,C5 z2 ⟨4,ByteArray.empty,ByteArray.empty⟩ (HD z),hp7,nx7),hP7.trans (by dsimp only;omega) (by dsimp only;omega) oc2 fr2,m⟩,CH,LF c⟩
    |false=>
     have hm':isM z { data:= #[45] }=false:=hm;rw[hm,if_neg (by decide)] at m;refine Z1 hm' ?_;refine DF (c:=false) rfl rfl ?_;refine AN ?_;have I1:=I.upd (y:={ z with p:=z.p+1 }) rfl hov;refine AW (ZT 1 ?_);refine Z1 (Y2 hq (As (n:=z.p))) ?_;refine Az ?_;refine CG ((htm _ _ q o1 v1 _ z2 bl (fun j hj=> ?_) I1 (by dsimp only;omega) h2).mono ?_)
     ·dsimp only at hj⊢
      have:q<nx3:=by omega
      repeat rw[AR]
      exact new j (by omega)
     rintro v hp6 nx6 ⟨rfl,hP6⟩;have hP6':=hP6.trans (hp:=hp) (nx:=nx) (x0:=x) (oid:=oid) (by dsimp only;omega) (by dsimp only;omega) oc fun j b1 b2 b3=>by
      repeat rw[Ad _ _ b2]
      exact fr j b1 b2 b3
     obtain⟨o2,v2,J,fr2,new2,nle2,olt2,oc2⟩:=hP6';refine GI ?_;refine CG ((KW (s:=⟨3,ByteArray.empty,ByteArray.empty⟩) (fun j hj=> ?_) J (by dsimp only;omega) rfl w5).mono ?_)
     ·dsimp only at hj⊢;exact new2 j (by omega)
     rintro v hp7 nx7 ⟨rfl,hP7⟩;refine Z0 ?_;exact⟨⟨(c,C5 z2 ⟨3,ByteArray.empty,ByteArray.empty⟩ (HD z),hp7,nx7),hP7.trans (by dsimp only;omega) (by dsimp only;omega) oc2 fr2,m⟩,CH,LF c⟩
   |false=>
    have hi':isM z { data:= #[43] }=false:=hi;rw[hi,BT] at m;refine Z1 hi' ?_;refine CG ((Hd hq (by omega)).mono ?_);rintro v hp9 nx9 ⟨rfl,rfl,hle9⟩;dsimp only at hle9;cases hn:isM z C9 with
    |true=>
     have hn':isM z { data:= #[45] }=true:=hn;have lt0:=Fp hn;rw[hn,if_pos rfl] at m;refine Z1 hn' ?_;obtain⟨z2,h2,m⟩:=AJ m;split at m;rotate_left
     ·cases m
     rename_i w5;refine AN ?_;refine CN ?_;refine Az ?_;refine CG ((VE hq (by omega)).mono ?_);rintro v hp5 nx5 ⟨rfl,rfl,hle5⟩;dsimp only at hle5;refine Dj ?_;refine Z0 ?_;refine ET ?_;refine CG ((Hd hq (by omega)).mono ?_);rintro v hp8 nx8 ⟨rfl,rfl,hle8⟩;dsimp only at hle8;cases hm:isM z C9 with
     |true=>
      have hm':isM z { data:= #[45] }=true:=hm;rw[if_pos rfl] at m;refine Z1 hm' ?_;refine AN ?_;have I1:=I.upd (y:={ z with p:=z.p+1 }) rfl hov;refine AW (ZT 1 ?_);refine Z1 (Y2 hq (As (n:=z.p))) ?_;refine Az ?_;refine CG ((htm _ _ q o1 v1 _ z2 bl (fun j hj=> ?_) I1 (by dsimp only;omega) h2).mono ?_)
      ·dsimp only at hj⊢
       have:q<nx3:=by omega
       repeat rw[AR]
       exact new j (by omega)
      rintro v hp6 nx6 ⟨rfl,hP6⟩;have hP6':=hP6.trans (hp:=hp) (nx:=nx) (x0:=x) (oid:=oid) (by dsimp only;omega) (by dsimp only;omega) oc fun j b1 b2 b3=>by
       repeat rw[Ad _ _ b2]
       exact fr j b1 b2 b3
      obtain⟨o2,v2,J,fr2,new2,nle2,olt2,oc2⟩:=hP6';refine GI ?_;refine CG ((KW (s:=⟨4,ByteArray.empty,ByteArray.empty⟩) (fun j hj=> ?_) J (by dsimp only;omega) rfl w5).mono ?_)
      ·dsimp only at hj⊢;exact new2 j (by omega)
      rintro v hp7 nx7 ⟨rfl,hP7⟩;refine Z0 ?_;exact⟨⟨(c,C5 z2 ⟨4,ByteArray.empty,ByteArray.empty⟩ (HD z),hp7,nx7),hP7.trans (by dsimp only;omega) (by dsimp only;omega) oc2 fr2,m⟩,CH,LF c⟩
     |false=>
      have hm':isM z { data:= #[45] }=false:=hm;exact absurd (hn.symm.trans hm) (by decide)
    |false=>
     have hn':isM z { data:= #[45] }=false:=hn;rw[hn,if_neg (by decide)] at m;cases m;refine Z1 hn' ?_;refine AN ?_;exact⟨_,_,rfl,⟨fun _=>.inr rfl⟩,rfl,hP3'.up (by dsimp only;omega)⟩
structure Kp (x y:Ae):Prop where
 l:y.l=x.l
 p:x.p<=y.p
 p2:y.p<=x.l.length
 o:y.out.length<=200
 d:y.deep=x.deep
 e:(x.e==0)=false->(y.e==0)=false
theorem Kp.trans {x y z:Ae}(h:Kp x y)(k:Kp y z):Kp x z:=⟨k.l.trans h.l,Lp h.p k.p,by have:=k.p2;rw[h.l] at this;exact this,k.o,k.d.trans h.d,fun g=>k.e (h.e g)⟩
theorem Kp.w {x y:Ae}(h:Kp x y)(w:Dr x):Dr y:=⟨by rw[h.l];exact w.1,by rw[h.l];exact h.p2,h.o,by rw[h.d];exact w.2.2.2⟩
theorem Kp.fail {x:Ae}(w:Dr x)(c:Int):Kp x (jw_ x c):=by
 have k:=He x c;exact⟨k.1,by rw[k.2.2.2];exact Lc _,by rw[k.2.2.2];exact w.2.1,by rw[k.2.1];exact w.2.2.1,k.2.2.1,fun g=>by unfold jw_;rw[g,if_neg (by decide)];exact g⟩
theorem Kp.one {x:Ae}(w:Dr x)(h:x.p<x.l.length):Kp x { x with p:=x.p+1 }:=⟨rfl,Bj _,h,w.2.2.1,rfl,id⟩
theorem Kp.put {x:Ae}(w:Dr x)(s:AY)(a:Int):Kp x (C5 x s a):=by
 unfold C5;split
 ·rename_i h0;split
  ·exact⟨rfl,Lc _,w.2.1,w.2.2.1,rfl,fun g=>by rw[g] at h0;cases h0⟩
  have:=w.2.2.1;exact⟨rfl,Lc _,w.2.1,by grind,rfl,id⟩
 exact⟨rfl,Lc _,w.2.1,w.2.2.1,rfl,id⟩
theorem Kp.want {x:Ae}(w:Dr x)(t:ByteArray):Kp x (DV x t):=by
 unfold DV;split
 ·split
  ·rename_i h;exact Kp.one w (Fp h)
  exact Kp.fail w 9
 exact⟨rfl,Lc _,w.2.1,w.2.2.1,rfl,id⟩
section
variable {n:Nat}{L:List CE}(hT:∀t∈L,∃b,Fy n t.text=some b)
include hT in
theorem Sp {x:Ae}(hl:x.l=L)(w:Dr x):∃r,xL_ n x=some r/\Kp x r.1:=by
 have kf:=Kp.fail w 9;unfold xL_;split
 ·split
  ·rename_i t e;have hm:=(Lb.1 e);obtain⟨b,hb⟩:=hT t (by grind);split
   ·rw[hb,Zo];split
    ·exact⟨_,rfl,Kp.one w hm.1⟩
    exact⟨_,rfl,kf⟩
   exact⟨_,rfl,kf⟩
  exact⟨_,rfl,kf⟩
 exact⟨_,rfl,⟨rfl,Lc _,w.2.1,w.2.2.1,rfl,id⟩⟩
include hT in
theorem kD {ex:Ae->Option Ae}{d:Nat}(hex:d<20->∀z,z.l=L->Dr z->z.deep=d+1->∃y,ex z=some y/\Kp z y){x:Ae}(hl:x.l=L)(w:Dr x)(hd:x.deep=d):∃y,EB n ex x=some y/\Kp x y:=by
 unfold EB;rw[if_pos w];split
 ·rename_i h;rw[Li] at h;have lt:=Fp h.2;split
  ·exact⟨_,rfl,Kp.fail w 10⟩
  rename_i h20;have hd20:d<20:=by have:=w.2.2.2;omega
  have w1:Dr { x with deep:=x.deep+1,p:=x.p+1 }:=⟨w.1,lt,w.2.2.1,by show x.deep+1<=20;omega⟩;obtain⟨y,e1,k1⟩:=hex hd20 { x with deep:=x.deep+1,p:=x.p+1 } hl w1 (by show x.deep+1=d+1;omega);have wy:=k1.w w1;have ky:=Kp.want wy Gz;have dy:y.deep=x.deep+1:=k1.d;have ly:y.l=x.l:=k1.l;have py:x.p+1<=y.p:=k1.p;rw[e1,Zo,if_pos ⟨wy,by omega⟩];refine⟨_,rfl,⟨ky.l.trans ly,?_,?_,ky.o,?_,fun g=>ky.e (k1.e g)⟩⟩
  ·have:=ky.p;show x.p<=(DV y Gz).p;omega
  ·have:=ky.p2;rw[ly] at this;exact this
  show y.deep-1=x.deep;omega
 obtain⟨r,e1,k1⟩:=Sp hT hl w;rw[e1,Zo];split
 ·rename_i h;rw[Li] at h;have w1:=k1.w w;have k2:=Kp.one w1 (Fp h.2);obtain⟨s,e2,k3⟩:=Sp hT (x:={ r.1 with p:=r.1.p+1 }) (k1.l.trans hl) (k2.w w1);rw[e2,Zo];exact⟨_,rfl,k1.trans (k2.trans (k3.trans (Kp.put (k3.w (k2.w w1)) _ _)))⟩
 exact⟨_,rfl,k1.trans (Kp.put (k1.w w) _ _)⟩
include hT in
theorem kE {ex:Ae->Option Ae}{d:Nat}(hex:d<20->∀z,z.l=L->Dr z->z.deep=d+1->∃y,ex z=some y/\Kp z y):∀(c:Nat) (x:Ae),x.l=L->Dr x->x.deep=d->L.length-x.p<c->∃y,GQ n ex c x=some y/\Kp x y
 |0,_,_,_,_,h=>absurd h (LK _)
 |c+1,x,hl,w,hd,hc=>by
  unfold GQ;rw[if_pos w];split
  ·rename_i h;rw[Li] at h;have lt:=Fp h.2;have k1:=Kp.one w lt;obtain⟨y,e1,k2⟩:=kD hT hex (x:={ x with p:=x.p+1 }) hl (k1.w w) hd;have w2:=k2.w (k1.w w);have k3:=Kp.put w2 ⟨5,ByteArray.empty,ByteArray.empty⟩ (HD x);have k4:=(k1.trans k2).trans k3;have hp:x.p+1<=y.p:=k2.p;have hp3:=k3.p;rw[hl] at lt;obtain⟨z,e2,k5⟩:=kE hex c _ (k4.l.trans hl) (k4.w w) (k4.d.trans hd) (by omega);rw[e1,Zo,if_pos w2.2.2.1];exact⟨z,e2,k4.trans k5⟩
  exact⟨x,rfl,⟨rfl,Lc _,w.2.1,w.2.2.1,rfl,id⟩⟩
include hT in
theorem uC {ex:Ae->Option Ae}{d c:Nat}(hex:d<20->∀z,z.l=L->Dr z->z.deep=d+1->∃y,ex z=some y/\Kp z y)(hc:L.length<c){x:Ae}(hl:x.l=L)(w:Dr x)(hd:x.deep=d):∃y,FQ n ex c x=some y/\Kp x y:=by
 obtain⟨y,e1,k1⟩:=kD hT hex hl w hd;obtain⟨z,e2,k2⟩:=kE hT hex c y (k1.l.trans hl) (k1.w w) (k1.d.trans hd) (by omega);exact⟨z,by unfold FQ;rw[e1,Zo,e2],k1.trans k2⟩
theorem kF {trm:Ae->Option Ae}{d:Nat}(htm:∀z,z.l=L->Dr z->z.deep=d->∃y,trm z=some y/\Kp z y):∀(c:Nat) (x:Ae),x.l=L->Dr x->x.deep=d->L.length-x.p<c->∃y,Fd trm c x=some y/\Kp x y
 |0,_,_,_,_,h=>absurd h (LK _)
 |c+1,x,hl,w,hd,hc=>by
  unfold Fd;rw[if_pos w];split
  ·rename_i h;rw[Li,LP] at h;have lt:x.p<x.l.length:=h.2.elim Fp Fp;have k1:=Kp.one w lt;obtain⟨y,e1,k2⟩:=htm { x with p:=x.p+1 } hl (k1.w w) hd;have w2:=k2.w (k1.w w);have k3:=Kp.put w2 ⟨if isM x C9 then 4 else 3,ByteArray.empty,ByteArray.empty⟩ (HD x);have k4:=(k1.trans k2).trans k3;have hp:x.p+1<=y.p:=k2.p;have hp3:=k3.p;rw[hl] at lt;obtain⟨z,e2,k5⟩:=kF htm c _ (k4.l.trans hl) (k4.w w) (k4.d.trans hd) (by omega);rw[e1,Zo,if_pos w2.2.2.1];exact⟨z,e2,k4.trans k5⟩
  exact⟨x,rfl,⟨rfl,Lc _,w.2.1,w.2.2.1,rfl,id⟩⟩
include hT in
theorem kG {c:Nat}(hc:L.length<c):∀(f d:Nat),20<f+d->∀x:Ae,x.l=L->Dr x->x.deep=d->∃y,EZ n c f x=some y/\Kp x y
 |0,d,h,x,_,w,hd=>by have:=w.2.2.2;omega
 |f+1,d,h,x,hl,w,hd=>by
  have hex:∀e,e=d->(e<20->∀z,z.l=L->Dr z->z.deep=e+1->∃y,EZ n c f z=some y/\Kp z y):=fun e he _ z h1 h2 h3=>kG hc f (e+1) (by omega) z h1 h2 h3;have htm:∀z,z.l=L->Dr z->z.deep=d->∃y,FQ n (EZ n c f) c z=some y/\Kp z y:=fun z h1 h2 h3=>uC hT (hex d rfl) hc h1 h2 h3;obtain⟨y,e1,k1⟩:=htm x hl w hd;obtain⟨z,e2,k2⟩:=kF htm c y (k1.l.trans hl) (k1.w w) (k1.d.trans hd) (by omega);exact⟨z,by unfold EZ;rw[e1,Zo,e2],k1.trans k2⟩
end
def KY:ByteArray:={ data:= #[61] }
def EN:ByteArray:={ data:= #[59] }
def Eg:ByteArray:={ data:= #[58] }
def bt_:ByteArray:={ data:= #[35] }
def E6:ByteArray:={ data:= #[124] }
def GR (n:Nat):Nat->Ae->List AL->Option (Ae × List AL)
 |0,_,_=>none
 |c+1,x,ss=>if Dr x/\ss.length<=50 then (if x.e==0 then(xL_ n (if ss.length=50 then jw_ x 8 else x)).bind fun r1=>(if r1.1.e==0&&isM r1.1 bt_ then xL_ n { r1.1 with p:=r1.1.p+1 } else some (r1.1,ByteArray.empty)).bind fun r2=>if r2.1.e==0&&isM r2.1 E6 then GR n c { r2.1 with p:=r2.1.p+1 } (ss++[⟨r1.2,ByteArray.empty,r2.2⟩]) else some (DV r2.1 EN,ss++[⟨r1.2,ByteArray.empty,r2.2⟩]) else some (x,ss)) else none
def EJ (n c f:Nat)(x:Ae):Option (Ae × Ac):=if Dr x then(xL_ n x).bind fun r0=>if r0.1.e==0&&isM r0.1 KY then(EZ n c f { r0.1 with p:=r0.1.p+1,out:=[] }).bind fun y=>if Dr y then some (DV y EN,⟨r0.2,[],y.out⟩) else none else(GR n c (DV r0.1 Eg) []).map fun p=>(p.1,⟨r0.2,p.2,[]⟩) else none
def vI_ (n:Nat)(x:Ae):Bool:=match xL_ n x with
 |some r=>r.1.e==0&&isM r.1 KY
 |none=>false
def VH (hp:Hp)(nx q:Nat)(x:Ae)(g:Ac)(bl eq:Bool)(ov0 v:AV)(hp2:Hp)(nx2:Nat):Prop:=∃ov sid sver eid ever,v= .ag [.v (.string g.name),Aa sid sver (g.subs.map AZ),Aa eid ever (g.expr.map Aj)]/\hp2 q=some (Ai x bl ov)/\(ov=if eq then Aa eid ever (g.expr.map Aj) else ov0)/\(g.subs≠[]->hp2 sid=some (.rw (g.subs.map AZ) 3 sver false false)/\nx<=sid/\sid<nx2)/\(g.expr≠[]->hp2 eid=some (.rw (g.expr.map Aj) 3 ever false false)/\nx<=eid/\eid<nx2)/\(∀j,j<nx->j≠q->hp2 j=hp j)/\(∀j,nx2<=j->hp2 j=none)/\nx<=nx2
structure IS (hp:Hp) (nx q:Nat) (bl:Bool) (nm:ByteArray) (ov:AV) (z:Ae) (ss:List AL) (sid sver:Nat) (hpz:Hp) (nxz:Nat):Prop where
 box:hpz q=some (Ai z bl ov)
 o:hpz (nx+1+3)=some (.bx [.v (.string nm),Aa sid sver (ss.map AZ),.v (.slice none 0 0)])
 res:hpz nx=some (.bx [.v (.string ByteArray.empty),.v (.slice none 0 0),.v (.slice none 0 0)])
 row:ss≠[]->hpz sid=some (.rw (ss.map AZ) 3 sver false false)/\nx+1+5<=sid/\sid<nxz
 fr:∀j,j<nx->j≠q->hpz j=hp j
 new:∀j,nxz<=j->hpz j=none
 le:nx+1+5<=nxz
theorem IS.put {hp:Hp}{nx q:Nat}{bl:Bool}{nm:ByteArray}{ov:AV}{z z2:Ae}{ss:List AL}{sid sver:Nat}{hpz:Hp}{nxz nx2:Nat}(h:IS hp nx q bl nm ov z ss sid sver hpz nxz)(hq:q<nx)(hn:nxz<=nx2):IS hp nx q bl nm ov z2 ss sid sver (upd q (some (Ai z2 bl ov)) hpz) nx2 where
 box:=Ah _ _ _
 o:=by rw[AR];exact h.o
 res:=by rw[AR];exact h.res
 row:=fun hs=>by
  have h1:=h.row hs;exact⟨by rw[AR];exact h1.1,h1.2.1,by omega⟩
 fr:=fun j h1 h2=>by rw[Ad _ _ h2];exact h.fr j h1 h2
 new:=fun j h1=>by have:=h.le;rw[AR];exact h.new j (by omega)
 le:=by have:=h.le;omega
theorem IS.ext {hp:Hp}{nx q:Nat}{bl:Bool}{nm:ByteArray}{ov:AV}{z:Ae}{ss:List AL}{sid sver:Nat}{hpz:Hp}{nxz nx2 id:Nat}(h:IS hp nx q bl nm ov z ss sid sver hpz nxz)(hn:nxz<=nx2)(h1:id≠q)(h2:nx+1+5<=id)(h3:ss≠[]->id≠sid)(h4:id<nx2)(o:Option AO):IS hp nx q bl nm ov z ss sid sver (upd id o hpz) nx2 where
 box:=by rw[Ad _ _ (Ne.symm h1)];exact h.box
 o:=by rw[AR];exact h.o
 res:=by rw[AR];exact h.res
 row:=fun hs=>by
  have h5:=h.row hs;exact⟨by rw[Ad _ _ (Ne.symm (h3 hs))];exact h5.1,h5.2.1,by omega⟩
 fr:=fun j h5 h6=>by rw[AR];exact h.fr j h5 h6
 new:=fun j h5=>by rw[AR];exact h.new j (by omega)
 le:=by have:=h.le;omega
theorem IS.fin {hp:Hp}{nx q:Nat}{bl:Bool}{nm:ByteArray}{ov:AV}{z:Ae}{ss:List AL}{sid sver:Nat}{hpz:Hp}{nxz nx2:Nat}(h:IS hp nx q bl nm ov z ss sid sver hpz nxz)(hq:q<nx)(hn:nxz<=nx2)(o:Option AO):VH hp nx q z ⟨nm,ss,[]⟩ bl false ov (.ag [.v (.string nm),Aa sid sver (ss.map AZ),.v (.slice none 0 0)]) (upd nx o hpz) nx2:=by
 have hle:=h.le;refine⟨ov,sid,sver,0,0,rfl,by rw[AR];exact h.box,rfl,fun hs=> ?_,fun hn=>absurd rfl hn,fun j h1 h2=>by rw[AR];exact h.fr j h1 h2,fun j h1=>by rw[AR];exact h.new j (by omega),by omega⟩;have h1:=h.row hs;exact⟨by rw[AR];exact h1.1,by omega,by omega⟩
set_option maxRecDepth 8000 in
theorem Qp {n c f:Nat}{hp:Hp}{nx q:Nat}{x:Ae}{y:Ae × Ac}{bl:Bool}{ov:AV}(hf:∀j,nx<=j->hp j=none)(hq:hp q=some (Ai x bl ov))(h:EJ n c f x=some y):
  AK Tryz.prog 57 [.pt q 0] hp nx fun v hp2 nx2=>VH hp nx q y.1 y.2 bl (vI_ n x) ov v hp2 nx2:=by
 have hqn:q<nx:=CR hf hq;unfold EJ at h;split at h;rotate_left
 ·cases h
 rename_i hw;obtain⟨w1,w2,w3,w4⟩:=hw;obtain⟨r,hr,h⟩:=AJ h;have k1:=Hg hr;refine zq Tryz.func57 ?_;refine Az ?_;refine AW (ZT 1 ?_);have hq1:∀o:Option AO,upd nx o hp q=some (Ai x bl ov):=fun o=>by rw[AR];exact hq
 refine Z0 ?_;refine CG ((PF (hq1 _) (by omega) hr).mono ?_);rintro v hp2 nx2 ⟨rfl,rfl,hle⟩;dsimp only at hle;refine Z0 ?_;generalize eH:(upd (nx+1+3) (some _) _:Hp)=hp3;have q3:hp3 q=some (Ai r.1 bl ov):=by rw[<-eH,AR,AR,Ah]
 have b3:hp3 (nx+1+3)=some (.bx [.v (.string r.2),.v (.slice none 0 0),.v (.slice none 0 0)]):=by rw[<-eH,Ah]
 have b2:hp3 nx=some (.bx [.v (.string ByteArray.empty),.v (.slice none 0 0),.v (.slice none 0 0)]):=by rw[<-eH,AR,AR,AR,Ah]
 have fr3:∀j,j<nx->j≠q->hp3 j=hp j:=fun j h1 h2=>by rw[<-eH,AR,AR,Ad _ _ h2,AR]
 have n3:∀j,nx2<=j->hp3 j=none:=fun j h1=>by rw[<-eH,AR,AR,AR,AR];exact hf j (by omega)
 refine AW (EI (α:={ k:Nat // nx2<=k/\(GR n c (DV r.1 Eg) []).map (fun p=>(p.1,(⟨r.2,p.2,[]⟩:Ac)))=some y/\vI_ n x=false }) (fun y=>⟨upd 0 (.pt q 0) (upd 2 (.pt nx 0) (upd 3 (.pt (nx+1+3) 0) AQ)),hp3,y.1⟩) ?_ ?_)
 ·refine AW (ZT 1 ?_);cases he:(r.1.e==0) with
  |false=>
   rw[he,Nj,if_neg (by decide)] at h;refine Z1 (Y2 q3 he) ?_;refine DF (c:=false) rfl rfl ?_;refine AN ?_;exact⟨⟨_,by omega,h,by unfold vI_;rw[hr];exact(by simp[he])⟩,CH⟩
  |true=>
   rw[he,NG] at h;refine Z1 (Y2 q3 he) ?_;refine CG ((Hd q3 (by rw[k1.1];omega)).mono ?_);rintro v hp4 nx4 ⟨rfl,rfl,hle4⟩;dsimp only at hle4;cases hi:isM r.1 KY with
   |false=>
    have hi':isM r.1 { data:= #[61] }=false:=hi;rw[hi,if_neg (by decide)] at h;refine Z1 hi' ?_;refine DF (c:=false) rfl rfl ?_;refine AN ?_;exact⟨⟨_,by omega,h,by unfold vI_;rw[hr];exact(by simp[hi])⟩,CH⟩
   |true=>
    have hi':isM r.1 { data:= #[61] }=true:=hi;have lt0:=Fp hi;rw[k1.1] at lt0;rw[hi,if_pos rfl] at h;obtain⟨z,hz,h⟩:=AJ h;split at h;rotate_left
    ·cases h
    rename_i hwz;obtain⟨z1,z2,z3,z4⟩:=hwz;cases h;refine Z1 hi' ?_;refine EV (c:=true) rfl rfl ?_;refine AW (ZT 1 ?_);refine Z1 (Y2 q3 (As (n:=r.1.p))) ?_;refine D3 ?_;generalize eK:(upd q (some _) _:Hp)=hp5;have I5:Qn hp5 q { r.1 with p:=r.1.p+1,out:=[] } bl 0 0:=⟨by rw[<-eK,Ah];rfl,fun hn=>absurd rfl hn⟩;have fr5:∀j,j≠q->hp5 j=hp4 j:=fun j h2=>by
     rw[<-eK];repeat rw[Ad _ _ h2]
    refine CG ((jk f _ _ q 0 0 _ z bl (fun j hj=> ?_) I5 (by dsimp only;omega) hz).mono ?_)
    ·grind
    rintro v hp6 nx6 ⟨rfl,o6,v6,J,frJ,newJ,nleJ,oltJ,ocJ⟩;dsimp only at frJ nleJ ocJ;have hqJ:=J.box;have b6:hp6 (nx+1+3)=some (.bx [.v (.string r.2),.v (.slice none 0 0),.v (.slice none 0 0)]):=(by rw[frJ _ (by omega) (by omega) fun hn=>absurd rfl hn,fr5 _ (by omega)];exact b3);have b7:hp6 nx=some (.bx [.v (.string ByteArray.empty),.v (.slice none 0 0),.v (.slice none 0 0)]):=(by rw[frJ _ (by omega) (by omega) fun hn=>absurd rfl hn,fr5 _ (by omega)];exact b2);refine Dj ?_;refine Z1 (Y2 hqJ b6) ?_;obtain⟨ev,hev⟩:∃ev,ev=Aa o6 v6 (z.out.map Aj):=⟨_,rfl⟩;rw[<-hev] at hqJ⊢;generalize eL:(upd (nx+1+3) (some _) hp6:Hp)=hp7;have lo:z.out≠[]->nx+1+5<=o6:=fun hn=>by
     grind
    have q7:hp7 q=some (Ai z bl ev):=(by rw[<-eL,AR];exact hqJ);have b8:hp7 (nx+1+3)=some (.bx [.v (.string r.2),.v (.slice none 0 0),ev]):=(by rw[<-eL,Ah]);have b9:hp7 nx=some (.bx [.v (.string ByteArray.empty),.v (.slice none 0 0),.v (.slice none 0 0)]):=(by rw[<-eL,AR];exact b7);refine Az ?_;refine CG ((Qm q7 (by omega) (by omega)).mono ?_);rintro v hp8 nx8 ⟨rfl,rfl,hle8⟩;dsimp only at hle8;refine Dj ?_;have f1:(nx+1+3=q)=False:=EU;have f2:(nx=q)=False:=EU;refine Z1 (Y4 b8 b9 f1 f2) ?_;refine AN ?_;refine⟨.ag [.v (.string r.2),.v (.slice none 0 0),ev],_,by simp -implicitDefEqProofs only[go_sem, ↓reduceIte,Tryz.f57,Ah,Nat.reduceEqDiff]<;>rfl,⟨fun _=>.inr rfl⟩,ev,0,0,o6,v6,by rw[hev];rfl,?_,by rw[show vI_ n x=true by unfold vI_;rw[hr];simp[he,hi]];exact hev,fun hn=>absurd rfl hn,fun hn=> ?_,fun j h1 h2=> ?_,fun j h1=> ?_,by dsimp only;omega⟩
    ·dsimp only;rw[AR,Ah];rfl
    ·have h3:=(J.row hn).1;have h4:=(J.row hn).2;have h5:=lo hn;dsimp only;refine⟨?_,by omega,by omega⟩;rw[AR,Ad _ _ h4,<-eL,AR];exact h3
    ·dsimp only;rw[AR,Ad _ _ h2,<-eL,AR,frJ j (by omega) h2 fun hn=>absurd rfl hn,fr5 j h2];exact fr3 j h1 h2
    dsimp only at h1⊢;rw[AR,AR,<-eL,AR];exact newJ j (by omega)
 rintro⟨nxj,hj,h,hne⟩;obtain⟨⟨zf,sf⟩,hs,rfl⟩:=La.1 h;refine Az ?_;refine CG ((Qm q3 (by rw[k1.1];omega) (by have:=k1.2.2.2 w2;omega)).mono ?_);rintro v hp4 nx4 ⟨rfl,rfl,hle4⟩;dsimp only at hle4;refine Z0 ?_;have L0:IS hp nx q bl r.2 ov (DV r.1 Eg) [] 0 0 (upd q (some (Ai (DV r.1 Eg) bl ov)) hp3) nx4:=
  IS.put (z:=r.1) ⟨q3,b3,b2,fun hn=>absurd rfl hn,fr3,n3,hle⟩ hqn (by omega)
 refine AW (CN ?_);refine DS (α:={ t:Nat × Ae × List AL × Nat × Nat × Hp × Nat // IS hp nx q bl r.2 ov t.2.1 t.2.2.1 t.2.2.2.1 t.2.2.2.2.1 t.2.2.2.2.2.1 t.2.2.2.2.2.2/\GR n t.1 t.2.1 t.2.2.1=some (zf,sf) })
  (fun t=>⟨upd 0 (.pt q 0) (upd 2 (.pt nx 0) (upd 3 (.pt (nx+1+3) 0) AQ)),t.1.2.2.2.2.2.1,t.1.2.2.2.2.2.2⟩) (fun t=>t.1.1) ⟨(c,DV r.1 Eg,[],0,0,_,nx4),L0,hs⟩ ?_ ?_
 ·exact CH
 rintro⟨⟨c,z,ss,sid,sver,hpz,nxz⟩,L,m⟩;dsimp only at L m;cases c with
 |zero=>cases m
 |succ c=>
 unfold GR at m;split at m;rotate_left
 ·cases m
 rename_i hwz;obtain⟨⟨z1,z2,z3,z4⟩,z5⟩:=hwz;refine AW (AW ?_);refine ZT 1 ?_;cases he:(z.e==0) with
 |false=>
  rw[he,if_neg (by decide)] at m;obtain⟨m1,m2⟩:=BW (LI m);subst m1;subst m2;refine Z1 (Y2 L.box he) ?_;refine AN ?_;refine AW (ZT 1 ?_);obtain⟨sv,hsv⟩:∃sv,sv=Aa sid sver (ss.map AZ):=⟨_,rfl⟩;have lo:=L.o;rw[<-hsv] at lo;refine Z1 (Y2 lo L.res) ?_;refine AN ?_;refine⟨.ag [.v (.string r.2),sv,.v (.slice none 0 0)],_,by simp -implicitDefEqProofs only[go_sem, ↓reduceIte,Tryz.f57,Ah,reduceCtorEq,Nat.reduceEqDiff]<;>rfl,⟨fun _=>.inr rfl⟩,?_⟩;rw[hsv];rw[hne];exact L.fin hqn (by dsimp only;omega) _
 |true=>
  rw[he,if_pos rfl] at m;refine Z1 (Y2 L.box he) ?_;refine AN ?_;refine CN ?_;obtain⟨zz,hzz⟩:∃zz,zz=(if ss.length=50 then jw_ z 8 else z):=⟨_,rfl⟩;rw[<-hzz] at m;have kz:zz.l=z.l/\zz.out=z.out/\zz.deep=z.deep/\zz.p=z.p:=by
   rw[hzz];split
   ·exact He z 8
   exact⟨rfl,rfl,rfl,rfl⟩
  refine AW (EI (α:={ k:Nat // nxz<=k }) (fun y=>⟨upd 0 (.pt q 0) (upd 2 (.pt nx 0) (upd 3 (.pt (nx+1+3) 0) AQ)),upd q (some (Ai zz bl ov)) hpz,y.1⟩) ?_ ?_)
  ·refine AW (ZT 1 ?_);have lo:=L.o;cases ss with
   |nil=>
    rw[if_neg (by decide)] at hzz;refine Z1 lo ?_;refine DF (c:=false) rfl rfl ?_;refine AN ?_;rw[hzz];exact⟨⟨_,by omega⟩,Fz (FE L.box) C7⟩
   |cons a t=>
    by_cases h50:(a::t).length=50
    ·have c50:(((t.length+1:Nat):Int)==50)=true:=(by simp at h50⊢;omega);rw[if_pos h50] at hzz;refine Z1 (Y2 lo c50) ?_;refine AN ?_;refine CG ((KU L.box (by omega)).mono ?_);rintro v hp5 nx5 ⟨rfl,rfl,hle5⟩;dsimp only at hle5;refine Z0 ?_;rw[hzz];exact⟨⟨_,by omega⟩,CH⟩
    have c50:(((t.length+1:Nat):Int)==50)=false:=(by simp at h50⊢;omega);rw[if_neg h50] at hzz;refine Z1 (Y2 lo c50) ?_;refine DF (c:=false) rfl rfl ?_;refine AN ?_;rw[hzz];exact⟨⟨_,by omega⟩,Fz (FE L.box) C7⟩
  rintro⟨nxk,hk⟩;have L1:=L.put (z2:=zz) hqn hk;obtain⟨r1,hr1,m⟩:=AJ m;refine Az ?_;refine CG ((PF L1.box (by rw[kz.1];omega) hr1).mono ?_);rintro v hp6 nx6 ⟨rfl,rfl,hle6⟩;dsimp only at hle6;refine Z0 ?_;have lle:=L.le;have L2:=L1.put (z2:=r1.1) hqn (nx2:=nx6) (by omega);have hsid:ss≠[]->nxk+3≠sid:=fun hs=>by have:=(L.row hs).2.2;omega
  have L3:IS hp nx q bl r.2 ov r1.1 ss sid sver (upd (nxk+3) (some (.bx [.v (.string r1.2),.v (.string ByteArray.empty),.v (.string ByteArray.empty)])) (upd (nxk+3) (some (.bx [.v (.string ByteArray.empty),.v (.string ByteArray.empty),.v (.string ByteArray.empty)])) (upd q (some (Ai r1.1 bl ov)) (upd q (some (Ai zz bl ov)) hpz)))) nx6:=
   (L2.ext (Lc _) (by omega) (by omega) hsid (by omega) _).ext (Lc _) (by omega) (by omega) hsid (by omega) _
  generalize eS:(upd (nxk+3) (some _) _:Hp)=hp7 at L3⊢;have s7:hp7 (nxk+3)=some (.bx [.v (.string r1.2),.v (.string ByteArray.empty),.v (.string ByteArray.empty)]):=by rw[<-eS,Ah]
  have kr:=Hg hr1;obtain⟨r2,hr2,m⟩:=AJ m;refine AW (EI (α:={ k:Nat // nx6<=k }) (fun y=>⟨upd 0 (.pt q 0) (upd 2 (.pt nx 0) (upd 3 (.pt (nx+1+3) 0) (upd 4 (.pt (nxk+3) 0) AQ))),upd (nxk+3) (some (.bx [.v (.string r1.2),.v (.string ByteArray.empty),.v (.string r2.2)])) (upd q (some (Ai r2.1 bl ov)) hp7),y.1⟩) ?_ ?_)
  ·refine AW (ZT 1 ?_);cases he1:(r1.1.e==0) with
   |false=>
    rw[he1,Nj,if_neg (by decide)] at hr2;cases hr2;refine Z1 (Y2 L3.box he1) ?_;refine DF (c:=false) rfl rfl ?_;refine AN ?_;exact⟨⟨_,by omega⟩,Fz (by rw[FE L3.box,FE s7]) C7⟩
   |true=>
    rw[he1,NG] at hr2;refine Z1 (Y2 L3.box he1) ?_;refine CG ((Hd L3.box (by rw[kr.1,kz.1];omega)).mono ?_);rintro v hp8 nx8 ⟨rfl,rfl,hle8⟩;dsimp only at hle8;cases hi:isM r1.1 bt_ with
    |false=>
     have hi':isM r1.1 { data:= #[35] }=false:=hi;rw[hi,if_neg (by decide)] at hr2;cases hr2;refine Z1 hi' ?_;refine DF (c:=false) rfl rfl ?_;refine AN ?_;exact⟨⟨_,by omega⟩,Fz (by rw[FE L3.box,FE s7]) C7⟩
    |true=>
     have hi':isM r1.1 { data:= #[35] }=true:=hi;have lt1:=Fp hi;rw[kr.1,kz.1] at lt1;rw[hi,if_pos rfl] at hr2;refine Z1 hi' ?_;refine EV (c:=true) rfl rfl ?_;refine AW (ZT 1 ?_);refine Z1 (Y2 L3.box (As (n:=r1.1.p))) ?_;refine ZT 1 ?_;have q8:upd q (some (Ai { r1.1 with p:=r1.1.p+1 } bl ov)) hp8 q=some (Ai { r1.1 with p:=r1.1.p+1 } bl ov):=Ah _ _ _;refine Z0 ?_;refine CG ((PF q8 (by grind) hr2).mono ?_);rintro v hp9 nx9 ⟨rfl,rfl,hle9⟩;dsimp only at hle9;have f3:(nxk+3=q)=False:=EU;refine Z1 (Y2 s7 f3) ?_;exact⟨⟨_,by omega⟩,Fz (by rw[EL]) C7⟩
  rintro⟨nxl,hl⟩;have L4:=(L3.put (z2:=r2.1) hqn hl).ext (id:=nxk+3) (Lc _) (by omega) (by omega) hsid (by omega) (some (.bx [.v (.string r1.2),.v (.string ByteArray.empty),.v (.string r2.2)]));generalize eT:(upd (nxk+3) (some _) _:Hp)=hpA at L4⊢;have s8:hpA (nxk+3)=some (.bx [.v (.string r1.2),.v (.string ByteArray.empty),.v (.string r2.2)]):=by rw[<-eT,Ah]
  have lo:=L4.o;obtain⟨sn,hsn⟩:∃sn:AL,sn=⟨r1.2,ByteArray.empty,r2.2⟩:=⟨_,rfl⟩;rw[<-hsn] at m;refine AW (EI (α:={ t:Nat × Nat × Hp × Nat // IS hp nx q bl r.2 ov r2.1 (ss++[sn]) t.1 t.2.1 t.2.2.1 t.2.2.2 }) (fun t=>⟨upd 0 (.pt q 0) (upd 2 (.pt nx 0) (upd 3 (.pt (nx+1+3) 0) AQ)),t.1.2.2.1,t.1.2.2.2⟩) ?_ ?_)
  ·refine ZT 1 ?_;have f4:(nx+1+3=nxl+3)=False:=EU;have f5:(nx+1+3=nxl+4)=False:=EU;cases ss with
   |nil=>
    refine Z1 (Y4 lo s8 f4 f5) ?_;generalize eU:(upd (nx+1+3) (some _) _:Hp)=hpU;have u1:hpU (nx+1+3)=some (.bx [.v (.string r.2),.so (nxl+4) 0 0 1,.v (.slice none 0 0)]):=(by rw[<-eU,Ah]);have u2:hpU (nxl+4)=some (.rw ([[.v (.string r1.2),.v (.string ByteArray.empty),.v (.string r2.2)]]) 3 0 false false):=(by rw[<-eU,AR,Ah]);have u3:∀j,j≠nx+1+3->j≠nxl+4->j≠nxl+3->hpU j=hpA j:=fun j h1 h2 h3=>(by rw[<-eU,Ad _ _ h1,Ad _ _ h2,Ad _ _ h3]);refine⟨⟨(nxl+4,0,hpU,nxl+7),?_⟩,CH⟩
    exact⟨(u3 _ (by omega) (by omega) (by omega)).trans L4.box,u1.trans (by rw[hsn];rfl),(u3 _ (by omega) (by omega) (by omega)).trans L4.res,fun _=>⟨u2.trans (by rw[hsn];rfl),by dsimp only;omega,by dsimp only;omega⟩,fun j h1 h2=>(u3 _ (by omega) (by omega) (by omega)).trans (L4.fr j h1 h2),fun j h1=>(u3 _ (by dsimp only at h1;omega) (by dsimp only at h1;omega) (by dsimp only at h1;omega)).trans (L4.new j (by dsimp only at h1;omega)),by dsimp only;omega⟩
   |cons a t=>
    have hrw:=L4.row (by simp);have f6:(nx+1+3=sid)=False:=EU;have f7:(sid=nxl+3)=False:=EU;have hlt:(t.length+1+1<=4294967296)=True:=eq_true (by grind);have f8:(sid=nx+1+3)=False:=EU;refine Z1 (Y2 (Y6 lo s8 hrw.1 f4 f6 f7) (Y2 f8 hlt)) ?_;generalize eU:(upd (nx+1+3) (some _) _:Hp)=hpU;have u1:hpU (nx+1+3)=some (.bx [.v (.string r.2),.so sid (sver+1) 0 (t.length+1+1),.v (.slice none 0 0)]):=(by rw[<-eU,Ah]);have u2:hpU (sid)=some (.rw (AZ a::(t.map AZ++[[.v (.string r1.2),.v (.string ByteArray.empty),.v (.string r2.2)]])) 3 (sver+1) false false):=(by rw[<-eU,AR,Ah]);have u3:∀j,j≠nx+1+3->j≠sid->j≠nxl+3->hpU j=hpA j:=fun j h1 h2 h3=>(by rw[<-eU,Ad _ _ h1,Ad _ _ h2,Ad _ _ h3]);refine⟨⟨(sid,(sver+1),hpU,nxl+7),?_⟩,CH⟩
    exact⟨(u3 _ (by omega) (by omega) (by omega)).trans L4.box,u1.trans (by rw[hsn];simp[Aa]),(u3 _ (by omega) (by omega) (by omega)).trans L4.res,fun _=>⟨u2.trans (by rw[hsn];simp),by dsimp only;omega,by dsimp only;omega⟩,fun j h1 h2=>(u3 _ (by omega) (by omega) (by omega)).trans (L4.fr j h1 h2),fun j h1=>(u3 _ (by dsimp only at h1;omega) (by dsimp only at h1;omega) (by dsimp only at h1;omega)).trans (L4.new j (by dsimp only at h1;omega)),by dsimp only;omega⟩
  rintro⟨⟨sid2,sver2,hpB,nxm⟩,L5⟩;dsimp only at L5;have ke:r2.1.l=z.l/\r2.1.p<=z.l.length:=by
   have hrp:r1.1.p<=z.l.length:=by
    have:=kr.2.2.2 (by rw[kz.2.2.2,kz.1];exact z2);rw[kz.1] at this;exact this
   split at hr2
   ·rename_i hc;rw[Li] at hc;have k5:=Hg hr2;grind [Fp,trans]
   grind
  refine AW (AW ?_);refine ZT 1 ?_;cases he2:(r2.1.e==0) with
  |false=>
   rw[he2,Nj,if_neg (by decide)] at m;refine Z1 (Y2 L5.box he2) ?_;refine DF (c:=false) rfl rfl ?_;refine AN ?_;obtain⟨m1,m2⟩:=BW (LI m);subst m1;subst m2;refine Az ?_;refine CG ((Qm L5.box (by rw[ke.1];omega) (by omega)).mono ?_);rintro v hpC nxp ⟨rfl,rfl,hlep⟩;dsimp only at hlep;have L6:=L5.put (z2:=DV r2.1 EN) hqn (nx2:=nxp) (by omega);refine Dj ?_;obtain⟨sv,hsv⟩:∃sv,sv=Aa sid2 sver2 ((ss++[sn]).map AZ):=⟨_,rfl⟩;have lo6:=L6.o;rw[<-hsv] at lo6;have L6':=L6;generalize eV:(upd q (some (Ai (DV r2.1 EN) bl ov)) hpB:Hp)=hpD at L6 lo6;have eV':(upd q (some (Ai (DV r2.1 { data:= #[59] }) bl ov)) hpB:Hp)=hpD:=eV;rw[eV'];refine Z1 (Y2 lo6 L6.res) ?_;refine AN ?_;refine⟨.ag [.v (.string r.2),sv,.v (.slice none 0 0)],_,by simp -implicitDefEqProofs only[go_sem, ↓reduceIte,Tryz.f57,Ah,reduceCtorEq,Nat.reduceEqDiff]<;>rfl,⟨fun _=>.inr rfl⟩,?_⟩;rw[hsv];rw[hne];exact L6.fin hqn (by dsimp only;omega) _
  |true=>
   rw[he2,NG] at m;refine Z1 (Y2 L5.box he2) ?_;refine CG ((Hd L5.box (by rw[ke.1];omega)).mono ?_);rintro v hpE nxn ⟨rfl,rfl,hlen⟩;dsimp only at hlen;cases hi2:isM r2.1 E6 with
   |false=>
    have hi':isM r2.1 { data:= #[124] }=false:=hi2;rw[hi2,if_neg (by decide)] at m;refine Z1 hi' ?_;refine DF (c:=false) rfl rfl ?_;refine AN ?_;obtain⟨m1,m2⟩:=BW (LI m);subst m1;subst m2;refine Az ?_;refine CG ((Qm L5.box (by rw[ke.1];omega) (by omega)).mono ?_);rintro v hpC nxp ⟨rfl,rfl,hlep⟩;dsimp only at hlep;have L6:=L5.put (z2:=DV r2.1 EN) hqn (nx2:=nxp) (by omega);refine Dj ?_;obtain⟨sv,hsv⟩:∃sv,sv=Aa sid2 sver2 ((ss++[sn]).map AZ):=⟨_,rfl⟩;have lo6:=L6.o;rw[<-hsv] at lo6;have L6':=L6;generalize eV:(upd q (some (Ai (DV r2.1 EN) bl ov)) hpE:Hp)=hpD at L6 lo6;have eV':(upd q (some (Ai (DV r2.1 { data:= #[59] }) bl ov)) hpE:Hp)=hpD:=eV;rw[eV'];refine Z1 (Y2 lo6 L6.res) ?_;refine AN ?_;refine⟨.ag [.v (.string r.2),sv,.v (.slice none 0 0)],_,by simp -implicitDefEqProofs only[go_sem, ↓reduceIte,Tryz.f57,Ah,reduceCtorEq,Nat.reduceEqDiff]<;>rfl,⟨fun _=>.inr rfl⟩,?_⟩;rw[hsv];rw[hne];exact L6.fin hqn (by dsimp only;omega) _
   |true=>
    have hi':isM r2.1 { data:= #[124] }=true:=hi2;rw[hi2,if_pos rfl] at m;refine Z1 hi' ?_;refine EV (c:=true) rfl rfl ?_;refine AW (ZT 1 ?_);refine Z1 (Y2 L5.box (As (n:=r2.1.p))) ?_;refine AN ?_;refine⟨⟨(c,{ r2.1 with p:=r2.1.p+1 },ss++[sn],sid2,sver2,_,_),?_,m⟩,CH,LF c⟩;exact L5.put (z2:={ r2.1 with p:=r2.1.p+1 }) hqn (by dsimp only;omega)
theorem VJ {x:Ae}{c:Int}(h:(x.e==0)=true)(hc:(c==0)=false):((jw_ x c).e==0)=false:=by
 unfold jw_;rw[if_pos h];exact hc
theorem uD {n:Nat}{x:Ae}(h:(x.e==0)=false):xL_ n x=some (x,{ data:= #[] }):=by
 unfold xL_;rw[h,if_neg (by decide)]
theorem uE {n:Nat}{x:Ae}{r:Ae × ByteArray}(h:xL_ n x=some r)(he:(x.e==0)=true):(r.1.e==0)=false\/r.1.p=x.p+1:=by
 have hf:((jw_ x 9).e==0)=false:=VJ he rfl;unfold xL_ at h;rw[he,if_pos rfl] at h;split at h
 ·split at h
  ·obtain⟨b,_,h⟩:=AJ h;grind
  cases h;exact .inl hf
 cases h;exact .inl hf
section
variable {n:Nat}{L:List CE}(hT:∀t∈L,∃b,Fy n t.text=some b)
include hT in
theorem kH:∀(c:Nat) (x:Ae) (ss:List AL),x.l=L->Dr x->ss.length<=50->L.length-x.p<c->∃y,GR n c x ss=some y/\Kp x y.1
 |0,_,_,_,_,_,h=>absurd h (LK _)
 |c+1,x,ss,hl,w,hs,hc=>by
  unfold GR;rw[if_pos ⟨w,hs⟩];split
  ·rename_i he;by_cases h50:ss.length=50
   ·have ef:=VJ (c:=8) he rfl;rw[if_pos h50,uD ef,Zo];dsimp only;rw[ef,Nj,if_neg (by decide),Zo];dsimp only;rw[ef,Nj,if_neg (by decide)];have k1:=Kp.fail w 8;exact⟨_,rfl,k1.trans (Kp.want (k1.w w) EN)⟩
   rw[if_neg h50];obtain⟨r1,e1,k1⟩:=Sp hT hl w;have w1:=k1.w w;rw[e1,Zo];obtain⟨r2,e2,k2⟩:∃r2,(if r1.1.e==0&&isM r1.1 bt_ then xL_ n { r1.1 with p:=r1.1.p+1 } else some (r1.1,ByteArray.empty))=some r2/\Kp r1.1 r2.1:=by
    split
    ·rename_i h;rw[Li] at h;have ko:=Kp.one w1 (Fp h.2);obtain⟨s,e3,k3⟩:=Sp hT (x:={ r1.1 with p:=r1.1.p+1 }) (k1.l.trans hl) (ko.w w1);exact⟨s,e3,ko.trans k3⟩
    exact⟨_,rfl,⟨rfl,Lc _,w1.2.1,w1.2.2.1,rfl,id⟩⟩
   rw[e2,Zo];have k12:=k1.trans k2;have w2:=k12.w w;split
   ·rename_i h;rw[Li] at h;have lt:=Fp h.2;have k3:=Kp.one w2 lt;have k4:=k12.trans k3;have hp:=k12.p;rw[k12.l,hl] at lt;obtain⟨y,e4,k5⟩:=kH c { r2.1 with p:=r2.1.p+1 } (ss++[⟨r1.2,ByteArray.empty,r2.2⟩]) (k4.l.trans hl) (k4.w w) (by grind) (by show L.length-(r2.1.p+1)<c;omega);exact⟨y,e4,k4.trans k5⟩
   exact⟨_,rfl,k12.trans (Kp.want w2 EN)⟩
  exact⟨_,rfl,⟨rfl,Lc _,w.2.1,w.2.2.1,rfl,id⟩⟩
include hT in
theorem uF {c f d:Nat}(hc:L.length<c)(hf:20<f+d){x:Ae}(hl:x.l=L)(w:Dr x)(hd:x.deep=d):∃y,EJ n c f x=some y/\Kp x y.1/\((x.e==0)=true->(y.1.e==0)=false\/x.p<y.1.p):=by
 unfold EJ;rw[if_pos w];obtain⟨r,e1,k1⟩:=Sp hT hl w;have on:∀z:Ae,Kp r.1 z->(x.e==0)=true->(z.e==0)=false\/x.p<z.p:=fun z kz h0=>by
  rcases uE e1 h0 with h1 |h1
  ·exact .inl (kz.e h1)
  exact .inr (by have:=kz.p;omega)
 have w1:=k1.w w;rw[e1,Zo];split
 ·rename_i h;rw[Li] at h;have lt:=Fp h.2;have wz:Dr { r.1 with p:=r.1.p+1,out:=[] }:=⟨w1.1,lt,Ll _,w1.2.2.2⟩;obtain⟨y,e2,k2⟩:=kG hT hc f d hf { r.1 with p:=r.1.p+1,out:=[] } (k1.l.trans hl) wz (k1.d.trans hd);have wy:=k2.w wz;have ky:=Kp.want wy EN;rw[e2,Zo,if_pos wy];have k3:Kp r.1 y:=⟨k2.l,by have:r.1.p+1<=y.p:=k2.p;omega,k2.p2,k2.o,k2.d,k2.e⟩;exact⟨_,rfl,k1.trans (k3.trans ky),on _ (k3.trans ky)⟩
 have kw:=Kp.want w1 Eg;obtain⟨y,e2,k2⟩:=kH hT c (DV r.1 Eg) [] (kw.l.trans (k1.l.trans hl)) (kw.w w1) (Ll _) (by omega);rw[e2];exact⟨_,rfl,k1.trans (kw.trans k2),on _ (kw.trans k2)⟩
end
def Qr:ByteArray:={ data:= #[123] }
def Fq:ByteArray:={ data:= #[125] }
def G0 (n c f:Nat):Nat->Ae->List Ac->Option (Ae × List Ac)
 |0,_,_=>none
 |k+1,x,rs=>if Dr x/\x.deep=0/\rs.length<=200 then (if x.e==0&& !isM x Fq then(if rs.length=200 then G0 n c f k (jw_ x 8) rs else(EJ n c f x).bind fun p=>G0 n c f k p.1 (rs++[p.2])) else some (x,rs)) else none
section
variable {n:Nat}{L:List CE}(hT:∀t∈L,∃b,Fy n t.text=some b)
include hT in
theorem bQ {c f:Nat}(hc:L.length<c)(hf:20<f):∀(k:Nat) (x:Ae) (rs:List Ac),x.l=L->Dr x->x.deep=0->rs.length<=200->(if x.e==0 then L.length-x.p+1 else 0)<k->∃y,G0 n c f k x rs=some y/\Kp x y.1
 |0,_,_,_,_,_,_,h=>absurd h (LK _)
 |k+1,x,rs,hl,w,hd,hs,hk=>by
  unfold G0;rw[if_pos ⟨w,hd,hs⟩];split
  ·rename_i h;rw[Li] at h;rw[if_pos h.1] at hk;split
   ·have ef:=VJ (c:=8) h.1 rfl;have kf:=Kp.fail w 8;obtain⟨y,e1,k1⟩:=bQ hc hf k (jw_ x 8) rs (kf.l.trans hl) (kf.w w) (kf.d.trans hd) hs (by rw[ef,if_neg (by decide)];omega);exact⟨y,e1,kf.trans k1⟩
   obtain⟨p,e1,k1,k2⟩:=uF hT hc (d:=0) hf hl w hd;have hp2:=k1.p2;have hp:=k1.p;rw[hl] at hp2;obtain⟨y,e2,k3⟩:=bQ hc hf k p.1 (rs++[p.2]) (k1.l.trans hl) (k1.w w) (k1.d.trans hd) (by rw[Lf,Lr];omega) (by
    rcases k2 h.1 with h1 |h1
    ·rw[h1,if_neg (by decide)];omega
    split<;>omega)
   rw[e1,Zo];exact⟨y,e2,k1.trans k3⟩
  exact⟨_,rfl,⟨rfl,Lc _,w.2.1,w.2.2.1,rfl,id⟩⟩
end
end Go.Proofs.YtnmkbmefohakmaaGreat.Ab
