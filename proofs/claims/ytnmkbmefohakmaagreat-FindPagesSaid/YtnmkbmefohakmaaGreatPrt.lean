/-
 The document's reader of schemas comes to an end: expressions. No program in sight.
-/
import Derived.Test.YtnmkbmefohakmaaGreatSkr
namespace Go.Proofs.YtnmkbmefohakmaaGreat.Ab
open Go.RowKit
def RdW (x:Rdr):Prop:=x.l.length<1152921504606846976/\x.p<=x.l.length/\x.out.length<=200/\x.deep<=20
instance (x:Rdr):Decidable (RdW x):=inferInstanceAs (Decidable (_/\_/\_/\_))
theorem xe_ {x:Rdr}{t:ByteArray}(h:isM x t=true):x.p<x.l.length:=by
 unfold isM at h;split at h
 ·rename_i e
  exact(List.getElem?_eq_some_iff.1 e).1
 ·cases h
theorem je_ (x:Rdr)(c:Int):(j4_ x c).l=x.l/\(j4_ x c).out=x.out/\(j4_ x c).deep=x.deep/\(j4_ x c).p=x.p:=by
 unfold j4_;split<;>exact⟨rfl,rfl,rfl,rfl⟩
theorem z8_ (x:Rdr)(t:ByteArray):(j9_ x t).l=x.l/\(j9_ x t).out=x.out/\(j9_ x t).deep=x.deep/\(x.p<=x.l.length->(j9_ x t).p<=x.l.length):=by
 unfold j9_;split
 ·split
  ·rename_i h
   exact⟨rfl,rfl,rfl,fun _=>xe_ h⟩
  ·have:=je_ x 9
   exact⟨this.1,this.2.1,this.2.2.1,fun h=>by rw[this.2.2.2];exact h⟩
 ·exact⟨rfl,rfl,rfl,id⟩
theorem jf_ {n:Nat}{x:Rdr}{r:Rdr × ByteArray}(h:vr_ n x=some r):r.1.l=x.l/\r.1.out=x.out/\r.1.deep=x.deep/\(x.p<=x.l.length->r.1.p<=x.l.length):=by
 have hk:=je_ x 9;have hk2:(j4_ x 9).l=x.l/\(j4_ x 9).out=x.out/\(j4_ x 9).deep=x.deep/\(x.p<=x.l.length->(j4_ x 9).p<=x.l.length):=⟨hk.1,hk.2.1,hk.2.2.1,fun h=>by rw[hk.2.2.2];exact h⟩;unfold vr_ at h;split at h
 ·split at h
  ·rename_i e
   split at h
   ·obtain⟨b,_,h⟩:=zbi h
    split at h
    ·cases h
     exact⟨rfl,rfl,rfl,fun _=>(List.getElem?_eq_some_iff.1 e).1⟩
    ·cases h
     exact hk2
   ·cases h
    exact hk2
  ·cases h
   exact hk2
 ·cases h
  exact⟨rfl,rfl,rfl,id⟩
theorem RdI.upd {hp:Hp}{q oid ver:Nat}{x y:Rdr}{bl:Bool}{ov:AV}(h:RdI hp q x bl oid ver)(e:y.out=x.out)(hov:ov=accV oid ver (x.out.map eGStep)):RdI (upd q (some (boxRd y bl ov)) hp) q y bl oid ver:=
 ⟨by rw[qd_,e,hov],fun h1=>by
  rw[e] at h1;have h2:=h.row h1;exact⟨by rw[qb_ _ _ h2.2,h2.1,e],h2.2⟩⟩
def do_ (F:FuncId)(M:Rdr->Option Rdr):Prop:=
 ∀(hp:Hp) (nx q oid ver:Nat) (x y:Rdr) (bl:Bool),(∀j,nx<=j->hp j=none)->RdI hp q x bl oid ver->oid<nx->M x=some y->InlOK Tryz.prog F [.pt q 0] hp nx fun v hp2 nx2=>v= .tu []/\RdP hp nx q oid x y bl hp2 nx2
theorem RdP.trans {hp hp1 hp2:Hp}{nx nx1 nx2 q oid oid1:Nat}{x0 x1 x2:Rdr}{bl:Bool}(hn:nx<=nx1)(ho1:oid1<nx1)(h1:x1.out≠[]->(x0.out≠[]/\oid1=oid)\/nx<=oid1)(hfr:∀j,j<nx->j≠q->(x0.out≠[]->j≠oid)->hp1 j=hp j)(h2:RdP hp1 nx1 q oid1 x1 x2 bl hp2 nx2):RdP hp nx q oid x0 x2 bl hp2 nx2:=by
 obtain⟨oid2,ver2,a1,a2,a3,a4,a5,a6⟩:=h2;refine⟨oid2,ver2,a1,fun j b1 b2 b3=> ?_,a3,by omega,a5,fun b=> ?_⟩
 ·rw[a2 j (by omega) b2 fun b4=> ?_,hfr j b1 b2 b3]
  rcases h1 b4 with⟨b5,rfl⟩ |b5
  ·exact b3 b5
  ·omega
 ·rcases a6 b with⟨b1,rfl⟩ |b1
  ·rcases h1 b1 with b2 |b2
   ·exact .inl b2
   ·exact .inr b2
  ·exact .inr (by omega)
def bLp:ByteArray:={ data:= #[40] }
def bRp:ByteArray:={ data:= #[41] }
def bAr:ByteArray:={ data:= #[45,62] }
def facM (n:Nat)(ex:Rdr->Option Rdr)(x:Rdr):Option Rdr:=
 if RdW x then
  (if x.e==0&&isM x bLp then
   (if x.deep=20 then some (j4_ x 10)
   else(ex { x with deep:=x.deep+1,p:=x.p+1 }).bind fun y=>if RdW y/\0<y.deep then some { j9_ y bRp with deep:=y.deep-1 } else none)
  else(vr_ n x).bind fun r=>if r.1.e==0&&isM r.1 bAr then(vr_ n { r.1 with p:=r.1.p+1 }).bind fun s=>some (putM s.1 ⟨2,r.2,s.2⟩ (kt_ x)) else some (putM r.1 ⟨1,r.2,{ data:= #[] }⟩ (kt_ x)))
 else none
set_option maxRecDepth 8000 in
theorem fac_ok {n:Nat}{ex:Rdr->Option Rdr}(hex:do_ 86 ex):do_ 140 (facM n ex):=by
 intro hp nx q oid ver x y bl hf hI ho h;unfold facM at h;split at h;rotate_left
 ·cases h
 rename_i hw;obtain⟨w1,w2,w3,w4⟩:=hw;have hq:=hI.box;obtain⟨ov,hov⟩:∃ov,ov=accV oid ver (x.out.map eGStep):=⟨_,rfl⟩;rw[<-hov] at hq;have hqn:q<nx:=qm_ hf hq;refine qN_ qf_ fol Tryz.func140 (by rfl) (by kernel_rfl) (by kernel_rfl) (by exact Nat.le_of_ble_eq_true rfl) ?_;refine Z0 ?_;refine qe_ ((uh_ hq (by omega)).mono ?_);rintro v hp2 nx2 ⟨rfl,rfl,hle⟩
 dsimp only at hle;cases he:(x.e==0) with
 |false=>
  rw[he,Bool.false_and,if_neg (by decide)] at h;refine Z1 (And.intro hq he) ?_;obtain⟨r,hr,h⟩:=zbi h;refine qe_ ((vI_ hq (by omega) hr).mono ?_);rintro v hp4 nx4 ⟨rfl,rfl,hle4⟩;dsimp only at hle4;have k1:=jf_ hr;have I1:=hI.upd (y:=r.1) k1.2.1 hov;have q1:∀hh:Hp,upd q (some (boxRd r.1 bl ov)) hh q=some (boxRd r.1 bl ov):=fun _=>qd_ _ _ _;cases he1:(r.1.e==0) with
  |false=>
   rw[he1,Bool.false_and,if_neg (by decide)] at h;cases h;refine Z1 (And.intro q1 he1) ?_;refine qe_ ((wj_ (s:=⟨1,r.2,{ data:= #[] }⟩) (fun j hj=> ?_) I1 (by dsimp only;omega) rfl (by rw[k1.2.1];exact w3)).mono ?_)
   ·dsimp only at hj
    repeat rw[qb_ _ _ (by omega)]
    exact hf j (by omega)
   rintro v hp9 nx9 ⟨rfl,hP⟩;refine Z0 ?_;exact⟨_,_,rfl,⟨fun _=>.inr rfl⟩,rfl,hP.trans (by dsimp only;omega) (by dsimp only;omega) (fun b=>.inl ⟨by rw[<-k1.2.1];exact b,rfl⟩) fun j _ b2 _=>by repeat rw[qb_ _ _ b2]⟩
  |true=>
   refine Z1 (And.intro q1 he1) ?_;refine qe_ ((w4_ (q1 _) (by rw[k1.1];omega)).mono ?_);rintro v hp5 nx5 ⟨rfl,rfl,hle5⟩;dsimp only at hle5;rw[he1,Bool.true_and] at h;cases hi1:isM r.1 bAr with
   |false=>
    have hi1':isM r.1 { data:= #[45,62] }=false:=hi1;rw[hi1,if_neg (by decide)] at h;cases h;refine Z1 (And.intro q1 hi1') ?_;refine qe_ ((wj_ (s:=⟨1,r.2,{ data:= #[] }⟩) (fun j hj=> ?_) I1 (by dsimp only;omega) rfl (by rw[k1.2.1];exact w3)).mono ?_)
    ·dsimp only at hj
     repeat rw[qb_ _ _ (by omega)]
     exact hf j (by omega)
    rintro v hp9 nx9 ⟨rfl,hP⟩;refine Z0 ?_;exact⟨_,_,rfl,⟨fun _=>.inr rfl⟩,rfl,hP.trans (by dsimp only;omega) (by dsimp only;omega) (fun b=>.inl ⟨by rw[<-k1.2.1];exact b,rfl⟩) fun j _ b2 _=>by repeat rw[qb_ _ _ b2]⟩
   |true=>
    have hi1':isM r.1 { data:= #[45,62] }=true:=hi1;rw[hi1,if_pos rfl] at h;obtain⟨s,hs,h⟩:=zbi h;cases h;have lt1:=xe_ hi1;rw[k1.1] at lt1;have I2:=I1.upd (y:={ r.1 with p:=r.1.p+1 }) rfl (hov.trans (by rw[k1.2.1]));refine Z1 (And.intro q1 (And.intro hi1' (w64a (n:=r.1.p) (by omega)))) ?_
    refine qe_ ((vI_ (x:={ r.1 with p:=r.1.p+1 }) (ov:=ov) (qd_ _ _ _) (by show r.1.l.length<_;rw[k1.1];omega) hs).mono ?_);rintro v hp6 nx6 ⟨rfl,rfl,hle6⟩;dsimp only at hle6;have k2:=jf_ hs;have I3:=I2.upd (y:=s.1) k2.2.1 (hov.trans (by rw[<-k1.2.1]));refine Z0 ?_
    refine qe_ ((wj_ (s:=⟨2,r.2,s.2⟩) (fun j hj=> ?_) I3 (by dsimp only;omega) rfl (by rw[k2.2.1];show r.1.out.length<=200;rw[k1.2.1];exact w3)).mono ?_)
    ·dsimp only at hj
     repeat rw[qb_ _ _ (by omega)]
     exact hf j (by omega)
    rintro v hp9 nx9 ⟨rfl,hP⟩;refine Z0 ?_;exact⟨_,_,rfl,⟨fun _=>.inr rfl⟩,rfl,hP.trans (by dsimp only;omega) (by dsimp only;omega) (fun b=>.inl ⟨by rw[<-k1.2.1];rw[k2.2.1] at b;exact b,rfl⟩) fun j _ b2 _=>by repeat rw[qb_ _ _ b2]⟩
 |true=>
  rw[he,Bool.true_and] at h;refine Z1 (And.intro hq he) ?_;refine qe_ ((w4_ hq (by omega)).mono ?_);rintro v hp3 nx3 ⟨rfl,rfl,hle3⟩;dsimp only at hle3;cases hi:isM x bLp with
  |false=>
   have hi':isM x { data:= #[40] }=false:=hi;rw[hi,if_neg (by decide)] at h;refine Z1 (And.intro hq hi') ?_;obtain⟨r,hr,h⟩:=zbi h;refine qe_ ((vI_ hq (by omega) hr).mono ?_);rintro v hp4 nx4 ⟨rfl,rfl,hle4⟩;dsimp only at hle4;have k1:=jf_ hr;have I1:=hI.upd (y:=r.1) k1.2.1 hov
   have q1:∀hh:Hp,upd q (some (boxRd r.1 bl ov)) hh q=some (boxRd r.1 bl ov):=fun _=>qd_ _ _ _;cases he1:(r.1.e==0) with
   |false=>
    rw[he1,Bool.false_and,if_neg (by decide)] at h;cases h;refine Z1 (And.intro q1 he1) ?_;refine qe_ ((wj_ (s:=⟨1,r.2,{ data:= #[] }⟩) (fun j hj=> ?_) I1 (by dsimp only;omega) rfl (by rw[k1.2.1];exact w3)).mono ?_)
    ·dsimp only at hj
     repeat rw[qb_ _ _ (by omega)]
     exact hf j (by omega)
    rintro v hp9 nx9 ⟨rfl,hP⟩;refine Z0 ?_;exact⟨_,_,rfl,⟨fun _=>.inr rfl⟩,rfl,hP.trans (by dsimp only;omega) (by dsimp only;omega) (fun b=>.inl ⟨by rw[<-k1.2.1];exact b,rfl⟩) fun j _ b2 _=>by repeat rw[qb_ _ _ b2]⟩
   |true=>
    refine Z1 (And.intro q1 he1) ?_;refine qe_ ((w4_ (q1 _) (by rw[k1.1];omega)).mono ?_);rintro v hp5 nx5 ⟨rfl,rfl,hle5⟩;dsimp only at hle5;rw[he1,Bool.true_and] at h;cases hi1:isM r.1 bAr with
    |false=>
     have hi1':isM r.1 { data:= #[45,62] }=false:=hi1;rw[hi1,if_neg (by decide)] at h;cases h;refine Z1 (And.intro q1 hi1') ?_;refine qe_ ((wj_ (s:=⟨1,r.2,{ data:= #[] }⟩) (fun j hj=> ?_) I1 (by dsimp only;omega) rfl (by rw[k1.2.1];exact w3)).mono ?_)
     ·dsimp only at hj
      repeat rw[qb_ _ _ (by omega)]
      exact hf j (by omega)
     rintro v hp9 nx9 ⟨rfl,hP⟩;refine Z0 ?_;exact⟨_,_,rfl,⟨fun _=>.inr rfl⟩,rfl,hP.trans (by dsimp only;omega) (by dsimp only;omega) (fun b=>.inl ⟨by rw[<-k1.2.1];exact b,rfl⟩) fun j _ b2 _=>by repeat rw[qb_ _ _ b2]⟩
    |true=>
     have hi1':isM r.1 { data:= #[45,62] }=true:=hi1;rw[hi1,if_pos rfl] at h;obtain⟨s,hs,h⟩:=zbi h;cases h;have lt1:=xe_ hi1;rw[k1.1] at lt1;have I2:=I1.upd (y:={ r.1 with p:=r.1.p+1 }) rfl (hov.trans (by rw[k1.2.1]));refine Z1 (And.intro q1 (And.intro hi1' (w64a (n:=r.1.p) (by omega)))) ?_
     refine qe_ ((vI_ (x:={ r.1 with p:=r.1.p+1 }) (ov:=ov) (qd_ _ _ _) (by show r.1.l.length<_;rw[k1.1];omega) hs).mono ?_);rintro v hp6 nx6 ⟨rfl,rfl,hle6⟩;dsimp only at hle6;have k2:=jf_ hs;have I3:=I2.upd (y:=s.1) k2.2.1 (hov.trans (by rw[<-k1.2.1]));refine Z0 ?_
     refine qe_ ((wj_ (s:=⟨2,r.2,s.2⟩) (fun j hj=> ?_) I3 (by dsimp only;omega) rfl (by rw[k2.2.1];show r.1.out.length<=200;rw[k1.2.1];exact w3)).mono ?_)
     ·dsimp only at hj
      repeat rw[qb_ _ _ (by omega)]
      exact hf j (by omega)
     rintro v hp9 nx9 ⟨rfl,hP⟩;refine Z0 ?_;exact⟨_,_,rfl,⟨fun _=>.inr rfl⟩,rfl,hP.trans (by dsimp only;omega) (by dsimp only;omega) (fun b=>.inl ⟨by rw[<-k1.2.1];rw[k2.2.1] at b;exact b,rfl⟩) fun j _ b2 _=>by repeat rw[qb_ _ _ b2]⟩
  |true=>
   have hi':isM x { data:= #[40] }=true:=hi;have lt0:=xe_ hi;rw[hi,if_pos rfl] at h;by_cases hd:x.deep=20
   ·rw[if_pos hd] at h
    cases h;have c1:((x.deep:Int)==20)=true:=by rw[hd];rfl
    refine Z1 (And.intro hq (And.intro hi' c1)) ?_;refine qe_ ((zM_ hq (by omega)).mono ?_);rintro v hp4 nx4 ⟨rfl,rfl,hle4⟩;dsimp only at hle4;refine Z0 ?_;have k1:=je_ x 10
    exact⟨_,_,rfl,⟨fun _=>.inr rfl⟩,rfl,oid,ver,hI.upd k1.2.1 hov,fun j _ b2 _=>qb_ _ _ b2,fun j hj=>by dsimp only at hj⊢;rw[qb_ _ _ (by omega)];exact hf j (by omega),by dsimp only;omega,by dsimp only;omega,fun b=>.inl ⟨by rw[<-k1.2.1];exact b,rfl⟩⟩
   ·rw[if_neg hd] at h
    obtain⟨y,hy,h⟩:=zbi h;split at h;rotate_left
    ·cases h
    rename_i hwy;obtain⟨⟨wy1,wy2,wy3,wy4⟩,wy5⟩:=hwy;cases h;have c1:((x.deep:Int)==20)=false:=by simp;omega
    have I1:=hI.upd (y:={ x with deep:=x.deep+1 }) rfl hov;have I2:=I1.upd (y:={ x with deep:=x.deep+1,p:=x.p+1 }) rfl hov;refine Z1 (And.intro hq (And.intro hi' (And.intro c1 (And.intro (w64a (n:=x.p) (by omega)) (w64a (n:=x.deep) (by omega)))))) ?_;refine qe_ ((hex _ _ q oid ver _ y bl (fun j hj=> ?_) I2 (by dsimp only;omega) hy).mono ?_)
    ·dsimp only at hj⊢
     repeat rw[qb_ _ _ (by omega)]
     exact hf j (by omega)
    rintro v hp4 nx4 ⟨rfl,oid2,ver2,J1,J2,J3,J4,J5,J6⟩;dsimp only at J2 J4;refine Z0 ?_;refine qe_ ((wv_ (t:={ data:= #[41] }) J1.box (by omega) (by omega)).mono ?_);rintro v hp5 nx5 ⟨rfl,rfl,hle5⟩;dsimp only at hle5;have k1:=z8_ y bRp;have K1:=J1.upd (y:=j9_ y bRp) k1.2.1 rfl
    have K2:=K1.upd (y:={ j9_ y bRp with deep:=y.deep-1 }) rfl (ov:=accV oid2 ver2 (y.out.map eGStep)) (by rw[k1.2.1]);have c2:IntKind.i64.wrap (((j9_ y { data:= #[41] }).deep:Int)-1)=((y.deep-1:Nat):Int):=by
     rw[show(j9_ y { data:= #[41] }).deep=y.deep from k1.2.2.1];exact w64m (a:=y.deep) (b:=1) (by omega) (by omega)
    refine Z1 c2 ?_;refine⟨_,_,rfl,⟨fun _=>.inr rfl⟩,rfl,oid2,ver2,K2,fun j b1 b2 b3=> ?_,fun j hj=> ?_,by dsimp only;omega,by dsimp only;omega,fun b=> ?_⟩
    ·dsimp only
     repeat rw[qb_ _ _ b2]
     rw[J2 j (by omega) b2 b3];repeat rw[qb_ _ _ b2]
    ·dsimp only at hj⊢
     have:q<nx4:=by omega
     repeat rw[qb_ _ _ (by omega)]
     exact J3 j (by omega)
    ·rcases J6 (by rw[<-k1.2.1];exact b) with b1 |b1
     ·exact .inl b1
     ·dsimp only at b1
      exact .inr (by omega)
def bAnd:ByteArray:={ data:= #[38] }
def dp_ (n:Nat)(ex:Rdr->Option Rdr):Nat->Rdr->Option Rdr
 |0,_=>none
 |c+1,x=>if RdW x then(if x.e==0&&isM x bAnd then(facM n ex { x with p:=x.p+1 }).bind fun y=>if y.out.length<=200 then dp_ n ex c (putM y ⟨5,ByteArray.empty,ByteArray.empty⟩ (kt_ x)) else none else some x) else none
def uS_ (n:Nat)(ex:Rdr->Option Rdr)(c:Nat)(x:Rdr):Option Rdr:=(facM n ex x).bind (dp_ n ex c)
theorem RdP.up {hp hp2:Hp}{nx nx2 nx3 q oid:Nat}{x0 x:Rdr}{bl:Bool}(h:RdP hp nx q oid x0 x bl hp2 nx2)(hn:nx2<=nx3):RdP hp nx q oid x0 x bl hp2 nx3:=by
 obtain⟨oid2,ver2,a1,a2,a3,a4,a5,a6⟩:=h;exact⟨oid2,ver2,a1,a2,fun j hj=>a3 j (by omega),by omega,by omega,a6⟩
set_option maxRecDepth 8000 in
theorem cO_ {n c:Nat}{ex:Rdr->Option Rdr}(hex:do_ 86 ex):do_ 111 (uS_ n ex c):=by
 intro hp nx q oid ver x y bl hf hI ho h;have hfac:=fac_ok (n:=n) hex;unfold uS_ at h;obtain⟨x1,h1,h⟩:=zbi h;have hqn:q<nx:=qm_ hf hI.box;refine qX_ qf_ Tryz.func111 (by rfl) (by kernel_rfl) (by kernel_rfl) (by exact Nat.le_of_ble_eq_true rfl) ?_;refine zsq (ZT 1 ?_);refine Z0 ?_;refine qe_ ((hfac _ _ q oid ver _ x1 bl (fun j hj=> ?_) hI (by dsimp only;omega) h1).mono ?_)
 ·dsimp only at hj⊢
  exact hf j (by omega)
 rintro v hp2 nx2 ⟨rfl,hP⟩;refine Z0 ?_;refine zbk ?_;refine zlp (α:={ t:Nat × Rdr × Hp × Nat // RdP hp nx q oid x t.2.1 bl t.2.2.1 t.2.2.2/\dp_ n ex t.1 t.2.1=some y })
  (fun t=>⟨upd 0 (.pt q 0) noFr,t.1.2.2.1,t.1.2.2.2⟩) (fun t=>t.1.1) ⟨(c,x1,hp2,nx2),?_,h⟩ ?_ ?_
 ·exact hP.trans (oid1:=oid) (by dsimp only;omega) (by dsimp only;omega) (fun b=>.inl ⟨b,rfl⟩) fun _ _ _ _=>rfl
 ·exact wkI (qa_ rfl (qh_ _))
 ·rintro⟨⟨c,z,hp3,nx3⟩,hP3,m⟩
  dsimp only at hP3 m;cases c with
  |zero=>cases m
  |succ c=>
  unfold dp_ at m;split at m;rotate_left
  ·cases m
  rename_i hw;obtain⟨w1,w2,w3,w4⟩:=hw;have hP3':=hP3;obtain⟨o1,v1,I,fr,new,nle,olt,oc⟩:=hP3;have hq:=I.box;obtain⟨ov,hov⟩:∃ov,ov=accV o1 v1 (z.out.map eGStep):=⟨_,rfl⟩;rw[<-hov] at hq;refine zsq (zsq ?_);refine ZT 1 ?_;cases he:(z.e==0) with
  |false=>
   rw[he,Bool.false_and,if_neg (by decide)] at m;cases m;refine Z1 (And.intro hq he) ?_;refine ZT 1 ?_;refine Z0 ?_;exact⟨_,_,rfl,⟨fun _=>.inr rfl⟩,rfl,hP3'.up (by dsimp only;omega)⟩
  |true=>
   refine Z1 (And.intro hq he) ?_;refine qe_ ((w4_ hq (by omega)).mono ?_);rintro v hp4 nx4 ⟨rfl,rfl,hle4⟩;dsimp only at hle4;rw[he,Bool.true_and] at m;cases hi:isM z bAnd with
   |false=>
    have hi':isM z { data:= #[38] }=false:=hi;rw[hi,if_neg (by decide)] at m;cases m;refine Z1 hi' ?_;refine ZT 1 ?_;refine Z0 ?_;exact⟨_,_,rfl,⟨fun _=>.inr rfl⟩,rfl,hP3'.up (by dsimp only;omega)⟩
   |true=>
    have hi':isM z { data:= #[38] }=true:=hi;have lt0:=xe_ hi;rw[hi,if_pos rfl] at m;obtain⟨z2,h2,m⟩:=zbi m;split at m;rotate_left
    ·cases m
    rename_i w5;refine Z1 hi' ?_;refine ZT 1 ?_;refine Z0 ?_;refine zbk ?_;refine zsq (ZT 1 ?_);refine Z0 ?_;refine qe_ ((uh_ hq (by omega)).mono ?_);rintro v hp5 nx5 ⟨rfl,rfl,hle5⟩;dsimp only at hle5;refine Z0 ?_;refine zsq (ZT 1 ?_);refine Z1 (And.intro hq (w64a (n:=z.p) (by omega))) ?_;have I1:=I.upd (y:={ z with p:=z.p+1 }) rfl hov;refine zsq (ZT 1 ?_);refine Z0 ?_
    refine qe_ ((hfac _ _ q o1 v1 _ z2 bl (fun j hj=> ?_) I1 (by dsimp only;omega) h2).mono ?_)
    ·dsimp only at hj⊢
     have:q<nx3:=by omega
     repeat rw[qb_ _ _ (by omega)]
     exact new j (by omega)
    rintro v hp6 nx6 ⟨rfl,hP6⟩;have hP6':=hP6.trans (hp:=hp) (nx:=nx) (x0:=x) (oid:=oid) (by dsimp only;omega) (by dsimp only;omega) oc fun j b1 b2 b3=>by
     repeat rw[qb_ _ _ b2]
     exact fr j b1 b2 b3
    obtain⟨o2,v2,J,fr2,new2,nle2,olt2,oc2⟩:=hP6';refine Z0 ?_;refine ZT 1 ?_;refine Z0 ?_;refine qe_ ((wj_ (s:=⟨5,ByteArray.empty,ByteArray.empty⟩) (fun j hj=> ?_) J (by dsimp only;omega) rfl w5).mono ?_)
    ·dsimp only at hj⊢
     exact new2 j (by omega)
    rintro v hp7 nx7 ⟨rfl,hP7⟩;refine Z0 ?_;exact⟨⟨(c,putM z2 ⟨5,ByteArray.empty,ByteArray.empty⟩ (kt_ z),hp7,nx7),hP7.trans (by dsimp only;omega) (by dsimp only;omega) oc2 fr2,m⟩,wkI (qa_ rfl (qh_ _)),Nat.lt_succ_self c⟩
def bPlus:ByteArray:={ data:= #[43] }
def bMin:ByteArray:={ data:= #[45] }
def dq_ (trm:Rdr->Option Rdr):Nat->Rdr->Option Rdr
 |0,_=>none
 |c+1,x=>if RdW x then(if x.e==0&&(isM x bPlus||isM x bMin) then(trm { x with p:=x.p+1 }).bind fun y=>if y.out.length<=200 then dq_ trm c (putM y ⟨if isM x bMin then 4 else 3,ByteArray.empty,ByteArray.empty⟩ (kt_ x)) else none else some x) else none
def kX_ (n c:Nat):Nat->Rdr->Option Rdr
 |0,_=>none
 |f+1,x=>(uS_ n (kX_ n c f) c x).bind (dq_ (uS_ n (kX_ n c f) c) c)
set_option maxRecDepth 8000 in
theorem pu_ {n c:Nat}:∀f:Nat,do_ 86 (kX_ n c f)
 |0=>fun _ _ _ _ _ _ _ _ _ _ _ h=>by cases h
 |f+1=>by
  intro hp nx q oid ver x y bl hf hI ho h;have htm:=cO_ (n:=n) (c:=c) (pu_ (n:=n) (c:=c) f);unfold kX_ at h;obtain⟨x1,h1,h⟩:=zbi h;generalize uS_ n (kX_ n c f) c=trm at htm h1 h;have hqn:q<nx:=qm_ hf hI.box;refine qX_ qf_ Tryz.func86 (by rfl) (by kernel_rfl) (by kernel_rfl) (by exact Nat.le_of_ble_eq_true rfl) ?_;refine zsq (ZT 1 ?_);refine Z0 ?_
  refine qe_ ((htm _ _ q oid ver _ x1 bl (fun j hj=> ?_) hI (by dsimp only;omega) h1).mono ?_)
  ·dsimp only at hj⊢
   exact hf j (by omega)
  rintro v hp2 nx2 ⟨rfl,hP⟩;refine Z0 ?_;refine zbk ?_;refine zlp (α:={ t:Nat × Rdr × Hp × Nat // RdP hp nx q oid x t.2.1 bl t.2.2.1 t.2.2.2/\dq_ trm t.1 t.2.1=some y })
   (fun t=>⟨upd 0 (.pt q 0) noFr,t.1.2.2.1,t.1.2.2.2⟩) (fun t=>t.1.1) ⟨(c,x1,hp2,nx2),?_,h⟩ ?_ ?_
  ·exact hP.trans (oid1:=oid) (by dsimp only;omega) (by dsimp only;omega) (fun b=>.inl ⟨b,rfl⟩) fun _ _ _ _=>rfl
  ·exact wkI (qa_ rfl (qh_ _))
  ·rintro⟨⟨c,z,hp3,nx3⟩,hP3,m⟩
   dsimp only at hP3 m;cases c with
   |zero=>cases m
   |succ c=>
   unfold dq_ at m;split at m;rotate_left
   ·cases m
   rename_i hw;obtain⟨w1,w2,w3,w4⟩:=hw;have hP3':=hP3;obtain⟨o1,v1,I,fr,new,nle,olt,oc⟩:=hP3;have hq:=I.box;obtain⟨ov,hov⟩:∃ov,ov=accV o1 v1 (z.out.map eGStep):=⟨_,rfl⟩;rw[<-hov] at hq;refine zsq (zsq ?_);refine ZT 1 ?_;cases he:(z.e==0) with
   |false=>
    rw[he,Bool.false_and,if_neg (by decide)] at m;cases m;refine Z1 (And.intro hq he) ?_;refine ZT 1 ?_;refine Z0 ?_;exact⟨_,_,rfl,⟨fun _=>.inr rfl⟩,rfl,hP3'.up (by dsimp only;omega)⟩
   |true=>
    refine Z1 (And.intro hq he) ?_;refine qe_ ((w4_ hq (by omega)).mono ?_);rintro v hp4 nx4 ⟨rfl,rfl,hle4⟩;dsimp only at hle4;rw[he,Bool.true_and] at m;cases hi:isM z bPlus with
    |true=>
     have hi':isM z { data:= #[43] }=true:=hi;have lt0:=xe_ hi;rw[hi,Bool.true_or,if_pos rfl] at m;refine Z1 hi' ?_;obtain⟨z2,h2,m⟩:=zbi m;split at m;rotate_left
     ·cases m
     rename_i w5;refine ZT 1 ?_;refine Z0 ?_;refine zbk ?_;refine zsq (ZT 1 ?_);refine Z0 ?_;refine qe_ ((uh_ hq (by omega)).mono ?_);rintro v hp5 nx5 ⟨rfl,rfl,hle5⟩;dsimp only at hle5;refine Z0 ?_;refine zsq (ZT 1 ?_);refine Z0 ?_;refine zsq (zsq ?_);refine ZT 1 ?_;refine Z0 ?_;refine qe_ ((w4_ hq (by omega)).mono ?_);rintro v hp8 nx8 ⟨rfl,rfl,hle8⟩;dsimp only at hle8
     cases hm:isM z bMin with
     |true=>
      have hm':isM z { data:= #[45] }=true:=hm;rw[hm,if_pos rfl] at m;refine Z1 hm' ?_;refine ZT 1 ?_;refine Z0 ?_;have I1:=I.upd (y:={ z with p:=z.p+1 }) rfl hov;refine zsq (ZT 1 ?_);refine Z1 (And.intro hq (w64a (n:=z.p) (by omega))) ?_;refine zsq (ZT 1 ?_);refine Z0 ?_;refine qe_ ((htm _ _ q o1 v1 _ z2 bl (fun j hj=> ?_) I1 (by dsimp only;omega) h2).mono ?_)
      ·dsimp only at hj⊢
       have:q<nx3:=by omega
       repeat rw[qb_ _ _ (by omega)]
       exact new j (by omega)
      rintro v hp6 nx6 ⟨rfl,hP6⟩;have hP6':=hP6.trans (hp:=hp) (nx:=nx) (x0:=x) (oid:=oid) (by dsimp only;omega) (by dsimp only;omega) oc fun j b1 b2 b3=>by
       repeat rw[qb_ _ _ b2]
       exact fr j b1 b2 b3
      obtain⟨o2,v2,J,fr2,new2,nle2,olt2,oc2⟩:=hP6';refine Z0 ?_;refine ZT 1 ?_;refine Z0 ?_;refine qe_ ((wj_ (s:=⟨4,ByteArray.empty,ByteArray.empty⟩) (fun j hj=> ?_) J (by dsimp only;omega) rfl w5).mono ?_)
      ·dsimp only at hj⊢
       exact new2 j (by omega)
      rintro v hp7 nx7 ⟨rfl,hP7⟩;refine Z0 ?_;exact⟨⟨(c,putM z2 ⟨4,ByteArray.empty,ByteArray.empty⟩ (kt_ z),hp7,nx7),hP7.trans (by dsimp only;omega) (by dsimp only;omega) oc2 fr2,m⟩,wkI (qa_ rfl (qh_ _)),Nat.lt_succ_self c⟩
     |false=>
      have hm':isM z { data:= #[45] }=false:=hm;rw[hm,if_neg (by decide)] at m;refine Z1 hm' ?_;refine qg_ (c:=false) rfl rfl ?_;refine ZT 1 ?_;refine Z0 ?_;have I1:=I.upd (y:={ z with p:=z.p+1 }) rfl hov;refine zsq (ZT 1 ?_);refine Z1 (And.intro hq (w64a (n:=z.p) (by omega))) ?_;refine zsq (ZT 1 ?_);refine Z0 ?_
      refine qe_ ((htm _ _ q o1 v1 _ z2 bl (fun j hj=> ?_) I1 (by dsimp only;omega) h2).mono ?_)
      ·dsimp only at hj⊢
       have:q<nx3:=by omega
       repeat rw[qb_ _ _ (by omega)]
       exact new j (by omega)
      rintro v hp6 nx6 ⟨rfl,hP6⟩;have hP6':=hP6.trans (hp:=hp) (nx:=nx) (x0:=x) (oid:=oid) (by dsimp only;omega) (by dsimp only;omega) oc fun j b1 b2 b3=>by
       repeat rw[qb_ _ _ b2]
       exact fr j b1 b2 b3
      obtain⟨o2,v2,J,fr2,new2,nle2,olt2,oc2⟩:=hP6';refine Z0 ?_;refine ZT 1 ?_;refine Z0 ?_;refine qe_ ((wj_ (s:=⟨3,ByteArray.empty,ByteArray.empty⟩) (fun j hj=> ?_) J (by dsimp only;omega) rfl w5).mono ?_)
      ·dsimp only at hj⊢
       exact new2 j (by omega)
      rintro v hp7 nx7 ⟨rfl,hP7⟩;refine Z0 ?_;exact⟨⟨(c,putM z2 ⟨3,ByteArray.empty,ByteArray.empty⟩ (kt_ z),hp7,nx7),hP7.trans (by dsimp only;omega) (by dsimp only;omega) oc2 fr2,m⟩,wkI (qa_ rfl (qh_ _)),Nat.lt_succ_self c⟩
    |false=>
     have hi':isM z { data:= #[43] }=false:=hi;rw[hi,Bool.false_or] at m;refine Z1 hi' ?_;refine qe_ ((w4_ hq (by omega)).mono ?_);rintro v hp9 nx9 ⟨rfl,rfl,hle9⟩;dsimp only at hle9;cases hn:isM z bMin with
     |true=>
      have hn':isM z { data:= #[45] }=true:=hn;have lt0:=xe_ hn;rw[hn,if_pos rfl] at m;refine Z1 hn' ?_;obtain⟨z2,h2,m⟩:=zbi m;split at m;rotate_left
      ·cases m
      rename_i w5;refine ZT 1 ?_;refine Z0 ?_;refine zbk ?_;refine zsq (ZT 1 ?_);refine Z0 ?_;refine qe_ ((uh_ hq (by omega)).mono ?_);rintro v hp5 nx5 ⟨rfl,rfl,hle5⟩;dsimp only at hle5;refine Z0 ?_;refine zsq (ZT 1 ?_);refine Z0 ?_;refine zsq (zsq ?_);refine ZT 1 ?_;refine Z0 ?_;refine qe_ ((w4_ hq (by omega)).mono ?_);rintro v hp8 nx8 ⟨rfl,rfl,hle8⟩;dsimp only at hle8
      cases hm:isM z bMin with
      |true=>
       have hm':isM z { data:= #[45] }=true:=hm;rw[if_pos rfl] at m;refine Z1 hm' ?_;refine ZT 1 ?_;refine Z0 ?_;have I1:=I.upd (y:={ z with p:=z.p+1 }) rfl hov;refine zsq (ZT 1 ?_);refine Z1 (And.intro hq (w64a (n:=z.p) (by omega))) ?_;refine zsq (ZT 1 ?_);refine Z0 ?_;refine qe_ ((htm _ _ q o1 v1 _ z2 bl (fun j hj=> ?_) I1 (by dsimp only;omega) h2).mono ?_)
       ·dsimp only at hj⊢
        have:q<nx3:=by omega
        repeat rw[qb_ _ _ (by omega)]
        exact new j (by omega)
       rintro v hp6 nx6 ⟨rfl,hP6⟩;have hP6':=hP6.trans (hp:=hp) (nx:=nx) (x0:=x) (oid:=oid) (by dsimp only;omega) (by dsimp only;omega) oc fun j b1 b2 b3=>by
        repeat rw[qb_ _ _ b2]
        exact fr j b1 b2 b3
       obtain⟨o2,v2,J,fr2,new2,nle2,olt2,oc2⟩:=hP6';refine Z0 ?_;refine ZT 1 ?_;refine Z0 ?_;refine qe_ ((wj_ (s:=⟨4,ByteArray.empty,ByteArray.empty⟩) (fun j hj=> ?_) J (by dsimp only;omega) rfl w5).mono ?_)
       ·dsimp only at hj⊢
        exact new2 j (by omega)
       rintro v hp7 nx7 ⟨rfl,hP7⟩;refine Z0 ?_;exact⟨⟨(c,putM z2 ⟨4,ByteArray.empty,ByteArray.empty⟩ (kt_ z),hp7,nx7),hP7.trans (by dsimp only;omega) (by dsimp only;omega) oc2 fr2,m⟩,wkI (qa_ rfl (qh_ _)),Nat.lt_succ_self c⟩
      |false=>
       have hm':isM z { data:= #[45] }=false:=hm;exact absurd (hn.symm.trans hm) (by decide)
     |false=>
      have hn':isM z { data:= #[45] }=false:=hn;rw[hn,if_neg (by decide)] at m;cases m;refine Z1 hn' ?_;refine ZT 1 ?_;refine Z0 ?_;exact⟨_,_,rfl,⟨fun _=>.inr rfl⟩,rfl,hP3'.up (by dsimp only;omega)⟩
structure Kp (x y:Rdr):Prop where
 l:y.l=x.l
 p:x.p<=y.p
 p2:y.p<=x.l.length
 o:y.out.length<=200
 d:y.deep=x.deep
 e:(x.e==0)=false->(y.e==0)=false
theorem Kp.trans {x y z:Rdr}(h:Kp x y)(k:Kp y z):Kp x z:=⟨k.l.trans h.l,Nat.le_trans h.p k.p,by have:=k.p2;rw[h.l] at this;exact this,k.o,k.d.trans h.d,fun g=>k.e (h.e g)⟩
theorem Kp.w {x y:Rdr}(h:Kp x y)(w:RdW x):RdW y:=⟨by rw[h.l];exact w.1,by rw[h.l];exact h.p2,h.o,by rw[h.d];exact w.2.2.2⟩
theorem Kp.fail {x:Rdr}(w:RdW x)(c:Int):Kp x (j4_ x c):=by
 have k:=je_ x c;exact⟨k.1,by rw[k.2.2.2];exact Nat.le_refl _,by rw[k.2.2.2];exact w.2.1,by rw[k.2.1];exact w.2.2.1,k.2.2.1,fun g=>by unfold j4_;rw[g,if_neg (by decide)];exact g⟩
theorem Kp.one {x:Rdr}(w:RdW x)(h:x.p<x.l.length):Kp x { x with p:=x.p+1 }:=⟨rfl,Nat.le_succ _,h,w.2.2.1,rfl,id⟩
theorem Kp.put {x:Rdr}(w:RdW x)(s:GStep)(a:Int):Kp x (putM x s a):=by
 unfold putM;split
 ·rename_i h0
  split
  ·exact⟨rfl,Nat.le_refl _,w.2.1,w.2.2.1,rfl,fun g=>by rw[g] at h0;cases h0⟩
  ·have:=w.2.2.1
   exact⟨rfl,Nat.le_refl _,w.2.1,by rw[List.length_append,List.length_singleton];omega,rfl,id⟩
 ·exact⟨rfl,Nat.le_refl _,w.2.1,w.2.2.1,rfl,id⟩
theorem Kp.want {x:Rdr}(w:RdW x)(t:ByteArray):Kp x (j9_ x t):=by
 unfold j9_;split
 ·split
  ·rename_i h
   exact Kp.one w (xe_ h)
  ·exact Kp.fail w 9
 ·exact⟨rfl,Nat.le_refl _,w.2.1,w.2.2.1,rfl,id⟩
section
variable {n:Nat}{L:List GToken}(hT:∀t∈L,∃b,jO_ n t.text=some b)
include hT in
theorem z9_ {x:Rdr}(hl:x.l=L)(w:RdW x):∃r,vr_ n x=some r/\Kp x r.1:=by
 have kf:=Kp.fail w 9;unfold vr_;split
 ·split
  ·rename_i t e
   have hm:=(List.getElem?_eq_some_iff.1 e);obtain⟨b,hb⟩:=hT t (by rw[<-hl,<-hm.2];exact List.getElem_mem _);split
   ·rw[hb,Zo]
    split
    ·exact⟨_,rfl,Kp.one w hm.1⟩
    ·exact⟨_,rfl,kf⟩
   ·exact⟨_,rfl,kf⟩
  ·exact⟨_,rfl,kf⟩
 ·exact⟨_,rfl,⟨rfl,Nat.le_refl _,w.2.1,w.2.2.1,rfl,id⟩⟩
include hT in
theorem hA_ {ex:Rdr->Option Rdr}{d:Nat}(hex:d<20->∀z,z.l=L->RdW z->z.deep=d+1->∃y,ex z=some y/\Kp z y){x:Rdr}(hl:x.l=L)(w:RdW x)(hd:x.deep=d):∃y,facM n ex x=some y/\Kp x y:=by
 unfold facM;rw[if_pos w];split
 ·rename_i h
  rw[Bool.and_eq_true] at h;have lt:=xe_ h.2;split
  ·exact⟨_,rfl,Kp.fail w 10⟩
  ·rename_i h20
   have hd20:d<20:=by have:=w.2.2.2;omega
   have w1:RdW { x with deep:=x.deep+1,p:=x.p+1 }:=⟨w.1,lt,w.2.2.1,by show x.deep+1<=20;omega⟩;obtain⟨y,e1,k1⟩:=hex hd20 { x with deep:=x.deep+1,p:=x.p+1 } hl w1 (by show x.deep+1=d+1;omega);have wy:=k1.w w1;have ky:=Kp.want wy bRp;have dy:y.deep=x.deep+1:=k1.d;have ly:y.l=x.l:=k1.l;have py:x.p+1<=y.p:=k1.p
   rw[e1,Zo,if_pos ⟨wy,by omega⟩];refine⟨_,rfl,⟨ky.l.trans ly,?_,?_,ky.o,?_,fun g=>ky.e (k1.e g)⟩⟩
   ·have:=ky.p
    show x.p<=(j9_ y bRp).p;omega
   ·have:=ky.p2
    rw[ly] at this;exact this
   ·show y.deep-1=x.deep
    omega
 ·obtain⟨r,e1,k1⟩:=z9_ hT hl w
  rw[e1,Zo];split
  ·rename_i h
   rw[Bool.and_eq_true] at h;have w1:=k1.w w;have k2:=Kp.one w1 (xe_ h.2);obtain⟨s,e2,k3⟩:=z9_ hT (x:={ r.1 with p:=r.1.p+1 }) (k1.l.trans hl) (k2.w w1);rw[e2,Zo];exact⟨_,rfl,k1.trans (k2.trans (k3.trans (Kp.put (k3.w (k2.w w1)) _ _)))⟩
  ·exact⟨_,rfl,k1.trans (Kp.put (k1.w w) _ _)⟩
include hT in
theorem gk_ {ex:Rdr->Option Rdr}{d:Nat}(hex:d<20->∀z,z.l=L->RdW z->z.deep=d+1->∃y,ex z=some y/\Kp z y):∀(c:Nat) (x:Rdr),x.l=L->RdW x->x.deep=d->L.length-x.p<c->∃y,dp_ n ex c x=some y/\Kp x y
 |0,_,_,_,_,h=>absurd h (Nat.not_lt_zero _)
 |c+1,x,hl,w,hd,hc=>by
  unfold dp_;rw[if_pos w];split
  ·rename_i h
   rw[Bool.and_eq_true] at h;have lt:=xe_ h.2;have k1:=Kp.one w lt;obtain⟨y,e1,k2⟩:=hA_ hT hex (x:={ x with p:=x.p+1 }) hl (k1.w w) hd;have w2:=k2.w (k1.w w);have k3:=Kp.put w2 ⟨5,ByteArray.empty,ByteArray.empty⟩ (kt_ x);have k4:=(k1.trans k2).trans k3;have hp:x.p+1<=y.p:=k2.p;have hp3:=k3.p;rw[hl] at lt
   obtain⟨z,e2,k5⟩:=gk_ hex c _ (k4.l.trans hl) (k4.w w) (k4.d.trans hd) (by omega);rw[e1,Zo,if_pos w2.2.2.1];exact⟨z,e2,k4.trans k5⟩
  ·exact⟨x,rfl,⟨rfl,Nat.le_refl _,w.2.1,w.2.2.1,rfl,id⟩⟩
include hT in
theorem pD_ {ex:Rdr->Option Rdr}{d c:Nat}(hex:d<20->∀z,z.l=L->RdW z->z.deep=d+1->∃y,ex z=some y/\Kp z y)(hc:L.length<c){x:Rdr}(hl:x.l=L)(w:RdW x)(hd:x.deep=d):∃y,uS_ n ex c x=some y/\Kp x y:=by
 obtain⟨y,e1,k1⟩:=hA_ hT hex hl w hd;obtain⟨z,e2,k2⟩:=gk_ hT hex c y (k1.l.trans hl) (k1.w w) (k1.d.trans hd) (by omega);exact⟨z,by unfold uS_;rw[e1,Zo,e2],k1.trans k2⟩
theorem gl_ {trm:Rdr->Option Rdr}{d:Nat}(htm:∀z,z.l=L->RdW z->z.deep=d->∃y,trm z=some y/\Kp z y):∀(c:Nat) (x:Rdr),x.l=L->RdW x->x.deep=d->L.length-x.p<c->∃y,dq_ trm c x=some y/\Kp x y
 |0,_,_,_,_,h=>absurd h (Nat.not_lt_zero _)
 |c+1,x,hl,w,hd,hc=>by
  unfold dq_;rw[if_pos w];split
  ·rename_i h
   rw[Bool.and_eq_true,Bool.or_eq_true] at h;have lt:x.p<x.l.length:=h.2.elim xe_ xe_;have k1:=Kp.one w lt;obtain⟨y,e1,k2⟩:=htm { x with p:=x.p+1 } hl (k1.w w) hd;have w2:=k2.w (k1.w w);have k3:=Kp.put w2 ⟨if isM x bMin then 4 else 3,ByteArray.empty,ByteArray.empty⟩ (kt_ x)
   have k4:=(k1.trans k2).trans k3;have hp:x.p+1<=y.p:=k2.p;have hp3:=k3.p;rw[hl] at lt;obtain⟨z,e2,k5⟩:=gl_ htm c _ (k4.l.trans hl) (k4.w w) (k4.d.trans hd) (by omega);rw[e1,Zo,if_pos w2.2.2.1];exact⟨z,e2,k4.trans k5⟩
  ·exact⟨x,rfl,⟨rfl,Nat.le_refl _,w.2.1,w.2.2.1,rfl,id⟩⟩
include hT in
theorem ds_ {c:Nat}(hc:L.length<c):∀(f d:Nat),20<f+d->∀x:Rdr,x.l=L->RdW x->x.deep=d->∃y,kX_ n c f x=some y/\Kp x y
 |0,d,h,x,_,w,hd=>by have:=w.2.2.2;omega
 |f+1,d,h,x,hl,w,hd=>by
  have hex:∀e,e=d->(e<20->∀z,z.l=L->RdW z->z.deep=e+1->∃y,kX_ n c f z=some y/\Kp z y):=fun e he _ z h1 h2 h3=>ds_ hc f (e+1) (by omega) z h1 h2 h3;have htm:∀z,z.l=L->RdW z->z.deep=d->∃y,uS_ n (kX_ n c f) c z=some y/\Kp z y:=fun z h1 h2 h3=>pD_ hT (hex d rfl) hc h1 h2 h3;obtain⟨y,e1,k1⟩:=htm x hl w hd
  obtain⟨z,e2,k2⟩:=gl_ htm c y (k1.l.trans hl) (k1.w w) (k1.d.trans hd) (by omega);exact⟨z,by unfold kX_;rw[e1,Zo,e2],k1.trans k2⟩
end
end Go.Proofs.YtnmkbmefohakmaaGreat.Ab
