/-
 The document's reader of schemas comes to an end: expressions. No program in sight.
-/
import Derived.Test.YtnmkbmefohakmaaGreatSkr
set_option linter.all false
namespace Go.Proofs.YtnmkbmefohakmaaGreat.Ab
open Go.RowKit
def EO (x:Au):Prop:=x.l.length<1152921504606846976/\x.p<=x.l.length/\x.out.length<=200/\x.deep<=20
instance (x:Au):Decidable (EO x):=inferInstanceAs (Decidable (_/\_/\_/\_))
variable {ex:Au->Option Au}{n:Nat}{x:Au}
theorem F9 {t:ByteArray}(h:isM x t=true):x.p<x.l.length:=by
 unfold isM at h;split at h
 ·rename_i e;exact(Lb.1 e).1
 cases h
theorem Hd (x:Au)(c:Int):(xe_ x c).l=x.l/\(xe_ x c).out=x.out/\(xe_ x c).deep=x.deep/\(xe_ x c).p=x.p:=by
 unfold xe_;split<;>exact⟨rfl,rfl,rfl,rfl⟩
theorem Vw (x:Au)(t:ByteArray):(EE x t).l=x.l/\(EE x t).out=x.out/\(EE x t).deep=x.deep/\(x.p<=x.l.length->(EE x t).p<=x.l.length):=by
 unfold EE;split
 ·split
  ·rename_i h;exact⟨rfl,rfl,rfl,fun _=>F9 h⟩
  have:=Hd x 9;exact⟨this.1,this.2.1,this.2.2.1,fun h=>by rw[this.2.2.2];exact h⟩
 exact⟨rfl,rfl,rfl,id⟩
theorem He {r:Au × ByteArray}(h:vJ_ n x=some r):r.1.l=x.l/\r.1.out=x.out/\r.1.deep=x.deep/\(x.p<=x.l.length->r.1.p<=x.l.length):=by
 have a:=Hd x 9;have c:(xe_ x 9).l=x.l/\(xe_ x 9).out=x.out/\(xe_ x 9).deep=x.deep/\(x.p<=x.l.length->(xe_ x 9).p<=x.l.length):=⟨a.1,a.2.1,a.2.2.1,fun h=>by rw[a.2.2.2];exact h⟩;unfold vJ_ at h;split at h
 ·split at h
  ·rename_i e;split at h
   ·have⟨b,_,h⟩:=AP h;split at h
    ·cases h;exact⟨rfl,rfl,rfl,fun _=>(Lb.1 e).1⟩
    cases h;exact c
   cases h;exact c
  cases h;exact c
 cases h;exact⟨rfl,rfl,rfl,id⟩
theorem RH.upd {hp:Hp}{q oid ver:Nat}{x y:Au}{bl:Bool}{ov:AV}(h:RH hp q x bl oid ver)(e:y.out=x.out)(d:ov=AW oid ver (x.out.map AY)):RH (upd q (some (Aw y bl ov)) hp) q y bl oid ver:=
 ⟨by rw[At,e,d],fun c=>by
  rw[e] at c;have a:=h.row c;exact⟨by rw[Aj _ _ a.2,a.1,e],a.2⟩⟩
def Vx (F:FuncId)(M:Au->Option Au):Prop:=∀(a:Hp) (c q d f:Nat) (x y:Au) (e:Bool),(∀j,c<=j->a j=none)->RH a q x e d f->d<c->M x=some y->AT Tryz.prog F [.pt q 0] a c fun v g h=>v= .tu []/\KZ a c q d x y e g h
theorem KZ.trans {hp e f:Hp}{nx d nx2 q oid oid1:Nat}{x0 g x2:Au}{bl:Bool}(z:nx<=d)(A:oid1<d)(h:g.out≠[]->(x0.out≠[]/\oid1=oid)\/nx<=oid1)(l:∀j,j<nx->j≠q->(x0.out≠[]->j≠oid)->e j=hp j)(m:KZ e d q oid1 g x2 bl f nx2):KZ hp nx q oid x0 x2 bl f nx2:=by
 have⟨o,p,r,s,u,B,v,w⟩:=m;refine⟨o,p,r,fun j c a i=> ?_,u,by omega,v,fun b=> ?_⟩
 ·rw[s j (by omega) a fun y=> ?_,l j c a i];rcases h y with⟨k,rfl⟩ |k
  ·exact i k
  omega
 rcases w b with⟨c,rfl⟩ |c
 ·rcases h c with a |a
  ·exact .inl a
  exact .inr a
 exact .inr (by omega)
def mi:ByteArray:={ data:= #[40] }
def MP:ByteArray:={ data:= #[41] }
def cm:ByteArray:={ data:= #[45,62] }
def FV (n:Nat)(ex:Au->Option Au)(x:Au):Option Au:=if EO x then (if x.e==0&&isM x mi then (if x.deep=20 then some (xe_ x 10) else(ex { x with deep:=x.deep+1,p:=x.p+1 }).bind fun y=>if EO y/\0<y.deep then some { EE y MP with deep:=y.deep-1 } else none) else(vJ_ n x).bind fun r=>if r.1.e==0&&isM r.1 cm then(vJ_ n { r.1 with p:=r.1.p+1 }).bind fun s=>some (EF s.1 ⟨2,r.2,s.2⟩ (I4 x)) else some (EF r.1 ⟨1,r.2,{ data:= #[] }⟩ (I4 x))) else none
set_option maxRecDepth 8000 in
theorem RI (ad:Vx 86 ex):Vx 140 (FV n ex):=by
 intro hp nx q S T x y C o E ho h;unfold FV at h;split at h;rotate_left
 ·cases h
 rename_i hw;have⟨w1,w2,B,w4⟩:=hw;have f:=E.box;obtain⟨g,m⟩:∃g,g=AW S T (x.out.map AY):=⟨_,rfl⟩;rw[<-m] at f;have aE:q<nx:=Ch o f;refine zr Tryz.func140 ?_;refine Z0 ?_;refine CO ((Vv f (by omega)).mono ?_);rintro v a0 a1 ⟨rfl,rfl,ag⟩;dsimp only at ag;cases O:(x.e==0) with
 |false=>
  rw[O,Ng,if_neg (by decide)] at h;refine Z1 (Y2 f O) ?_;have⟨r,F,h⟩:=AP h;refine CO ((PV f (by omega) F).mono ?_);rintro v U P ⟨rfl,rfl,G⟩;dsimp only at G;have c:=He F;have u:=E.upd (y:=r.1) c.2.1 m;have i:∀hh:Hp,upd q (some (Aw r.1 C g)) hh q=some (Aw r.1 C g):=fun _=>At _ _ _;cases w:(r.1.e==0) with
  |false=>
   rw[w,Ng,if_neg (by decide)] at h;cases h;refine Z1 (Y2 i w) ?_;refine CO ((Ka (s:=⟨1,r.2,{ data:= #[] }⟩) (fun j d=> ?_) u (by dsimp only;omega) rfl (by rw[c.2.1];exact B)).mono ?_)
   ·dsimp only at d
    repeat rw[Ac]
    exact o j (by omega)
   rintro v H I ⟨rfl,k⟩;refine Z0 ?_;exact⟨_,_,rfl,⟨fun _=>.inr rfl⟩,rfl,k.trans (by dsimp only;omega) (by dsimp only;omega) (fun b=>.inl ⟨by rw[<-c.2.1];exact b,rfl⟩) fun j _ e _=>by repeat rw[Aj _ _ e]⟩
  |true=>
   refine Z1 (Y2 i w) ?_;refine CO ((Hc (i _) (by rw[c.1];omega)).mono ?_);rintro v Y Z ⟨rfl,rfl,J⟩;dsimp only at J;rw[w,NB] at h;cases l:isM r.1 cm with
   |false=>
    have z:isM r.1 { data:= #[45,62] }=false:=l;rw[l,if_neg (by decide)] at h;cases h;refine Z1 (Y2 i z) ?_;refine CO ((Ka (s:=⟨1,r.2,{ data:= #[] }⟩) (fun j d=> ?_) u (by dsimp only;omega) rfl (by rw[c.2.1];exact B)).mono ?_)
    ·dsimp only at d
     repeat rw[Ac]
     exact o j (by omega)
    rintro v H I ⟨rfl,k⟩;refine Z0 ?_;exact⟨_,_,rfl,⟨fun _=>.inr rfl⟩,rfl,k.trans (by dsimp only;omega) (by dsimp only;omega) (fun b=>.inl ⟨by rw[<-c.2.1];exact b,rfl⟩) fun j _ e _=>by repeat rw[Aj _ _ e]⟩
   |true=>
    have z:isM r.1 { data:= #[45,62] }=true:=l;rw[l,if_pos rfl] at h;have⟨s,K,h⟩:=AP h;cases h;have V:=F9 l;rw[c.1] at V;have M:=u.upd (y:={ r.1 with p:=r.1.p+1 }) rfl (m.trans (by rw[c.2.1]));refine Z1 (Y3 i z (Ar (n:=r.1.p))) ?_;refine CO ((PV (x:={ r.1 with p:=r.1.p+1 }) (ov:=g) (At _ _ _) (by show r.1.l.length<_;rw[c.1];omega) K).mono ?_);rintro v ak ao ⟨rfl,rfl,X⟩;dsimp only at X;have A:=He K;have I3:=M.upd (y:=s.1) A.2.1 (m.trans (by rw[<-c.2.1]));refine Z0 ?_;refine CO ((Ka (s:=⟨2,r.2,s.2⟩) (fun j d=> ?_) I3 (by dsimp only;omega) rfl (by rw[A.2.1];show r.1.out.length<=200;rw[c.2.1];exact B)).mono ?_)
    ·dsimp only at d
     repeat rw[Ac]
     exact o j (by omega)
    rintro v H I ⟨rfl,k⟩;refine Z0 ?_;exact⟨_,_,rfl,⟨fun _=>.inr rfl⟩,rfl,k.trans (by dsimp only;omega) (by dsimp only;omega) (fun b=>.inl ⟨by rw[<-c.2.1];rw[A.2.1] at b;exact b,rfl⟩) fun j _ e _=>by repeat rw[Aj _ _ e]⟩
 |true=>
  rw[O,NB] at h;refine Z1 (Y2 f O) ?_;refine CO ((Hc f (by omega)).mono ?_);rintro v a2 a3 ⟨rfl,rfl,aq⟩;dsimp only at aq;cases N:isM x mi with
  |false=>
   have Q:isM x { data:= #[40] }=false:=N;rw[N,if_neg (by decide)] at h;refine Z1 (Y2 f Q) ?_;have⟨r,F,h⟩:=AP h;refine CO ((PV f (by omega) F).mono ?_);rintro v U P ⟨rfl,rfl,G⟩;dsimp only at G;have c:=He F;have u:=E.upd (y:=r.1) c.2.1 m;have i:∀hh:Hp,upd q (some (Aw r.1 C g)) hh q=some (Aw r.1 C g):=fun _=>At _ _ _
   cases w:(r.1.e==0) with
   |false=>
    rw[w,Ng,if_neg (by decide)] at h;cases h;refine Z1 (Y2 i w) ?_;refine CO ((Ka (s:=⟨1,r.2,{ data:= #[] }⟩) (fun j d=> ?_) u (by dsimp only;omega) rfl (by rw[c.2.1];exact B)).mono ?_)
    ·dsimp only at d
     repeat rw[Ac]
     exact o j (by omega)
    rintro v H I ⟨rfl,k⟩;refine Z0 ?_;exact⟨_,_,rfl,⟨fun _=>.inr rfl⟩,rfl,k.trans (by dsimp only;omega) (by dsimp only;omega) (fun b=>.inl ⟨by rw[<-c.2.1];exact b,rfl⟩) fun j _ e _=>by repeat rw[Aj _ _ e]⟩
   |true=>
    refine Z1 (Y2 i w) ?_;refine CO ((Hc (i _) (by rw[c.1];omega)).mono ?_);rintro v Y Z ⟨rfl,rfl,J⟩;dsimp only at J;rw[w,NB] at h;cases l:isM r.1 cm with
    |false=>
     have z:isM r.1 { data:= #[45,62] }=false:=l;rw[l,if_neg (by decide)] at h;cases h;refine Z1 (Y2 i z) ?_;refine CO ((Ka (s:=⟨1,r.2,{ data:= #[] }⟩) (fun j d=> ?_) u (by dsimp only;omega) rfl (by rw[c.2.1];exact B)).mono ?_)
     ·dsimp only at d
      repeat rw[Ac]
      exact o j (by omega)
     rintro v H I ⟨rfl,k⟩;refine Z0 ?_;exact⟨_,_,rfl,⟨fun _=>.inr rfl⟩,rfl,k.trans (by dsimp only;omega) (by dsimp only;omega) (fun b=>.inl ⟨by rw[<-c.2.1];exact b,rfl⟩) fun j _ e _=>by repeat rw[Aj _ _ e]⟩
    |true=>
     have z:isM r.1 { data:= #[45,62] }=true:=l;rw[l,if_pos rfl] at h;have⟨s,K,h⟩:=AP h;cases h;have V:=F9 l;rw[c.1] at V;have M:=u.upd (y:={ r.1 with p:=r.1.p+1 }) rfl (m.trans (by rw[c.2.1]));refine Z1 (Y3 i z (Ar (n:=r.1.p))) ?_;refine CO ((PV (x:={ r.1 with p:=r.1.p+1 }) (ov:=g) (At _ _ _) (by show r.1.l.length<_;rw[c.1];omega) K).mono ?_);rintro v ak ao ⟨rfl,rfl,X⟩;dsimp only at X;have A:=He K;have I3:=M.upd (y:=s.1) A.2.1 (m.trans (by rw[<-c.2.1]));refine Z0 ?_;refine CO ((Ka (s:=⟨2,r.2,s.2⟩) (fun j d=> ?_) I3 (by dsimp only;omega) rfl (by rw[A.2.1];show r.1.out.length<=200;rw[c.2.1];exact B)).mono ?_)
     ·dsimp only at d
      repeat rw[Ac]
      exact o j (by omega)
     rintro v H I ⟨rfl,k⟩;refine Z0 ?_;exact⟨_,_,rfl,⟨fun _=>.inr rfl⟩,rfl,k.trans (by dsimp only;omega) (by dsimp only;omega) (fun b=>.inl ⟨by rw[<-c.2.1];rw[A.2.1] at b;exact b,rfl⟩) fun j _ e _=>by repeat rw[Aj _ _ e]⟩
  |true=>
   have Q:isM x { data:= #[40] }=true:=N;have a4:=F9 N;rw[N,if_pos rfl] at h;by_cases hd:x.deep=20
   ·rw[if_pos hd] at h;cases h;have c1:((x.deep:Int)==20)=true:=(by rw[hd];rfl);refine Z1 (Y3 f Q c1) ?_;refine CO ((KY f (by omega)).mono ?_);rintro v U P ⟨rfl,rfl,G⟩;dsimp only at G;refine Z0 ?_;have c:=Hd x 10;exact⟨_,_,rfl,⟨fun _=>.inr rfl⟩,rfl,S,T,E.upd c.2.1 m,fun j _ e _=>Aj _ _ e,fun j d=>by dsimp only at d⊢;rw[Ac];exact o j (by omega),by dsimp only;omega,by dsimp only;omega,fun b=>.inl ⟨by rw[<-c.2.1];exact b,rfl⟩⟩
   rw[if_neg hd] at h;have⟨y,hy,h⟩:=AP h;split at h;rotate_left
   ·cases h
   rename_i av;have⟨⟨a5,a6,a9,ba⟩,bb⟩:=av;cases h;have c1:((x.deep:Int)==20)=false:=(by simp;omega);have u:=E.upd (y:={ x with deep:=x.deep+1 }) rfl m;have M:=u.upd (y:={ x with deep:=x.deep+1,p:=x.p+1 }) rfl m;refine Z1 (Y5 f Q c1 (Ar (n:=x.p)) (Ar (n:=x.deep))) ?_;refine CO ((ad _ _ q S T _ y C (fun j d=> ?_) M (by dsimp only;omega) hy).mono ?_)
   ·dsimp only at d⊢
    repeat rw[Ac]
    exact o j (by omega)
   rintro v U P ⟨rfl,aa,ab,J1,J2,J3,J4,J5,J6⟩;dsimp only at J2 J4;refine Z0 ?_;refine CO ((RG (t:={ data:= #[41] }) J1.box (by omega) (by omega)).mono ?_);rintro v Y Z ⟨rfl,rfl,J⟩;dsimp only at J;have c:=Vw y MP;have K1:=J1.upd (y:=EE y MP) c.2.1 rfl;have K2:=K1.upd (y:={ EE y MP with deep:=y.deep-1 }) rfl (ov:=AW aa ab (y.out.map AY)) (by rw[c.2.1]);have c2:IntKind.i64.wrap (((EE y { data:= #[41] }).deep:Int)-1)=((y.deep-1:Nat):Int):=by
    rw[show(EE y { data:= #[41] }).deep=y.deep from c.2.2.1];exact EI (a:=y.deep) (b:=1) (by omega) (by omega)
   refine Z1 c2 ?_;refine⟨_,_,rfl,⟨fun _=>.inr rfl⟩,rfl,aa,ab,K2,fun j R e b3=> ?_,fun j d=> ?_,by dsimp only;omega,by dsimp only;omega,fun b=> ?_⟩
   ·dsimp only
    repeat rw[Aj _ _ e]
    rw[J2 j (by omega) e b3];repeat rw[Aj _ _ e]
   ·dsimp only at d⊢
    have:q<P:=by omega
    repeat rw[Ac]
    exact J3 j (by omega)
   rcases J6 (by rw[<-c.2.1];exact b) with R |R
   ·exact .inl R
   dsimp only at R;exact .inr (by omega)
def Vy:ByteArray:={ data:= #[38] }
def JT (n:Nat)(ex:Au->Option Au):Nat->Au->Option Au
 |0,_=>none
 |c+1,x=>if EO x then(if x.e==0&&isM x Vy then(FV n ex { x with p:=x.p+1 }).bind fun y=>if y.out.length<=200 then JT n ex c (EF y ⟨5,ByteArray.empty,ByteArray.empty⟩ (I4 x)) else none else some x) else none
def Hg (n:Nat)(ex:Au->Option Au)(c:Nat)(x:Au):Option Au:=(FV n ex x).bind (JT n ex c)
theorem KZ.up {hp a:Hp}{nx nx2 c q oid:Nat}{x0:Au}{bl:Bool}(h:KZ hp nx q oid x0 x bl a nx2)(l:nx2<=c):KZ hp nx q oid x0 x bl a c:=by
 have⟨d,e,f,g,i,m,o,k⟩:=h;exact⟨d,e,f,g,fun j p=>i j (by omega),by omega,by omega,k⟩
set_option maxRecDepth 8000 in
theorem xQ {c:Nat}(N:Vx 86 ex):Vx 111 (Hg n ex c):=by
 intro k g q d O x y l u w ho h;have A:=RI (n:=n) N;unfold Hg at h;have⟨B,P,h⟩:=AP h;have av:q<g:=Ch u w.box;refine zq Tryz.func111 ?_;refine Ax ?_;refine CO ((A _ _ q d O _ B l (fun j e=> ?_) w (by dsimp only;omega) P).mono ?_)
 ·dsimp only at e⊢;exact u j (by omega)
 rintro v Q R ⟨rfl,S⟩;refine Z0 ?_;refine CV ?_;refine DV (α:={ t:Nat × Au × Hp × Nat // KZ k g q d x t.2.1 l t.2.2.1 t.2.2.2/\JT n ex t.1 t.2.1=some y })
  (fun t=>⟨upd 0 (.pt q 0) AJ,t.1.2.2.1,t.1.2.2.2⟩) (fun t=>t.1.1) ⟨(c,B,Q,R),?_,h⟩ ?_ ?_
 ·exact S.trans (oid1:=d) (by dsimp only;omega) (by dsimp only;omega) (fun b=>.inl ⟨b,rfl⟩) fun _ _ _ _=>rfl
 ·exact CW
 rintro⟨⟨c,z,aE,T⟩,o,m⟩;dsimp only at o m;cases c with
 |zero=>cases m
 |succ c=>
 unfold JT at m;split at m;rotate_left
 ·cases m
 rename_i U;have⟨w1,w2,w3,w4⟩:=U;have C:=o;have⟨E,F,I,fr,V,a0,a1,oc⟩:=o;have a:=I.box;obtain⟨G,H⟩:∃G,G=AW E F (z.out.map AY):=⟨_,rfl⟩;rw[<-H] at a;refine AU (AU ?_);refine ZT 1 ?_;cases i:(z.e==0) with
 |false=>
  rw[i,Ng,if_neg (by decide)] at m;cases m;refine Z1 (Y2 a i) ?_;refine AQ ?_;exact⟨_,_,rfl,⟨fun _=>.inr rfl⟩,rfl,C.up (by dsimp only;omega)⟩
 |true=>
  refine Z1 (Y2 a i) ?_;refine CO ((Hc a (by omega)).mono ?_);rintro v a2 a3 ⟨rfl,rfl,X⟩;dsimp only at X;rw[i,NB] at m;cases f:isM z Vy with
  |false=>
   have r:isM z { data:= #[38] }=false:=f;rw[f,if_neg (by decide)] at m;cases m;refine Z1 r ?_;refine AQ ?_;exact⟨_,_,rfl,⟨fun _=>.inr rfl⟩,rfl,C.up (by dsimp only;omega)⟩
  |true=>
   have r:isM z { data:= #[38] }=true:=f;have a4:=F9 f;rw[f,if_pos rfl] at m;have⟨K,h2,m⟩:=AP m;split at m;rotate_left
   ·cases m
   rename_i w5;refine Z1 r ?_;refine AQ ?_;refine CV ?_;refine Ax ?_;refine CO ((Vv a (by omega)).mono ?_);rintro v a5 a6 ⟨rfl,rfl,Y⟩;dsimp only at Y;refine DQ ?_;refine Z1 (Y2 a (Ar (n:=z.p))) ?_;have I1:=I.upd (y:={ z with p:=z.p+1 }) rfl H;refine Ax ?_;refine CO ((A _ _ q E F _ K l (fun j e=> ?_) I1 (by dsimp only;omega) h2).mono ?_)
   ·dsimp only at e⊢
    have:q<T:=by omega
    repeat rw[Ac]
    exact V j (by omega)
   rintro v a9 ba ⟨rfl,Z⟩;have aa:=Z.trans (hp:=k) (nx:=g) (x0:=x) (oid:=d) (by dsimp only;omega) (by dsimp only;omega) oc fun j b1 M b3=>by
    repeat rw[Aj _ _ M]
    exact fr j b1 M b3
   have⟨o2,v2,J,ab,ad,bb,bd,ag⟩:=aa;refine FN ?_;refine CO ((Ka (s:=⟨5,ByteArray.empty,ByteArray.empty⟩) (fun j e=> ?_) J (by dsimp only;omega) rfl w5).mono ?_)
   ·dsimp only at e⊢;exact ad j (by omega)
   rintro v ak ao ⟨rfl,aq⟩;refine Z0 ?_;exact⟨⟨(c,EF K ⟨5,ByteArray.empty,ByteArray.empty⟩ (I4 z),ak,ao),aq.trans (by dsimp only;omega) (by dsimp only;omega) ag ab,m⟩,CW,Ls c⟩
def PX:ByteArray:={ data:= #[43] }
def HE:ByteArray:={ data:= #[45] }
def JU (a:Au->Option Au):Nat->Au->Option Au
 |0,_=>none
 |c+1,x=>if EO x then(if x.e==0&&(isM x PX||isM x HE) then(a { x with p:=x.p+1 }).bind fun y=>if y.out.length<=200 then JU a c (EF y ⟨if isM x HE then 4 else 3,ByteArray.empty,ByteArray.empty⟩ (I4 x)) else none else some x) else none
def Gg (n c:Nat):Nat->Au->Option Au
 |0,_=>none
 |f+1,x=>(Hg n (Gg n c f) c x).bind (JU (Hg n (Gg n c f) c) c)
set_option maxRecDepth 8000 in
theorem mj {n c:Nat}:∀f:Nat,Vx 86 (Gg n c f)
 |0=>fun _ _ _ _ _ _ _ _ _ _ _ h=>by cases h
 |f+1=>by
  intro l g q e av x y w hf hI ho h;have A:=xQ (n:=n) (c:=c) (mj (n:=n) (c:=c) f);unfold Gg at h;have⟨x1,h1,h⟩:=AP h;generalize Hg n (Gg n c f) c=aE at A h1 h;have bb:q<g:=Ch hf hI.box;refine zq Tryz.func86 ?_;refine Ax ?_;refine CO ((A _ _ q e av _ x1 w (fun j a=> ?_) hI (by dsimp only;omega) h1).mono ?_)
  ·dsimp only at a⊢;exact hf j (by omega)
  rintro v a0 a1 ⟨rfl,hP⟩;refine Z0 ?_;refine CV ?_;refine DV (α:={ t:Nat × Au × Hp × Nat // KZ l g q e x t.2.1 w t.2.2.1 t.2.2.2/\JU aE t.1 t.2.1=some y })
   (fun t=>⟨upd 0 (.pt q 0) AJ,t.1.2.2.1,t.1.2.2.2⟩) (fun t=>t.1.1) ⟨(c,x1,a0,a1),?_,h⟩ ?_ ?_
  ·exact hP.trans (oid1:=e) (by dsimp only;omega) (by dsimp only;omega) (fun b=>.inl ⟨b,rfl⟩) fun _ _ _ _=>rfl
  ·exact CW
  rintro⟨⟨c,z,bd,U⟩,V,m⟩;dsimp only at V m;cases c with
  |zero=>cases m
  |succ c=>
  unfold JU at m;split at m;rotate_left
  ·cases m
  rename_i hw;have⟨w1,w2,w3,w4⟩:=hw;have ad:=V;have⟨R,S,I,fr,X,be,bg,oc⟩:=V;have d:=I.box;obtain⟨ov,T⟩:∃ov,ov=AW R S (z.out.map AY):=⟨_,rfl⟩;rw[<-T] at d;refine AU (AU ?_);refine ZT 1 ?_;cases he:(z.e==0) with
  |false=>
   rw[he,Ng,if_neg (by decide)] at m;cases m;refine Z1 (Y2 d he) ?_;refine AQ ?_;exact⟨_,_,rfl,⟨fun _=>.inr rfl⟩,rfl,ad.up (by dsimp only;omega)⟩
  |true=>
   refine Z1 (Y2 d he) ?_;refine CO ((Hc d (by omega)).mono ?_);rintro v bl bo ⟨rfl,rfl,a2⟩;dsimp only at a2;rw[he,NB] at m;cases B:isM z PX with
   |true=>
    have Y:isM z { data:= #[43] }=true:=B;have a3:=F9 B;rw[B,BO,if_pos rfl] at m;refine Z1 Y ?_;have⟨o,h2,m⟩:=AP m;split at m;rotate_left
    ·cases m
    rename_i w5;refine AQ ?_;refine CV ?_;refine Ax ?_;refine CO ((Vv d (by omega)).mono ?_);rintro v a4 a5 ⟨rfl,rfl,Z⟩;dsimp only at Z;refine DQ ?_;refine Z0 ?_;refine Dy ?_;refine CO ((Hc d (by omega)).mono ?_);rintro v a6 a9 ⟨rfl,rfl,aa⟩;dsimp only at aa;cases i:isM z HE with
    |true=>
     have r:isM z { data:= #[45] }=true:=i;rw[i,if_pos rfl] at m;refine Z1 r ?_;refine AQ ?_;have C:=I.upd (y:={ z with p:=z.p+1 }) rfl T;refine AU (ZT 1 ?_);refine Z1 (Y2 d (Ar (n:=z.p))) ?_;refine Ax ?_;refine CO ((A _ _ q R S _ o w (fun j a=> ?_) C (by dsimp only;omega) h2).mono ?_)
     ·dsimp only at a⊢
      have:q<U:=by omega
      repeat rw[Ac]
      exact X j (by omega)
     rintro v ag ak ⟨rfl,E⟩;have F:=E.trans (hp:=l) (nx:=g) (x0:=x) (oid:=e) (by dsimp only;omega) (by dsimp only;omega) oc fun j G k H=>by
      repeat rw[Aj _ _ k]
      exact fr j G k H
     have⟨o2,v2,J,K,M,ao,aq,N⟩:=F;refine FN ?_;refine CO ((Ka (s:=⟨4,ByteArray.empty,ByteArray.empty⟩) (fun j a=> ?_) J (by dsimp only;omega) rfl w5).mono ?_)
     ·dsimp only at a⊢;exact M j (by omega)
     rintro v O P ⟨rfl,Q⟩;refine Z0 ?_;exact⟨⟨(c,EF o ⟨4,ByteArray.empty,ByteArray.empty⟩ (I4 z),O,P),Q.trans (by dsimp only;omega) (by dsimp only;omega) N K,m⟩,CW,Ls c⟩
    |false=>
     have r:isM z { data:= #[45] }=false:=i;rw[i,if_neg (by decide)] at m;refine Z1 r ?_;refine DI (c:=false) rfl rfl ?_;refine AQ ?_;have C:=I.upd (y:={ z with p:=z.p+1 }) rfl T;refine AU (ZT 1 ?_);refine Z1 (Y2 d (Ar (n:=z.p))) ?_;refine Ax ?_;refine CO ((A _ _ q R S _ o w (fun j a=> ?_) C (by dsimp only;omega) h2).mono ?_)
     ·dsimp only at a⊢
      have:q<U:=by omega
      repeat rw[Ac]
      exact X j (by omega)
     rintro v ag ak ⟨rfl,E⟩;have F:=E.trans (hp:=l) (nx:=g) (x0:=x) (oid:=e) (by dsimp only;omega) (by dsimp only;omega) oc fun j G k H=>by
      repeat rw[Aj _ _ k]
      exact fr j G k H
     have⟨o2,v2,J,K,M,ao,aq,N⟩:=F;refine FN ?_;refine CO ((Ka (s:=⟨3,ByteArray.empty,ByteArray.empty⟩) (fun j a=> ?_) J (by dsimp only;omega) rfl w5).mono ?_)
     ·dsimp only at a⊢;exact M j (by omega)
     rintro v O P ⟨rfl,Q⟩;refine Z0 ?_;exact⟨⟨(c,EF o ⟨3,ByteArray.empty,ByteArray.empty⟩ (I4 z),O,P),Q.trans (by dsimp only;omega) (by dsimp only;omega) N K,m⟩,CW,Ls c⟩
   |false=>
    have Y:isM z { data:= #[43] }=false:=B;rw[B,NE] at m;refine Z1 Y ?_;refine CO ((Hc d (by omega)).mono ?_);rintro v br bs ⟨rfl,rfl,ba⟩;dsimp only at ba;cases u:isM z HE with
    |true=>
     have ab:isM z { data:= #[45] }=true:=u;have a3:=F9 u;rw[u,if_pos rfl] at m;refine Z1 ab ?_;have⟨o,h2,m⟩:=AP m;split at m;rotate_left
     ·cases m
     rename_i w5;refine AQ ?_;refine CV ?_;refine Ax ?_;refine CO ((Vv d (by omega)).mono ?_);rintro v a4 a5 ⟨rfl,rfl,Z⟩;dsimp only at Z;refine DQ ?_;refine Z0 ?_;refine Dy ?_;refine CO ((Hc d (by omega)).mono ?_);rintro v a6 a9 ⟨rfl,rfl,aa⟩;dsimp only at aa;cases i:isM z HE with
     |true=>
      have r:isM z { data:= #[45] }=true:=i;rw[if_pos rfl] at m;refine Z1 r ?_;refine AQ ?_;have C:=I.upd (y:={ z with p:=z.p+1 }) rfl T;refine AU (ZT 1 ?_);refine Z1 (Y2 d (Ar (n:=z.p))) ?_;refine Ax ?_;refine CO ((A _ _ q R S _ o w (fun j a=> ?_) C (by dsimp only;omega) h2).mono ?_)
      ·dsimp only at a⊢
       have:q<U:=by omega
       repeat rw[Ac]
       exact X j (by omega)
      rintro v ag ak ⟨rfl,E⟩;have F:=E.trans (hp:=l) (nx:=g) (x0:=x) (oid:=e) (by dsimp only;omega) (by dsimp only;omega) oc fun j G k H=>by
       repeat rw[Aj _ _ k]
       exact fr j G k H
      have⟨o2,v2,J,K,M,ao,aq,N⟩:=F;refine FN ?_;refine CO ((Ka (s:=⟨4,ByteArray.empty,ByteArray.empty⟩) (fun j a=> ?_) J (by dsimp only;omega) rfl w5).mono ?_)
      ·dsimp only at a⊢;exact M j (by omega)
      rintro v O P ⟨rfl,Q⟩;refine Z0 ?_;exact⟨⟨(c,EF o ⟨4,ByteArray.empty,ByteArray.empty⟩ (I4 z),O,P),Q.trans (by dsimp only;omega) (by dsimp only;omega) N K,m⟩,CW,Ls c⟩
     |false=>
      have r:isM z { data:= #[45] }=false:=i;exact absurd (u.symm.trans i) (by decide)
    |false=>
     have ab:isM z { data:= #[45] }=false:=u;rw[u,if_neg (by decide)] at m;cases m;refine Z1 ab ?_;refine AQ ?_;exact⟨_,_,rfl,⟨fun _=>.inr rfl⟩,rfl,ad.up (by dsimp only;omega)⟩
structure Kp (x y:Au):Prop where
 l:y.l=x.l
 p:x.p<=y.p
 p2:y.p<=x.l.length
 o:y.out.length<=200
 d:y.deep=x.deep
 e:(x.e==0)=false->(y.e==0)=false
theorem Kp.trans {y z:Au}(h:Kp x y)(k:Kp y z):Kp x z:=⟨k.l.trans h.l,Lq h.p k.p,by have:=k.p2;rw[h.l] at this;exact this,k.o,k.d.trans h.d,fun g=>k.e (h.e g)⟩
theorem Kp.w {x y:Au}(h:Kp x y)(w:EO x):EO y:=⟨by rw[h.l];exact w.1,by rw[h.l];exact h.p2,h.o,by rw[h.d];exact w.2.2.2⟩
theorem Kp.fail (w:EO x)(c:Int):Kp x (xe_ x c):=by
 have k:=Hd x c;exact⟨k.1,by rw[k.2.2.2];exact Lc _,by rw[k.2.2.2];exact w.2.1,by rw[k.2.1];exact w.2.2.1,k.2.2.1,fun g=>by unfold xe_;rw[g,if_neg (by decide)];exact g⟩
theorem Kp.one (w:EO x)(h:x.p<x.l.length):Kp x { x with p:=x.p+1 }:=⟨rfl,Bj _,h,w.2.2.1,rfl,id⟩
theorem Kp.put (w:EO x)(s:AX)(a:Int):Kp x (EF x s a):=by
 unfold EF;split
 ·rename_i c;split
  ·exact⟨rfl,Lc _,w.2.1,w.2.2.1,rfl,fun g=>by rw[g] at c;cases c⟩
  have:=w.2.2.1;exact⟨rfl,Lc _,w.2.1,by grind,rfl,id⟩
 exact⟨rfl,Lc _,w.2.1,w.2.2.1,rfl,id⟩
theorem Kp.want (w:EO x)(t:ByteArray):Kp x (EE x t):=by
 unfold EE;split
 ·split
  ·rename_i h;exact Kp.one w (F9 h)
  exact Kp.fail w 9
 exact⟨rfl,Lc _,w.2.1,w.2.2.1,rfl,id⟩
section
variable {n:Nat}{L:List C5}(hT:∀t∈L,∃b,MO n t.text=some b)
include hT in
theorem TQ (f:x.l=L)(w:EO x):∃r,vJ_ n x=some r/\Kp x r.1:=by
 have a:=Kp.fail w 9;unfold vJ_;split
 ·split
  ·rename_i t e;have c:=(Lb.1 e);have⟨b,d⟩:=hT t (by grind);split
   ·rw[d,Zo];split
    ·exact⟨_,rfl,Kp.one w c.1⟩
    exact⟨_,rfl,a⟩
   exact⟨_,rfl,a⟩
  exact⟨_,rfl,a⟩
 exact⟨_,rfl,⟨rfl,Lc _,w.2.1,w.2.2.1,rfl,id⟩⟩
include hT in
theorem nH {d:Nat}(o:d<20->∀z,z.l=L->EO z->z.deep=d+1->∃y,ex z=some y/\Kp z y)(f:x.l=L)(w:EO x)(A:x.deep=d):∃y,FV n ex x=some y/\Kp x y:=by
 unfold FV;rw[if_pos w];split
 ·rename_i h;rw[Lm] at h;have q:=F9 h.2;split
  ·exact⟨_,rfl,Kp.fail w 10⟩
  rename_i B;have u:d<20:=by have:=w.2.2.2;omega
  have c:EO { x with deep:=x.deep+1,p:=x.p+1 }:=⟨w.1,q,w.2.2.1,by show x.deep+1<=20;omega⟩;have⟨y,i,a⟩:=o u { x with deep:=x.deep+1,p:=x.p+1 } f c (by show x.deep+1=d+1;omega);have k:=a.w c;have e:=Kp.want k MP;have C:y.deep=x.deep+1:=a.d;have l:y.l=x.l:=a.l;have E:x.p+1<=y.p:=a.p;rw[i,Zo,if_pos ⟨k,by omega⟩];refine⟨_,rfl,⟨e.l.trans l,?_,?_,e.o,?_,fun g=>e.e (a.e g)⟩⟩
  ·have:=e.p;show x.p<=(EE y MP).p;omega
  ·have:=e.p2;rw[l] at this;exact this
  show y.deep-1=x.deep;omega
 have⟨r,i,a⟩:=TQ hT f w;rw[i,Zo];split
 ·rename_i h;rw[Lm] at h;have c:=a.w w;have j:=Kp.one c (F9 h.2);have⟨s,v,m⟩:=TQ hT (x:={ r.1 with p:=r.1.p+1 }) (a.l.trans f) (j.w c);rw[v,Zo];exact⟨_,rfl,a.trans (j.trans (m.trans (Kp.put (m.w (j.w c)) _ _)))⟩
 exact⟨_,rfl,a.trans (Kp.put (a.w w) _ _)⟩
include hT in
theorem nI {ex:Au->Option Au}{d:Nat}(i:d<20->∀z,z.l=L->EO z->z.deep=d+1->∃y,ex z=some y/\Kp z y):∀(c:Nat) (x:Au),x.l=L->EO x->x.deep=d->L.length-x.p<c->∃y,JT n ex c x=some y/\Kp x y
 |0,_,_,_,_,h=>absurd h (LZ _)
 |c+1,x,e,w,j,s=>by
  unfold JT;rw[if_pos w];split
  ·rename_i h;rw[Lm] at h;have k:=F9 h.2;have f:=Kp.one w k;have⟨y,o,g⟩:=nH hT i (x:={ x with p:=x.p+1 }) e (f.w w) j;have l:=g.w (f.w w);have m:=Kp.put l ⟨5,ByteArray.empty,ByteArray.empty⟩ (I4 x);have a:=(f.trans g).trans m;have u:x.p+1<=y.p:=g.p;have v:=m.p;rw[e] at k;have⟨z,q,r⟩:=nI i c _ (a.l.trans e) (a.w w) (a.d.trans j) (by omega);rw[o,Zo,if_pos l.2.2.1];exact⟨z,q,a.trans r⟩
  exact⟨x,rfl,⟨rfl,Lc _,w.2.1,w.2.2.1,rfl,id⟩⟩
include hT in
theorem xY {d c:Nat}(e:d<20->∀z,z.l=L->EO z->z.deep=d+1->∃y,ex z=some y/\Kp z y)(k:L.length<c)(f:x.l=L)(w:EO x)(g:x.deep=d):∃y,Hg n ex c x=some y/\Kp x y:=by
 have⟨y,h,a⟩:=nH hT e f w g;have⟨z,i,j⟩:=nI hT e c y (a.l.trans f) (a.w w) (a.d.trans g) (by omega);exact⟨z,by unfold Hg;rw[h,Zo,i],a.trans j⟩
theorem nJ {i:Au->Option Au}{d:Nat}(j:∀z,z.l=L->EO z->z.deep=d->∃y,i z=some y/\Kp z y):∀(c:Nat) (x:Au),x.l=L->EO x->x.deep=d->L.length-x.p<c->∃y,JU i c x=some y/\Kp x y
 |0,_,_,_,_,h=>absurd h (LZ _)
 |c+1,x,e,w,k,u=>by
  unfold JU;rw[if_pos w];split
  ·rename_i h;rw[Lm,LQ] at h;have l:x.p<x.l.length:=h.2.elim F9 F9;have f:=Kp.one w l;have⟨y,q,g⟩:=j { x with p:=x.p+1 } e (f.w w) k;have m:=g.w (f.w w);have o:=Kp.put m ⟨if isM x HE then 4 else 3,ByteArray.empty,ByteArray.empty⟩ (I4 x);have a:=(f.trans g).trans o;have v:x.p+1<=y.p:=g.p;have A:=o.p;rw[e] at l;have⟨z,r,s⟩:=nJ j c _ (a.l.trans e) (a.w w) (a.d.trans k) (by omega);rw[q,Zo,if_pos m.2.2.1];exact⟨z,r,a.trans s⟩
  exact⟨x,rfl,⟨rfl,Lc _,w.2.1,w.2.2.1,rfl,id⟩⟩
include hT in
theorem nK {c:Nat}(l:L.length<c):∀(f d:Nat),20<f+d->∀x:Au,x.l=L->EO x->x.deep=d->∃y,Gg n c f x=some y/\Kp x y
 |0,d,h,x,_,w,g=>by have:=w.2.2.2;omega
 |f+1,d,h,x,m,w,g=>by
  have p:∀e,e=d->(e<20->∀z,z.l=L->EO z->z.deep=e+1->∃y,Gg n c f z=some y/\Kp z y):=fun e u _ z i j k=>nK l f (e+1) (by omega) z i j k;have o:∀z,z.l=L->EO z->z.deep=d->∃y,Hg n (Gg n c f) c z=some y/\Kp z y:=fun z i j k=>xY hT (p d rfl) l i j k;have⟨y,q,a⟩:=o x m w g;have⟨z,r,s⟩:=nJ o c y (a.l.trans m) (a.w w) (a.d.trans g) (by omega);exact⟨z,by unfold Gg;rw[q,Zo,r],a.trans s⟩
end
end Go.Proofs.YtnmkbmefohakmaaGreat.Ab
