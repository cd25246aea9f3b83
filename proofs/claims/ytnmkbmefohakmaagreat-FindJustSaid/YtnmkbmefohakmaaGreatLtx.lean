/-
 The order of texts; Compact of what is sorted is the set; Once is the set. No program in sight.
-/
import Derived.Test.YtnmkbmefohakmaaGreatPrt
import Derived.Handy
import Derived.Lib.SlicesCompact
import Derived.Lib.Strings
set_option linter.all false
namespace Go.Proofs.YtnmkbmefohakmaaGreat.Ab
open Go.RowKit
def cn:ByteArray:={ data:= #[61] }
def MQ:ByteArray:={ data:= #[59] }
def HF:ByteArray:={ data:= #[58] }
def bHash:ByteArray:={ data:= #[35] }
def Vz:ByteArray:={ data:= #[124] }
def I6 (n:Nat):Nat->Au->List AL->Option (Au × List AL)
 |0,_,_=>none
 |c+1,x,ss=>if EO x/\ss.length<=50 then (if x.e==0 then(vJ_ n (if ss.length=50 then xe_ x 8 else x)).bind fun a=>(if a.1.e==0&&isM a.1 bHash then vJ_ n { a.1 with p:=a.1.p+1 } else some (a.1,ByteArray.empty)).bind fun d=>if d.1.e==0&&isM d.1 Vz then I6 n c { d.1 with p:=d.1.p+1 } (ss++[⟨a.2,ByteArray.empty,d.2⟩]) else some (EE d.1 MQ,ss++[⟨a.2,ByteArray.empty,d.2⟩]) else some (x,ss)) else none
def FW (n c f:Nat)(x:Au):Option (Au × AZ):=if EO x then(vJ_ n x).bind fun a=>if a.1.e==0&&isM a.1 cn then(Gg n c f { a.1 with p:=a.1.p+1,out:=[] }).bind fun y=>if EO y then some (EE y MQ,⟨a.2,[],y.out⟩) else none else(I6 n c (EE a.1 HF) []).map fun p=>(p.1,⟨a.2,p.2,[]⟩) else none
def kB_ (n:Nat)(x:Au):Bool:=match vJ_ n x with
 |some r=>r.1.e==0&&isM r.1 cn
 |none=>false
def V0 (hp:Hp)(nx q:Nat)(x:Au)(g:AZ)(bl e:Bool)(f v:AV)(a:Hp)(nx2:Nat):Prop:=∃ov sid sver c d,v= .ag [.v (.string g.name),AW sid sver (g.subs.map AR),AW c d (g.expr.map AY)]/\a q=some (Aw x bl ov)/\(ov=if e then AW c d (g.expr.map AY) else f)/\(g.subs≠[]->a sid=some (.rw (g.subs.map AR) 3 sver false false)/\nx<=sid/\sid<nx2)/\(g.expr≠[]->a c=some (.rw (g.expr.map AY) 3 d false false)/\nx<=c/\c<nx2)/\(∀j,j<nx->j≠q->a j=hp j)/\(∀j,nx2<=j->a j=none)/\nx<=nx2
structure I7 (hp:Hp) (nx q:Nat) (bl:Bool) (nm:ByteArray) (ov:AV) (z:Au) (ss:List AL) (sid sver:Nat) (hpz:Hp) (nxz:Nat):Prop where
 box:hpz q=some (Aw z bl ov)
 o:hpz (nx+1+3)=some (.bx [.v (.string nm),AW sid sver (ss.map AR),.v (.slice none 0 0)])
 res:hpz nx=some (.bx [.v (.string ByteArray.empty),.v (.slice none 0 0),.v (.slice none 0 0)])
 row:ss≠[]->hpz sid=some (.rw (ss.map AR) 3 sver false false)/\nx+1+5<=sid/\sid<nxz
 fr:∀j,j<nx->j≠q->hpz j=hp j
 new:∀j,nxz<=j->hpz j=none
 le:nx+1+5<=nxz
variable {bl:Bool}{hp hpz:Hp}{n nx2 nxz q sid sver:Nat}{ov:AV}{ss:List AL}{x z:Au}
theorem I7.put {nx:Nat}{nm:ByteArray}{z2:Au}(h:I7 hp nx q bl nm ov z ss sid sver hpz nxz)(e:q<nx)(f:nxz<=nx2):I7 hp nx q bl nm ov z2 ss sid sver (upd q (some (Aw z2 bl ov)) hpz) nx2 where
 box:=At _ _ _
 o:=by rw[Ac];exact h.o
 res:=by rw[Ac];exact h.res
 row:=fun d=>by
  have a:=h.row d;exact⟨by rw[Ac];exact a.1,a.2.1,by omega⟩
 fr:=fun j a c=>by rw[Aj _ _ c];exact h.fr j a c
 new:=fun j a=>by have:=h.le;rw[Ac];exact h.new j (by omega)
 le:=by have:=h.le;omega
theorem I7.ext {nx:Nat}{nm:ByteArray}{id:Nat}(h:I7 hp nx q bl nm ov z ss sid sver hpz nxz)(g:nxz<=nx2)(d:id≠q)(i:nx+1+5<=id)(e:ss≠[]->id≠sid)(k:id<nx2)(o:Option AO):I7 hp nx q bl nm ov z ss sid sver (upd id o hpz) nx2 where
 box:=by rw[Aj _ _ (Ne.symm d)];exact h.box
 o:=by rw[Ac];exact h.o
 res:=by rw[Ac];exact h.res
 row:=fun c=>by
  have a:=h.row c;exact⟨by rw[Aj _ _ (Ne.symm (e c))];exact a.1,a.2.1,by omega⟩
 fr:=fun j a f=>by rw[Ac];exact h.fr j a f
 new:=fun j a=>by rw[Ac];exact h.new j (by omega)
 le:=by have:=h.le;omega
theorem I7.fin {nx:Nat}{nm:ByteArray}(h:I7 hp nx q bl nm ov z ss sid sver hpz nxz)(f:q<nx)(c:nxz<=nx2)(o:Option AO):V0 hp nx q z ⟨nm,ss,[]⟩ bl false ov (.ag [.v (.string nm),AW sid sver (ss.map AR),.v (.slice none 0 0)]) (upd nx o hpz) nx2:=by
 have g:=h.le;refine⟨ov,sid,sver,0,0,rfl,by rw[Ac];exact h.box,rfl,fun d=> ?_,fun c=>absurd rfl c,fun j a e=>by rw[Ac];exact h.fr j a e,fun j a=>by rw[Ac];exact h.new j (by omega),by omega⟩;have a:=h.row d;exact⟨by rw[Ac];exact a.1,by omega,by omega⟩
set_option maxRecDepth 8000 in
theorem RJ {c f:Nat}{nx:Nat}{y:Au × AZ}(hf:∀j,nx<=j->hp j=none)(hq:hp q=some (Aw x bl ov))(h:FW n c f x=some y):
  AT Tryz.prog 57 [.pt q 0] hp nx fun v b0 nx2=>V0 hp nx q y.1 y.2 bl (kB_ n x) ov v b0 nx2:=by
 have H:q<nx:=Ch hf hq;unfold FW at h;split at h;rotate_left
 ·cases h
 rename_i hw;have⟨w1,w2,w3,w4⟩:=hw;have⟨r,hr,h⟩:=AP h;have k1:=He hr;refine zq Tryz.func57 ?_;refine Ax ?_;refine AU (ZT 1 ?_);have cp:∀o:Option AO,upd nx o hp q=some (Aw x bl ov):=fun o=>by rw[Ac];exact hq
 refine Z0 ?_;refine CO ((PV (cp _) (by omega) hr).mono ?_);rintro v b0 nx2 ⟨rfl,rfl,b1⟩;dsimp only at b1;refine Z0 ?_;generalize eH:(upd (nx+1+3) (some _) _:Hp)=T;have X:T q=some (Aw r.1 bl ov):=by rw[<-eH,Ac,Ac,At]
 have b3:T (nx+1+3)=some (.bx [.v (.string r.2),.v (.slice none 0 0),.v (.slice none 0 0)]):=by rw[<-eH,At]
 have b2:T nx=some (.bx [.v (.string ByteArray.empty),.v (.slice none 0 0),.v (.slice none 0 0)]):=by rw[<-eH,Ac,Ac,Ac,At]
 have b4:∀j,j<nx->j≠q->T j=hp j:=fun j e i=>by rw[<-eH,Ac,Ac,Aj _ _ i,Ac]
 have n3:∀j,nx2<=j->T j=none:=fun j e=>by rw[<-eH,Ac,Ac,Ac,Ac];exact hf j (by omega)
 refine AU (Dw (α:={ k:Nat // nx2<=k/\(I6 n c (EE r.1 HF) []).map (fun p=>(p.1,(⟨r.2,p.2,[]⟩:AZ)))=some y/\kB_ n x=false }) (fun y=>⟨upd 0 (.pt q 0) (upd 2 (.pt nx 0) (upd 3 (.pt (nx+1+3) 0) AJ)),T,y.1⟩) ?_ ?_)
 ·refine AU (ZT 1 ?_);cases u:(r.1.e==0) with
  |false=>
   rw[u,Ng,if_neg (by decide)] at h;refine Z1 (Y2 X u) ?_;refine DI (c:=false) rfl rfl ?_;refine AQ ?_;exact⟨⟨_,by omega,h,by unfold kB_;rw[hr];exact(by simp[u])⟩,CW⟩
  |true=>
   rw[u,NB] at h;refine Z1 (Y2 X u) ?_;refine CO ((Hc X (by rw[k1.1];omega)).mono ?_);rintro v b5 aE ⟨rfl,rfl,a0⟩;dsimp only at a0;cases s:isM r.1 cn with
   |false=>
    have w:isM r.1 { data:= #[61] }=false:=s;rw[s,if_neg (by decide)] at h;refine Z1 w ?_;refine DI (c:=false) rfl rfl ?_;refine AQ ?_;exact⟨⟨_,by omega,h,by unfold kB_;rw[hr];exact(by simp[s])⟩,CW⟩
   |true=>
    have w:isM r.1 { data:= #[61] }=true:=s;have cs:=F9 s;rw[k1.1] at cs;rw[s,if_pos rfl] at h;have⟨z,hz,h⟩:=AP h;split at h;rotate_left
    ·cases h
    rename_i a1;have⟨z1,P,z3,z4⟩:=a1;cases h;refine Z1 w ?_;refine ED (c:=true) rfl rfl ?_;refine AU (ZT 1 ?_);refine Z1 (Y2 X (Ar (n:=r.1.p))) ?_;refine Dg ?_;generalize eK:(upd q (some _) _:Hp)=a2;have I5:RH a2 q { r.1 with p:=r.1.p+1,out:=[] } bl 0 0:=⟨by rw[<-eK,At];rfl,fun l=>absurd rfl l⟩;have a3:∀j,j≠q->a2 j=b5 j:=fun j i=>by
     rw[<-eK];repeat rw[Aj _ _ i]
    refine CO ((mj f _ _ q 0 0 _ z bl (fun j hj=> ?_) I5 (by dsimp only;omega) hz).mono ?_)
    ·grind
    rintro v ab ad ⟨rfl,o6,v6,J,ag,cx,cN,dd,c0⟩;dsimp only at ag cN c0;have a4:=J.box;have b6:ab (nx+1+3)=some (.bx [.v (.string r.2),.v (.slice none 0 0),.v (.slice none 0 0)]):=(by rw[ag _ (by omega) (by omega) fun l=>absurd rfl l,a3 _ (by omega)];exact b3);have b7:ab nx=some (.bx [.v (.string ByteArray.empty),.v (.slice none 0 0),.v (.slice none 0 0)]):=(by rw[ag _ (by omega) (by omega) fun l=>absurd rfl l,a3 _ (by omega)];exact b2);refine DQ ?_;refine Z1 (Y2 a4 b6) ?_;obtain⟨ev,a5⟩:∃ev,ev=AW o6 v6 (z.out.map AY):=⟨_,rfl⟩;rw[<-a5] at a4⊢;generalize eL:(upd (nx+1+3) (some _) ab:Hp)=Y;have A:z.out≠[]->nx+1+5<=o6:=fun l=>by
     grind
    have q7:Y q=some (Aw z bl ev):=(by rw[<-eL,Ac];exact a4);have b8:Y (nx+1+3)=some (.bx [.v (.string r.2),.v (.slice none 0 0),ev]):=(by rw[<-eL,At]);have b9:Y nx=some (.bx [.v (.string ByteArray.empty),.v (.slice none 0 0),.v (.slice none 0 0)]):=(by rw[<-eL,Ac];exact b7);refine Ax ?_;refine CO ((RG q7 (by omega) (by omega)).mono ?_);rintro v cb c1 ⟨rfl,rfl,a6⟩;dsimp only at a6;refine DQ ?_;have f1:(nx+1+3=q)=False:=Ep;have f2:(nx=q)=False:=Ep;refine Z1 (Y4 b8 b9 f1 f2) ?_;refine AQ ?_;refine⟨.ag [.v (.string r.2),.v (.slice none 0 0),ev],_,by simp -implicitDefEqProofs only[go_sem, ↓reduceIte,Tryz.f57,At,Nat.reduceEqDiff]<;>rfl,⟨fun _=>.inr rfl⟩,ev,0,0,o6,v6,by rw[a5];rfl,?_,by rw[show kB_ n x=true by unfold kB_;rw[hr];simp[u,s]];exact a5,fun l=>absurd rfl l,fun l=> ?_,fun j e i=> ?_,fun j e=> ?_,by dsimp only;omega⟩
    ·dsimp only;rw[Ac,At];rfl
    ·have h3:=(J.row l).1;have h4:=(J.row l).2;have h5:=A l;dsimp only;refine⟨?_,by omega,by omega⟩;rw[Ac,Aj _ _ h4,<-eL,Ac];exact h3
    ·dsimp only;rw[Ac,Aj _ _ i,<-eL,Ac,ag j (by omega) i fun l=>absurd rfl l,a3 j i];exact b4 j e i
    dsimp only at e⊢;rw[Ac,Ac,<-eL,Ac];exact cx j (by omega)
 rintro⟨df,hj,h,a9⟩;obtain⟨⟨zf,sf⟩,hs,rfl⟩:=La.1 h;refine Ax ?_;refine CO ((RG X (by rw[k1.1];omega) (by have:=k1.2.2.2 w2;omega)).mono ?_);rintro v b5 aE ⟨rfl,rfl,a0⟩;dsimp only at a0;refine Z0 ?_;have L0:I7 hp nx q bl r.2 ov (EE r.1 HF) [] 0 0 (upd q (some (Aw (EE r.1 HF) bl ov)) T) aE:=
  I7.put (z:=r.1) ⟨X,b3,b2,fun l=>absurd rfl l,b4,n3,b1⟩ H (by omega)
 refine AU (CV ?_);refine DV (α:={ t:Nat × Au × List AL × Nat × Nat × Hp × Nat // I7 hp nx q bl r.2 ov t.2.1 t.2.2.1 t.2.2.2.1 t.2.2.2.2.1 t.2.2.2.2.2.1 t.2.2.2.2.2.2/\I6 n t.1 t.2.1 t.2.2.1=some (zf,sf) })
  (fun t=>⟨upd 0 (.pt q 0) (upd 2 (.pt nx 0) (upd 3 (.pt (nx+1+3) 0) AJ)),t.1.2.2.2.2.2.1,t.1.2.2.2.2.2.2⟩) (fun t=>t.1.1) ⟨(c,EE r.1 HF,[],0,0,_,aE),L0,hs⟩ ?_ ?_
 ·exact CW
 rintro⟨⟨c,z,ss,sid,sver,hpz,nxz⟩,L,m⟩;dsimp only at L m;cases c with
 |zero=>cases m
 |succ c=>
 unfold I6 at m;split at m;rotate_left
 ·cases m
 rename_i a1;have⟨⟨z1,P,z3,z4⟩,z5⟩:=a1;refine AU (AU ?_);refine ZT 1 ?_;cases u:(z.e==0) with
 |false=>
  rw[u,if_neg (by decide)] at m;have⟨m1,m2⟩:=BX (LI m);subst m1;subst m2;refine Z1 (Y2 L.box u) ?_;refine AQ ?_;refine AU (ZT 1 ?_);obtain⟨B,Q⟩:∃B,B=AW sid sver (ss.map AR):=⟨_,rfl⟩;have A:=L.o;rw[<-Q] at A;refine Z1 (Y2 A L.res) ?_;refine AQ ?_;refine⟨.ag [.v (.string r.2),B,.v (.slice none 0 0)],_,by simp -implicitDefEqProofs only[go_sem, ↓reduceIte,Tryz.f57,At,reduceCtorEq,Nat.reduceEqDiff]<;>rfl,⟨fun _=>.inr rfl⟩,?_⟩;rw[Q];rw[a9];exact L.fin H (by dsimp only;omega) _
 |true=>
  rw[u,if_pos rfl] at m;refine Z1 (Y2 L.box u) ?_;refine AQ ?_;refine CV ?_;obtain⟨zz,R⟩:∃zz,zz=(if ss.length=50 then xe_ z 8 else z):=⟨_,rfl⟩;rw[<-R] at m;have Z:zz.l=z.l/\zz.out=z.out/\zz.deep=z.deep/\zz.p=z.p:=by
   rw[R];split
   ·exact Hd z 8
   exact⟨rfl,rfl,rfl,rfl⟩
  refine AU (Dw (α:={ k:Nat // nxz<=k }) (fun y=>⟨upd 0 (.pt q 0) (upd 2 (.pt nx 0) (upd 3 (.pt (nx+1+3) 0) AJ)),upd q (some (Aw zz bl ov)) hpz,y.1⟩) ?_ ?_)
  ·refine AU (ZT 1 ?_);have A:=L.o;cases ss with
   |nil=>
    rw[if_neg (by decide)] at R;refine Z1 A ?_;refine DI (c:=false) rfl rfl ?_;refine AQ ?_;rw[R];exact⟨⟨_,by omega⟩,GE (Fc L.box) DW⟩
   |cons a t=>
    by_cases ak:(a::t).length=50
    ·have ba:(((t.length+1:Nat):Int)==50)=true:=(by simp at ak⊢;omega);rw[if_pos ak] at R;refine Z1 (Y2 A ba) ?_;refine AQ ?_;refine CO ((KY L.box (by omega)).mono ?_);rintro v a2 dk ⟨rfl,rfl,c2⟩;dsimp only at c2;refine Z0 ?_;rw[R];exact⟨⟨_,by omega⟩,CW⟩
    have ba:(((t.length+1:Nat):Int)==50)=false:=(by simp at ak⊢;omega);rw[if_neg ak] at R;refine Z1 (Y2 A ba) ?_;refine DI (c:=false) rfl rfl ?_;refine AQ ?_;rw[R];exact⟨⟨_,by omega⟩,GE (Fc L.box) DW⟩
  rintro⟨C,hk⟩;have L1:=L.put (z2:=zz) H hk;have⟨g,cf,m⟩:=AP m;refine Ax ?_;refine CO ((PV L1.box (by rw[Z.1];omega) cf).mono ?_);rintro v ab ad ⟨rfl,rfl,c3⟩;dsimp only at c3;refine Z0 ?_;have dl:=L.le;have L2:=L1.put (z2:=g.1) H (nx2:=ad) (by omega);have bb:ss≠[]->C+3≠sid:=fun hs=>by have:=(L.row hs).2.2;omega
  have S:I7 hp nx q bl r.2 ov g.1 ss sid sver (upd (C+3) (some (.bx [.v (.string g.2),.v (.string ByteArray.empty),.v (.string ByteArray.empty)])) (upd (C+3) (some (.bx [.v (.string ByteArray.empty),.v (.string ByteArray.empty),.v (.string ByteArray.empty)])) (upd q (some (Aw g.1 bl ov)) (upd q (some (Aw zz bl ov)) hpz)))) ad:=
   (L2.ext (Lc _) (by omega) (by omega) bb (by omega) _).ext (Lc _) (by omega) (by omega) bb (by omega) _
  generalize eS:(upd (C+3) (some _) _:Hp)=Y at S⊢;have s7:Y (C+3)=some (.bx [.v (.string g.2),.v (.string ByteArray.empty),.v (.string ByteArray.empty)]):=by rw[<-eS,At]
  have kr:=He cf;have⟨d,K,m⟩:=AP m;refine AU (Dw (α:={ k:Nat // ad<=k }) (fun y=>⟨upd 0 (.pt q 0) (upd 2 (.pt nx 0) (upd 3 (.pt (nx+1+3) 0) (upd 4 (.pt (C+3) 0) AJ))),upd (C+3) (some (.bx [.v (.string g.2),.v (.string ByteArray.empty),.v (.string d.2)])) (upd q (some (Aw d.1 bl ov)) Y),y.1⟩) ?_ ?_)
  ·refine AU (ZT 1 ?_);cases ao:(g.1.e==0) with
   |false=>
    rw[ao,Ng,if_neg (by decide)] at K;cases K;refine Z1 (Y2 S.box ao) ?_;refine DI (c:=false) rfl rfl ?_;refine AQ ?_;exact⟨⟨_,by omega⟩,GE (by rw[Fc S.box,Fc s7]) DW⟩
   |true=>
    rw[ao,NB] at K;refine Z1 (Y2 S.box ao) ?_;refine CO ((Hc S.box (by rw[kr.1,Z.1];omega)).mono ?_);rintro v cb c1 ⟨rfl,rfl,a6⟩;dsimp only at a6;cases s:isM g.1 bHash with
    |false=>
     have w:isM g.1 { data:= #[35] }=false:=s;rw[s,if_neg (by decide)] at K;cases K;refine Z1 w ?_;refine DI (c:=false) rfl rfl ?_;refine AQ ?_;exact⟨⟨_,by omega⟩,GE (by rw[Fc S.box,Fc s7]) DW⟩
    |true=>
     have w:isM g.1 { data:= #[35] }=true:=s;have c4:=F9 s;rw[kr.1,Z.1] at c4;rw[s,if_pos rfl] at K;refine Z1 w ?_;refine ED (c:=true) rfl rfl ?_;refine AU (ZT 1 ?_);refine Z1 (Y2 S.box (Ar (n:=g.1.p))) ?_;refine ZT 1 ?_;have q8:upd q (some (Aw { g.1 with p:=g.1.p+1 } bl ov)) cb q=some (Aw { g.1 with p:=g.1.p+1 } bl ov):=At _ _ _;refine Z0 ?_;refine CO ((PV q8 (by grind) K).mono ?_);rintro v dm dn ⟨rfl,rfl,c5⟩;dsimp only at c5;have f3:(C+3=q)=False:=Ep;refine Z1 (Y2 s7 f3) ?_;exact⟨⟨_,by omega⟩,GE (by rw[EU]) DW⟩
  rintro⟨E,hl⟩;have F:=(S.put (z2:=d.1) H hl).ext (id:=C+3) (Lc _) (by omega) (by omega) bb (by omega) (some (.bx [.v (.string g.2),.v (.string ByteArray.empty),.v (.string d.2)]));generalize eT:(upd (C+3) (some _) _:Hp)=bd at F⊢;have s8:bd (C+3)=some (.bx [.v (.string g.2),.v (.string ByteArray.empty),.v (.string d.2)]):=by rw[<-eT,At]
  have A:=F.o;obtain⟨sn,aa⟩:∃sn:AL,sn=⟨g.2,ByteArray.empty,d.2⟩:=⟨_,rfl⟩;rw[<-aa] at m;refine AU (Dw (α:={ t:Nat × Nat × Hp × Nat // I7 hp nx q bl r.2 ov d.1 (ss++[sn]) t.1 t.2.1 t.2.2.1 t.2.2.2 }) (fun t=>⟨upd 0 (.pt q 0) (upd 2 (.pt nx 0) (upd 3 (.pt (nx+1+3) 0) AJ)),t.1.2.2.1,t.1.2.2.2⟩) ?_ ?_)
  ·refine ZT 1 ?_;have f4:(nx+1+3=E+3)=False:=Ep;have f5:(nx+1+3=E+4)=False:=Ep;cases ss with
   |nil=>
    refine Z1 (Y4 A s8 f4 f5) ?_;generalize U:(upd (nx+1+3) (some _) _:Hp)=M;have u1:M (nx+1+3)=some (.bx [.v (.string r.2),.so (E+4) 0 0 1,.v (.slice none 0 0)]):=(by rw[<-U,At]);have u2:M (E+4)=some (.rw ([[.v (.string g.2),.v (.string ByteArray.empty),.v (.string d.2)]]) 3 0 false false):=(by rw[<-U,Ac,At]);have N:∀j,j≠nx+1+3->j≠E+4->j≠E+3->M j=bd j:=fun j e i h3=>(by rw[<-U,Aj _ _ e,Aj _ _ i,Aj _ _ h3]);refine⟨⟨(E+4,0,M,E+7),?_⟩,CW⟩
    exact⟨(N _ (by omega) (by omega) (by omega)).trans F.box,u1.trans (by rw[aa];rfl),(N _ (by omega) (by omega) (by omega)).trans F.res,fun _=>⟨u2.trans (by rw[aa];rfl),by dsimp only;omega,by dsimp only;omega⟩,fun j e i=>(N _ (by omega) (by omega) (by omega)).trans (F.fr j e i),fun j e=>(N _ (by dsimp only at e;omega) (by dsimp only at e;omega) (by dsimp only at e;omega)).trans (F.new j (by dsimp only at e;omega)),by dsimp only;omega⟩
   |cons a t=>
    have c6:=F.row (by simp);have f6:(nx+1+3=sid)=False:=Ep;have f7:(sid=E+3)=False:=Ep;have c7:(t.length+1+1<=4294967296)=True:=eq_true (by grind);have f8:(sid=nx+1+3)=False:=Ep;refine Z1 (Y2 (Y6 A s8 c6.1 f4 f6 f7) (Y2 f8 c7)) ?_;generalize U:(upd (nx+1+3) (some _) _:Hp)=M;have u1:M (nx+1+3)=some (.bx [.v (.string r.2),.so sid (sver+1) 0 (t.length+1+1),.v (.slice none 0 0)]):=(by rw[<-U,At]);have u2:M (sid)=some (.rw (AR a::(t.map AR++[[.v (.string g.2),.v (.string ByteArray.empty),.v (.string d.2)]])) 3 (sver+1) false false):=(by rw[<-U,Ac,At]);have N:∀j,j≠nx+1+3->j≠sid->j≠E+3->M j=bd j:=fun j e i h3=>(by rw[<-U,Aj _ _ e,Aj _ _ i,Aj _ _ h3]);refine⟨⟨(sid,(sver+1),M,E+7),?_⟩,CW⟩
    exact⟨(N _ (by omega) (by omega) (by omega)).trans F.box,u1.trans (by rw[aa];simp[AW]),(N _ (by omega) (by omega) (by omega)).trans F.res,fun _=>⟨u2.trans (by rw[aa];simp),by dsimp only;omega,by dsimp only;omega⟩,fun j e i=>(N _ (by omega) (by omega) (by omega)).trans (F.fr j e i),fun j e=>(N _ (by dsimp only at e;omega) (by dsimp only at e;omega) (by dsimp only at e;omega)).trans (F.new j (by dsimp only at e;omega)),by dsimp only;omega⟩
  rintro⟨⟨be,bg,ch,dp⟩,I⟩;dsimp only at I;have ke:d.1.l=z.l/\d.1.p<=z.l.length:=by
   have dq:g.1.p<=z.l.length:=by
    have:=kr.2.2.2 (by rw[Z.2.2.2,Z.1];exact P);rw[Z.1] at this;exact this
   split at K
   ·rename_i hc;rw[Lm] at hc;have k5:=He K;grind [F9,trans]
   grind
  refine AU (AU ?_);refine ZT 1 ?_;cases aq:(d.1.e==0) with
  |false=>
   rw[aq,Ng,if_neg (by decide)] at m;refine Z1 (Y2 I.box aq) ?_;refine DI (c:=false) rfl rfl ?_;refine AQ ?_;have⟨m1,m2⟩:=BX (LI m);subst m1;subst m2;refine Ax ?_;refine CO ((RG I.box (by rw[ke.1];omega) (by omega)).mono ?_);rintro v hpC bo ⟨rfl,rfl,br⟩;dsimp only at br;have G:=I.put (z2:=EE d.1 MQ) H (nx2:=bo) (by omega);refine DQ ?_;obtain⟨B,Q⟩:∃B,B=AW be bg ((ss++[sn]).map AR):=⟨_,rfl⟩;have V:=G.o;rw[<-Q] at V;have c9:=G;generalize eV:(upd q (some (Aw (EE d.1 MQ) bl ov)) ch:Hp)=bs at G V;have bx:(upd q (some (Aw (EE d.1 { data:= #[59] }) bl ov)) ch:Hp)=bs:=eV;rw[bx];refine Z1 (Y2 V G.res) ?_;refine AQ ?_;refine⟨.ag [.v (.string r.2),B,.v (.slice none 0 0)],_,by simp -implicitDefEqProofs only[go_sem, ↓reduceIte,Tryz.f57,At,reduceCtorEq,Nat.reduceEqDiff]<;>rfl,⟨fun _=>.inr rfl⟩,?_⟩;rw[Q];rw[a9];exact G.fin H (by dsimp only;omega) _
  |true=>
   rw[aq,NB] at m;refine Z1 (Y2 I.box aq) ?_;refine CO ((Hc I.box (by rw[ke.1];omega)).mono ?_);rintro v hpE dr ⟨rfl,rfl,da⟩;dsimp only at da;cases av:isM d.1 Vz with
   |false=>
    have w:isM d.1 { data:= #[124] }=false:=av;rw[av,if_neg (by decide)] at m;refine Z1 w ?_;refine DI (c:=false) rfl rfl ?_;refine AQ ?_;have⟨m1,m2⟩:=BX (LI m);subst m1;subst m2;refine Ax ?_;refine CO ((RG I.box (by rw[ke.1];omega) (by omega)).mono ?_);rintro v hpC bo ⟨rfl,rfl,br⟩;dsimp only at br;have G:=I.put (z2:=EE d.1 MQ) H (nx2:=bo) (by omega);refine DQ ?_;obtain⟨B,Q⟩:∃B,B=AW be bg ((ss++[sn]).map AR):=⟨_,rfl⟩;have V:=G.o;rw[<-Q] at V;have c9:=G;generalize eV:(upd q (some (Aw (EE d.1 MQ) bl ov)) hpE:Hp)=bs at G V;have bx:(upd q (some (Aw (EE d.1 { data:= #[59] }) bl ov)) hpE:Hp)=bs:=eV;rw[bx];refine Z1 (Y2 V G.res) ?_;refine AQ ?_;refine⟨.ag [.v (.string r.2),B,.v (.slice none 0 0)],_,by simp -implicitDefEqProofs only[go_sem, ↓reduceIte,Tryz.f57,At,reduceCtorEq,Nat.reduceEqDiff]<;>rfl,⟨fun _=>.inr rfl⟩,?_⟩;rw[Q];rw[a9];exact G.fin H (by dsimp only;omega) _
   |true=>
    have w:isM d.1 { data:= #[124] }=true:=av;rw[av,if_pos rfl] at m;refine Z1 w ?_;refine ED (c:=true) rfl rfl ?_;refine AU (ZT 1 ?_);refine Z1 (Y2 I.box (Ar (n:=d.1.p))) ?_;refine AQ ?_;refine⟨⟨(c,{ d.1 with p:=d.1.p+1 },ss++[sn],be,bg,_,_),?_,m⟩,CW,Ls c⟩;exact I.put (z2:={ d.1 with p:=d.1.p+1 }) H (by dsimp only;omega)
theorem V2 {c:Int}(h:(x.e==0)=true)(a:(c==0)=false):((xe_ x c).e==0)=false:=by
 unfold xe_;rw[if_pos h];exact a
theorem xZ (h:(x.e==0)=false):vJ_ n x=some (x,{ data:= #[] }):=by
 unfold vJ_;rw[h,if_neg (by decide)]
theorem xa {r:Au × ByteArray}(h:vJ_ n x=some r)(a:(x.e==0)=true):(r.1.e==0)=false\/r.1.p=x.p+1:=by
 have c:((xe_ x 9).e==0)=false:=V2 a rfl;unfold vJ_ at h;rw[a,if_pos rfl] at h;split at h
 ·split at h
  ·have⟨b,_,h⟩:=AP h;grind
  cases h;exact .inl c
 cases h;exact .inl c
section
variable {n:Nat}{L:List C5}(hT:∀t∈L,∃b,MO n t.text=some b)
include hT in
theorem nL:∀(c:Nat) (x:Au) (ss:List AL),x.l=L->EO x->ss.length<=50->L.length-x.p<c->∃y,I6 n c x ss=some y/\Kp x y.1
 |0,_,_,_,_,_,h=>absurd h (LZ _)
 |c+1,x,ss,g,w,v,I=>by
  unfold I6;rw[if_pos ⟨w,v⟩];split
  ·rename_i A;by_cases m:ss.length=50
   ·have j:=V2 (c:=8) A rfl;rw[if_pos m,xZ j,Zo];dsimp only;rw[j,Ng,if_neg (by decide),Zo];dsimp only;rw[j,Ng,if_neg (by decide)];have e:=Kp.fail w 8;exact⟨_,rfl,e.trans (Kp.want (e.w w) MQ)⟩
   rw[if_neg m];have⟨a,B,e⟩:=TQ hT g w;have i:=e.w w;rw[B,Zo];obtain⟨d,C,E⟩:∃d,(if a.1.e==0&&isM a.1 bHash then vJ_ n { a.1 with p:=a.1.p+1 } else some (a.1,ByteArray.empty))=some d/\Kp a.1 d.1:=by
    split
    ·rename_i h;rw[Lm] at h;have o:=Kp.one i (F9 h.2);have⟨s,F,k⟩:=TQ hT (x:={ a.1 with p:=a.1.p+1 }) (e.l.trans g) (o.w i);exact⟨s,F,o.trans k⟩
    exact⟨_,rfl,⟨rfl,Lc _,i.2.1,i.2.2.1,rfl,id⟩⟩
   rw[C,Zo];have f:=e.trans E;have r:=f.w w;split
   ·rename_i h;rw[Lm] at h;have u:=F9 h.2;have k:=Kp.one r u;have l:=f.trans k;have hp:=f.p;rw[f.l,g] at u;have⟨y,G,H⟩:=nL c { d.1 with p:=d.1.p+1 } (ss++[⟨a.2,ByteArray.empty,d.2⟩]) (l.l.trans g) (l.w w) (by grind) (by show L.length-(d.1.p+1)<c;omega);exact⟨y,G,l.trans H⟩
   exact⟨_,rfl,f.trans (Kp.want r MQ)⟩
  exact⟨_,rfl,⟨rfl,Lc _,w.2.1,w.2.2.1,rfl,id⟩⟩
include hT in
theorem xb {c f d:Nat}(B:L.length<c)(C:20<f+d)(j:x.l=L)(w:EO x)(E:x.deep=d):∃y,FW n c f x=some y/\Kp x y.1/\((x.e==0)=true->(y.1.e==0)=false\/x.p<y.1.p):=by
 unfold FW;rw[if_pos w];have⟨r,l,e⟩:=TQ hT j w;have on:∀z:Au,Kp r.1 z->(x.e==0)=true->(z.e==0)=false\/x.p<z.p:=fun z m F=>by
  rcases xa l F with o |o
  ·exact .inl (m.e o)
  exact .inr (by have:=m.p;omega)
 have g:=e.w w;rw[l,Zo];split
 ·rename_i h;rw[Lm] at h;have G:=F9 h.2;have s:EO { r.1 with p:=r.1.p+1,out:=[] }:=⟨g.1,G,Lf _,g.2.2.2⟩;have⟨y,k,a⟩:=nK hT B f d C { r.1 with p:=r.1.p+1,out:=[] } (e.l.trans j) s (e.d.trans E);have u:=a.w s;have v:=Kp.want u MQ;rw[k,Zo,if_pos u];have A:Kp r.1 y:=⟨a.l,by have:r.1.p+1<=y.p:=a.p;omega,a.p2,a.o,a.d,a.e⟩;exact⟨_,rfl,e.trans (A.trans v),on _ (A.trans v)⟩
 have i:=Kp.want g HF;have⟨y,k,a⟩:=nL hT c (EE r.1 HF) [] (i.l.trans (e.l.trans j)) (i.w g) (Lf _) (by omega);rw[k];exact⟨_,rfl,e.trans (i.trans a),on _ (i.trans a)⟩
end
def nM:ByteArray:={ data:= #[123] }
def RL:ByteArray:={ data:= #[125] }
def JV (n c f:Nat):Nat->Au->List AZ->Option (Au × List AZ)
 |0,_,_=>none
 |k+1,x,a=>if EO x/\x.deep=0/\a.length<=200 then (if x.e==0&& !isM x RL then(if a.length=200 then JV n c f k (xe_ x 8) a else(FW n c f x).bind fun p=>JV n c f k p.1 (a++[p.2])) else some (x,a)) else none
section
variable {n:Nat}{L:List C5}(hT:∀t∈L,∃b,MO n t.text=some b)
include hT in
theorem cy {c f:Nat}(l:L.length<c)(m:20<f):∀(k:Nat) (x:Au) (e:List AZ),x.l=L->EO x->x.deep=0->e.length<=200->(if x.e==0 then L.length-x.p+1 else 0)<k->∃y,JV n c f k x e=some y/\Kp x y.1
 |0,_,_,_,_,_,_,h=>absurd h (LZ _)
 |k+1,x,e,g,w,i,r,u=>by
  unfold JV;rw[if_pos ⟨w,i,r⟩];split
  ·rename_i h;rw[Lm] at h;rw[if_pos h.1] at u;split
   ·have v:=V2 (c:=8) h.1 rfl;have j:=Kp.fail w 8;have⟨y,o,a⟩:=cy l m k (xe_ x 8) e (j.l.trans g) (j.w w) (j.d.trans i) r (by rw[v,if_neg (by decide)];omega);exact⟨y,o,j.trans a⟩
   have⟨p,o,a,A⟩:=xb hT l (d:=0) m g w i;have B:=a.p2;have hp:=a.p;rw[g] at B;have⟨y,C,E⟩:=cy l m k p.1 (e++[p.2]) (a.l.trans g) (a.w w) (a.d.trans i) (by rw[Ld,Lo];omega) (by
    rcases A h.1 with s |s
    ·rw[s,if_neg (by decide)];omega
    split<;>omega)
   rw[o,Zo];exact⟨y,C,a.trans E⟩
  exact⟨_,rfl,⟨rfl,Lc _,w.2.1,w.2.2.1,rfl,id⟩⟩
end
end Go.Proofs.YtnmkbmefohakmaaGreat.Ab
namespace Go.Proofs.YtnmkbmefohakmaaGreat
open Go.RowKit
structure Lin (α:Type) where
 lt:α->α->Bool
 irrefl:∀x,lt x x=false
 trans:∀ {x y z},lt x y=true->lt y z=true->lt x z=true
 total:∀ {x y},lt x y=false->lt y x=false->x=y
namespace Lin
variable {α:Type}(O:Lin α)
theorem asymm {x y:α}(h:O.lt x y=true):O.lt y x=false:=by
 cases a:O.lt y x with
 |false=>rfl
 |true=>
  have:=O.trans h a;rw[O.irrefl] at this;cases this
theorem ne {x y:α}(h:O.lt x y=true):x≠y:=by
 rintro rfl;rw[O.irrefl] at h;cases h
theorem swo:Go.Sort.SWO O.lt where
 irrefl:=O.irrefl
 trans _ _ _:=O.trans
 ntrans x y z h1 h2:=by
  cases h:O.lt x z with
  |false=>rfl
  |true=>
   cases a:O.lt y x with
   |true=>
    have:=O.trans a h;rw[h2] at this;cases this
   |false=>
    have:=O.total h1 a;subst this;rw[h2] at h;cases h
def Rises (l:List α):Prop:=l.Pairwise fun x y=>O.lt x y=true
theorem ext:∀ {a b:List α},O.Rises a->O.Rises b->(∀x,x∈a↔x∈b)->a=b
 |[],[],_,_,_=>rfl
 |[],y::_,_,_,h=>by
  have:=(h y).2 (List.mem_cons_self ..);cases this
 |x::_,[],_,_,h=>by
  have:=(h x).1 (List.mem_cons_self ..);cases this
 |x::a,y::b,j,k,h=>by
  have⟨f,l⟩:=List.pairwise_cons.1 j;have⟨g,m⟩:=List.pairwise_cons.1 k;have o:x=y:=by
   rcases List.mem_cons.1 ((h x).1 (List.mem_cons_self ..)) with e |e
   ·exact e
   rcases List.mem_cons.1 ((h y).2 (List.mem_cons_self ..)) with d |d
   ·exact d.symm
   have p:=g x e;have i:=f y d;rw[O.asymm p] at i;cases i
  subst o;congr 1;refine ext l m fun z=>⟨fun c=> ?_,fun c=> ?_⟩
  ·rcases List.mem_cons.1 ((h z).1 (List.mem_cons_of_mem _ c)) with e |e
   ·subst e;exact absurd rfl (O.ne (f z c))
   exact e
  rcases List.mem_cons.1 ((h z).2 (List.mem_cons_of_mem _ c)) with e |e
  ·subst e;exact absurd rfl (O.ne (g z c))
  exact e
theorem filter {l:List α}(h:O.Rises l)(p:α->Bool):O.Rises (l.filter p):=List.Pairwise.filter p h
def ins (x:α):List α->List α
 |[]=>[x]
 |y::l=>if O.lt x y then x::y::l else if O.lt y x then y::ins x l else y::l
theorem mem_ins {x z:α}:∀ {l:List α},z∈O.ins x l↔z=x\/z∈l
 |[]=>by simp[ins]
 |y::l=>by
  have d:=mem_ins (x:=x) (z:=z) (l:=l);simp only[ins];by_cases a:O.lt x y=true
  ·simp[a]
  by_cases c:O.lt y x=true
  ·simp only[a,c,if_true,Bool.false_eq_true,if_false,List.mem_cons,d];constructor
   ·rintro(h |h |h)<;>simp[h]
   rintro(h |h |h)<;>simp[h]
  have:=O.total (by simpa using a) (by simpa using c);subst this;simp[a]
theorem rises_ins {x:α}:∀ {l:List α},O.Rises l->O.Rises (O.ins x l)
 |[],_=>by simp[ins,Rises]
 |y::l,h=>by
  have⟨f,g⟩:=List.pairwise_cons.1 h;simp only[ins];by_cases a:O.lt x y=true
  ·rw[if_pos a];refine List.pairwise_cons.2 ⟨fun z c=> ?_,h⟩;rcases List.mem_cons.1 c with e |e
   ·subst e;exact a
   exact O.trans a (f z e)
  rw[if_neg a];by_cases d:O.lt y x=true
  ·rw[if_pos d];refine List.pairwise_cons.2 ⟨fun z c=> ?_,rises_ins g⟩;rcases O.mem_ins.1 c with e |e
   ·subst e;exact d
   exact f z e
  rw[if_neg d];exact h
def ofL (l:List α):List α:=l.foldr O.ins []
theorem rises_ofL:∀l,O.Rises (O.ofL l)
 |[]=>List.Pairwise.nil
 |_::l=>O.rises_ins (rises_ofL l)
theorem mem_ofL {z:α}:∀ {l:List α},z∈O.ofL l↔z∈l
 |[]=>by simp[ofL]
 |x::l=>by
  have a:=mem_ofL (z:=z) (l:=l);show z∈O.ins x (O.ofL l)↔_;rw[O.mem_ins,a,List.mem_cons]
def sub [DecidableEq α](a b:List α):List α:=a.filter fun x=>decide (x∉b)
def mg:List α->List α->List α
 |[],b=>b
 |x::a,[]=>x::a
 |x::a,y::b=>if O.lt x y=true then x::mg a (y::b) else if O.lt y x=true then y::mg (x::a) b else mg a (y::b)
termination_by a b=>a.length+b.length
theorem mg_nil (a:List α):O.mg a []=a:=by
 cases a<;>rw[mg]
theorem nil_mg (b:List α):O.mg [] b=b:=by rw[mg]
theorem mem_mg (z:α):∀(n:Nat) (a b:List α),a.length+b.length<=n->(z∈O.mg a b↔z∈a\/z∈b)
 |_,[],b,_=>by simp[O.nil_mg]
 |_,x::a,[],_=>by simp[O.mg_nil]
 |0,x::a,y::b,h=>by simp at h
 |n+1,x::a,y::b,h=>by
  simp only[List.length_cons] at h;have f:=mem_mg z n a (y::b) (by simp only[List.length_cons];omega);have g:=mem_mg z n (x::a) b (by simp only[List.length_cons];omega);rw[mg];by_cases c:O.lt x y=true
  ·rw[if_pos c,List.mem_cons,f,List.mem_cons (a:=z) (b:=x),or_assoc]
  rw[if_neg c];by_cases d:O.lt y x=true
  ·rw[if_pos d,List.mem_cons,g,List.mem_cons (a:=z) (b:=y)];constructor
   ·rintro(e |e |e)
    ·exact .inr (.inl e)
    ·exact .inl e
    exact .inr (.inr e)
   rintro(e |e |e)
   ·exact .inr (.inl e)
   ·exact .inl e
   exact .inr (.inr e)
  have e:x=y:=O.total (by simpa using c) (by simpa using d);rw[if_neg d,f,List.mem_cons (a:=z) (b:=x),e];constructor
  ·rintro(e |e)
   ·exact .inl (.inr e)
   exact .inr e
  rintro((e |e) |e)
  ·exact .inr (by rw[e];exact List.mem_cons_self ..)
  ·exact .inl e
  exact .inr e
theorem rises_mg:∀(n:Nat) (a b:List α),a.length+b.length<=n->O.Rises a->O.Rises b->O.Rises (O.mg a b)
 |_,[],b,_,_,c=>by rw[O.nil_mg];exact c
 |_,x::a,[],_,d,_=>by rw[O.mg_nil];exact d
 |0,x::a,y::b,h,_,_=>by simp at h
 |n+1,x::a,y::b,h,d,c=>by
  simp only[List.length_cons] at h;have⟨j,k⟩:=List.pairwise_cons.1 d;have⟨l,m⟩:=List.pairwise_cons.1 c;rw[mg];by_cases f:O.lt x y=true
  ·rw[if_pos f];refine List.pairwise_cons.2 ⟨fun z i=> ?_,rises_mg n a (y::b) (by simp only[List.length_cons];omega) k c⟩;rcases(O.mem_mg z _ a (y::b) (Nat.le_refl _)).1 i with e |e
   ·exact j z e
   rcases List.mem_cons.1 e with e |e
   ·rw[e];exact f
   exact O.trans f (l z e)
  rw[if_neg f];by_cases g:O.lt y x=true
  ·rw[if_pos g];refine List.pairwise_cons.2 ⟨fun z i=> ?_,rises_mg n (x::a) b (by simp only[List.length_cons];omega) d m⟩;rcases(O.mem_mg z _ (x::a) b (Nat.le_refl _)).1 i with e |e
   ·rcases List.mem_cons.1 e with e |e
    ·rw[e];exact g
    exact O.trans g (j z e)
   exact l z e
  rw[if_neg g];exact rises_mg n a (y::b) (by simp only[List.length_cons];omega) k c
theorem mg_ofL (a b:List α):O.mg (O.ofL a) (O.ofL b)=O.ofL (a++b):=O.ext (O.rises_mg _ _ _ (Nat.le_refl _) (O.rises_ofL a) (O.rises_ofL b)) (O.rises_ofL _) fun z=>by
 rw[O.mem_mg z _ _ _ (Nat.le_refl _),O.mem_ofL,O.mem_ofL,O.mem_ofL,List.mem_append]
theorem step_left {a b:List α}{i k:Nat}{x:α}(c:a[i]? =some x)(h:b.length<=k\/∃y,b[k]? =some y/\O.lt x y=true):O.mg (a.drop i) (b.drop k)=x::O.mg (a.drop (i+1)) (b.drop k):=by
 have⟨d,e⟩:=List.getElem?_eq_some_iff.1 c;rw[List.drop_eq_getElem_cons d,e];rcases h with h |⟨y,f,g⟩
 ·rw[List.drop_of_length_le h,O.mg_nil,O.mg_nil]
 have⟨j,l⟩:=List.getElem?_eq_some_iff.1 f;rw[List.drop_eq_getElem_cons j,l,mg,if_pos g]
theorem step_right {a b:List α}{i k:Nat}{y:α}(c:b[k]? =some y)(h:a.length<=i\/∃x,a[i]? =some x/\O.lt x y=false/\O.lt y x=true):O.mg (a.drop i) (b.drop k)=y::O.mg (a.drop i) (b.drop (k+1)):=by
 have⟨d,e⟩:=List.getElem?_eq_some_iff.1 c;rw[List.drop_eq_getElem_cons d,e];rcases h with h |⟨x,f,g,j⟩
 ·rw[List.drop_of_length_le h,O.nil_mg,O.nil_mg]
 have⟨l,m⟩:=List.getElem?_eq_some_iff.1 f;rw[List.drop_eq_getElem_cons l,m,mg,if_neg (by rw[g];simp),if_pos j]
theorem step_both {a b:List α}{i k:Nat}{x y:α}(c:a[i]? =some x)(d:b[k]? =some y)(e:O.lt x y=false)(f:O.lt y x=false):O.mg (a.drop i) (b.drop k)=O.mg (a.drop (i+1)) (b.drop k):=by
 have⟨g,h⟩:=List.getElem?_eq_some_iff.1 c;have⟨j,l⟩:=List.getElem?_eq_some_iff.1 d;rw[List.drop_eq_getElem_cons g,h,List.drop_eq_getElem_cons j,l,mg,if_neg (by rw[e];simp),if_neg (by rw[f];simp)]
end Lin
end Go.Proofs.YtnmkbmefohakmaaGreat
namespace Go.Proofs.YtnmkbmefohakmaaGreat
open Go.RowKit
namespace Lin
variable {α:Type}(O:Lin α)
theorem cd [Inhabited α][DecidableEq α](d:Array α)(x:α):∀m,x∈Lib.compactUpTo d m↔∃j,j<m/\d[j]! =x
 |0=>by simp[Lib.compactUpTo]
 |m+1=>by
  have g:=cd d x m;rw[Lib.compactUpTo_succ,List.mem_append,g];by_cases c:Lib.keeps d m=true
  ·rw[if_pos c,List.mem_singleton];constructor
   ·rintro(⟨j,f,a⟩ |h)
    ·exact⟨j,by omega,a⟩
    exact⟨m,by omega,h.symm⟩
   rintro⟨j,f,a⟩;rcases Nat.lt_or_ge j m with h |h
   ·exact .inl ⟨j,h,a⟩
   have:j=m:=(by omega);subst this;exact .inr a.symm
  rw[if_neg c];simp only[List.not_mem_nil,or_false];have k:m≠0:=by
   rintro rfl;exact c (by simp[Lib.keeps])
  have i:d[m]! =d[m-1]! :=by
   by_cases e:d[m]! =d[m-1]!
   ·exact e
   exact absurd (Lib.keeps_pos e) c
  constructor
  ·rintro⟨j,f,a⟩;exact⟨j,by omega,a⟩
  rintro⟨j,f,a⟩;rcases Nat.lt_or_ge j m with h |h
  ·exact⟨j,h,a⟩
  have:j=m:=by omega
  subst this;exact⟨j-1,by omega,by rw[<-i,a]⟩
theorem compact_rises [Inhabited α][DecidableEq α](d:Array α)(a:∀i j,i<j->j<d.size->O.lt d[j]! d[i]! =false):∀m,m<=d.size->O.Rises (Lib.compactUpTo d m)
 |0,_=>by simp[Lib.compactUpTo,Rises]
 |m+1,v=>by
  have f:=compact_rises d a m (by omega);rw[Lib.compactUpTo_succ];by_cases c:Lib.keeps d m=true
  ·rw[if_pos c];refine List.pairwise_append.2 ⟨f,List.pairwise_singleton ..,fun x l y o=> ?_⟩;rw[List.mem_singleton.1 o];obtain⟨j,p,rfl⟩:=(cd d x m).1 l;cases r:O.lt d[j]! d[m]! with
   |true=>rfl
   |false=>
    exfalso;have e:=O.total r (a j m p (by omega));have g:d[m]! ≠d[m-1]! :=fun s=>(by rw[Lib.keeps_neg (by omega) s] at c;cases c);rcases Nat.lt_or_ge j (m-1) with h |h
    ·have k:=a j (m-1) h (by omega);have u:=a (m-1) m (by omega) (by omega);rw[e] at k;exact g (O.total u k)
    have:j=m-1:=(by omega);subst this;exact g e.symm
  rw[if_neg c,List.append_nil];exact f
theorem compact_sorted [Inhabited α][DecidableEq α]{l s:List α}(e:∀x,x∈s↔x∈l)(f:s.Pairwise fun a b=>O.lt b a=false):Lib.compact s=O.ofL l:=by
 have g:∀i j,i<j->j<s.toArray.size->O.lt s.toArray[j]! s.toArray[i]! =false:=fun i j h k=>by
  have d:j<s.length:=by simpa using k
  have:=List.pairwise_iff_getElem.1 f i j (by omega) d h;simpa [d,show i<s.length by omega] using this
 refine O.ext (O.compact_rises _ g _ (by simp)) (O.rises_ofL l) fun x=> ?_;rw[O.mem_ofL,<-e];refine(cd _ x _).trans ⟨?_,fun m=> ?_⟩
 ·rintro⟨j,c,rfl⟩
  have:s.toArray[j]! =s[j]:=by simp[c]
  rw[this];exact List.getElem_mem c
 obtain⟨j,c,rfl⟩:=List.getElem_of_mem m;exact⟨j,c,by simp[c]⟩
end Lin
theorem ce {a b:ByteArray}(h:a.data.toList=b.data.toList):a=b:=by
 cases a;cases b;congr;exact Array.toList_inj.1 h
theorem DH (a b:ByteArray):(a.toList==b.toList)=decide (a=b):=by
 rw[Lib.toList_data,Lib.toList_data,Bool.eq_iff_iff];simp only[beq_iff_eq,decide_eq_true_eq];exact⟨ce,fun h=>by rw[h]⟩
theorem PL:∀(x y:List UInt8),Op.bytesLess x y=decide (x<y)
 |[],[]=>by simp[Op.bytesLess]
 |_::_,[]=>by simp[Op.bytesLess]
 |[],_::_=>by simp[Op.bytesLess]
 |a::x,b::y=>by
  rw[Op.bytesLess,PL x y];simp only[List.cons_lt_cons_iff];by_cases c:a<b<;>by_cases d:a=b<;>by_cases e:x<y<;>simp[c,d,e]
theorem mD:∀a:List UInt8,Op.bytesLess a a=false
 |[]=>rfl
 |a::x=>by simp[Op.bytesLess,mD x]
theorem mE:∀ {a b c:List UInt8},Op.bytesLess a b=true->Op.bytesLess b c=true->Op.bytesLess a c=true
 |_,[],[],_,h=>by simp[Op.bytesLess] at h
 |[],[],_::_,h,_=>by simp[Op.bytesLess] at h
 |_::_,[],_::_,h,_=>by simp[Op.bytesLess] at h
 |_,_::_,[],_,h=>by simp[Op.bytesLess] at h
 |[],_::_,_::_,_,_=>by simp[Op.bytesLess]
 |a::x,b::y,c::z,d,e=>by
  have f:=mE (a:=x) (b:=y) (c:=z);simp only[Op.bytesLess,Bool.or_eq_true,Bool.and_eq_true,decide_eq_true_eq,beq_iff_eq] at *;rcases d with d |⟨d,g⟩<;>rcases e with e |⟨e,i⟩
  ·left;rw[UInt8.lt_iff_toNat_lt] at *;omega
  ·subst e;exact .inl d
  ·subst d;exact .inl e
  subst d;subst e;exact .inr ⟨rfl,f g i⟩
theorem mF:∀ {a b:List UInt8},Op.bytesLess a b=false->Op.bytesLess b a=false->a=b
 |[],[],_,_=>rfl
 |[],_::_,h,_=>by simp[Op.bytesLess] at h
 |_::_,[],_,h=>by simp[Op.bytesLess] at h
 |a::x,b::y,c,d=>by
  have f:=mF (a:=x) (b:=y);simp only[Op.bytesLess,Bool.or_eq_false_iff,Bool.and_eq_false_imp,decide_eq_false_iff_not,beq_iff_eq] at *;have e:a=b:=by
   have g:=c.1;have i:=d.1;rw[UInt8.lt_iff_toNat_lt] at g i;exact UInt8.toNat_inj.1 (by omega)
  subst e;rw[f (c.2 rfl) (d.2 rfl)]
def tx:Lin ByteArray where
 lt a b:=Op.bytesLess a.toList b.toList
 irrefl _:=mD _
 trans:=mE
 total h1 h2:=by
  have:=mF h1 h2
  rw[Lib.toList_data,Lib.toList_data] at this;exact ce this
namespace Ab
open Go.Sort
theorem mG (s:ByteArray):FL s=s.toList:=(Lib.toList_data s).symm
theorem Q4 (x y:List UInt8):tx.lt (FSq x) (FSq y)=decide (x<y):=by
 show Op.bytesLess _ _=_;rw[<-mG,<-mG,X4,X4,PL]
theorem wi (xs:List ByteArray):(Fp xs).Pairwise fun a b=>tx.lt b a=false:=by
 unfold Fp;refine List.pairwise_map.2 ?_;have h:=List.pairwise_mergeSort (le:=fun x y:List UInt8=>decide (x<=y)) (fun a b c d e=>by
   simp only[decide_eq_true_eq] at *;exact List.le_trans d e) (fun a b=>by
   simp only[Bool.or_eq_true,decide_eq_true_eq];exact List.le_total a b) (xs.map FL)
 refine h.imp fun{a b} h=> ?_;rw[Q4];simpa using h
theorem wj (xs:List ByteArray)(x:ByteArray):x∈Fp xs↔x∈xs:=by
 have hp:=(List.mergeSort_perm (xs.map FL) fun x y=>decide (x<=y)).map FSq;rw[jX] at hp;exact hp.mem_iff
theorem wk (c:List (List UInt8)):(Lib.compact c).map FSq=Lib.compact (c.map FSq):=by
 have e:∀j,FSq (c.toArray[j]!)=(c.map FSq).toArray[j]! \/c.length<=j:=fun j=>by
  rcases Nat.lt_or_ge j c.length with h |h
  ·exact .inl (by simp[h])
  exact .inr h
 have f:∀a b:List UInt8,FSq a=FSq b↔a=b:=fun a b=>⟨fun h=>by rw[<-X4 a,<-X4 b,h],fun h=>by rw[h]⟩;unfold Lib.compact Lib.compactUpTo;rw[List.map_map,List.length_map];have g:(List.range c.length).filter (Lib.keeps c.toArray)=(List.range c.length).filter (Lib.keeps (c.map FSq).toArray):=by
  refine List.filter_congr fun j d=> ?_;have d:=List.mem_range.1 d;unfold Lib.keeps;rw[decide_eq_decide];have i:=(e j).resolve_right (by omega);have k:=(e (j-1)).resolve_right (by omega);rw[<-i,<-k,ne_eq,ne_eq,f]
 rw[g];refine List.map_congr_left fun j d=> ?_;have d:=List.mem_range.1 (List.mem_filter.1 d).1;exact(e j).resolve_right (by omega)
theorem wm (xs:List ByteArray):Dm (Fp xs)=tx.ofL xs:=by
 unfold Dm;rw[wk,jX];exact tx.compact_sorted (wj xs) (wi xs)
end Ab
end Go.Proofs.YtnmkbmefohakmaaGreat
