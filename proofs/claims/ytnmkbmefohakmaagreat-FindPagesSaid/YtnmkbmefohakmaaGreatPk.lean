/-
 Words of the functions that are read off the code, told plainly: lists, texts, loops over them. No program in sight.
-/
import Derived.Test.YtnmkbmefohakmaaGreatPrt
import Derived.Handy
import Derived.Lib.SlicesCompact
import Derived.Lib.Strings
namespace Go.Proofs.YtnmkbmefohakmaaGreat.Ab
open Go.RowKit
def bEq:ByteArray:={ data:= #[61] }
def be_:ByteArray:={ data:= #[59] }
def bCol:ByteArray:={ data:= #[58] }
def bHash:ByteArray:={ data:= #[35] }
def bBar:ByteArray:={ data:= #[124] }
def ui_ (n:Nat):Nat->Rdr->List GSub->Option (Rdr × List GSub)
 |0,_,_=>none
 |c+1,x,ss=>if RdW x/\ss.length<=50 then
   (if x.e==0 then(vr_ n (if ss.length=50 then j4_ x 8 else x)).bind fun r1=>
    (if r1.1.e==0&&isM r1.1 bHash then vr_ n { r1.1 with p:=r1.1.p+1 } else some (r1.1,ByteArray.empty)).bind fun r2=>
     if r2.1.e==0&&isM r2.1 bBar then ui_ n c { r2.1 with p:=r2.1.p+1 } (ss++[⟨r1.2,ByteArray.empty,r2.2⟩]) else some (j9_ r2.1 be_,ss++[⟨r1.2,ByteArray.empty,r2.2⟩])
   else some (x,ss)) else none
def relM (n c f:Nat)(x:Rdr):Option (Rdr × GRel):=
 if RdW x then(vr_ n x).bind fun r0=>
  if r0.1.e==0&&isM r0.1 bEq then(kX_ n c f { r0.1 with p:=r0.1.p+1,out:=[] }).bind fun y=>if RdW y then some (j9_ y be_,⟨r0.2,[],y.out⟩) else none
  else(ui_ n c (j9_ r0.1 bCol) []).map fun p=>(p.1,⟨r0.2,p.2,[]⟩) else none
def vJ_ (n:Nat)(x:Rdr):Bool:=match vr_ n x with
 |some r=>r.1.e==0&&isM r.1 bEq
 |none=>false
def RelP (hp:Hp)(nx q:Nat)(x:Rdr)(g:GRel)(bl eq:Bool)(ov0 v:AV)(hp2:Hp)(nx2:Nat):Prop:=
 ∃ov sid sver eid ever,v= .ag [.v (.string g.name),accV sid sver (g.subs.map eGSub),accV eid ever (g.expr.map eGStep)]/\hp2 q=some (boxRd x bl ov)/\(ov=if eq then accV eid ever (g.expr.map eGStep) else ov0)/\(g.subs≠[]->hp2 sid=some (.rw (g.subs.map eGSub) 3 sver false false)/\nx<=sid/\sid<nx2)/\(g.expr≠[]->hp2 eid=some (.rw (g.expr.map eGStep) 3 ever false false)/\nx<=eid/\eid<nx2)/\(∀j,j<nx->j≠q->hp2 j=hp j)/\(∀j,nx2<=j->hp2 j=none)/\nx<=nx2
structure RlI (hp:Hp) (nx q:Nat) (bl:Bool) (nm:ByteArray) (ov:AV) (z:Rdr) (ss:List GSub) (sid sver:Nat) (hpz:Hp) (nxz:Nat):Prop where
 box:hpz q=some (boxRd z bl ov)
 o:hpz (nx+1+3)=some (.bx [.v (.string nm),accV sid sver (ss.map eGSub),.v (.slice none 0 0)])
 res:hpz nx=some (.bx [.v (.string ByteArray.empty),.v (.slice none 0 0),.v (.slice none 0 0)])
 row:ss≠[]->hpz sid=some (.rw (ss.map eGSub) 3 sver false false)/\nx+1+5<=sid/\sid<nxz
 fr:∀j,j<nx->j≠q->hpz j=hp j
 new:∀j,nxz<=j->hpz j=none
 le:nx+1+5<=nxz
theorem RlI.put {hp:Hp}{nx q:Nat}{bl:Bool}{nm:ByteArray}{ov:AV}{z z2:Rdr}{ss:List GSub}{sid sver:Nat}{hpz:Hp}{nxz nx2:Nat}(h:RlI hp nx q bl nm ov z ss sid sver hpz nxz)(hq:q<nx)(hn:nxz<=nx2):RlI hp nx q bl nm ov z2 ss sid sver (upd q (some (boxRd z2 bl ov)) hpz) nx2 where
 box:=qd_ _ _ _
 o:=by rw[qb_ _ _ (by omega)];exact h.o
 res:=by rw[qb_ _ _ (by omega)];exact h.res
 row:=fun hs=>by
  have h1:=h.row hs;exact⟨by rw[qb_ _ _ (by omega)];exact h1.1,h1.2.1,by omega⟩
 fr:=fun j h1 h2=>by rw[qb_ _ _ h2];exact h.fr j h1 h2
 new:=fun j h1=>by have:=h.le;rw[qb_ _ _ (by omega)];exact h.new j (by omega)
 le:=by have:=h.le;omega
theorem RlI.up {hp:Hp}{nx q:Nat}{bl:Bool}{nm:ByteArray}{ov:AV}{z:Rdr}{ss:List GSub}{sid sver:Nat}{hpz:Hp}{nxz nx2:Nat}(h:RlI hp nx q bl nm ov z ss sid sver hpz nxz)(hn:nxz<=nx2):RlI hp nx q bl nm ov z ss sid sver hpz nx2 where
 box:=h.box
 o:=h.o
 res:=h.res
 row:=fun hs=>by
  have h1:=h.row hs;exact⟨h1.1,h1.2.1,by omega⟩
 fr:=h.fr
 new:=fun j h1=>h.new j (by omega)
 le:=by have:=h.le;omega
theorem RlI.ext {hp:Hp}{nx q:Nat}{bl:Bool}{nm:ByteArray}{ov:AV}{z:Rdr}{ss:List GSub}{sid sver:Nat}{hpz:Hp}{nxz nx2 id:Nat}(h:RlI hp nx q bl nm ov z ss sid sver hpz nxz)(hn:nxz<=nx2)(h1:id≠q)(h2:nx+1+5<=id)(h3:ss≠[]->id≠sid)(h4:id<nx2)(o:Option AO):RlI hp nx q bl nm ov z ss sid sver (upd id o hpz) nx2 where
 box:=by rw[qb_ _ _ (Ne.symm h1)];exact h.box
 o:=by rw[qb_ _ _ (by omega)];exact h.o
 res:=by rw[qb_ _ _ (by omega)];exact h.res
 row:=fun hs=>by
  have h5:=h.row hs;exact⟨by rw[qb_ _ _ (Ne.symm (h3 hs))];exact h5.1,h5.2.1,by omega⟩
 fr:=fun j h5 h6=>by rw[qb_ _ _ (by omega)];exact h.fr j h5 h6
 new:=fun j h5=>by rw[qb_ _ _ (by omega)];exact h.new j (by omega)
 le:=by have:=h.le;omega
theorem RlI.fin {hp:Hp}{nx q:Nat}{bl:Bool}{nm:ByteArray}{ov:AV}{z:Rdr}{ss:List GSub}{sid sver:Nat}{hpz:Hp}{nxz nx2:Nat}(h:RlI hp nx q bl nm ov z ss sid sver hpz nxz)(hq:q<nx)(hn:nxz<=nx2)(o:Option AO):RelP hp nx q z ⟨nm,ss,[]⟩ bl false ov (.ag [.v (.string nm),accV sid sver (ss.map eGSub),.v (.slice none 0 0)]) (upd nx o hpz) nx2:=by
 have hle:=h.le;refine⟨ov,sid,sver,0,0,rfl,by rw[qb_ _ _ (by omega)];exact h.box,rfl,fun hs=> ?_,fun hn=>absurd rfl hn,fun j h1 h2=>by rw[qb_ _ _ (by omega)];exact h.fr j h1 h2,fun j h1=>by rw[qb_ _ _ (by omega)];exact h.new j (by omega),by omega⟩;have h1:=h.row hs;exact⟨by rw[qb_ _ _ (by omega)];exact h1.1,by omega,by omega⟩
set_option maxRecDepth 8000 in
theorem rel_ok {n c f:Nat}{hp:Hp}{nx q:Nat}{x:Rdr}{y:Rdr × GRel}{bl:Bool}{ov:AV}(hf:∀j,nx<=j->hp j=none)(hq:hp q=some (boxRd x bl ov))(h:relM n c f x=some y):
  InlOK Tryz.prog 57 [.pt q 0] hp nx fun v hp2 nx2=>RelP hp nx q y.1 y.2 bl (vJ_ n x) ov v hp2 nx2:=by
 have hqn:q<nx:=qm_ hf hq;unfold relM at h;split at h;rotate_left
 ·cases h
 rename_i hw;obtain⟨w1,w2,w3,w4⟩:=hw;obtain⟨r,hr,h⟩:=zbi h;have k1:=jf_ hr;refine qX_ qf_ Tryz.func57 (by rfl) (by kernel_rfl) (by kernel_rfl) (by exact Nat.le_of_ble_eq_true rfl) ?_;refine zsq (ZT 1 ?_);refine Z0 ?_;refine zsq (ZT 1 ?_);have hq1:∀o:Option AO,upd nx o hp q=some (boxRd x bl ov):=fun o=>by rw[qb_ _ _ (by omega)];exact hq
 refine Z0 ?_;refine qe_ ((vI_ (hq1 _) (by omega) hr).mono ?_);rintro v hp2 nx2 ⟨rfl,rfl,hle⟩;dsimp only at hle;refine Z0 ?_;generalize eH:(upd (nx+1+3) (some _) _:Hp)=hp3;have q3:hp3 q=some (boxRd r.1 bl ov):=by rw[<-eH,qb_ _ _ (by omega),qb_ _ _ (by omega),qd_]
 have b3:hp3 (nx+1+3)=some (.bx [.v (.string r.2),.v (.slice none 0 0),.v (.slice none 0 0)]):=by rw[<-eH,qd_]
 have b2:hp3 nx=some (.bx [.v (.string ByteArray.empty),.v (.slice none 0 0),.v (.slice none 0 0)]):=by rw[<-eH,qb_ _ _ (by omega),qb_ _ _ (by omega),qb_ _ _ (by omega),qd_]
 have fr3:∀j,j<nx->j≠q->hp3 j=hp j:=fun j h1 h2=>by rw[<-eH,qb_ _ _ (by omega),qb_ _ _ (by omega),qb_ _ _ h2,qb_ _ _ (by omega)]
 have n3:∀j,nx2<=j->hp3 j=none:=fun j h1=>by rw[<-eH,qb_ _ _ (by omega),qb_ _ _ (by omega),qb_ _ _ (by omega),qb_ _ _ (by omega)];exact hf j (by omega)
 refine zsq (zjn (α:={ k:Nat // nx2<=k/\(ui_ n c (j9_ r.1 bCol) []).map (fun p=>(p.1,(⟨r.2,p.2,[]⟩:GRel)))=some y/\vJ_ n x=false }) (fun y=>⟨upd 0 (.pt q 0) (upd 2 (.pt nx 0) (upd 3 (.pt (nx+1+3) 0) noFr)),hp3,y.1⟩) ?_ ?_)
 ·refine zsq (ZT 1 ?_)
  cases he:(r.1.e==0) with
  |false=>
   rw[he,Bool.false_and,if_neg (by decide)] at h;refine Z1 (And.intro q3 he) ?_;refine qg_ (c:=false) rfl rfl ?_;refine ZT 1 ?_;refine Z0 ?_;exact⟨⟨_,by omega,h,by unfold vJ_;rw[hr];exact(by simp[he])⟩,wkI (qa_ rfl (qa_ rfl (qa_ rfl (qh_ _))))⟩
  |true=>
   rw[he,Bool.true_and] at h;refine Z1 (And.intro q3 he) ?_;refine qe_ ((w4_ q3 (by rw[k1.1];omega)).mono ?_);rintro v hp4 nx4 ⟨rfl,rfl,hle4⟩;dsimp only at hle4;cases hi:isM r.1 bEq with
   |false=>
    have hi':isM r.1 { data:= #[61] }=false:=hi;rw[hi,if_neg (by decide)] at h;refine Z1 hi' ?_;refine qg_ (c:=false) rfl rfl ?_;refine ZT 1 ?_;refine Z0 ?_;exact⟨⟨_,by omega,h,by unfold vJ_;rw[hr];exact(by simp[hi])⟩,wkI (qa_ rfl (qa_ rfl (qa_ rfl (qh_ _))))⟩
   |true=>
    have hi':isM r.1 { data:= #[61] }=true:=hi;have lt0:=xe_ hi;rw[k1.1] at lt0;rw[hi,if_pos rfl] at h;obtain⟨z,hz,h⟩:=zbi h;split at h;rotate_left
    ·cases h
    rename_i hwz;obtain⟨z1,z2,z3,z4⟩:=hwz;cases h;refine Z1 hi' ?_;refine qs_ (c:=true) rfl rfl ?_;refine zsq (ZT 1 ?_);refine Z1 (And.intro q3 (w64a (n:=r.1.p) (by omega))) ?_;refine zsq (ZT 1 ?_);refine Z0 ?_;refine zsq (ZT 1 ?_);refine Z0 ?_;generalize eK:(upd q (some _) _:Hp)=hp5
    have I5:RdI hp5 q { r.1 with p:=r.1.p+1,out:=[] } bl 0 0:=⟨by rw[<-eK,qd_];rfl,fun hn=>absurd rfl hn⟩;have fr5:∀j,j≠q->hp5 j=hp4 j:=fun j h2=>by
     rw[<-eK];repeat rw[qb_ _ _ h2]
    refine qe_ ((pu_ f _ _ q 0 0 _ z bl (fun j hj=> ?_) I5 (by dsimp only;omega) hz).mono ?_)
    ·dsimp only at hj⊢
     rw[fr5 j (by omega)];exact n3 j (by omega)
    rintro v hp6 nx6 ⟨rfl,o6,v6,J,frJ,newJ,nleJ,oltJ,ocJ⟩;dsimp only at frJ nleJ ocJ;have hqJ:=J.box;have b6:hp6 (nx+1+3)=some (.bx [.v (.string r.2),.v (.slice none 0 0),.v (.slice none 0 0)]):=by rw[frJ _ (by omega) (by omega) fun hn=>absurd rfl hn,fr5 _ (by omega)];exact b3
    have b7:hp6 nx=some (.bx [.v (.string ByteArray.empty),.v (.slice none 0 0),.v (.slice none 0 0)]):=by rw[frJ _ (by omega) (by omega) fun hn=>absurd rfl hn,fr5 _ (by omega)];exact b2
    refine Z0 ?_;refine zsq (ZT 1 ?_);refine Z1 (And.intro hqJ b6) ?_;obtain⟨ev,hev⟩:∃ev,ev=accV o6 v6 (z.out.map eGStep):=⟨_,rfl⟩;rw[<-hev] at hqJ⊢;generalize eL:(upd (nx+1+3) (some _) hp6:Hp)=hp7;have lo:z.out≠[]->nx+1+5<=o6:=fun hn=>by
     rcases ocJ hn with h0 |h0
     ·exact absurd rfl h0.1
     ·omega
    have q7:hp7 q=some (boxRd z bl ev):=by rw[<-eL,qb_ _ _ (by omega)];exact hqJ
    have b8:hp7 (nx+1+3)=some (.bx [.v (.string r.2),.v (.slice none 0 0),ev]):=by rw[<-eL,qd_]
    have b9:hp7 nx=some (.bx [.v (.string ByteArray.empty),.v (.slice none 0 0),.v (.slice none 0 0)]):=by rw[<-eL,qb_ _ _ (by omega)];exact b7
    refine zsq (ZT 1 ?_);refine Z0 ?_;refine qe_ ((wv_ q7 (by omega) (by omega)).mono ?_);rintro v hp8 nx8 ⟨rfl,rfl,hle8⟩;dsimp only at hle8;refine Z0 ?_;refine zsq (ZT 1 ?_);have f1:(nx+1+3=q)=False:=eq_false (by omega);have f2:(nx=q)=False:=eq_false (by omega);refine Z1 (And.intro b8 (And.intro b9 (And.intro f1 f2))) ?_;refine ZT 1 ?_;refine Z0 ?_
    refine⟨.ag [.v (.string r.2),.v (.slice none 0 0),ev],_,by simp -implicitDefEqProofs only[go_sem, ↓reduceIte,Tryz.f57,qd_,Nat.reduceEqDiff]<;>rfl,⟨fun _=>.inr rfl⟩,ev,0,0,o6,v6,by rw[hev];rfl,?_,by rw[show vJ_ n x=true by unfold vJ_;rw[hr];simp[he,hi]];exact hev,fun hn=>absurd rfl hn,fun hn=> ?_,fun j h1 h2=> ?_,fun j h1=> ?_,by dsimp only;omega⟩
    ·dsimp only
     rw[qb_ _ _ (by omega),qd_];rfl
    ·have h3:=(J.row hn).1
     have h4:=(J.row hn).2;have h5:=lo hn;dsimp only;refine⟨?_,by omega,by omega⟩;rw[qb_ _ _ (by omega),qb_ _ _ h4,<-eL,qb_ _ _ (by omega)];exact h3
    ·dsimp only
     rw[qb_ _ _ (by omega),qb_ _ _ h2,<-eL,qb_ _ _ (by omega),frJ j (by omega) h2 fun hn=>absurd rfl hn,fr5 j h2];exact fr3 j h1 h2
    ·dsimp only at h1⊢
     rw[qb_ _ _ (by omega),qb_ _ _ (by omega),<-eL,qb_ _ _ (by omega)];exact newJ j (by omega)
 ·rintro⟨nxj,hj,h,hne⟩
  obtain⟨⟨zf,sf⟩,hs,rfl⟩:=Option.map_eq_some_iff.1 h;refine zsq (ZT 1 ?_);refine Z0 ?_;refine qe_ ((wv_ q3 (by rw[k1.1];omega) (by have:=k1.2.2.2 w2;omega)).mono ?_);rintro v hp4 nx4 ⟨rfl,rfl,hle4⟩;dsimp only at hle4;refine Z0 ?_;have L0:RlI hp nx q bl r.2 ov (j9_ r.1 bCol) [] 0 0 (upd q (some (boxRd (j9_ r.1 bCol) bl ov)) hp3) nx4:=
   RlI.put (z:=r.1) ⟨q3,b3,b2,fun hn=>absurd rfl hn,fr3,n3,hle⟩ hqn (by omega)
  refine zsq (zbk ?_);refine zlp (α:={ t:Nat × Rdr × List GSub × Nat × Nat × Hp × Nat // RlI hp nx q bl r.2 ov t.2.1 t.2.2.1 t.2.2.2.1 t.2.2.2.2.1 t.2.2.2.2.2.1 t.2.2.2.2.2.2/\ui_ n t.1 t.2.1 t.2.2.1=some (zf,sf) })
   (fun t=>⟨upd 0 (.pt q 0) (upd 2 (.pt nx 0) (upd 3 (.pt (nx+1+3) 0) noFr)),t.1.2.2.2.2.2.1,t.1.2.2.2.2.2.2⟩) (fun t=>t.1.1) ⟨(c,j9_ r.1 bCol,[],0,0,_,nx4),L0,hs⟩ ?_ ?_
  ·exact wkI (qa_ rfl (qa_ rfl (qa_ rfl (qh_ _))))
  ·rintro⟨⟨c,z,ss,sid,sver,hpz,nxz⟩,L,m⟩
   dsimp only at L m;cases c with
   |zero=>cases m
   |succ c=>
   unfold ui_ at m;split at m;rotate_left
   ·cases m
   rename_i hwz;obtain⟨⟨z1,z2,z3,z4⟩,z5⟩:=hwz;refine zsq (zsq ?_);refine ZT 1 ?_;cases he:(z.e==0) with
   |false=>
    rw[he,if_neg (by decide)] at m;obtain⟨m1,m2⟩:=Prod.mk.inj (Option.some.inj m);subst m1;subst m2;refine Z1 (And.intro L.box he) ?_;refine ZT 1 ?_;refine Z0 ?_;refine zsq (ZT 1 ?_);obtain⟨sv,hsv⟩:∃sv,sv=accV sid sver (ss.map eGSub):=⟨_,rfl⟩;have lo:=L.o;rw[<-hsv] at lo;refine Z1 (And.intro lo L.res) ?_;refine ZT 1 ?_;refine Z0 ?_
    refine⟨.ag [.v (.string r.2),sv,.v (.slice none 0 0)],_,by simp -implicitDefEqProofs only[go_sem, ↓reduceIte,Tryz.f57,qd_,reduceCtorEq,Nat.reduceEqDiff]<;>rfl,⟨fun _=>.inr rfl⟩,?_⟩;rw[hsv];rw[hne];exact L.fin hqn (by dsimp only;omega) _
   |true=>
    rw[he,if_pos rfl] at m;refine Z1 (And.intro L.box he) ?_;refine ZT 1 ?_;refine Z0 ?_;refine zbk ?_;obtain⟨zz,hzz⟩:∃zz,zz=(if ss.length=50 then j4_ z 8 else z):=⟨_,rfl⟩
    rw[<-hzz] at m;have kz:zz.l=z.l/\zz.out=z.out/\zz.deep=z.deep/\zz.p=z.p:=by
     rw[hzz];split
     ·exact je_ z 8
     ·exact⟨rfl,rfl,rfl,rfl⟩
    refine zsq (zjn (α:={ k:Nat // nxz<=k }) (fun y=>⟨upd 0 (.pt q 0) (upd 2 (.pt nx 0) (upd 3 (.pt (nx+1+3) 0) noFr)),upd q (some (boxRd zz bl ov)) hpz,y.1⟩) ?_ ?_)
    ·refine zsq (ZT 1 ?_)
     have lo:=L.o;cases ss with
     |nil=>
      rw[if_neg (by decide)] at hzz;refine Z1 lo ?_;refine qg_ (c:=false) rfl rfl ?_;refine ZT 1 ?_;refine Z0 ?_;rw[hzz];exact⟨⟨_,by omega⟩,wkH (qQ_ L.box) (qa_ rfl (qa_ rfl (qa_ rfl (qh_ _))))⟩
     |cons a t=>
      by_cases h50:(a::t).length=50
      ·have c50:(((t.length+1:Nat):Int)==50)=true:=by simp at h50⊢;omega
       rw[if_pos h50] at hzz;refine Z1 (And.intro lo c50) ?_;refine ZT 1 ?_;refine Z0 ?_;refine qe_ ((zM_ L.box (by omega)).mono ?_);rintro v hp5 nx5 ⟨rfl,rfl,hle5⟩;dsimp only at hle5;refine Z0 ?_;rw[hzz];exact⟨⟨_,by omega⟩,wkI (qa_ rfl (qa_ rfl (qa_ rfl (qh_ _))))⟩
      ·have c50:(((t.length+1:Nat):Int)==50)=false:=by simp at h50⊢;omega
       rw[if_neg h50] at hzz;refine Z1 (And.intro lo c50) ?_;refine qg_ (c:=false) rfl rfl ?_;refine ZT 1 ?_;refine Z0 ?_;rw[hzz];exact⟨⟨_,by omega⟩,wkH (qQ_ L.box) (qa_ rfl (qa_ rfl (qa_ rfl (qh_ _))))⟩
    ·rintro⟨nxk,hk⟩
     have L1:=L.put (z2:=zz) hqn hk;obtain⟨r1,hr1,m⟩:=zbi m;refine zsq (ZT 1 ?_);refine Z0 ?_;refine qe_ ((vI_ L1.box (by rw[kz.1];omega) hr1).mono ?_);rintro v hp6 nx6 ⟨rfl,rfl,hle6⟩;dsimp only at hle6;refine Z0 ?_;have lle:=L.le;have L2:=L1.put (z2:=r1.1) hqn (nx2:=nx6) (by omega);have hsid:ss≠[]->nxk+3≠sid:=fun hs=>by have:=(L.row hs).2.2;omega
     have L3:RlI hp nx q bl r.2 ov r1.1 ss sid sver (upd (nxk+3) (some (.bx [.v (.string r1.2),.v (.string ByteArray.empty),.v (.string ByteArray.empty)])) (upd (nxk+3) (some (.bx [.v (.string ByteArray.empty),.v (.string ByteArray.empty),.v (.string ByteArray.empty)])) (upd q (some (boxRd r1.1 bl ov)) (upd q (some (boxRd zz bl ov)) hpz)))) nx6:=
      (L2.ext (Nat.le_refl _) (by omega) (by omega) hsid (by omega) _).ext (Nat.le_refl _) (by omega) (by omega) hsid (by omega) _
     generalize eS:(upd (nxk+3) (some _) _:Hp)=hp7 at L3⊢;have s7:hp7 (nxk+3)=some (.bx [.v (.string r1.2),.v (.string ByteArray.empty),.v (.string ByteArray.empty)]):=by rw[<-eS,qd_]
     have kr:=jf_ hr1;obtain⟨r2,hr2,m⟩:=zbi m;refine zsq (zjn (α:={ k:Nat // nx6<=k }) (fun y=>⟨upd 0 (.pt q 0) (upd 2 (.pt nx 0) (upd 3 (.pt (nx+1+3) 0) (upd 4 (.pt (nxk+3) 0) noFr))),upd (nxk+3) (some (.bx [.v (.string r1.2),.v (.string ByteArray.empty),.v (.string r2.2)])) (upd q (some (boxRd r2.1 bl ov)) hp7),y.1⟩) ?_ ?_)
     ·refine zsq (ZT 1 ?_)
      cases he1:(r1.1.e==0) with
      |false=>
       rw[he1,Bool.false_and,if_neg (by decide)] at hr2;cases hr2;refine Z1 (And.intro L3.box he1) ?_;refine qg_ (c:=false) rfl rfl ?_;refine ZT 1 ?_;refine Z0 ?_;exact⟨⟨_,by omega⟩,wkH (by rw[qQ_ L3.box,qQ_ s7]) (qa_ rfl (qa_ rfl (qa_ rfl (qa_ rfl (qh_ _)))))⟩
      |true=>
       rw[he1,Bool.true_and] at hr2;refine Z1 (And.intro L3.box he1) ?_;refine qe_ ((w4_ L3.box (by rw[kr.1,kz.1];omega)).mono ?_);rintro v hp8 nx8 ⟨rfl,rfl,hle8⟩;dsimp only at hle8;cases hi:isM r1.1 bHash with
       |false=>
        have hi':isM r1.1 { data:= #[35] }=false:=hi;rw[hi,if_neg (by decide)] at hr2;cases hr2;refine Z1 hi' ?_;refine qg_ (c:=false) rfl rfl ?_;refine ZT 1 ?_;refine Z0 ?_;exact⟨⟨_,by omega⟩,wkH (by rw[qQ_ L3.box,qQ_ s7]) (qa_ rfl (qa_ rfl (qa_ rfl (qa_ rfl (qh_ _)))))⟩
       |true=>
        have hi':isM r1.1 { data:= #[35] }=true:=hi;have lt1:=xe_ hi;rw[kr.1,kz.1] at lt1;rw[hi,if_pos rfl] at hr2;refine Z1 hi' ?_;refine qs_ (c:=true) rfl rfl ?_;refine zsq (ZT 1 ?_);refine Z1 (And.intro L3.box (w64a (n:=r1.1.p) (by omega))) ?_;refine ZT 1 ?_
        have q8:upd q (some (boxRd { r1.1 with p:=r1.1.p+1 } bl ov)) hp8 q=some (boxRd { r1.1 with p:=r1.1.p+1 } bl ov):=qd_ _ _ _;refine Z0 ?_;refine qe_ ((vI_ q8 (by show r1.1.l.length<_;rw[kr.1,kz.1];omega) hr2).mono ?_);rintro v hp9 nx9 ⟨rfl,rfl,hle9⟩;dsimp only at hle9;have f3:(nxk+3=q)=False:=eq_false (by omega);refine Z1 (And.intro s7 f3) ?_
        exact⟨⟨_,by omega⟩,wkH (by rw[qI_]) (qa_ rfl (qa_ rfl (qa_ rfl (qa_ rfl (qh_ _)))))⟩
     ·rintro⟨nxl,hl⟩
      have L4:=(L3.put (z2:=r2.1) hqn hl).ext (id:=nxk+3) (Nat.le_refl _) (by omega) (by omega) hsid (by omega) (some (.bx [.v (.string r1.2),.v (.string ByteArray.empty),.v (.string r2.2)]));generalize eT:(upd (nxk+3) (some _) _:Hp)=hpA at L4⊢;have s8:hpA (nxk+3)=some (.bx [.v (.string r1.2),.v (.string ByteArray.empty),.v (.string r2.2)]):=by rw[<-eT,qd_]
      have lo:=L4.o;obtain⟨sn,hsn⟩:∃sn:GSub,sn=⟨r1.2,ByteArray.empty,r2.2⟩:=⟨_,rfl⟩;rw[<-hsn] at m;refine zsq (zjn (α:={ t:Nat × Nat × Hp × Nat // RlI hp nx q bl r.2 ov r2.1 (ss++[sn]) t.1 t.2.1 t.2.2.1 t.2.2.2 }) (fun t=>⟨upd 0 (.pt q 0) (upd 2 (.pt nx 0) (upd 3 (.pt (nx+1+3) 0) noFr)),t.1.2.2.1,t.1.2.2.2⟩) ?_ ?_)
      ·refine ZT 1 ?_
       have f4:(nx+1+3=nxl+3)=False:=eq_false (by omega);have f5:(nx+1+3=nxl+4)=False:=eq_false (by omega);cases ss with
       |nil=>
        refine Z1 (And.intro lo (And.intro s8 (And.intro f4 f5))) ?_;generalize eU:(upd (nx+1+3) (some _) _:Hp)=hpU;have u1:hpU (nx+1+3)=some (.bx [.v (.string r.2),.so (nxl+4) 0 0 1,.v (.slice none 0 0)]):=by rw[<-eU,qd_]
        have u2:hpU (nxl+4)=some (.rw ([[.v (.string r1.2),.v (.string ByteArray.empty),.v (.string r2.2)]]) 3 0 false false):=by rw[<-eU,qb_ _ _ (by omega),qd_]
        have u3:∀j,j≠nx+1+3->j≠nxl+4->j≠nxl+3->hpU j=hpA j:=fun j h1 h2 h3=>by rw[<-eU,qb_ _ _ h1,qb_ _ _ h2,qb_ _ _ h3]
        refine⟨⟨(nxl+4,0,hpU,nxl+7),?_⟩,wkI (qa_ rfl (qa_ rfl (qa_ rfl (qh_ _))))⟩
        exact⟨(u3 _ (by omega) (by omega) (by omega)).trans L4.box,u1.trans (by rw[hsn];rfl),(u3 _ (by omega) (by omega) (by omega)).trans L4.res,fun _=>⟨u2.trans (by rw[hsn];rfl),by dsimp only;omega,by dsimp only;omega⟩,fun j h1 h2=>(u3 _ (by omega) (by omega) (by omega)).trans (L4.fr j h1 h2),fun j h1=>(u3 _ (by dsimp only at h1;omega) (by dsimp only at h1;omega) (by dsimp only at h1;omega)).trans (L4.new j (by dsimp only at h1;omega)),by dsimp only;omega⟩
       |cons a t=>
        have hrw:=L4.row (by simp);have f6:(nx+1+3=sid)=False:=eq_false (by omega);have f7:(sid=nxl+3)=False:=eq_false (by omega);have hlt:(t.length+1+1<=4294967296)=True:=eq_true (by simp only[List.length_cons] at z5;omega);have f8:(sid=nx+1+3)=False:=eq_false (by omega)
        refine Z1 (And.intro lo (And.intro s8 (And.intro hrw.1 (And.intro f4 (And.intro f6 (And.intro f7 (And.intro f8 hlt))))))) ?_;generalize eU:(upd (nx+1+3) (some _) _:Hp)=hpU;have u1:hpU (nx+1+3)=some (.bx [.v (.string r.2),.so sid (sver+1) 0 (t.length+1+1),.v (.slice none 0 0)]):=by rw[<-eU,qd_]
        have u2:hpU (sid)=some (.rw (eGSub a::(t.map eGSub++[[.v (.string r1.2),.v (.string ByteArray.empty),.v (.string r2.2)]])) 3 (sver+1) false false):=by rw[<-eU,qb_ _ _ (by omega),qd_]
        have u3:∀j,j≠nx+1+3->j≠sid->j≠nxl+3->hpU j=hpA j:=fun j h1 h2 h3=>by rw[<-eU,qb_ _ _ h1,qb_ _ _ h2,qb_ _ _ h3]
        refine⟨⟨(sid,(sver+1),hpU,nxl+7),?_⟩,wkI (qa_ rfl (qa_ rfl (qa_ rfl (qh_ _))))⟩
        exact⟨(u3 _ (by omega) (by omega) (by omega)).trans L4.box,u1.trans (by rw[hsn];simp[accV]),(u3 _ (by omega) (by omega) (by omega)).trans L4.res,fun _=>⟨u2.trans (by rw[hsn];simp),by dsimp only;omega,by dsimp only;omega⟩,fun j h1 h2=>(u3 _ (by omega) (by omega) (by omega)).trans (L4.fr j h1 h2),fun j h1=>(u3 _ (by dsimp only at h1;omega) (by dsimp only at h1;omega) (by dsimp only at h1;omega)).trans (L4.new j (by dsimp only at h1;omega)),by dsimp only;omega⟩
      ·rintro⟨⟨sid2,sver2,hpB,nxm⟩,L5⟩
       dsimp only at L5;have ke:r2.1.l=z.l/\r2.1.p<=z.l.length:=by
        have hrp:r1.1.p<=z.l.length:=by
         have:=kr.2.2.2 (by rw[kz.2.2.2,kz.1];exact z2)
         rw[kz.1] at this;exact this
        split at hr2
        ·rename_i hc
         rw[Bool.and_eq_true] at hc;have k5:=jf_ hr2;have lt1:=xe_ hc.2;have e5:r1.1.l=z.l:=kr.1.trans kz.1;refine⟨k5.1.trans e5,?_⟩
         have:=k5.2.2.2 (by show r1.1.p+1<=r1.1.l.length;omega)
         have e6:({ r1.1 with p:=r1.1.p+1 }:Rdr).l=z.l:=e5;rw[e6] at this;exact this
        ·cases hr2
         exact⟨kr.1.trans kz.1,hrp⟩
       refine zsq (zsq ?_);refine ZT 1 ?_;cases he2:(r2.1.e==0) with
       |false=>
        rw[he2,Bool.false_and,if_neg (by decide)] at m;refine Z1 (And.intro L5.box he2) ?_;refine qg_ (c:=false) rfl rfl ?_;refine ZT 1 ?_;refine Z0 ?_;obtain⟨m1,m2⟩:=Prod.mk.inj (Option.some.inj m);subst m1;subst m2;refine zsq (ZT 1 ?_);refine Z0 ?_;refine qe_ ((wv_ L5.box (by rw[ke.1];omega) (by omega)).mono ?_);rintro v hpC nxp ⟨rfl,rfl,hlep⟩;dsimp only at hlep
        have L6:=L5.put (z2:=j9_ r2.1 be_) hqn (nx2:=nxp) (by omega);refine Z0 ?_;refine zsq (ZT 1 ?_);obtain⟨sv,hsv⟩:∃sv,sv=accV sid2 sver2 ((ss++[sn]).map eGSub):=⟨_,rfl⟩;have lo6:=L6.o;rw[<-hsv] at lo6;have L6':=L6;generalize eV:(upd q (some (boxRd (j9_ r2.1 be_) bl ov)) hpB:Hp)=hpD at L6 lo6
        have eV':(upd q (some (boxRd (j9_ r2.1 { data:= #[59] }) bl ov)) hpB:Hp)=hpD:=eV;rw[eV'];refine Z1 (And.intro lo6 L6.res) ?_;refine ZT 1 ?_;refine Z0 ?_;refine⟨.ag [.v (.string r.2),sv,.v (.slice none 0 0)],_,by simp -implicitDefEqProofs only[go_sem, ↓reduceIte,Tryz.f57,qd_,reduceCtorEq,Nat.reduceEqDiff]<;>rfl,⟨fun _=>.inr rfl⟩,?_⟩;rw[hsv]
        rw[hne];exact L6.fin hqn (by dsimp only;omega) _
       |true=>
        rw[he2,Bool.true_and] at m;refine Z1 (And.intro L5.box he2) ?_;refine qe_ ((w4_ L5.box (by rw[ke.1];omega)).mono ?_);rintro v hpE nxn ⟨rfl,rfl,hlen⟩;dsimp only at hlen;cases hi2:isM r2.1 bBar with
        |false=>
         have hi':isM r2.1 { data:= #[124] }=false:=hi2;rw[hi2,if_neg (by decide)] at m;refine Z1 hi' ?_;refine qg_ (c:=false) rfl rfl ?_;refine ZT 1 ?_;refine Z0 ?_;obtain⟨m1,m2⟩:=Prod.mk.inj (Option.some.inj m);subst m1;subst m2;refine zsq (ZT 1 ?_);refine Z0 ?_;refine qe_ ((wv_ L5.box (by rw[ke.1];omega) (by omega)).mono ?_);rintro v hpC nxp ⟨rfl,rfl,hlep⟩
         dsimp only at hlep;have L6:=L5.put (z2:=j9_ r2.1 be_) hqn (nx2:=nxp) (by omega);refine Z0 ?_;refine zsq (ZT 1 ?_);obtain⟨sv,hsv⟩:∃sv,sv=accV sid2 sver2 ((ss++[sn]).map eGSub):=⟨_,rfl⟩;have lo6:=L6.o;rw[<-hsv] at lo6;have L6':=L6;generalize eV:(upd q (some (boxRd (j9_ r2.1 be_) bl ov)) hpE:Hp)=hpD at L6 lo6
         have eV':(upd q (some (boxRd (j9_ r2.1 { data:= #[59] }) bl ov)) hpE:Hp)=hpD:=eV;rw[eV'];refine Z1 (And.intro lo6 L6.res) ?_;refine ZT 1 ?_;refine Z0 ?_;refine⟨.ag [.v (.string r.2),sv,.v (.slice none 0 0)],_,by simp -implicitDefEqProofs only[go_sem, ↓reduceIte,Tryz.f57,qd_,reduceCtorEq,Nat.reduceEqDiff]<;>rfl,⟨fun _=>.inr rfl⟩,?_⟩;rw[hsv]
         rw[hne];exact L6.fin hqn (by dsimp only;omega) _
        |true=>
         have hi':isM r2.1 { data:= #[124] }=true:=hi2;rw[hi2,if_pos rfl] at m;refine Z1 hi' ?_;refine qs_ (c:=true) rfl rfl ?_;refine zsq (ZT 1 ?_);refine Z1 (And.intro L5.box (w64a (n:=r2.1.p) (by omega))) ?_;refine ZT 1 ?_;refine Z0 ?_
         refine⟨⟨(c,{ r2.1 with p:=r2.1.p+1 },ss++[sn],sid2,sver2,_,_),?_,m⟩,wkI (qa_ rfl (qa_ rfl (qa_ rfl (qh_ _)))),Nat.lt_succ_self c⟩;exact L5.put (z2:={ r2.1 with p:=r2.1.p+1 }) hqn (by dsimp only;omega)
theorem uj_ {x:Rdr}{c:Int}(h:(x.e==0)=true)(hc:(c==0)=false):((j4_ x c).e==0)=false:=by
 unfold j4_;rw[if_pos h];exact hc
theorem pE_ {n:Nat}{x:Rdr}(h:(x.e==0)=false):vr_ n x=some (x,{ data:= #[] }):=by
 unfold vr_;rw[h,if_neg (by decide)]
theorem sp_ {n:Nat}{x:Rdr}{r:Rdr × ByteArray}(h:vr_ n x=some r)(he:(x.e==0)=true):(r.1.e==0)=false\/r.1.p=x.p+1:=by
 have hf:((j4_ x 9).e==0)=false:=uj_ he rfl;unfold vr_ at h;rw[he,if_pos rfl] at h;split at h
 ·split at h
  ·obtain⟨b,_,h⟩:=zbi h
   split at h
   ·cases h
    exact .inr rfl
   ·cases h
    exact .inl hf
  ·cases h
   exact .inl hf
 ·cases h
  exact .inl hf
section
variable {n:Nat}{L:List GToken}(hT:∀t∈L,∃b,jO_ n t.text=some b)
include hT in
theorem gm_:∀(c:Nat) (x:Rdr) (ss:List GSub),x.l=L->RdW x->ss.length<=50->L.length-x.p<c->∃y,ui_ n c x ss=some y/\Kp x y.1
 |0,_,_,_,_,_,h=>absurd h (Nat.not_lt_zero _)
 |c+1,x,ss,hl,w,hs,hc=>by
  unfold ui_;rw[if_pos ⟨w,hs⟩];split
  ·rename_i he
   by_cases h50:ss.length=50
   ·have ef:=uj_ (c:=8) he rfl
    rw[if_pos h50,pE_ ef,Zo];dsimp only;rw[ef,Bool.false_and,if_neg (by decide),Zo];dsimp only;rw[ef,Bool.false_and,if_neg (by decide)];have k1:=Kp.fail w 8;exact⟨_,rfl,k1.trans (Kp.want (k1.w w) be_)⟩
   ·rw[if_neg h50]
    obtain⟨r1,e1,k1⟩:=z9_ hT hl w;have w1:=k1.w w;rw[e1,Zo];obtain⟨r2,e2,k2⟩:∃r2,(if r1.1.e==0&&isM r1.1 bHash then vr_ n { r1.1 with p:=r1.1.p+1 } else some (r1.1,ByteArray.empty))=some r2/\Kp r1.1 r2.1:=by
     split
     ·rename_i h
      rw[Bool.and_eq_true] at h;have ko:=Kp.one w1 (xe_ h.2);obtain⟨s,e3,k3⟩:=z9_ hT (x:={ r1.1 with p:=r1.1.p+1 }) (k1.l.trans hl) (ko.w w1);exact⟨s,e3,ko.trans k3⟩
     ·exact⟨_,rfl,⟨rfl,Nat.le_refl _,w1.2.1,w1.2.2.1,rfl,id⟩⟩
    rw[e2,Zo];have k12:=k1.trans k2;have w2:=k12.w w;split
    ·rename_i h
     rw[Bool.and_eq_true] at h;have lt:=xe_ h.2;have k3:=Kp.one w2 lt;have k4:=k12.trans k3;have hp:=k12.p;rw[k12.l,hl] at lt;obtain⟨y,e4,k5⟩:=gm_ c { r2.1 with p:=r2.1.p+1 } (ss++[⟨r1.2,ByteArray.empty,r2.2⟩]) (k4.l.trans hl) (k4.w w) (by rw[List.length_append,List.length_singleton];omega) (by show L.length-(r2.1.p+1)<c;omega);exact⟨y,e4,k4.trans k5⟩
    ·exact⟨_,rfl,k12.trans (Kp.want w2 be_)⟩
  ·exact⟨_,rfl,⟨rfl,Nat.le_refl _,w.2.1,w.2.2.1,rfl,id⟩⟩
include hT in
theorem sq_ {c f d:Nat}(hc:L.length<c)(hf:20<f+d){x:Rdr}(hl:x.l=L)(w:RdW x)(hd:x.deep=d):∃y,relM n c f x=some y/\Kp x y.1/\((x.e==0)=true->(y.1.e==0)=false\/x.p<y.1.p):=by
 unfold relM;rw[if_pos w];obtain⟨r,e1,k1⟩:=z9_ hT hl w;have on:∀z:Rdr,Kp r.1 z->(x.e==0)=true->(z.e==0)=false\/x.p<z.p:=fun z kz h0=>by
  rcases sp_ e1 h0 with h1 |h1
  ·exact .inl (kz.e h1)
  ·exact .inr (by have:=kz.p;omega)
 have w1:=k1.w w;rw[e1,Zo];split
 ·rename_i h
  rw[Bool.and_eq_true] at h;have lt:=xe_ h.2;have wz:RdW { r.1 with p:=r.1.p+1,out:=[] }:=⟨w1.1,lt,Nat.zero_le _,w1.2.2.2⟩;obtain⟨y,e2,k2⟩:=ds_ hT hc f d hf { r.1 with p:=r.1.p+1,out:=[] } (k1.l.trans hl) wz (k1.d.trans hd);have wy:=k2.w wz;have ky:=Kp.want wy be_;rw[e2,Zo,if_pos wy]
  have k3:Kp r.1 y:=⟨k2.l,by have:r.1.p+1<=y.p:=k2.p;omega,k2.p2,k2.o,k2.d,k2.e⟩;exact⟨_,rfl,k1.trans (k3.trans ky),on _ (k3.trans ky)⟩
 ·have kw:=Kp.want w1 bCol
  obtain⟨y,e2,k2⟩:=gm_ hT c (j9_ r.1 bCol) [] (kw.l.trans (k1.l.trans hl)) (kw.w w1) (Nat.zero_le _) (by omega);rw[e2];exact⟨_,rfl,k1.trans (kw.trans k2),on _ (kw.trans k2)⟩
end
def bLb:ByteArray:={ data:= #[123] }
def bRb:ByteArray:={ data:= #[125] }
def bh_ (n c f:Nat):Nat->Rdr->List GRel->Option (Rdr × List GRel)
 |0,_,_=>none
 |k+1,x,rs=>if RdW x/\x.deep=0/\rs.length<=200 then
   (if x.e==0&& !isM x bRb then(if rs.length=200 then bh_ n c f k (j4_ x 8) rs else(relM n c f x).bind fun p=>bh_ n c f k p.1 (rs++[p.2])) else some (x,rs)) else none
section
variable {n:Nat}{L:List GToken}(hT:∀t∈L,∃b,jO_ n t.text=some b)
include hT in
theorem ku_ {c f:Nat}(hc:L.length<c)(hf:20<f):∀(k:Nat) (x:Rdr) (rs:List GRel),x.l=L->RdW x->x.deep=0->rs.length<=200->(if x.e==0 then L.length-x.p+1 else 0)<k->∃y,bh_ n c f k x rs=some y/\Kp x y.1
 |0,_,_,_,_,_,_,h=>absurd h (Nat.not_lt_zero _)
 |k+1,x,rs,hl,w,hd,hs,hk=>by
  unfold bh_;rw[if_pos ⟨w,hd,hs⟩];split
  ·rename_i h
   rw[Bool.and_eq_true] at h;rw[if_pos h.1] at hk;split
   ·have ef:=uj_ (c:=8) h.1 rfl
    have kf:=Kp.fail w 8;obtain⟨y,e1,k1⟩:=ku_ hc hf k (j4_ x 8) rs (kf.l.trans hl) (kf.w w) (kf.d.trans hd) hs (by rw[ef,if_neg (by decide)];omega);exact⟨y,e1,kf.trans k1⟩
   ·obtain⟨p,e1,k1,k2⟩:=sq_ hT hc (d:=0) hf hl w hd
    have hp2:=k1.p2;have hp:=k1.p;rw[hl] at hp2;obtain⟨y,e2,k3⟩:=ku_ hc hf k p.1 (rs++[p.2]) (k1.l.trans hl) (k1.w w) (k1.d.trans hd) (by rw[List.length_append,List.length_singleton];omega) (by
     rcases k2 h.1 with h1 |h1
     ·rw[h1,if_neg (by decide)]
      omega
     ·split<;>omega)
    rw[e1,Zo];exact⟨y,e2,k1.trans k3⟩
  ·exact⟨_,rfl,⟨rfl,Nat.le_refl _,w.2.1,w.2.2.1,rfl,id⟩⟩
end
end Go.Proofs.YtnmkbmefohakmaaGreat.Ab
namespace Go.Proofs.YtnmkbmefohakmaaGreat
open Go.RowKit
structure Lin (α:Type) where
 lt:α->α->Bool
 irrefl:∀x,lt x x=false
 trans:∀ {x y z},lt x y=true->lt y z=true->lt x z=true
 total:∀ {x y},lt x y=false->lt y x=false->x=y
namespace Lin
variable {α:Type}(O:Lin α)
theorem asymm {x y:α}(h:O.lt x y=true):O.lt y x=false:=by
 cases h2:O.lt y x with
 |false=>rfl
 |true=>
  have:=O.trans h h2
  rw[O.irrefl] at this;cases this
theorem ne {x y:α}(h:O.lt x y=true):x≠y:=by
 rintro rfl;rw[O.irrefl] at h;cases h
theorem swo:Go.Sort.SWO O.lt where
 irrefl:=O.irrefl
 trans _ _ _:=O.trans
 ntrans x y z h1 h2:=by
  cases h:O.lt x z with
  |false=>rfl
  |true=>
   cases h3:O.lt y x with
   |true=>
    have:=O.trans h3 h
    rw[h2] at this;cases this
   |false=>
    have:=O.total h1 h3
    subst this;rw[h2] at h;cases h
def Rises (l:List α):Prop:=l.Pairwise fun x y=>O.lt x y=true
theorem ext:∀ {a b:List α},O.Rises a->O.Rises b->(∀x,x∈a↔x∈b)->a=b
 |[],[],_,_,_=>rfl
 |[],y::_,_,_,h=>by
  have:=(h y).2 (List.mem_cons_self ..)
  cases this
 |x::_,[],_,_,h=>by
  have:=(h x).1 (List.mem_cons_self ..)
  cases this
 |x::a,y::b,ha,hb,h=>by
  obtain⟨ha1,ha2⟩:=List.pairwise_cons.1 ha;obtain⟨hb1,hb2⟩:=List.pairwise_cons.1 hb;have hxy:x=y:=by
   rcases List.mem_cons.1 ((h x).1 (List.mem_cons_self ..)) with e |e
   ·exact e
   ·rcases List.mem_cons.1 ((h y).2 (List.mem_cons_self ..)) with e2 |e2
    ·exact e2.symm
    ·have h1:=hb1 x e
     have h2:=ha1 y e2;rw[O.asymm h1] at h2;cases h2
  subst hxy;congr 1
  refine ext ha2 hb2 fun z=>⟨fun hz=> ?_,fun hz=> ?_⟩
  ·rcases List.mem_cons.1 ((h z).1 (List.mem_cons_of_mem _ hz)) with e |e
   ·subst e
    exact absurd rfl (O.ne (ha1 z hz))
   ·exact e
  ·rcases List.mem_cons.1 ((h z).2 (List.mem_cons_of_mem _ hz)) with e |e
   ·subst e
    exact absurd rfl (O.ne (hb1 z hz))
   ·exact e
theorem filter {l:List α}(h:O.Rises l)(p:α->Bool):O.Rises (l.filter p):=List.Pairwise.filter p h
def ins (x:α):List α->List α
 |[]=>[x]
 |y::l=>if O.lt x y then x::y::l else if O.lt y x then y::ins x l else y::l
theorem mem_ins {x z:α}:∀ {l:List α},z∈O.ins x l↔z=x\/z∈l
 |[]=>by simp[ins]
 |y::l=>by
  have ih:=mem_ins (x:=x) (z:=z) (l:=l);simp only[ins];by_cases h1:O.lt x y=true
  ·simp[h1]
  ·by_cases h2:O.lt y x=true
   ·simp only[h1,h2,if_true,Bool.false_eq_true,if_false,List.mem_cons,ih]
    constructor
    ·rintro(h |h |h)<;>simp[h]
    ·rintro(h |h |h)<;>simp[h]
   ·have:=O.total (by simpa using h1) (by simpa using h2)
    subst this;simp[h1]
theorem rises_ins {x:α}:∀ {l:List α},O.Rises l->O.Rises (O.ins x l)
 |[],_=>by simp[ins,Rises]
 |y::l,h=>by
  obtain⟨h1,h2⟩:=List.pairwise_cons.1 h;simp only[ins];by_cases e1:O.lt x y=true
  ·rw[if_pos e1]
   refine List.pairwise_cons.2 ⟨fun z hz=> ?_,h⟩;rcases List.mem_cons.1 hz with e |e
   ·subst e;exact e1
   ·exact O.trans e1 (h1 z e)
  ·rw[if_neg e1]
   by_cases e2:O.lt y x=true
   ·rw[if_pos e2]
    refine List.pairwise_cons.2 ⟨fun z hz=> ?_,rises_ins h2⟩;rcases O.mem_ins.1 hz with e |e
    ·subst e;exact e2
    ·exact h1 z e
   ·rw[if_neg e2]
    exact h
def ofL (l:List α):List α:=l.foldr O.ins []
theorem rises_ofL:∀l,O.Rises (O.ofL l)
 |[]=>List.Pairwise.nil
 |_::l=>O.rises_ins (rises_ofL l)
theorem mem_ofL {z:α}:∀ {l:List α},z∈O.ofL l↔z∈l
 |[]=>by simp[ofL]
 |x::l=>by
  have ih:=mem_ofL (z:=z) (l:=l);show z∈O.ins x (O.ofL l)↔_;rw[O.mem_ins,ih,List.mem_cons]
def sub [DecidableEq α](a b:List α):List α:=a.filter fun x=>decide (x∉b)
end Lin
end Go.Proofs.YtnmkbmefohakmaaGreat
namespace Go.Proofs.YtnmkbmefohakmaaGreat
open Go.RowKit
namespace Lin
variable {α:Type}(O:Lin α)
theorem wu_ [Inhabited α][DecidableEq α](d:Array α)(x:α):∀m,x∈Lib.compactUpTo d m↔∃j,j<m/\d[j]! =x
 |0=>by simp[Lib.compactUpTo]
 |m+1=>by
  have ih:=wu_ d x m;rw[Lib.compactUpTo_succ,List.mem_append,ih];by_cases hk:Lib.keeps d m=true
  ·rw[if_pos hk,List.mem_singleton]
   constructor
   ·rintro(⟨j,h1,h2⟩ |h)
    ·exact⟨j,by omega,h2⟩
    ·exact⟨m,by omega,h.symm⟩
   ·rintro⟨j,h1,h2⟩
    rcases Nat.lt_or_ge j m with h |h
    ·exact .inl ⟨j,h,h2⟩
    ·have:j=m:=by omega
     subst this;exact .inr h2.symm
  ·rw[if_neg hk]
   simp only[List.not_mem_nil,or_false];have h0:m≠0:=by
    rintro rfl;exact hk (by simp[Lib.keeps])
   have he:d[m]! =d[m-1]! :=by
    by_cases e:d[m]! =d[m-1]!
    ·exact e
    ·exact absurd (Lib.keeps_pos e) hk
   constructor
   ·rintro⟨j,h1,h2⟩
    exact⟨j,by omega,h2⟩
   ·rintro⟨j,h1,h2⟩
    rcases Nat.lt_or_ge j m with h |h
    ·exact⟨j,h,h2⟩
    ·have:j=m:=by omega
     subst this;exact⟨j-1,by omega,by rw[<-he,h2]⟩
theorem compact_rises [Inhabited α][DecidableEq α](d:Array α)(hs:∀i j,i<j->j<d.size->O.lt d[j]! d[i]! =false):∀m,m<=d.size->O.Rises (Lib.compactUpTo d m)
 |0,_=>by simp[Lib.compactUpTo,Rises]
 |m+1,hm=>by
  have ih:=compact_rises d hs m (by omega);rw[Lib.compactUpTo_succ];by_cases hk:Lib.keeps d m=true
  ·rw[if_pos hk]
   refine List.pairwise_append.2 ⟨ih,List.pairwise_singleton ..,fun x hx y hy=> ?_⟩;rw[List.mem_singleton.1 hy];obtain⟨j,hj,rfl⟩:=(wu_ d x m).1 hx;cases h1:O.lt d[j]! d[m]! with
   |true=>rfl
   |false=>
    exfalso;have e:=O.total h1 (hs j m hj (by omega));have hne:d[m]! ≠d[m-1]! :=fun e2=>by rw[Lib.keeps_neg (by omega) e2] at hk;cases hk
    rcases Nat.lt_or_ge j (m-1) with h |h
    ·have k1:=hs j (m-1) h (by omega)
     have k2:=hs (m-1) m (by omega) (by omega);rw[e] at k1;exact hne (O.total k2 k1)
    ·have:j=m-1:=by omega
     subst this;exact hne e.symm
  ·rw[if_neg hk,List.append_nil]
   exact ih
theorem compact_sorted [Inhabited α][DecidableEq α]{l s:List α}(hm:∀x,x∈s↔x∈l)(hs:s.Pairwise fun a b=>O.lt b a=false):Lib.compact s=O.ofL l:=by
 have hs':∀i j,i<j->j<s.toArray.size->O.lt s.toArray[j]! s.toArray[i]! =false:=fun i j h1 h2=>by
  have h3:j<s.length:=by simpa using h2
  have:=List.pairwise_iff_getElem.1 hs i j (by omega) h3 h1
  simpa [h3,show i<s.length by omega] using this
 refine O.ext (O.compact_rises _ hs' _ (by simp)) (O.rises_ofL l) fun x=> ?_;rw[O.mem_ofL,<-hm];refine(wu_ _ x _).trans ⟨?_,fun hx=> ?_⟩
 ·rintro⟨j,hj,rfl⟩
  have:s.toArray[j]! =s[j]:=by simp[hj]
  rw[this];exact List.getElem_mem hj
 ·obtain⟨j,hj,rfl⟩:=List.getElem_of_mem hx
  exact⟨j,hj,by simp[hj]⟩
end Lin
theorem uf_ {a b:ByteArray}(h:a.data.toList=b.data.toList):a=b:=by
 cases a;cases b;congr
 exact Array.toList_inj.1 h
theorem beqS (a b:ByteArray):(a.toList==b.toList)=decide (a=b):=by
 rw[Lib.toList_data,Lib.toList_data,Bool.eq_iff_iff];simp only[beq_iff_eq,decide_eq_true_eq];exact⟨uf_,fun h=>by rw[h]⟩
theorem bl_lt:∀(x y:List UInt8),Op.bytesLess x y=decide (x<y)
 |[],[]=>by simp[Op.bytesLess]
 |_::_,[]=>by simp[Op.bytesLess]
 |[],_::_=>by simp[Op.bytesLess]
 |a::x,b::y=>by
  rw[Op.bytesLess,bl_lt x y];simp only[List.cons_lt_cons_iff];by_cases h1:a<b<;>by_cases h2:a=b<;>by_cases h3:x<y<;>simp[h1,h2,h3]
theorem di_:∀a:List UInt8,Op.bytesLess a a=false
 |[]=>rfl
 |a::x=>by simp[Op.bytesLess,di_ x]
theorem hu_:∀ {a b c:List UInt8},Op.bytesLess a b=true->Op.bytesLess b c=true->Op.bytesLess a c=true
 |_,[],[],_,h=>by simp[Op.bytesLess] at h
 |[],[],_::_,h,_=>by simp[Op.bytesLess] at h
 |_::_,[],_::_,h,_=>by simp[Op.bytesLess] at h
 |_,_::_,[],_,h=>by simp[Op.bytesLess] at h
 |[],_::_,_::_,_,_=>by simp[Op.bytesLess]
 |a::x,b::y,c::z,h1,h2=>by
  have ih:=hu_ (a:=x) (b:=y) (c:=z);simp only[Op.bytesLess,Bool.or_eq_true,Bool.and_eq_true,decide_eq_true_eq,beq_iff_eq] at *;rcases h1 with h1 |⟨h1,h3⟩<;>rcases h2 with h2 |⟨h2,h4⟩
  ·left;rw[UInt8.lt_iff_toNat_lt] at *;omega
  ·subst h2;exact .inl h1
  ·subst h1;exact .inl h2
  ·subst h1;subst h2;exact .inr ⟨rfl,ih h3 h4⟩
theorem hv_:∀ {a b:List UInt8},Op.bytesLess a b=false->Op.bytesLess b a=false->a=b
 |[],[],_,_=>rfl
 |[],_::_,h,_=>by simp[Op.bytesLess] at h
 |_::_,[],_,h=>by simp[Op.bytesLess] at h
 |a::x,b::y,h1,h2=>by
  have ih:=hv_ (a:=x) (b:=y);simp only[Op.bytesLess,Bool.or_eq_false_iff,Bool.and_eq_false_imp,decide_eq_false_iff_not,beq_iff_eq] at *;have e:a=b:=by
   have k1:=h1.1;have k2:=h2.1;rw[UInt8.lt_iff_toNat_lt] at k1 k2;exact UInt8.toNat_inj.1 (by omega)
  subst e;rw[ih (h1.2 rfl) (h2.2 rfl)]
def tx:Lin ByteArray where
 lt a b:=Op.bytesLess a.toList b.toList
 irrefl _:=di_ _
 trans:=hu_
 total h1 h2:=by
  have:=hv_ h1 h2
  rw[Lib.toList_data,Lib.toList_data] at this;exact uf_ this
namespace Ab
open Go.Sort
theorem gf_ (s:ByteArray):toT s=s.toList:=(Lib.toList_data s).symm
theorem lt_toT (x y:List UInt8):tx.lt (ofT x) (ofT y)=decide (x<y):=by
 show Op.bytesLess _ _=_;rw[<-gf_,<-gf_,gX_,gX_,bl_lt]
theorem mk_ (xs:List ByteArray):(srtT xs).Pairwise fun a b=>tx.lt b a=false:=by
 unfold srtT;refine List.pairwise_map.2 ?_;have h:=List.pairwise_mergeSort (le:=fun x y:List UInt8=>decide (x<=y)) (fun a b c h1 h2=>by
   simp only[decide_eq_true_eq] at *;exact List.le_trans h1 h2) (fun a b=>by
   simp only[Bool.or_eq_true,decide_eq_true_eq];exact List.le_total a b) (xs.map toT)
 refine h.imp fun{a b} h=> ?_;rw[lt_toT];simpa using h
theorem cK_ (xs:List ByteArray)(x:ByteArray):x∈srtT xs↔x∈xs:=by
 have hp:=(List.mergeSort_perm (xs.map toT) fun x y=>decide (x<=y)).map ofT;rw[yZ_] at hp;exact hp.mem_iff
theorem fp_ (zs:List (List UInt8)):(Lib.compact zs).map ofT=Lib.compact (zs.map ofT):=by
 have hg:∀j,ofT (zs.toArray[j]!)=(zs.map ofT).toArray[j]! \/zs.length<=j:=fun j=>by
  rcases Nat.lt_or_ge j zs.length with h |h
  ·exact .inl (by simp[h])
  ·exact .inr h
 have hinj:∀a b:List UInt8,ofT a=ofT b↔a=b:=fun a b=>⟨fun h=>by rw[<-gX_ a,<-gX_ b,h],fun h=>by rw[h]⟩;unfold Lib.compact Lib.compactUpTo;rw[List.map_map,List.length_map];have e1:(List.range zs.length).filter (Lib.keeps zs.toArray)=(List.range zs.length).filter (Lib.keeps (zs.map ofT).toArray):=by
  refine List.filter_congr fun j hj=> ?_;have hj:=List.mem_range.1 hj;unfold Lib.keeps;rw[decide_eq_decide];have a1:=(hg j).resolve_right (by omega);have a2:=(hg (j-1)).resolve_right (by omega);rw[<-a1,<-a2,ne_eq,ne_eq,hinj]
 rw[e1];refine List.map_congr_left fun j hj=> ?_;have hj:=List.mem_range.1 (List.mem_filter.1 hj).1;exact(hg j).resolve_right (by omega)
theorem sf_ (xs:List ByteArray):cmpT (srtT xs)=tx.ofL xs:=by
 unfold cmpT;rw[fp_,yZ_];exact tx.compact_sorted (cK_ xs) (mk_ xs)
end Ab
end Go.Proofs.YtnmkbmefohakmaaGreat
namespace Go.Proofs.YtnmkbmefohakmaaGreat.Ab
open Go.RowKit
theorem wr1 {k:Nat}(h:k<9223372036854775807):IntKind.i64.wrap ((k:Int)+1)=((k+1:Nat):Int):=v1_ (by omega)
theorem dlt {a b:Nat}(h:a<b):decide ((a:Int)<(b:Int))=true:=by simp;omega
theorem dnlt {a b:Nat}(h:b<=a):decide ((a:Int)<(b:Int))=false:=by simp;omega
theorem an8 (t:Int):IntKind.i64.wrap (an t 255:Int)=(an t 255:Nat):=yX_ _ _ (by decide)
theorem idxS {α:Type}{xs:List α}{k:Nat}(h:k<xs.length):idx xs (k:Int)=some xs[k]:=by rw[vC_,List.getElem?_eq_getElem h]
theorem appS {α:Type}{xs ys:List α}(h:xs.length+ys.length<=4294967296):app xs ys=some (xs++ys):=if_pos h
theorem slcS {α:Type}{xs:List α}{a b:Nat}(h1:a<=b)(h2:b<=xs.length):slc xs (a:Int) (b:Int)=some ((xs.take b).drop a):=by
 unfold slc;rw[if_pos ⟨by omega,by omega,by omega⟩];rfl
theorem bget (s:ByteArray)(i:Nat):s[i]? =s.data.toList[i]? :=by
 simp[getElem?_def,ByteArray.getElem_eq_getElem_data,ByteArray.size_data]
theorem pt_ (s:ByteArray):s.data.toList.length=s.size:=by simp
theorem dm_ {s:ByteArray}{k:Nat}(h:k<s.size):bidx s (k:Int)=some ((s.data.toList[k]'(by rw[pt_];exact h)).toNat:Int):=by
 unfold bidx;rw[if_pos (by omega),Int.toNat_natCast,bget,List.getElem?_eq_getElem (by rw[pt_];exact h)];rfl
theorem bslcS {s:ByteArray}{a b:Nat}(h1:a<=b)(h2:b<=s.size):bslc s (a:Int) (b:Int)=some (s.extract a b):=by
 unfold bslc;rw[if_pos ⟨by omega,by omega,by omega⟩];rfl
theorem catS {a b:ByteArray}(h:a.size+b.size<=maxLen):cat a b=some (a++b):=if_pos h
theorem hw_ {α:Type}{L:Nat->Int->Option (Unit ⊕ Int)}{xs:List α}{P:α->Option Bool}(p:α->Bool)(h0:∀c i,L (c+1) i=if decide (i<(xs.length:Int)) then(idx xs i).bind fun x=>(P x).bind fun b=>if b then some (.inr i) else L c (IntKind.i64.wrap (i+1)) else some (.inl ()))
  (hP:∀x∈xs,P x=some (p x)) (hx:xs.length<4611686018427387904):∀(c j:Nat),j<=xs.length->xs.length-j<c->∃r,L c (j:Int)=some r/\(((xs.drop j).any p=true/\∃k:Nat,r= .inr (k:Int))\/((xs.drop j).any p=false/\r= .inl ()))
 |0,_,_,h=>by omega
 |c+1,j,hj,hc=>by
  rw[h0];by_cases hlt:j<xs.length
  ·rw[dlt hlt,if_pos rfl,idxS hlt,Option.bind_some,hP _ (List.getElem_mem hlt),Option.bind_some,List.drop_eq_getElem_cons hlt]
   cases hp:p xs[j] with
   |true=>exact⟨_,if_pos rfl,.inl ⟨by rw[List.any_cons,hp,Bool.true_or],j,rfl⟩⟩
   |false=>
    rw[if_neg (by decide),wr1 (by omega)];obtain⟨r,h1,h2⟩:=hw_ p h0 hP hx c (j+1) (by omega) (by omega);exact⟨r,h1,by rw[List.any_cons,hp,Bool.false_or];exact h2⟩
  ·rw[dnlt (by omega),if_neg (by decide),List.drop_eq_nil_of_le (by omega)]
   exact⟨_,rfl,.inr ⟨rfl,rfl⟩⟩
theorem dn_ {α:Type}[DecidableEq α]{L:Nat->Int->Option (Unit ⊕ Bool)}{xs ys:List α}{E:α->α->Bool}(hE:∀x y,E x y=decide (x=y))(h0:∀c i,L (c+1) i=if decide (i<(xs.length:Int)) then(idx xs i).bind fun x=>(idx ys i).bind fun y=>if E x y then L c (IntKind.i64.wrap (i+1)) else some (.inr false) else some (.inl ()))
  (hl:xs.length=ys.length) (hx:xs.length<4611686018427387904):∀(c j:Nat),j<=xs.length->xs.length-j<c->L c (j:Int)=some (if xs.drop j=ys.drop j then .inl () else .inr false)
 |0,_,_,h=>by omega
 |c+1,j,hj,hc=>by
  rw[h0];by_cases hlt:j<xs.length
  ·rw[dlt hlt,if_pos rfl,idxS hlt,Option.bind_some,idxS (by omega),Option.bind_some,hE,List.drop_eq_getElem_cons hlt,List.drop_eq_getElem_cons (show j<ys.length by omega)]
   by_cases e:xs[j]=ys[j]
   ·rw[decide_eq_true e,if_pos rfl,wr1 (by omega),dn_ hE h0 hl hx c (j+1) (by omega) (by omega)]
    simp only[List.cons.injEq,e,true_and]
   ·rw[decide_eq_false e,if_neg (by decide),if_neg fun h=>e (List.cons.inj h).1]
  ·rw[dnlt (by omega),if_neg (by decide),List.drop_eq_nil_of_le (by omega),List.drop_eq_nil_of_le (by omega),if_pos rfl]
theorem zL_ {α:Type}(O:Lin α)(l:List α):(O.ofL l).length<=l.length:=by
 have ins_len:∀(x:α) (l:List α),(O.ins x l).length<=l.length+1:=fun x l=>by
  induction l with
  |nil=>simp[Lin.ins]
  |cons y r ih=>
   simp only[Lin.ins];split
   ·simp
   ·split
    ·simp;omega
    ·simp
 induction l with
 |nil=>simp[Lin.ofL]
 |cons x r ih=>
  have:=ins_len x (O.ofL r)
  have e:O.ofL (x::r)=O.ins x (O.ofL r):=rfl;rw[e,List.length_cons];omega
end Go.Proofs.YtnmkbmefohakmaaGreat.Ab
