/-
 The search, solved: what it comes to.
-/
import Derived.Test.YtnmkbmefohakmaaGreatSkr
namespace Go.Proofs.YtnmkbmefohakmaaGreat.Ab
open Go.RowKit
def bsL (p:Nat->Option Bool):Nat->Nat->Nat->Option Nat
 |0,_,_=>none
 |f+1,i,j=>if i<j then(p ((i+j) / 2)).bind fun b=>if b then bsL p f ((i+j) / 2+1) j else bsL p f i ((i+j) / 2) else some i
def upS {α:Type}:Nat->List α->Nat->Option (List α)
 |0,xs,_=>some xs
 |c+1,xs,k=>(xs[k+1]?).bind fun x=>(xs[k]?).bind fun y=>upS c ((xs.set k x).set (k+1) y) (k+1)
def dnS {α:Type}:Nat->List α->Nat->Option (List α)
 |0,xs,_=>some xs
 |_+1,_,0=>none
 |c+1,xs,k+1=>(xs[k]?).bind fun x=>(xs[k+1]?).bind fun y=>dnS c ((xs.set (k+1) x).set k y) k
def symM {α:Type}(lt:α->α->Bool):Nat->List α->Nat->Nat->Nat->Option (List α)
 |0,_,_,_,_=>none
 |f+1,xs,a,m,b=>if a<m/\m<b/\b<=xs.length then
   (if m-a=1 then(bsL (fun h=>(xs[h]?).bind fun x=>(xs[a]?).map fun y=>lt x y) (xs.length+1) m b).bind fun i=>upS (i-1-a) xs a
   else if b-m=1 then(bsL (fun h=>(xs[m]?).bind fun x=>(xs[h]?).map fun y=> !lt x y) (xs.length+1) a m).bind fun i=>dnS (m-i) xs m
   else(bsL (fun c=>(xs[(a+b) / 2+m-1-c]?).bind fun x=>(xs[c]?).map fun y=> !lt x y) (xs.length+1) (if (a+b) / 2<m then(a+b) / 2+m-b else a) (if (a+b) / 2<m then(a+b) / 2 else m)).bind fun s=>
    (if s<m/\m<(a+b) / 2+m-s then rotM m (xs.length+1) xs (m-s) ((a+b) / 2+m-s-m) else some xs).bind fun xs1=>
    (if a<s/\s<(a+b) / 2 then symM lt f xs1 a s ((a+b) / 2) else some xs1).bind fun xs2=>
    if (a+b) / 2<(a+b) / 2+m-s/\(a+b) / 2+m-s<b then symM lt f xs2 ((a+b) / 2) ((a+b) / 2+m-s) b else some xs2) else none
theorem pW_ {p:Nat->Option Bool}:∀ {f i j r:Nat},bsL p f i j=some r->i<=j->i<=r/\r<=j
 |0,_,_,_,h,_=>by cases h
 |f+1,i,j,r,h,hij=>by
  unfold bsL at h;split at h
  ·obtain⟨b,_,h⟩:=zbi h
   split at h
   ·have:=pW_ h (by omega)
    omega
   ·have:=pW_ h (by omega)
    omega
  ·cases h
   omega
theorem pX_ {α:Type}:∀ {c k:Nat} {xs ys:List α},upS c xs k=some ys->ys.length=xs.length/\∀z∈ys,z∈xs
 |0,_,_,_,h=>by cases h;exact⟨rfl,fun _ h=>h⟩
 |c+1,k,xs,ys,h=>by
  unfold upS at h;obtain⟨x,h1,h⟩:=zbi h;obtain⟨y,h2,h⟩:=zbi h;obtain⟨h3,h4⟩:=pX_ h;exact⟨by rw[h3];simp,fun z hz=>bq_ h1 h2 (h4 z hz)⟩
theorem pY_ {α:Type}:∀ {c k:Nat} {xs ys:List α},dnS c xs k=some ys->ys.length=xs.length/\∀z∈ys,z∈xs
 |0,_,_,_,h=>by cases h;exact⟨rfl,fun _ h=>h⟩
 |_+1,0,_,_,h=>by cases h
 |c+1,k+1,xs,ys,h=>by
  unfold dnS at h;obtain⟨x,h1,h⟩:=zbi h;obtain⟨y,h2,h⟩:=zbi h;obtain⟨h3,h4⟩:=pY_ h;exact⟨by rw[h3];simp,fun z hz=>bq_ h1 h2 (h4 z hz)⟩
theorem vl_ {α:Type}{lt:α->α->Bool}:∀ {f a m b:Nat} {xs ys:List α},symM lt f xs a m b=some ys->ys.length=xs.length/\∀z∈ys,z∈xs
 |0,_,_,_,_,_,h=>by cases h
 |f+1,a,m,b,xs,ys,h=>by
  unfold symM at h;split at h
  ·split at h
   ·obtain⟨i,_,h⟩:=zbi h
    exact pX_ h
   ·split at h
    ·obtain⟨i,_,h⟩:=zbi h
     exact pY_ h
    ·obtain⟨s,_,h⟩:=zbi h
     obtain⟨xs1,h1,h⟩:=zbi h;obtain⟨xs2,h2,h⟩:=zbi h;have e1:xs1.length=xs.length/\∀z∈xs1,z∈xs:=by
      split at h1
      ·exact⟨yl_ h1,fun z hz=>ym_ h1 hz⟩
      ·cases h1
       exact⟨rfl,fun _ h=>h⟩
     have e2:xs2.length=xs1.length/\∀z∈xs2,z∈xs1:=by
      split at h2
      ·exact vl_ h2
      ·cases h2
       exact⟨rfl,fun _ h=>h⟩
     have e3:ys.length=xs2.length/\∀z∈ys,z∈xs2:=by
      split at h
      ·exact vl_ h
      ·cases h
       exact⟨rfl,fun _ h=>h⟩
     exact⟨e3.1.trans (e2.1.trans e1.1),fun z hz=>e1.2 z (e2.2 z (e3.2 z hz))⟩
  ·cases h
theorem halfW {u v:Nat}(h:u+v<4611686018427387904):IntKind.i64.wrap (sh (IntKind.u64.wrap ((u+v:Nat):Int)) 1)=(((u+v) / 2:Nat):Int):=by
 have e1:IntKind.u64.wrap ((u+v:Nat):Int)=((u+v:Nat):Int):=IntWalk.u64_in _ (by omega);have e2:sh ((u+v:Nat):Int) 1=(((u+v) / 2:Nat):Int):=by
  unfold sh;show((u+v:Nat):Int).fdiv 2=_;rw[Int.fdiv_eq_ediv_of_nonneg _ (by omega)];omega
 rw[e1,e2];exact w64 (by omega)
section
variable {g:FuncId}{caps:List AV}{S:GRef->Prop}{cf:GRef->GRef->Int}{ids:List Nat}{hp0:Hp}{br:Bool}{i ver L:Nat}
set_option maxRecDepth 4000 in
theorem tl_ (hc:CmpS Tryz.prog g caps (fun r:GRef=>.d (.ag (eGRef r)) br) S cf ids hp0)(hi:i∉ids)(hL2:L<4294967296):∀(f:Nat) {xs R:List GRef} {a m b nx:Nat} {hp:Hp},(∀j∈ids,hp j=hp0 j)->hp i=rowA xs ver br->(∀x∈xs,S x)->xs.length=L->symM (ltC cf) f xs a m b=some R->
  InlOK Tryz.prog 146 [.so i ver 0 L,.v (.int .i64 (a:Int)),.v (.int .i64 (m:Int)),.v (.int .i64 (b:Int)),.fn g caps] hp nx fun v hp2 nx2=>v= .tu []/\hp2=upd i (rowA R ver br) hp/\nx<=nx2:=by
 intro f;induction f with
 |zero=>intro xs R a m b nx hp _ _ _ _ h;cases h
 |succ f ih=>
  intro xs R a m b nx hp hh hx hS hL hR;unfold symM at hR;split at hR;rotate_left
  ·cases hR
  rename_i hamb;obtain⟨ham,hmb,hbL⟩:=hamb;refine qX_ qf_ Tryz.func146 (by rfl) (by kernel_rfl) (by kernel_rfl) (by exact Nat.le_of_ble_eq_true rfl) ?_;refine zsq (zsq ?_);refine ZT 1 ?_;by_cases h1:m-a=1
  ·rw[if_pos h1] at hR
   obtain⟨p,hb,hR⟩:=zbi hR;have c1:(((m-a:Nat):Int)==1)=true:=by rw[h1];rfl
   refine Z1 (And.intro (w64m (a:=m) (b:=a) (by omega) (by omega)) c1) ?_;refine qs_ (c:=true) rfl rfl ?_;refine zsq (ZT 1 ?_);refine Z0 ?_;refine zsq (ZT 1 ?_);refine Z0 ?_;refine zsq (zbk ?_)
   refine zlp (α:={ x:Nat × Nat × Nat × Nat // x.1<=x.2.1/\a<x.1/\x.2.1<=L/\nx<=x.2.2.1/\bsL (fun h=>(xs[h]?).bind fun x=>(xs[a]?).map fun y=>ltC cf x y) x.2.2.2 x.1 x.2.1=some p })
    (fun x=>⟨upd 0 (.so i ver 0 L) (upd 1 (.v (.int .i64 (a:Int))) (upd 4 (.fn g caps) (upd 10 (.v (.int .i64 (x.1.1:Int))) (upd 11 (.v (.int .i64 (x.1.2.1:Int))) noFr)))),hp,x.1.2.2.1⟩) (fun x=>x.1.2.2.2) ⟨(m,b,nx+4+2+2,xs.length+1),by show m<=b;omega,by show a<m;omega,by show b<=L;omega,by show nx<=nx+4+2+2;omega,hb⟩ ?_ ?_
   ·exact wkI (qa_ rfl (qa_ rfl (qa_ rfl (qa_ rfl (qa_ rfl (qh_ _))))))
   ·rintro⟨⟨u,v,nx1,f1⟩,g0,g1,g2,g3,g4⟩
    dsimp only at g0 g1 g2 g3 g4;obtain⟨f1,rfl⟩:∃f',f1=f'+1:=by
     cases f1 with
     |zero=>cases g4
     |succ f=>exact⟨f,rfl⟩
    unfold bsL at g4;refine zsq (zsq ?_);refine ZT 1 ?_;by_cases huv:u<v
    ·rw[if_pos huv] at g4
     obtain⟨bb,g5,g4⟩:=zbi g4;obtain⟨x,e1,g5⟩:=zbi g5;obtain⟨y,e2,rfl⟩:=Option.map_eq_some_iff.1 g5;have c2:(decide ((u:Int)<(v:Int)))=true:=decide_eq_true (by omega);refine Z1 c2 ?_;refine ZT 1 ?_;refine Z0 ?_;refine zbk ?_;refine zsq (ZT 1 ?_);refine Z1 (And.intro (w64p (a:=u) (b:=v) (by omega)) (halfW (u:=u) (v:=v) (by omega))) ?_
     obtain⟨w,ew⟩:∃w,w=(u+v) / 2:=⟨_,rfl⟩;have hw:u<=w/\w<v:=by omega
     rw[<-ew] at e1 g4⊢;have lx:=(List.getElem?_eq_some_iff.1 e1).1;have ly:=(List.getElem?_eq_some_iff.1 e2).1;refine zsq (ZT 1 ?_);have wf:=And.intro hx (And.intro (qn_ eGRef e1) (And.intro (qn_ eGRef e2) (And.intro (show(w<L)=True from eq_true (by omega)) (show(a<L)=True from eq_true (by omega)))));refine Z1 wf ?_
     obtain⟨nx3,q1,q2⟩:=hc x y (hS x (List.mem_of_getElem? e1)) (hS y (List.mem_of_getElem? e2)) (nx1+3+7+11);refine j1_ (δ:=[]) (q2 _ hh) ?_;refine Z0 ?_;refine qj_ (by rfl) ?_;refine Z0 ?_;refine ZT 1 ?_;rcases hlt:ltC cf x y with _ |_
     ·rw[hlt,if_neg (by simp)] at g4
      have c4:(decide (cf x y<0))=false:=hlt;refine Z1 c4 ?_;exact⟨⟨(u,w,_,f1),hw.1,g1,by show w<=L;omega,by show nx<=nx3+2;omega,g4⟩,wkI (qa_ rfl (qa_ rfl (qa_ rfl (qa_ rfl (qa_ rfl (qh_ _)))))),Nat.lt_succ_self f1⟩
     ·rw[hlt,if_pos rfl] at g4
      have c4:(decide (cf x y<0))=true:=hlt;refine Z1 (And.intro c4 (w64a (n:=w) (by omega))) ?_;exact⟨⟨(w+1,v,_,f1),by show w+1<=v;omega,by show a<w+1;omega,g2,by show nx<=nx3+3;omega,g4⟩,wkI (qa_ rfl (qa_ rfl (qa_ rfl (qa_ rfl (qa_ rfl (qh_ _)))))),Nat.lt_succ_self f1⟩
    ·rw[if_neg huv] at g4
     have g4:=Option.some.inj g4;subst g4;have c2:(decide ((u:Int)<(v:Int)))=false:=decide_eq_false (by omega);refine Z1 c2 ?_;refine ZT 1 ?_;refine Z0 ?_;refine zsq (zsq ?_);refine ZT 1 ?_;refine Z0 ?_;refine zbk ?_;refine zlp (α:={ x:Nat × List GRef × Nat // x.1<=u-1/\nx<=x.2.2/\x.2.1.length=L/\upS (u-1-x.1) x.2.1 x.1=some R })
      (fun x=>⟨upd 0 (.so i ver 0 L) (upd 10 (.v (.int .i64 (u:Int))) (upd 13 (.v (.int .i64 (x.1.1:Int))) noFr)),upd i (rowA x.1.2.1 ver br) hp,x.1.2.2⟩) (fun x=>u-1-x.1.1) ⟨(a,xs,nx1+3+2),by show a<=u-1;omega,by show nx<=nx1+3+2;omega,hL,hR⟩ ?_ ?_
     ·rw[qQ_ hx]
      exact wkI (qa_ rfl (qa_ rfl (qa_ rfl (qh_ _))))
     ·rintro⟨⟨k,ys,nx2⟩,t1,t2,t3,t4⟩
      dsimp only at t1 t2 t3 t4;have c3:IntKind.i64.wrap ((u:Int)-1)=((u-1:Nat):Int):=w64m (a:=u) (b:=1) (by omega) (by omega);refine zsq (zsq ?_);refine ZT 1 ?_;by_cases hk:k<u-1
      ·have c4:(decide ((k:Int)<((u-1:Nat):Int)))=true:=decide_eq_true (by omega)
       obtain⟨q,hq⟩:∃q,u-1-k=q+1:=⟨u-1-k-1,by omega⟩;rw[hq] at t4;unfold upS at t4;obtain⟨x,e1,t4⟩:=zbi t4;obtain⟨y,e2,t4⟩:=zbi t4;have lx:=(List.getElem?_eq_some_iff.1 e1).1;refine Z1 (And.intro c3 c4) ?_;refine ZT 1 ?_;refine Z0 ?_;refine zsq (zbk ?_);refine ZT 1 ?_;have e3:((ys.map eGRef).set k (eGRef x))[k+1]? =some (eGRef x):=by
        rw[List.getElem?_set_ne (by omega)];exact qn_ eGRef e1
       refine Z1 (And.intro (w64a (n:=k) (by omega)) (And.intro (qn_ eGRef e1) (And.intro (qn_ eGRef e2) (And.intro e3 (And.intro (show(k+1<L)=True from eq_true (by omega)) (show(k<L)=True from eq_true (by omega))))))) ?_;refine qj_ (by rfl) ?_;refine Z0 ?_;refine ZT 1 ?_;refine Z1 (w64a (n:=k) (by omega)) ?_
       refine⟨⟨(k+1,(ys.set k x).set (k+1) y,_),by show k+1<=u-1;omega,?_,by simpa using t3,by rw[show u-1-(k+1)=q by omega];exact t4⟩,wkH ?_ (qa_ rfl (qa_ rfl (qa_ rfl (qh_ _)))),by show u-1-(k+1)<u-1-k;omega⟩
       ·show nx<=nx2+4+18+3
        omega
       ·rw[qI_,qI_]
        show upd i (some (.rw (((ys.set k x).set (k+1) y).map eGRef) 3 ver br false)) hp=_;rw[List.map_set,List.map_set]
      ·have c4:(decide ((k:Int)<((u-1:Nat):Int)))=false:=decide_eq_false (by omega)
       rw[show u-1-k=0 by omega] at t4;cases t4;refine Z1 (And.intro c3 c4) ?_;refine ZT 1 ?_;refine Z0 ?_;refine ZT 1 ?_;refine Z0 ?_;exact⟨_,_,rfl,⟨fun _=>.inr rfl⟩,rfl,rfl,by show nx<=nx2+4;omega⟩
  ·rw[if_neg h1] at hR
   have c1:(((m-a:Nat):Int)==1)=false:=by simp;omega
   refine Z1 (And.intro (w64m (a:=m) (b:=a) (by omega) (by omega)) c1) ?_;refine qg_ (c:=false) rfl rfl ?_;refine ZT 1 ?_;refine Z0 ?_;refine zsq (zsq ?_);refine ZT 1 ?_;by_cases h2:b-m=1
   ·rw[if_pos h2] at hR
    obtain⟨p,hb,hR⟩:=zbi hR;have c1:(((b-m:Nat):Int)==1)=true:=by rw[h2];rfl
    refine Z1 (And.intro (w64m (a:=b) (b:=m) (by omega) (by omega)) c1) ?_;refine qs_ (c:=true) rfl rfl ?_;refine zsq (ZT 1 ?_);refine Z0 ?_;refine zsq (ZT 1 ?_);refine Z0 ?_;refine zsq (zbk ?_);refine zlp (α:={ x:Nat × Nat × Nat × Nat // x.1<=x.2.1/\x.2.1<=m/\nx<=x.2.2.1/\bsL (fun h=>(xs[m]?).bind fun x=>(xs[h]?).map fun y=> !ltC cf x y) x.2.2.2 x.1 x.2.1=some p })
     (fun x=>⟨upd 0 (.so i ver 0 L) (upd 2 (.v (.int .i64 (m:Int))) (upd 4 (.fn g caps) (upd 14 (.v (.int .i64 (x.1.1:Int))) (upd 15 (.v (.int .i64 (x.1.2.1:Int))) noFr)))),hp,x.1.2.2.1⟩) (fun x=>x.1.2.2.2) ⟨(a,m,nx+4+4+2+2,xs.length+1),by show a<=m;omega,Nat.le_refl m,by show nx<=nx+4+4+2+2;omega,hb⟩ ?_ ?_
    ·exact wkI (qa_ rfl (qa_ rfl (qa_ rfl (qa_ rfl (qa_ rfl (qh_ _))))))
    ·rintro⟨⟨u,v,nx1,f1⟩,g0,g2,g3,g4⟩
     dsimp only at g0 g2 g3 g4;obtain⟨f1,rfl⟩:∃f',f1=f'+1:=by
      cases f1 with
      |zero=>cases g4
      |succ f=>exact⟨f,rfl⟩
     unfold bsL at g4;refine zsq (zsq ?_);refine ZT 1 ?_;by_cases huv:u<v
     ·rw[if_pos huv] at g4
      obtain⟨bb,g5,g4⟩:=zbi g4;obtain⟨x,e1,g5⟩:=zbi g5;obtain⟨y,e2,rfl⟩:=Option.map_eq_some_iff.1 g5;have c2:(decide ((u:Int)<(v:Int)))=true:=decide_eq_true (by omega);refine Z1 c2 ?_;refine ZT 1 ?_;refine Z0 ?_;refine zbk ?_;refine zsq (ZT 1 ?_);refine Z1 (And.intro (w64p (a:=u) (b:=v) (by omega)) (halfW (u:=u) (v:=v) (by omega))) ?_
      obtain⟨w,ew⟩:∃w,w=(u+v) / 2:=⟨_,rfl⟩;have hw:u<=w/\w<v:=by omega
      rw[<-ew] at e2 g4⊢;have lx:=(List.getElem?_eq_some_iff.1 e1).1;have ly:=(List.getElem?_eq_some_iff.1 e2).1;refine zsq (ZT 1 ?_);have wf:=And.intro hx (And.intro (qn_ eGRef e1) (And.intro (qn_ eGRef e2) (And.intro (show(w<L)=True from eq_true (by omega)) (show(m<L)=True from eq_true (by omega)))));refine Z1 wf ?_
      obtain⟨nx3,q1,q2⟩:=hc x y (hS x (List.mem_of_getElem? e1)) (hS y (List.mem_of_getElem? e2)) (nx1+3+7+12);refine j1_ (δ:=[]) (q2 _ hh) ?_;refine Z0 ?_;refine qj_ (by rfl) ?_;refine Z0 ?_;refine ZT 1 ?_;rcases hlt:ltC cf x y with _ |_
      ·rw[hlt,if_pos (by rfl)] at g4
       have c4:(decide (cf x y<0))=false:=hlt;refine Z1 (And.intro c4 (w64a (n:=w) (by omega))) ?_;exact⟨⟨(w+1,v,_,f1),by show w+1<=v;omega,g2,by show nx<=nx3+3;omega,g4⟩,wkI (qa_ rfl (qa_ rfl (qa_ rfl (qa_ rfl (qa_ rfl (qh_ _)))))),Nat.lt_succ_self f1⟩
      ·rw[hlt,if_neg (by simp)] at g4
       have c4:(decide (cf x y<0))=true:=hlt;refine Z1 c4 ?_;exact⟨⟨(u,w,_,f1),hw.1,by show w<=m;omega,by show nx<=nx3+2;omega,g4⟩,wkI (qa_ rfl (qa_ rfl (qa_ rfl (qa_ rfl (qa_ rfl (qh_ _)))))),Nat.lt_succ_self f1⟩
     ·rw[if_neg huv] at g4
      have g4:=Option.some.inj g4;subst g4;have c2:(decide ((u:Int)<(v:Int)))=false:=decide_eq_false (by omega);refine Z1 c2 ?_;refine ZT 1 ?_;refine Z0 ?_;refine zsq (zsq ?_);refine ZT 1 ?_;refine Z0 ?_;refine zbk ?_;refine zlp (α:={ x:Nat × List GRef × Nat // u<=x.1/\x.1<=m/\nx<=x.2.2/\x.2.1.length=L/\dnS (x.1-u) x.2.1 x.1=some R })
       (fun x=>⟨upd 0 (.so i ver 0 L) (upd 14 (.v (.int .i64 (u:Int))) (upd 17 (.v (.int .i64 (x.1.1:Int))) noFr)),upd i (rowA x.1.2.1 ver br) hp,x.1.2.2⟩) (fun x=>x.1.1-u) ⟨(m,xs,nx1+3+2),by show u<=m;omega,Nat.le_refl m,by show nx<=nx1+3+2;omega,hL,hR⟩ ?_ ?_
      ·rw[qQ_ hx]
       exact wkI (qa_ rfl (qa_ rfl (qa_ rfl (qh_ _))))
      ·rintro⟨⟨k,ys,nx2⟩,t0,t1,t2,t3,t4⟩
       dsimp only at t0 t1 t2 t3 t4;refine zsq (zsq ?_);refine ZT 1 ?_;by_cases hk:u<k
       ·obtain⟨k,rfl⟩:∃k',k=k'+1:=⟨k-1,by omega⟩
        have c4:(decide (((k+1:Nat):Int) > (u:Int)))=true:=decide_eq_true (by omega);have c5:(decide ((u:Int)<((k+1:Nat):Int)))=true:=decide_eq_true (by omega);obtain⟨q,hq⟩:∃q,k+1-u=q+1:=⟨k-u,by omega⟩;rw[hq] at t4;unfold dnS at t4;obtain⟨x,e1,t4⟩:=zbi t4;obtain⟨y,e2,t4⟩:=zbi t4;have lx:=(List.getElem?_eq_some_iff.1 e2).1
        refine Z1 (And.intro c4 c5) ?_;refine ZT 1 ?_;refine Z0 ?_;refine zsq (zbk ?_);refine ZT 1 ?_;have e3:((ys.map eGRef).set (k+1) (eGRef x))[k]? =some (eGRef x):=by
         rw[List.getElem?_set_ne (by omega)];exact qn_ eGRef e1
        refine Z1 (And.intro (w64s (n:=k) (by omega)) (And.intro (qn_ eGRef e1) (And.intro (qn_ eGRef e2) (And.intro e3 (And.intro (show(k+1<L)=True from eq_true (by omega)) (show(k<L)=True from eq_true (by omega))))))) ?_;refine qj_ (by rfl) ?_;refine Z0 ?_;refine ZT 1 ?_;refine Z1 (w64s (n:=k) (by omega)) ?_
        refine⟨⟨(k,(ys.set (k+1) x).set k y,_),by show u<=k;omega,by show k<=m;omega,?_,by simpa using t3,by rw[show k-u=q by omega];exact t4⟩,wkH ?_ (qa_ rfl (qa_ rfl (qa_ rfl (qh_ _)))),by show k-u<k+1-u;omega⟩
        ·show nx<=nx2+3+18+3
         omega
        ·rw[qI_,qI_]
         show upd i (some (.rw (((ys.set (k+1) x).set k y).map eGRef) 3 ver br false)) hp=_;rw[List.map_set,List.map_set]
       ·have c4:(decide ((k:Int) > (u:Int)))=false:=decide_eq_false (by omega)
        have c5:(decide ((u:Int)<(k:Int)))=false:=decide_eq_false (by omega);rw[show k-u=0 by omega] at t4;cases t4;refine Z1 (And.intro c4 c5) ?_;refine ZT 1 ?_;refine Z0 ?_;refine ZT 1 ?_;refine Z0 ?_;exact⟨_,_,rfl,⟨fun _=>.inr rfl⟩,rfl,rfl,by show nx<=nx2+3;omega⟩
   ·rw[if_neg h2] at hR
    have c1:(((b-m:Nat):Int)==1)=false:=by simp;omega
    refine Z1 (And.intro (w64m (a:=b) (b:=m) (by omega) (by omega)) c1) ?_;refine qg_ (c:=false) rfl rfl ?_;refine ZT 1 ?_;refine Z0 ?_;obtain⟨mid,hmid⟩:∃mid,mid=(a+b) / 2:=⟨_,rfl⟩;rw[<-hmid] at hR;have hmb2:a<=mid/\mid<b:=by omega
    obtain⟨s0,hs0⟩:∃s0,s0=(if mid<m then mid+m-b else a):=⟨_,rfl⟩
    obtain⟨r0,hr0⟩:∃r0,r0=(if mid<m then mid else m):=⟨_,rfl⟩
    rw[<-hs0,<-hr0] at hR;obtain⟨st,hb,hR⟩:=zbi hR;have hmm:IntKind.i64.wrap (sh (IntKind.u64.wrap ((a+b:Nat):Int)) 1)=(mid:Int):=by
     rw[halfW (by omega),hmid]
    have hsr:s0<=r0/\a<=s0/\r0<=mid/\r0<=m/\mid+m-s0<=b:=by
     rw[hs0,hr0];split<;>omega
    have hst:=pW_ hb hsr.1;refine zsq (ZT 1 ?_);refine Z1 (And.intro (w64p (a:=a) (b:=b) (by omega)) hmm) ?_;refine zsq (ZT 1 ?_);refine Z1 (w64p (a:=mid) (b:=m) (by omega)) ?_;refine zsq (ZT 1 ?_);refine Z0 ?_
    refine zsq (zjn (α:={ k:Nat // nx<=k }) (fun y=>⟨upd 0 (.so i ver 0 L) (upd 1 (.v (.int .i64 (a:Int))) (upd 2 (.v (.int .i64 (m:Int))) (upd 3 (.v (.int .i64 (b:Int))) (upd 4 (.fn g caps) (upd 18 (.v (.int .i64 (mid:Int))) (upd 19 (.v (.int .i64 ((mid+m:Nat):Int))) (upd 20 (.v (.int .i64 (s0:Int))) (upd 21 (.v (.int .i64 (r0:Int))) noFr)))))))),hp,y.1⟩) ?_ ?_)
    ·refine zsq (ZT 1 ?_)
     by_cases hm2:mid<m
     ·have c3:(decide ((m:Int) > (mid:Int)))=true:=decide_eq_true (by omega)
      have c4:(decide ((mid:Int)<(m:Int)))=true:=decide_eq_true (by omega);rw[if_pos hm2] at hs0 hr0;refine Z1 (And.intro c3 c4) ?_;refine qs_ (c:=true) rfl rfl ?_;refine ZT 1 ?_;refine Z1 (w64m (a:=mid+m) (b:=b) (by omega) (by omega)) ?_;rw[<-hs0,hr0]
      exact⟨⟨nx+4+4+7+4+2+3+4+2,by omega⟩,wkI (qa_ rfl (qa_ rfl (qa_ rfl (qa_ rfl (qa_ rfl (qa_ rfl (qa_ rfl (qa_ rfl (qa_ rfl (qh_ _)))))))))) ⟩
     ·have c3:(decide ((m:Int) > (mid:Int)))=false:=decide_eq_false (by omega)
      have c4:(decide ((mid:Int)<(m:Int)))=false:=decide_eq_false (by omega);rw[if_neg hm2] at hs0 hr0;refine Z1 (And.intro c3 c4) ?_;refine qg_ (c:=false) rfl rfl ?_;refine ZT 1 ?_;refine Z0 ?_;rw[hs0,hr0];exact⟨⟨nx+4+4+7+4+2+3+2+2,by omega⟩,wkI (qa_ rfl (qa_ rfl (qa_ rfl (qa_ rfl (qa_ rfl (qa_ rfl (qa_ rfl (qa_ rfl (qa_ rfl (qh_ _)))))))))) ⟩
    ·rintro⟨nxj,hj⟩
     refine zsq (ZT 1 ?_);have c0:IntKind.i64.wrap (((mid+m:Nat):Int)-1)=((mid+m-1:Nat):Int):=w64m (a:=mid+m) (b:=1) (by omega) (by omega);refine Z1 c0 ?_;refine zsq (zbk ?_)
     refine zlp (α:={ x:Nat × Nat × Nat × Nat // x.1<=x.2.1/\s0<=x.1/\x.2.1<=r0/\nx<=x.2.2.1/\bsL (fun c=>(xs[mid+m-1-c]?).bind fun x=>(xs[c]?).map fun y=> !ltC cf x y) x.2.2.2 x.1 x.2.1=some st })
      (fun x=>⟨upd 0 (.so i ver 0 L) (upd 1 (.v (.int .i64 (a:Int))) (upd 2 (.v (.int .i64 (m:Int))) (upd 3 (.v (.int .i64 (b:Int))) (upd 4 (.fn g caps) (upd 18 (.v (.int .i64 (mid:Int))) (upd 19 (.v (.int .i64 ((mid+m:Nat):Int))) (upd 20 (.v (.int .i64 (x.1.1:Int))) (upd 21 (.v (.int .i64 (x.1.2.1:Int))) (upd 22 (.v (.int .i64 ((mid+m-1:Nat):Int))) noFr))))))))),hp,x.1.2.2.1⟩) (fun x=>x.1.2.2.2) ⟨(s0,r0,nxj+3,xs.length+1),hsr.1,Nat.le_refl s0,Nat.le_refl r0,by show nx<=nxj+3;omega,hb⟩ ?_ ?_
     ·exact wkI (qa_ rfl (qa_ rfl (qa_ rfl (qa_ rfl (qa_ rfl (qa_ rfl (qa_ rfl (qa_ rfl (qa_ rfl (qa_ rfl (qh_ _)))))))))))
     ·rintro⟨⟨u,v,nx1,f1⟩,g0,g1,g2,g3,g4⟩
      dsimp only at g0 g1 g2 g3 g4;obtain⟨f1,rfl⟩:∃f',f1=f'+1:=by
       cases f1 with
       |zero=>cases g4
       |succ f=>exact⟨f,rfl⟩
      unfold bsL at g4;refine zsq (zsq ?_);refine ZT 1 ?_;by_cases huv:u<v
      ·rw[if_pos huv] at g4
       obtain⟨bb,g5,g4⟩:=zbi g4;obtain⟨x,e1,g5⟩:=zbi g5;obtain⟨y,e2,rfl⟩:=Option.map_eq_some_iff.1 g5;have c2:(decide ((u:Int)<(v:Int)))=true:=decide_eq_true (by omega);refine Z1 c2 ?_;refine ZT 1 ?_;refine Z0 ?_;refine zbk ?_;refine zsq (ZT 1 ?_);refine Z1 (And.intro (w64p (a:=u) (b:=v) (by omega)) (halfW (u:=u) (v:=v) (by omega))) ?_
       obtain⟨w,ew⟩:∃w,w=(u+v) / 2:=⟨_,rfl⟩;have hw:u<=w/\w<v:=by omega
       rw[<-ew] at e1 e2 g4⊢;have lx:=(List.getElem?_eq_some_iff.1 e1).1;have ly:=(List.getElem?_eq_some_iff.1 e2).1;refine zsq (ZT 1 ?_)
       have wf:=And.intro (w64m (a:=mid+m-1) (b:=w) (by omega) (by omega)) (And.intro hx (And.intro (qn_ eGRef e1) (And.intro (qn_ eGRef e2) (And.intro (show(mid+m-1-w<L)=True from eq_true (by omega)) (show(w<L)=True from eq_true (by omega))))));refine Z1 wf ?_
       obtain⟨nx3,q1,q2⟩:=hc x y (hS x (List.mem_of_getElem? e1)) (hS y (List.mem_of_getElem? e2)) (nx1+3+7+14);refine j1_ (δ:=[]) (q2 _ hh) ?_;refine Z0 ?_;refine qj_ (by rfl) ?_;refine Z0 ?_;refine ZT 1 ?_;rcases hlt:ltC cf x y with _ |_
       ·rw[hlt,if_pos (by rfl)] at g4
        have c4:(decide (cf x y<0))=false:=hlt;refine Z1 (And.intro c4 (w64a (n:=w) (by omega))) ?_;exact⟨⟨(w+1,v,_,f1),by show w+1<=v;omega,by show s0<=w+1;omega,g2,by show nx<=nx3+3;omega,g4⟩,wkI (qa_ rfl (qa_ rfl (qa_ rfl (qa_ rfl (qa_ rfl (qa_ rfl (qa_ rfl (qa_ rfl (qa_ rfl (qa_ rfl (qh_ _))))))))))),Nat.lt_succ_self f1⟩
       ·rw[hlt,if_neg (by simp)] at g4
        have c4:(decide (cf x y<0))=true:=hlt;refine Z1 c4 ?_;exact⟨⟨(u,w,_,f1),hw.1,g1,by show w<=r0;omega,by show nx<=nx3+2;omega,g4⟩,wkI (qa_ rfl (qa_ rfl (qa_ rfl (qa_ rfl (qa_ rfl (qa_ rfl (qa_ rfl (qa_ rfl (qa_ rfl (qa_ rfl (qh_ _))))))))))),Nat.lt_succ_self f1⟩
      ·rw[if_neg huv] at g4
       have g4:=Option.some.inj g4;subst g4;have c2:(decide ((u:Int)<(v:Int)))=false:=decide_eq_false (by omega);refine Z1 c2 ?_;refine ZT 1 ?_;refine Z0 ?_;obtain⟨xs1,hR1,hR⟩:=zbi hR;obtain⟨xs2,hR2,hR⟩:=zbi hR;refine zsq (ZT 1 ?_);refine Z1 (w64m (a:=mid+m) (b:=u) (by omega) (by omega)) ?_;obtain⟨e,he⟩:∃e,e=mid+m-u:=⟨_,rfl⟩;rw[<-he] at hR1 hR⊢
       have hxs1:xs1.length=xs.length/\∀z∈xs1,z∈xs:=by
        split at hR1
        ·exact⟨yl_ hR1,fun z hz=>ym_ hR1 hz⟩
        ·cases hR1
         exact⟨rfl,fun _ h=>h⟩
       have hxs2:xs2.length=xs1.length/\∀z∈xs2,z∈xs1:=by
        split at hR2
        ·exact vl_ hR2
        ·cases hR2
         exact⟨rfl,fun _ h=>h⟩
       have hhu:∀ys:List GRef,∀j∈ids,upd i (rowA ys ver br) hp j=hp0 j:=fun ys j hj=>by
        have hne:j≠i:=fun h=>hi (by rw[<-h];exact hj);rw[qb_ _ _ hne];exact hh j hj
       refine zsq (zjn (α:={ k:Nat // nx<=k }) (fun y=>⟨upd 0 (.so i ver 0 L) (upd 1 (.v (.int .i64 (a:Int))) (upd 3 (.v (.int .i64 (b:Int))) (upd 4 (.fn g caps) (upd 18 (.v (.int .i64 (mid:Int))) (upd 20 (.v (.int .i64 (u:Int))) (upd 24 (.v (.int .i64 (e:Int))) noFr)))))),upd i (rowA xs1 ver br) hp,y.1⟩) ?_ ?_)
       ·refine zsq (ZT 1 ?_)
        by_cases k1:u<m
        ·have c5:(decide ((u:Int)<(m:Int)))=true:=decide_eq_true (by omega)
         by_cases k2:m<e
         ·have c6:(decide ((m:Int)<(e:Int)))=true:=decide_eq_true (by omega)
          refine Z1 (And.intro c5 c6) ?_;refine ZT 1 ?_;refine Z0 ?_;rw[if_pos ⟨k1,k2⟩] at hR1;refine qe_ ((rot_ok (cmp:=.fn g caps) hx hL hL2 (by omega) (by omega) (by omega) hR1).mono ?_);rintro v2 hp2 nx2 ⟨rfl,rfl,hle⟩;dsimp only at hle;refine Z0 ?_;exact⟨⟨nx2,by omega⟩,wkI (qa_ rfl (qa_ rfl (qa_ rfl (qa_ rfl (qa_ rfl (qa_ rfl (qa_ rfl (qh_ _))))))))⟩
         ·have c6:(decide ((m:Int)<(e:Int)))=false:=decide_eq_false (by omega)
          refine Z1 (And.intro c5 c6) ?_;rw[if_neg (fun h=>k2 h.2)] at hR1;cases hR1;refine qg_ (c:=false) rfl rfl ?_;refine ZT 1 ?_;refine Z0 ?_;exact⟨⟨_,by omega⟩,wkH (qQ_ hx) (qa_ rfl (qa_ rfl (qa_ rfl (qa_ rfl (qa_ rfl (qa_ rfl (qa_ rfl (qh_ _))))))))⟩
        ·have c5:(decide ((u:Int)<(m:Int)))=false:=decide_eq_false (by omega)
         refine Z1 c5 ?_;rw[if_neg (fun h=>k1 h.1)] at hR1;cases hR1;refine qg_ (c:=false) rfl rfl ?_;refine ZT 1 ?_;refine Z0 ?_;exact⟨⟨_,by omega⟩,wkH (qQ_ hx) (qa_ rfl (qa_ rfl (qa_ rfl (qa_ rfl (qa_ rfl (qa_ rfl (qa_ rfl (qh_ _))))))))⟩
       ·rintro⟨nxa,hna⟩
        have hx1:upd i (rowA xs1 ver br) hp i=rowA xs1 ver br:=qd_ _ _ _;have hx2:upd i (rowA xs2 ver br) hp i=rowA xs2 ver br:=qd_ _ _ _
        refine zsq (zjn (α:={ k:Nat // nx<=k }) (fun y=>⟨upd 0 (.so i ver 0 L) (upd 3 (.v (.int .i64 (b:Int))) (upd 4 (.fn g caps) (upd 18 (.v (.int .i64 (mid:Int))) (upd 24 (.v (.int .i64 (e:Int))) noFr)))),upd i (rowA xs2 ver br) hp,y.1⟩) ?_ ?_)
        ·refine zsq (ZT 1 ?_)
         by_cases k1:a<u
         ·have c5:(decide ((a:Int)<(u:Int)))=true:=decide_eq_true (by omega)
          by_cases k2:u<mid
          ·have c6:(decide ((u:Int)<(mid:Int)))=true:=decide_eq_true (by omega)
           refine Z1 (And.intro c5 c6) ?_;refine ZT 1 ?_;refine Z0 ?_;rw[if_pos ⟨k1,k2⟩] at hR2;refine qe_ ((ih (hhu xs1) hx1 (fun z hz=>hS z (hxs1.2 z hz)) (hxs1.1.trans hL) hR2).mono ?_);rintro v2 hp2 nx2 ⟨rfl,rfl,hle⟩;dsimp only at hle;refine Z0 ?_;rw[qI_];exact⟨⟨nx2,by omega⟩,wkI (qa_ rfl (qa_ rfl (qa_ rfl (qa_ rfl (qa_ rfl (qh_ _))))))⟩
          ·have c6:(decide ((u:Int)<(mid:Int)))=false:=decide_eq_false (by omega)
           refine Z1 (And.intro c5 c6) ?_;rw[if_neg (fun h=>k2 h.2)] at hR2;cases hR2;refine qg_ (c:=false) rfl rfl ?_;refine ZT 1 ?_;refine Z0 ?_;exact⟨⟨_,by omega⟩,wkI (qa_ rfl (qa_ rfl (qa_ rfl (qa_ rfl (qa_ rfl (qh_ _))))))⟩
         ·have c5:(decide ((a:Int)<(u:Int)))=false:=decide_eq_false (by omega)
          refine Z1 c5 ?_;rw[if_neg (fun h=>k1 h.1)] at hR2;cases hR2;refine qg_ (c:=false) rfl rfl ?_;refine ZT 1 ?_;refine Z0 ?_;exact⟨⟨_,by omega⟩,wkI (qa_ rfl (qa_ rfl (qa_ rfl (qa_ rfl (qa_ rfl (qh_ _))))))⟩
        ·rintro⟨nxb,hnb⟩
         refine zsq (ZT 1 ?_);by_cases k1:mid<e
         ·have c5:(decide ((mid:Int)<(e:Int)))=true:=decide_eq_true (by omega)
          by_cases k2:e<b
          ·have c6:(decide ((e:Int)<(b:Int)))=true:=decide_eq_true (by omega)
           refine Z1 (And.intro c5 c6) ?_;refine ZT 1 ?_;refine Z0 ?_;rw[if_pos ⟨k1,k2⟩] at hR;refine qe_ ((ih (hhu xs2) hx2 (fun z hz=>hS z (hxs1.2 z (hxs2.2 z hz))) (hxs2.1.trans (hxs1.1.trans hL)) hR).mono ?_);rintro v2 hp2 nx2 ⟨rfl,rfl,hle⟩;dsimp only at hle;refine Z0 ?_;rw[qI_];exact⟨_,_,rfl,⟨fun _=>.inr rfl⟩,rfl,rfl,by show nx<=nx2;omega⟩
          ·have c6:(decide ((e:Int)<(b:Int)))=false:=decide_eq_false (by omega)
           refine Z1 (And.intro c5 c6) ?_;rw[if_neg (fun h=>k2 h.2)] at hR;cases hR;refine qg_ (c:=false) rfl rfl ?_;refine ZT 1 ?_;refine Z0 ?_;exact⟨_,_,rfl,⟨fun _=>.inr rfl⟩,rfl,rfl,by show nx<=nxb+5+3;omega⟩
         ·have c5:(decide ((mid:Int)<(e:Int)))=false:=decide_eq_false (by omega)
          refine Z1 c5 ?_;rw[if_neg (fun h=>k1 h.1)] at hR;cases hR;refine qg_ (c:=false) rfl rfl ?_;refine ZT 1 ?_;refine Z0 ?_;exact⟨_,_,rfl,⟨fun _=>.inr rfl⟩,rfl,rfl,by show nx<=nxb+8;omega⟩
end
def blkM {α:Type}(lt:α->α->Bool)(F:Nat):Nat->List α->Nat->Nat->Option (List α × Nat)
 |0,_,_,_=>none
 |c+1,xs,a,b=>if b<=xs.length then(vb_ lt F xs a (a+1) b).bind fun ys=>blkM lt F c ys b (b+20) else some (xs,a)
def mrgM {α:Type}(lt:α->α->Bool)(F bs:Nat):Nat->List α->Nat->Nat->Option (List α × Nat)
 |0,_,_,_=>none
 |c+1,xs,a,b=>if b<=xs.length then(symM lt F xs a (a+bs) b).bind fun ys=>mrgM lt F bs c ys b (b+2*bs) else some (xs,a)
def rndM {α:Type}(lt:α->α->Bool)(F:Nat):Nat->List α->Nat->Option (List α)
 |0,_,_=>none
 |c+1,xs,bs=>if bs<xs.length then(mrgM lt F bs (xs.length+1) xs 0 (2*bs)).bind fun p=>(if p.2+bs<p.1.length then symM lt F p.1 p.2 (p.2+bs) p.1.length else some p.1).bind fun zs=>rndM lt F c zs (bs*2) else some xs
def sstM {α:Type}(lt:α->α->Bool)(F:Nat)(xs:List α):Option (List α):=
 (blkM lt F (xs.length+1) xs 0 20).bind fun p=>(vb_ lt F p.1 p.2 (p.2+1) p.1.length).bind fun zs=>rndM lt F (xs.length+1) zs 20
theorem vO_ {α:Type}{lt:α->α->Bool}{a b:Nat}:∀ {F i:Nat} {xs ys:List α},vb_ lt F xs a i b=some ys->ys.length=xs.length/\∀z∈ys,z∈xs
 |0,_,_,_,h=>by cases h
 |F+1,i,xs,ys,h=>by
  unfold vb_ at h;split at h
  ·obtain⟨zs,h1,h⟩:=zbi h
   have e:=vO_ h;exact⟨e.1.trans (dz_ h1),fun z hz=>dA_ h1 (e.2 z hz)⟩
  ·cases h
   exact⟨rfl,fun _ h=>h⟩
theorem br_ {α:Type}{lt:α->α->Bool}{F:Nat}:∀ {c a b:Nat} {xs:List α} {p:List α × Nat},blkM lt F c xs a b=some p->a<=xs.length->(p.1.length=xs.length/\∀z∈p.1,z∈xs)/\p.2<=xs.length
 |0,_,_,_,_,h,_=>by cases h
 |c+1,a,b,xs,p,h,ha=>by
  unfold blkM at h;split at h
  ·obtain⟨ys,h1,h⟩:=zbi h
   have e1:=vO_ h1;have e2:=br_ h (by omega);exact⟨⟨e2.1.1.trans e1.1,fun z hz=>e1.2 z (e2.1.2 z hz)⟩,by omega⟩
  ·cases h
   exact⟨⟨rfl,fun _ h=>h⟩,ha⟩
theorem bs_ {α:Type}{lt:α->α->Bool}{F bs:Nat}:∀ {c a b:Nat} {xs:List α} {p:List α × Nat},mrgM lt F bs c xs a b=some p->a<=xs.length->(p.1.length=xs.length/\∀z∈p.1,z∈xs)/\p.2<=xs.length
 |0,_,_,_,_,h,_=>by cases h
 |c+1,a,b,xs,p,h,ha=>by
  unfold mrgM at h;split at h
  ·obtain⟨ys,h1,h⟩:=zbi h
   have e1:=vl_ h1;have e2:=bs_ h (by omega);exact⟨⟨e2.1.1.trans e1.1,fun z hz=>e1.2 z (e2.1.2 z hz)⟩,by omega⟩
  ·cases h
   exact⟨⟨rfl,fun _ h=>h⟩,ha⟩
theorem w64d {n:Nat}(h:n<1152921504606846976):IntKind.i64.wrap (2*(n:Int))=((2*n:Nat):Int):=by
 rw[show 2*(n:Int)=((2*n:Nat):Int) by omega];exact w64 (by omega)
theorem w64e {n:Nat}(h:n<1152921504606846976):IntKind.i64.wrap ((n:Int)*2)=((n*2:Nat):Int):=by
 rw[show(n:Int)*2=((n*2:Nat):Int) by omega];exact w64 (by omega)
section
variable {g:FuncId}{caps:List AV}{S:GRef->Prop}{cf:GRef->GRef->Int}{ids:List Nat}{hp0:Hp}{br:Bool}{i ver L:Nat}
set_option maxRecDepth 4000 in
theorem stb_ok (hc:CmpS Tryz.prog g caps (fun r:GRef=>.d (.ag (eGRef r)) br) S cf ids hp0)(hi:i∉ids){xs R:List GRef}{F nx:Nat}{hp:Hp}(hh:∀j∈ids,hp j=hp0 j)(hx:hp i=rowA xs ver br)(hS:∀x∈xs,S x)(hL:xs.length=L)(hL2:L<4294967296)
  (hR:sstM (ltC cf) F xs=some R):
  InlOK Tryz.prog 124 [.so i ver 0 L,.v (.int .i64 (L:Int)),.fn g caps] hp nx fun v hp2 nx2=>v= .tu []/\hp2=upd i (rowA R ver br) hp/\nx<=nx2:=by
 unfold sstM at hR;obtain⟨⟨ys0,a0⟩,hB,hR⟩:=zbi hR;obtain⟨zs0,hZ,hR⟩:=zbi hR;dsimp only at hZ hR;have hhu:∀ys:List GRef,∀j∈ids,upd i (rowA ys ver br) hp j=hp0 j:=fun ys j hj=>by
  have hne:j≠i:=fun h=>hi (by rw[<-h];exact hj);rw[qb_ _ _ hne];exact hh j hj
 have hxu:∀ys:List GRef,upd i (rowA ys ver br) hp i=rowA ys ver br:=fun ys=>qd_ _ _ _;have lB:=br_ hB (Nat.zero_le _);have lZ:=vO_ hZ;refine qX_ qf_ Tryz.func124 (by rfl) (by kernel_rfl) (by kernel_rfl) (by exact Nat.le_of_ble_eq_true rfl) ?_;refine zsq (ZT 1 ?_);refine Z0 ?_;refine zsq (ZT 1 ?_);refine Z0 ?_;refine zsq (zbk ?_)
 refine zlp (α:={ x:List GRef × Nat × Nat × Nat × Nat // x.2.1<=L/\x.2.2.1<=L+20/\nx<=x.2.2.2.1/\(x.1.length=L/\∀z∈x.1,S z)/\blkM (ltC cf) F x.2.2.2.2 x.1 x.2.1 x.2.2.1=some (ys0,a0) })
  (fun x=>⟨upd 0 (.so i ver 0 L) (upd 1 (.v (.int .i64 (L:Int))) (upd 2 (.fn g caps) (upd 6 (.v (.int .i64 20)) (upd 7 (.v (.int .i64 (x.1.2.1:Int))) (upd 8 (.v (.int .i64 (x.1.2.2.1:Int))) noFr))))),upd i (rowA x.1.1 ver br) hp,x.1.2.2.2.1⟩) (fun x=>x.1.2.2.2.2) ⟨(xs,0,20,nx+1+3,xs.length+1),Nat.zero_le _,by show 20<=L+20;omega,by show nx<=nx+1+3;omega,⟨hL,hS⟩,hB⟩ ?_ ?_
 ·rw[qQ_ hx]
  exact wkI (qa_ rfl (qa_ rfl (qa_ rfl (qa_ rfl (qa_ rfl (qa_ rfl (qh_ _)))))))
 ·rintro⟨⟨ys,a,b,nx1,f1⟩,g0,g1,g2,g3,g4⟩
  dsimp only at g0 g1 g2 g3 g4;obtain⟨f1,rfl⟩:∃f',f1=f'+1:=by
   cases f1 with
   |zero=>cases g4
   |succ f=>exact⟨f,rfl⟩
  unfold blkM at g4;refine zsq (zsq ?_);refine ZT 1 ?_;by_cases hb:b<=L
  ·rw[if_pos (by omega)] at g4
   obtain⟨ys1,h1,g4⟩:=zbi g4;have l1:=vO_ h1;have c1:(decide ((b:Int)<=(L:Int)))=true:=decide_eq_true (by omega);refine Z1 c1 ?_;refine ZT 1 ?_;refine Z0 ?_;refine zbk ?_;refine zsq (ZT 1 ?_);refine Z0 ?_;refine qe_ ((tj_ (a:=a) (b:=b) hc hi (hhu ys) (hxu ys) g3.2 g3.1 (by omega) (by omega) h1).mono ?_);rintro v2 hp2 nx2 ⟨rfl,rfl,hle⟩;dsimp only at hle;refine Z0 ?_
   refine ZT 1 ?_;have c2:IntKind.i64.wrap ((b:Int)+20)=((b+20:Nat):Int):=w64p (a:=b) (b:=20) (by omega);refine Z1 c2 ?_;rw[qI_]
   exact⟨⟨(ys1,b,b+20,_,f1),hb,by show b+20<=L+20;omega,by show nx<=nx2+2+4;omega,⟨l1.1.trans g3.1,fun z hz=>g3.2 z (l1.2 z hz)⟩,g4⟩,wkI (qa_ rfl (qa_ rfl (qa_ rfl (qa_ rfl (qa_ rfl (qa_ rfl (qh_ _))))))),Nat.lt_succ_self f1⟩
  ·rw[if_neg (by omega)] at g4
   cases g4;have c1:(decide ((b:Int)<=(L:Int)))=false:=decide_eq_false (by omega);refine Z1 c1 ?_;refine ZT 1 ?_;refine Z0 ?_;refine zsq (ZT 1 ?_);refine Z0 ?_;rw[g3.1] at hZ;refine qe_ ((tj_ (a:=a0) (b:=L) hc hi (hhu ys0) (hxu ys0) g3.2 g3.1 (by omega) (by omega) hZ).mono ?_);rintro v2 hp2 nx2 ⟨rfl,rfl,hle⟩;dsimp only at hle;refine Z0 ?_;refine zbk ?_;rw[qI_]
   refine zlp (α:={ x:List GRef × Nat × Nat × Nat // x.2.1<9223372036854775808 / 16/\nx<=x.2.2.1/\(x.1.length=L/\∀z∈x.1,S z)/\rndM (ltC cf) F x.2.2.2 x.1 x.2.1=some R })
    (fun x=>⟨upd 0 (.so i ver 0 L) (upd 1 (.v (.int .i64 (L:Int))) (upd 2 (.fn g caps) (upd 6 (.v (.int .i64 (x.1.2.1:Int))) noFr))),upd i (rowA x.1.1 ver br) hp,x.1.2.2.1⟩) (fun x=>x.1.2.2.2) ⟨(zs0,20,nx2,xs.length+1),by show(20:Nat)<9223372036854775808 / 16;decide,by show nx<=nx2;omega,⟨lZ.1.trans g3.1,fun z hz=>g3.2 z (lZ.2 z hz)⟩,hR⟩ ?_ ?_
   ·exact wkI (qa_ rfl (qa_ rfl (qa_ rfl (qa_ rfl (qh_ _)))))
   ·rintro⟨⟨us,bs,nx3,f2⟩,t0,t1,t2,t3⟩
    dsimp only at t0 t1 t2 t3;obtain⟨f2,rfl⟩:∃f',f2=f'+1:=by
     cases f2 with
     |zero=>cases t3
     |succ f=>exact⟨f,rfl⟩
    unfold rndM at t3;refine zsq (zsq ?_);refine ZT 1 ?_;by_cases hbs:bs<L
    ·rw[if_pos (by omega)] at t3
     obtain⟨⟨vs,a1⟩,h1,t3⟩:=zbi t3;obtain⟨ws,h2,t3⟩:=zbi t3;dsimp only at h2 t3;have l1:=bs_ h1 (Nat.zero_le _);have c1:(decide ((bs:Int)<(L:Int)))=true:=decide_eq_true (by omega);refine Z1 c1 ?_;refine ZT 1 ?_;refine Z0 ?_;refine zbk ?_;refine zsq (ZT 1 ?_);refine Z1 (w64d (n:=bs) (by omega)) ?_;refine zsq (zbk ?_)
     refine zlp (α:={ x:List GRef × Nat × Nat × Nat × Nat // x.2.1<=L/\x.2.2.1<=L+2*bs/\nx<=x.2.2.2.1/\(x.1.length=L/\∀z∈x.1,S z)/\mrgM (ltC cf) F bs x.2.2.2.2 x.1 x.2.1 x.2.2.1=some (vs,a1) })
      (fun x=>⟨upd 0 (.so i ver 0 L) (upd 1 (.v (.int .i64 (L:Int))) (upd 2 (.fn g caps) (upd 6 (.v (.int .i64 (bs:Int))) (upd 7 (.v (.int .i64 (x.1.2.1:Int))) (upd 8 (.v (.int .i64 (x.1.2.2.1:Int))) noFr))))),upd i (rowA x.1.1 ver br) hp,x.1.2.2.2.1⟩) (fun x=>x.1.2.2.2.2) ⟨(us,0,2*bs,nx3+3+4,us.length+1),Nat.zero_le _,by show 2*bs<=L+2*bs;omega,by show nx<=nx3+3+4;omega,t2,h1⟩ ?_ ?_
     ·exact wkI (qa_ rfl (qa_ rfl (qa_ rfl (qa_ rfl (qa_ rfl (qa_ rfl (qh_ _)))))))
     ·rintro⟨⟨qs,a,b,nx4,f3⟩,u0,u1,u2,u3,u4⟩
      dsimp only at u0 u1 u2 u3 u4;obtain⟨f3,rfl⟩:∃f',f3=f'+1:=by
       cases f3 with
       |zero=>cases u4
       |succ f=>exact⟨f,rfl⟩
      unfold mrgM at u4;refine zsq (zsq ?_);refine ZT 1 ?_;by_cases hb:b<=L
      ·rw[if_pos (by omega)] at u4
       obtain⟨qs1,h3,u4⟩:=zbi u4;have l2:=vl_ h3;have c2:(decide ((b:Int)<=(L:Int)))=true:=decide_eq_true (by omega);refine Z1 c2 ?_;refine ZT 1 ?_;refine Z0 ?_;refine zbk ?_;refine zsq (ZT 1 ?_);refine Z1 (w64p (a:=a) (b:=bs) (by omega)) ?_;refine qe_ ((tl_ hc hi hL2 F (hhu qs) (hxu qs) u3.2 u3.1 h3).mono ?_);rintro v2 hp2 nx5 ⟨rfl,rfl,hle5⟩;dsimp only at hle5
       have c3:IntKind.i64.wrap ((b:Int)+((2*bs:Nat):Int))=((b+2*bs:Nat):Int):=w64p (a:=b) (b:=2*bs) (by omega);refine Z0 ?_;refine ZT 1 ?_;refine Z1 (And.intro (w64d (n:=bs) (by omega)) c3) ?_;rw[qI_]
       exact⟨⟨(qs1,b,b+2*bs,_,f3),hb,by show b+2*bs<=L+2*bs;omega,by show nx<=nx5+2+5;omega,⟨l2.1.trans u3.1,fun z hz=>u3.2 z (l2.2 z hz)⟩,u4⟩,wkI (qa_ rfl (qa_ rfl (qa_ rfl (qa_ rfl (qa_ rfl (qa_ rfl (qh_ _))))))),Nat.lt_succ_self f3⟩
      ·rw[if_neg (by omega)] at u4
       cases u4;have c2:(decide ((b:Int)<=(L:Int)))=false:=decide_eq_false (by omega);refine Z1 c2 ?_;refine ZT 1 ?_;refine Z0 ?_;refine zsq ?_;rw[u3.1] at h2;have l2:ws.length=vs.length/\∀z∈ws,z∈vs:=by
        split at h2
        ·exact vl_ h2
        ·cases h2
         exact⟨rfl,fun _ h=>h⟩
       refine zjn (α:={ k:Nat // nx<=k }) (fun y=>⟨upd 0 (.so i ver 0 L) (upd 1 (.v (.int .i64 (L:Int))) (upd 2 (.fn g caps) (upd 6 (.v (.int .i64 (bs:Int))) noFr))),upd i (rowA ws ver br) hp,y.1⟩) ?_ ?_
       ·refine zsq (ZT 1 ?_)
        refine Z1 (w64p (a:=a1) (b:=bs) (by omega)) ?_;refine zsq (ZT 1 ?_);by_cases k1:a1+bs<L
        ·have c5:(decide (((a1+bs:Nat):Int)<(L:Int)))=true:=decide_eq_true (by omega)
         refine Z1 c5 ?_;refine ZT 1 ?_;refine Z0 ?_;rw[if_pos k1] at h2;refine qe_ ((tl_ hc hi hL2 F (hhu vs) (hxu vs) u3.2 u3.1 h2).mono ?_);rintro v2 hp2 nx5 ⟨rfl,rfl,hle5⟩;dsimp only at hle5;refine Z0 ?_;rw[qI_];exact⟨⟨nx5,by omega⟩,wkI (qa_ rfl (qa_ rfl (qa_ rfl (qa_ rfl (qh_ _)))))⟩
        ·have c5:(decide (((a1+bs:Nat):Int)<(L:Int)))=false:=decide_eq_false (by omega)
         refine Z1 c5 ?_;rw[if_neg k1] at h2;cases h2;refine qg_ (c:=false) rfl rfl ?_;refine ZT 1 ?_;refine Z0 ?_;exact⟨⟨_,by omega⟩,wkI (qa_ rfl (qa_ rfl (qa_ rfl (qa_ rfl (qh_ _)))))⟩
       ·rintro⟨nx6,h6⟩
        refine ZT 1 ?_;refine Z1 (w64e (n:=bs) (by omega)) ?_;exact⟨⟨(ws,bs*2,_,f2),by show bs*2<9223372036854775808 / 16;omega,by show nx<=nx6+3;omega,⟨l2.1.trans u3.1,fun z hz=>u3.2 z (l2.2 z hz)⟩,t3⟩,wkI (qa_ rfl (qa_ rfl (qa_ rfl (qa_ rfl (qh_ _))))),Nat.lt_succ_self f2⟩
    ·rw[if_neg (by omega)] at t3
     cases t3;have c1:(decide ((bs:Int)<(L:Int)))=false:=decide_eq_false (by omega);refine Z1 c1 ?_;refine ZT 1 ?_;refine Z0 ?_;exact⟨_,_,rfl,⟨fun _=>.inr rfl⟩,rfl,rfl,by show nx<=nx3+3;omega⟩
theorem sst_ok (hc:CmpS Tryz.prog g caps (fun r:GRef=>.d (.ag (eGRef r)) br) S cf ids hp0)(hi:i∉ids){xs R:List GRef}{F nx:Nat}{hp:Hp}(hh:∀j∈ids,hp j=hp0 j)(hx:hp i=rowA xs ver br)(hS:∀x∈xs,S x)(hL:xs.length=L)(hL2:L<4294967296)
  (hR:sstM (ltC cf) F xs=some R):
  InlOK Tryz.prog 97 [.so i ver 0 L,.fn g caps] hp nx fun v hp2 nx2=>v= .tu []/\hp2=upd i (rowA R ver br) hp/\nx<=nx2:=by
 refine qN_ qf_ fol Tryz.func97 (by rfl) (by kernel_rfl) (by kernel_rfl) (by exact Nat.le_of_ble_eq_true rfl) ?_;refine Z0 ?_;refine qe_ (InlOK.mono (stb_ok hc hi hh hx hS hL hL2 hR) fun v hp2 nx2 h=> ?_);obtain⟨rfl,rfl,h⟩:=h;have h:nx+5<=nx2:=h;refine Z0 ?_;exact⟨_,_,rfl,⟨fun _=>.inr rfl⟩,rfl,rfl,by show nx<=nx2;omega⟩
end
def dB_ (d r:GRef)(N:List PN):List PN:=N.map fun n=>if d==n.k then{ n with above:=n.above++[r] } else n
def setIs (d:GRef)(N:List PN):List PN:=N.map fun n=>if d==n.k then{ n with is:=true } else n
def aboD (r:GRef):List GRef->List PN->Option (List PN)
 |[],N=>some N
 |d::l,N=>(jd_ d N).bind fun n=>if n.above.length<4294967296 then aboD r l (dB_ d r N) else none
def aboM:List GRef->List PN->Option (List PN)
 |[],N=>some N
 |r::l,N=>(jd_ r N).bind fun n=>if n.deps.length<=4294967296 then(aboD r n.deps N).bind fun N=>aboM l N else none
def uU_ (nw:List PN->GRef->Option Bool)(rank:Int):Nat->List PN->List GRef->Option (List PN)
 |0,_,_=>none
 |_+1,N,[]=>some N
 |f+1,N,r::w=>(jd_ r N).bind fun x=>if x.rank != rank then uU_ nw rank f N w else if x.is then uU_ nw rank f N w else(nw N r).bind fun b=>if b then(if w.length+x.above.length<=4294967296 then uU_ nw rank f (setIs r N) (x.above.reverse++w) else none) else uU_ nw rank f N w
def dC_ (nw:List PN->GRef->Option Bool)(f:Nat):List GRef->List PN->Option (List PN)
 |[],N=>some N
 |r::l,N=>(jd_ r N).bind fun x=>(uU_ nw x.rank f N [r]).bind fun N=>dC_ nw f l N
def updN (d:GRef)(n':Nd)(N:List Nd):List Nd:=N.map fun x=>if d==x.k then n' else x
theorem v4_ {d:GRef}{n':Nd}{N:List Nd}{x:Nd}(h:x∈updN d n' N):(x=n'/\∃y∈N,y.k=d)\/(x∈N/\x.k≠d):=by
 obtain⟨y,h1,h2⟩:=List.mem_map.1 h;by_cases e:(d==y.k)=true
 ·rw[if_pos e] at h2
  exact .inl ⟨h2.symm,y,h1,(eq_of_beq e).symm⟩
 ·rw[if_neg e] at h2
  subst h2;exact .inr ⟨h1,fun e2=>e (by rw[e2];exact beq_self_eq_true _)⟩
theorem fw_ {d:GRef}{n n':Nd}(hk:n'.k=n.k)(hi:n'.id=n.id):∀ {N:List Nd},(∀x∈N,x.k=d->x=n)->ixN (updN d n' N)=ixN N
 |[],_=>rfl
 |x::l,h=>by
  have ih:=fw_ (n':=n') hk hi (N:=l) fun y hy=>h y (List.mem_cons_of_mem _ hy);show(_,_)::ixN (updN d n' l)=(_,_)::ixN l;rw[ih];dsimp only;by_cases e:(d==x.k)=true
  ·have:=h x (List.mem_cons_self ..) (eq_of_beq e).symm
   rw[if_pos e,hk,hi,this]
  ·rw[if_neg e]
theorem yh_ {N:List Nd}(h:(N.map (·.k)).Nodup){x y:Nd}(hx:x∈N)(hy:y∈N)(e:x.k=y.k):x=y:=by
 induction N with
 |nil=>cases hx
 |cons a l ih=>
  rw[List.map_cons,List.nodup_cons] at h;rcases List.mem_cons.1 hx with h1 |h1<;>rcases List.mem_cons.1 hy with h2 |h2
  ·rw[h1,h2]
  ·rw[h1] at e
   exact absurd (e▸List.mem_map_of_mem h2) h.1
  ·rw[h2] at e
   exact absurd (e▸List.mem_map_of_mem h1) h.1
  ·exact ih h.2 h1 h2
theorem cY_ {N:List Nd}(h:(N.map (·.id)).Nodup){x y:Nd}(hx:x∈N)(hy:y∈N)(e:x.id=y.id):x=y:=by
 induction N with
 |nil=>cases hx
 |cons a l ih=>
  rw[List.map_cons,List.nodup_cons] at h;rcases List.mem_cons.1 hx with h1 |h1<;>rcases List.mem_cons.1 hy with h2 |h2
  ·rw[h1,h2]
  ·rw[h1] at e
   exact absurd (e▸List.mem_map_of_mem h2) h.1
  ·rw[h2] at e
   exact absurd (e▸List.mem_map_of_mem h1) h.1
  ·exact ih h.2 h1 h2
theorem ixN_k {N M:List Nd}(h:ixN M=ixN N):M.map (·.k)=N.map (·.k):=by
 have:=congrArg (List.map Prod.fst) h
 simpa [ixN,Function.comp_def] using this
theorem tk_ {N M:List Nd}(h:ixN M=ixN N):M.map (·.id)=N.map (·.id):=by
 have:=congrArg (List.map Prod.snd) h
 simp only[ixN,List.map_map] at this
 have:=congrArg (List.map fun o=>o.getD 0) this
 simpa [Function.comp_def] using this
theorem InvN.set {hp hp':Hp}{m:Nat}{d:GRef}{n n':Nd}{N:List Nd}(h:InvN hp m N)(hf:zw_ d N=some n)(hk:n'.k=n.k)(hi:n'.id=n.id)(em:hp' m=hp m)(eb:hp' n.id=some (boxN n'))
  (eo:∀x∈N,x.k≠d->hp' x.id=hp x.id) (er:n'.above≠[]->hp' n'.rid=accO 3 n'.ver false (n'.above.map eGRef)) (eq:∀x∈N,x.k≠d->x.above≠[]->hp' x.rid=hp x.rid/\(n'.above≠[]->n'.rid≠x.rid)):InvN hp' m (updN d n' N):=by
 obtain⟨hn,hd⟩:=xf_ hf;have hix:=fw_ (n':=n') hk hi (N:=N) fun x hx e=>yh_ h.keys hx hn (e.trans hd.symm);refine⟨?_,fun x hx=> ?_,fun x hx ha=> ?_,?_,?_,fun x hx y hy h1 h2 e=> ?_⟩
 ·rw[em,h.map]
  unfold mapN;rw[hix]
 ·rcases v4_ hx with⟨e1,_⟩ |⟨hx2,hne⟩
  ·rw[e1,hi,eb]
  ·rw[eo x hx2 hne,h.box x hx2]
 ·rcases v4_ hx with⟨e1,_⟩ |⟨hx2,hne⟩
  ·rw[e1] at ha⊢
   exact er ha
  ·rw[(eq x hx2 hne ha).1,h.row x hx2 ha]
 ·rw[ixN_k hix]
  exact h.keys
 ·rw[tk_ hix]
  exact h.ids
 ·rcases v4_ hx with⟨e1,_⟩ |⟨hx2,hne⟩<;>rcases v4_ hy with⟨e2,_⟩ |⟨hy2,hne2⟩
  ·rw[e1,e2]
  ·rw[e1] at e h1
   exact absurd e ((eq y hy2 hne2 h2).2 h1)
  ·rw[e2] at e h2
   exact absurd e.symm ((eq x hx2 hne h1).2 h2)
  ·exact h.rids x hx2 y hy2 h1 h2 e
theorem fx_ {d:GRef}{n n':Nd}{g:PN->PN}(hg:n'.toPN=g n.toPN):∀ {N:List Nd},(∀x∈N,x.k=d->x=n)->pns (updN d n' N)=(pns N).map fun x=>if d==x.k then g x else x
 |[],_=>rfl
 |x::l,h=>by
  have ih:=fx_ hg (N:=l) fun y hy=>h y (List.mem_cons_of_mem _ hy);show Nd.toPN _::pns (updN d n' l)=_::(pns l).map _;rw[ih];dsimp only;by_cases e:(d==x.k)=true
  ·have:=h x (List.mem_cons_self ..) (eq_of_beq e).symm
   rw[if_pos e,if_pos e,hg,this]
  ·rw[if_neg e,if_neg e]
end Go.Proofs.YtnmkbmefohakmaaGreat.Ab
