/-
 The ways from a relation.
-/
import Derived.Test.YtnmkbmefohakmaaGreatPrl
set_option linter.all false
namespace Go.Proofs.YtnmkbmefohakmaaGreat.Ab
open Go.RowKit
theorem Xm (x:Ae)(s:AY)(a:Int):(C5 x s a).l=x.l:=by
 unfold C5;split
 ·split
  ·rfl
  rfl
 rfl
theorem js {n:Nat}{ex:Ae->Option Ae}(hex:∀x y,ex x=some y->y.l=x.l){x y:Ae}(h:EB n ex x=some y):y.l=x.l:=by
 unfold EB at h;split at h;rotate_left
 ·cases h
 split at h
 ·split at h
  ·cases h;exact(He x 10).1
  obtain⟨z,h1,h⟩:=AJ h;split at h
  ·cases h;have e1:=hex _ _ h1;exact(VF z Gz).1.trans e1
  cases h
 obtain⟨r,h1,h⟩:=AJ h;split at h
 ·obtain⟨s,h2,h⟩:=AJ h;cases h;exact(Xm _ _ _).trans ((Hg h2).1.trans (Hg h1).1)
 cases h;exact(Xm _ _ _).trans (Hg h1).1
theorem jt {n:Nat}{ex:Ae->Option Ae}(hex:∀x y,ex x=some y->y.l=x.l):∀(c:Nat) {x y:Ae},GQ n ex c x=some y->y.l=x.l
 |0,_,_,h=>by cases h
 |c+1,x,y,h=>by
  unfold GQ at h;split at h;rotate_left
  ·cases h
  split at h
  ·obtain⟨z,h1,h⟩:=AJ h;split at h
   ·have e2:=js hex h1;exact(jt hex c h).trans ((Xm _ _ _).trans e2)
   cases h
  cases h;rfl
theorem ju {n c:Nat}{ex:Ae->Option Ae}(hex:∀x y,ex x=some y->y.l=x.l){x y:Ae}(h:FQ n ex c x=some y):y.l=x.l:=by
 unfold FQ at h;obtain⟨z,h1,h⟩:=AJ h;exact(jt hex c h).trans (js hex h1)
theorem jv {trm:Ae->Option Ae}(ht:∀x y,trm x=some y->y.l=x.l):∀(c:Nat) {x y:Ae},Fd trm c x=some y->y.l=x.l
 |0,_,_,h=>by cases h
 |c+1,x,y,h=>by
  unfold Fd at h;split at h;rotate_left
  ·cases h
  split at h
  ·obtain⟨z,h1,h⟩:=AJ h;split at h
   ·have e2:=ht _ _ h1;exact(jv ht c h).trans ((Xm _ _ _).trans e2)
   cases h
  cases h;rfl
theorem bM {n c:Nat}:∀(f:Nat) (x y:Ae),EZ n c f x=some y->y.l=x.l
 |0,_,_,h=>by cases h
 |f+1,x,y,h=>by
  unfold EZ at h;obtain⟨z,h1,h⟩:=AJ h;exact(jv (fun x y h=>ju (bM f) h) c h).trans (ju (bM f) h1)
theorem jw {n:Nat}:∀(c:Nat) {x:Ae} {ss:List AL} {y:Ae × List AL},GR n c x ss=some y->y.1.l=x.l
 |0,_,_,_,h=>by cases h
 |c+1,x,ss,y,h=>by
  unfold GR at h;split at h;rotate_left
  ·cases h
  split at h;rotate_left
  ·cases h;rfl
  obtain⟨r1,h1,h⟩:=AJ h;have e1:r1.1.l=x.l:=by
   have:=(Hg h1).1;split at this
   ·exact this.trans (He x 8).1
   exact this
  obtain⟨r2,h2,h⟩:=AJ h;have e2:r2.1.l=r1.1.l:=by
   split at h2
   ·exact(Hg h2).1
   cases h2;rfl
  split at h
  ·have e3:=jw c h;exact e3.trans (e2.trans e1)
  cases h;exact(VF _ _).1.trans (e2.trans e1)
theorem jx {n c f:Nat}{x:Ae}{y:Ae × Ac}(h:EJ n c f x=some y):y.1.l=x.l:=by
 unfold EJ at h;split at h;rotate_left
 ·cases h
 obtain⟨r,h1,h⟩:=AJ h;have e1:=(Hg h1).1;split at h
 ·obtain⟨z,h2,h⟩:=AJ h;split at h
  ·cases h;have e2:=bM f _ _ h2;exact(VF _ _).1.trans (e2.trans e1)
  cases h
 obtain⟨p,h2,rfl⟩:=La.1 h;exact(jw c h2).trans ((VF _ _).1.trans e1)
def Gk (f:Nat->Nat)(a:Cd):Cd:=if a.g then⟨[DN],a.ks.map f,true⟩ else HH f a
theorem So {f:Nat->Nat}{a:Cd}:(Gk f a).ks=a.ks.map f:=by
 unfold Gk;split
 ·rfl
 rfl
theorem PG {f:Nat->Nat}{a:Cd}:(Gk f a).g=a.g:=by
 unfold Gk;split
 ·rename_i h;exact h.symm
 rfl
theorem bK {f:Nat->Nat}{a:Cd}(h:a.g=true):Eu (Gk f a)=true:=by
 unfold Gk;rw[if_pos h];simp[Eu]
theorem jo {a:Cd}(h:Eu a=true):a.g=true:=by
 unfold Eu at h;rw[Li] at h;exact h.1
theorem tl {xs ys:List Nat}(h:DM xs ys=true):xs≠[]/\ys≠[]:=by
 unfold DM at h;simp only[Nm,Bm] at h;obtain⟨i,h1,h2⟩:=h;exact⟨Ib h1,Ib h2⟩
theorem jp {f:Nat->Nat}{a b:Cd}(h:DM a.ks b.ids=true):DM (Gk f a).ks (Gk f b).ids=true\/(Eu (Gk f b)=true/\(Gk f a).ks≠[]):=by
 cases hb:b.g with
 |true=>exact .inr ⟨bK hb,by rw[So];simpa using(tl h).1⟩
 |false=>
  refine .inl ?_;rw[So];unfold Gk;rw[hb,if_neg (by decide)];exact Xx h
theorem tm {xs ys zs:List Nat}:DM xs (ys++zs)=(DM xs ys||DM xs zs):=by
 unfold DM;rw[NF];simp only[Nm,Bm,Ls,LP];constructor
 ·rintro⟨i,h1,h2 |h2⟩
  ·exact .inl ⟨i,h1,h2⟩
  exact .inr ⟨i,h1,h2⟩
 rintro(⟨i,h1,h2⟩ |⟨i,h1,h2⟩)
 ·exact⟨i,h1,.inl h2⟩
 exact⟨i,h1,.inr h2⟩
theorem tv {f:Nat->Nat}{a b:Cd}(h:FL a b=true):FL (Gk f a) (Gk f b)=true:=by
 simp only[FL,IF,tm,LP,Li,NJ,List.isEmpty_eq_false_iff] at h⊢;rcases h with((((h |h) |h) |h) |h |h)
 ·rcases jp (f:=f) h with h1 |h1
  ·exact .inl (.inl (.inl (.inl h1)))
  exact .inr (.inr h1)
 ·exact .inl (.inl (.inl (.inr (by rw[So,So];exact Xx h))))
 ·rcases jp (f:=f) h with h1 |h1
  ·exact .inl (.inl (.inr h1))
  exact .inr (.inl h1)
 ·exact .inl (.inr ⟨by rw[PG];exact h.1,by rw[PG];exact h.2⟩)
 ·exact .inr (.inl ⟨bK (jo h.1),by rw[So];simpa using h.2⟩)
 exact .inr (.inr ⟨bK (jo h.1),by rw[So];simpa using h.2⟩)
theorem tw {f:Nat->Nat}{ops:Array Oper}{rs:List Cd}(h:Gv ops (rs.map (Gk f))=true):Gv ops rs=true:=by
 simp only[Gv,Rh,Li,LL] at h⊢;refine⟨h.1,fun j hj i hi=> ?_⟩;have h1:=h.2 j hj i hi;rw[Lj,Lj] at h1;cases hx:rs[i]? with
 |none=>
  rw[hx] at h1;exact h1
 |some a=>
  cases hy:rs[j]? with
  |none=>
   rw[hx,hy] at h1;exact h1
  |some b=>
   rw[hx,hy] at h1;simp only[LO] at h1⊢;cases hc:FL a b with
   |false=>
    rw[LP] at h1⊢;rcases h1 with h1 |h1
    ·exact .inl h1
    ·refine .inr ?_;rw[Li] at h1⊢;exact⟨h1.1,rfl⟩
   |true=>
    rw[tv hc] at h1;simpa using h1
theorem bL {P:Program}{tab:Nat->TI}{ops:Array Oper}{nx0 nx i:Nat}{k:List It}{Q:Ex->St->Prop}{acc:List Cd}{fr:Fr}{hp:Hp}(f:Nat->Nat)(rs:List Cd)(hr:acc.reverse.map (Gk f)=rs)(h1:Px ops rs=true)(h2:run P tab k Q ⟨fr,hp,nx⟩):Rd P tab ops nx0 nx k Q i [] acc fr hp:=
 ⟨tw (TZ (hr▸h1)),h2⟩
theorem PH {f:Nat->Nat}{ids ks:List Nat}:Gk f ⟨ids,ks,false⟩=⟨ids.map f,ks.map f,false⟩:=rfl
theorem PI {f:Nat->Nat}{ids ks:List Nat}:Gk f ⟨ids,ks,true⟩=⟨[DN],ks.map f,true⟩:=rfl
structure IT (q oid over:Nat) (bl:Bool) (ov:AV) (x:Ae) (ts:List AT) (hp:Hp) (nx:Nat):Prop where
 box:hp q=some (Ai x bl ov)
 out:ts≠[]->hp oid=some (.rw (ts.map Ak) 2 over false false)/\oid≠q/\oid<nx
 new:∀j,nx<=j->hp j=none
 qn:q<nx
structure HE (q oid over t rid rver:Nat) (bl:Bool) (ov:AV) (x:Ae) (ts:List AT) (nm:ByteArray) (rs:List Ac) (hp:Hp) (nx:Nat):Prop where
 a:IT q oid over bl ov x ts hp nx
 tb:hp t=some (.bx [.v (.string nm),Aa rid rver (rs.map Al)])
 row:rs≠[]->hp rid=some (.rw (rs.map Al) 3 rver false false)/\rid≠q/\rid≠t/\(ts≠[]->rid≠oid)/\rid<nx
 tq:t≠q
 to1:ts≠[]->t≠oid
 tn:t<nx
theorem IT.put {q oid over:Nat}{bl:Bool}{ov ov2:AV}{x x2:Ae}{ts:List AT}{hp:Hp}{nx nx2:Nat}(h:IT q oid over bl ov x ts hp nx)(hn:nx<=nx2):IT q oid over bl ov2 x2 ts (upd q (some (Ai x2 bl ov2)) hp) nx2 where
 box:=Ah _ _ _
 out:=fun hs=>by
  have h1:=h.out hs;exact⟨by rw[Ad _ _ h1.2.1];exact h1.1,h1.2.1,by omega⟩
 new:=fun j h1=>by have:=h.qn;rw[AR];exact h.new j (by omega)
 qn:=by have:=h.qn;omega
theorem IT.up {q oid over:Nat}{bl:Bool}{ov:AV}{x:Ae}{ts:List AT}{hp:Hp}{nx nx2:Nat}(h:IT q oid over bl ov x ts hp nx)(hn:nx<=nx2):IT q oid over bl ov x ts hp nx2 where
 box:=h.box
 out:=fun hs=>by
  have h1:=h.out hs;exact⟨h1.1,h1.2.1,by omega⟩
 new:=fun j h1=>h.new j (by omega)
 qn:=by have:=h.qn;omega
theorem HE.put {q oid over t rid rver:Nat}{bl:Bool}{ov ov2:AV}{x x2:Ae}{ts:List AT}{nm:ByteArray}{rs:List Ac}{hp:Hp}{nx nx2:Nat}(h:HE q oid over t rid rver bl ov x ts nm rs hp nx)(hn:nx<=nx2):HE q oid over t rid rver bl ov2 x2 ts nm rs (upd q (some (Ai x2 bl ov2)) hp) nx2 where
 a:=h.a.put hn
 tb:=by rw[Ad _ _ h.tq];exact h.tb
 row:=fun hs=>by
  have h1:=h.row hs;exact⟨by rw[Ad _ _ h1.2.1];exact h1.1,h1.2.1,h1.2.2.1,h1.2.2.2.1,by omega⟩
 tq:=h.tq
 to1:=h.to1
 tn:=by have:=h.tn;omega
theorem HE.up {q oid over t rid rver:Nat}{bl:Bool}{ov:AV}{x:Ae}{ts:List AT}{nm:ByteArray}{rs:List Ac}{hp:Hp}{nx nx2:Nat}(h:HE q oid over t rid rver bl ov x ts nm rs hp nx)(hn:nx<=nx2):HE q oid over t rid rver bl ov x ts nm rs hp nx2 where
 a:=h.a.up hn
 tb:=h.tb
 row:=fun hs=>by
  have h1:=h.row hs;grind
 tq:=h.tq
 to1:=h.to1
 tn:=by have:=h.tn;omega
def Dh (id sz ver:Nat)(es:List (List D))(hp:Hp):Hp:=if es= [] then hp else upd id (some (.rw es sz ver false false)) hp
def hpE (q oid over t rid rver:Nat)(bx:AO)(ts:List AT)(nm:ByteArray)(rs:List Ac):Hp:=upd q (some bx) (upd t (some (.bx [.v (.string nm),Aa rid rver (rs.map Al)])) (Dh oid 2 over (ts.map Ak) (Dh rid 3 rver (rs.map Al) AS)))
def Cl (v:AV):Prop:=∀ρ,CK ρ v=some v
theorem jl {eq:Bool}{g:Ac}{ov:AV}(h:Cl ov):Cl (ovD eq g ov):=by
 unfold ovD;split
 ·exact fun _=>rfl
 exact h
theorem Hh {id sz ver j:Nat}{es:List (List D)}{hp:Hp}(h:es≠[]->j≠id):Dh id sz ver es hp j=hp j:=by
 unfold Dh;split
 ·rfl
 rename_i hn;exact Ad _ _ (h hn)
theorem KZ {id sz ver:Nat}{es:List (List D)}{hp:Hp}(h:es≠[]):Dh id sz ver es hp id=some (.rw es sz ver false false):=by
 unfold Dh;rw[if_neg h,Ah]
structure MM (q oid t rid:Nat) (ts:List AT) (rs:List Ac) (nx:Nat):Prop where
 oq:ts≠[]->oid≠q/\oid<nx
 row:rs≠[]->rid≠q/\rid≠t/\(ts≠[]->rid≠oid)/\rid<nx
 tq:t≠q
 to1:ts≠[]->t≠oid
 tn:t<nx
 qn:q<nx
theorem MM.b {q oid t rid over rver:Nat}{ts:List AT}{rs:List Ac}{nx:Nat}{bl:Bool}{ov:AV}{x:Ae}{nm:ByteArray}(h:MM q oid t rid ts rs nx):HE q oid over t rid rver bl ov x ts nm rs (hpE q oid over t rid rver (Ai x bl ov) ts nm rs) nx where
 a:={
  box:=Ah _ _ _
  out:=fun hs=>by
   have h1:=h.oq hs;refine⟨?_,h1.1,h1.2⟩;unfold hpE;rw[Ad _ _ h1.1,Ad _ _ (h.to1 hs).symm,KZ (by simpa using hs)]
  new:=fun j hj=>by
   have:=h.qn
   have:=h.tn;unfold hpE;rw[AR,AR,Hh (fun hs=>by have:=(h.oq (by simpa using hs)).2;omega),Hh (fun hs=>by have:=(h.row (by simpa using hs)).2.2.2;omega)];rfl
  qn:=h.qn }
 tb:=by unfold hpE;rw[Ad _ _ h.tq,Ah]
 row:=fun hs=>by
  obtain⟨h1,h2,h3,h4⟩:=h.row hs;simp_all [hpE,Ad,Hh,KZ]
 tq:=h.tq
 to1:=h.to1
 tn:=h.tn
theorem HE.dis {q oid over t rid rver:Nat}{bl:Bool}{ov:AV}{x:Ae}{ts:List AT}{nm:ByteArray}{rs:List Ac}{hp:Hp}{nx:Nat}(h:HE q oid over t rid rver bl ov x ts nm rs hp nx):MM q oid t rid ts rs nx:=
 ⟨fun hs=>(h.a.out hs).2,fun hs=>(h.row hs).2,h.tq,h.to1,h.tn,h.a.qn⟩
theorem HE.toE {q oid over t rid rver:Nat}{bl:Bool}{ov:AV}{x:Ae}{ts:List AT}{nm:ByteArray}{rs:List Ac}{hp:Hp}{nx:Nat}(h:HE q oid over t rid rver bl ov x ts nm rs hp nx)(i:Nat):hpE q oid over t rid rver (Ai x bl ov) ts nm rs i=none\/hpE q oid over t rid rver (Ai x bl ov) ts nm rs i=hp i:=by
 have hb:=(h.dis.b (over:=over) (rver:=rver) (bl:=bl) (ov:=ov) (x:=x) (nm:=nm));by_cases e1:i=q
 ·exact .inr (by rw[e1,hb.a.box,h.a.box])
 by_cases e2:i=t
 ·exact .inr (by rw[e2,hb.tb,h.tb])
 by_cases e3:ts≠[]/\i=oid
 ·exact .inr (by rw[e3.2,(hb.a.out e3.1).1,(h.a.out e3.1).1])
 by_cases e4:rs≠[]/\i=rid
 ·exact .inr (by rw[e4.2,(hb.row e4.1).1,(h.row e4.1).1])
 refine .inl ?_;unfold hpE;rw[Ad _ _ e1,Ad _ _ e2,Hh (fun hn=>fun h=>e3 ⟨by simpa using hn,h⟩),Hh (fun hn=>fun h=>e4 ⟨by simpa using hn,h⟩)];rfl
theorem bJ {nx i:Nat}{o:AO}{hp:Hp}(h:IU nx hp)(ho:CP (GH nx) o=some o):IU nx (upd i (some o) hp):=fun j p hj=>by
 by_cases e:j=i
 ·subst e;rw[Ah] at hj;cases hj;exact ho
 rw[Ad _ _ e] at hj;exact h j p hj
theorem jm {nx id sz ver:Nat}{es:List (List D)}{hp:Hp}(h:IU nx hp):IU nx (Dh id sz ver es hp):=by
 unfold Dh;split
 ·exact h
 exact bJ h rfl
theorem MM.shut {q oid t rid over rver:Nat}{ts:List AT}{rs:List Ac}{nx nx2:Nat}{bl:Bool}{ov:AV}{x:Ae}{nm:ByteArray}(h:MM q oid t rid ts rs nx)(hn:nx<=nx2)(hv:Cl ov):IU nx2 (hpE q oid over t rid rver (Ai x bl ov) ts nm rs):=by
 unfold hpE;refine bJ (bJ (jm (jm fun j o hj=>by cases hj)) ?_) ?_
 ·cases rs with
  |nil=>rfl
  |cons a r=>
   have h1:=(h.row (by simp)).2.2.2
   have:GH nx2 rid=some rid:=ifp;simp[CP,Dv,CK,Aa,this]
 simp[Ai,CP,Dv,CK,hv (GH nx2)]
theorem MM.up {q oid t rid:Nat}{ts:List AT}{rs:List Ac}{nx nx2:Nat}(h:MM q oid t rid ts rs nx)(hn:nx<=nx2):MM q oid t rid ts rs nx2:=
 ⟨fun hs=>by have:=h.oq hs;exact⟨this.1,by omega⟩,fun hs=>by have:=h.row hs;grind,h.tq,h.to1,by have:=h.tn;omega,by have:=h.qn;omega⟩
theorem jn (x:Ae)(b:ByteArray):(DV x b).l=x.l:=by
 unfold DV;split
 ·split
  ·rfl
  exact(He x 9).1
 rfl
set_option maxRecDepth 8000 in
theorem tj {n c f:Nat}{s:ByteArray}{y:List AT × Int × Int}(h:J8 n c f s=some y):AI Tryz.prog 26 [D.v (.string s)] (D.tu [D.sl (y.1.map Ak),D.v (.int .i64 y.2.1),D.v (.int .i64 y.2.2)]) false:=by
 unfold J8 at h;obtain⟨t,ht,h⟩:=AJ h;refine zP #[.tmp 2,.tmp 3,.tmp 4] Tryz.func26 ?_;refine D3 ?_;refine DB (td ht) ?_;refine Z0 ?_;refine AW (AW ?_);refine ZT 1 ?_;cases he:(t.2.2==0) with
 |false=>
  have he2:(t.2.2 != 0)=true:=by rw[bne,he];rfl
  rw[he,if_neg (by decide)] at h;cases h;refine Z1 he2 ?_;refine EV (c:=true) rfl rfl ?_;refine Az ?_;refine AN ?_;exact CC
 |true=>
  have he2:(t.2.2 != 0)=false:=by rw[bne,he];rfl
  rw[he,if_pos rfl] at h;obtain⟨r,hr,h⟩:=AJ h;refine Z1 he2 ?_;refine DF (c:=false) rfl rfl ?_;refine AN ?_;refine D3 ?_;refine AW (CN ?_);have L0:IT 18 0 0 false (.v (.slice none 0 0)) ⟨t.1,0,(s.size:Int),0,0,0,[],0⟩ [] (upd 18 (some (Ai ⟨t.1,0,(s.size:Int),0,0,0,[],0⟩ false (.v (.slice none 0 0)))) AS) 21:=
   ⟨Ah _ _ _,fun hn=>absurd rfl hn,fun j hj=>by rw[AR];rfl,by decide⟩
  refine DS (α:={ z:Nat × Ae × List AT × Nat × Nat × AV × Hp × Nat // IT 18 z.2.2.2.1 z.2.2.2.2.1 false z.2.2.2.2.2.1 z.2.1 z.2.2.1 z.2.2.2.2.2.2.1 z.2.2.2.2.2.2.2/\z.2.1.l=t.1/\Hi n c f z.1 z.2.1 z.2.2.1=some r/\Cl z.2.2.2.2.2.1 })
   (fun z=>⟨upd 5 (.d (.sl (t.1.map Ag)) false) (upd 8 (.pt 18 0) (upd 9 (Aa z.1.2.2.2.1 z.1.2.2.2.2.1 (z.1.2.2.1.map Ak)) AQ)),z.1.2.2.2.2.2.2.1,z.1.2.2.2.2.2.2.2⟩) (fun z=>z.1.1)
   ⟨(c,⟨t.1,0,(s.size:Int),0,0,0,[],0⟩,[],0,0,.v (.slice none 0 0),_,21),L0,rfl,hr,fun _=>rfl⟩ ?_ ?_
  ·exact CH
  rintro⟨⟨k,x,ts,oid,over,ov,hpz,nxz⟩,L,hxl,m,hov⟩;dsimp only at L hxl m hov;cases k with
  |zero=>cases m
  |succ k=>
  unfold Hi at m;split at m;rotate_left
  ·cases m
  rename_i hw;obtain⟨⟨z1,z2,z3,z4⟩,z5,z6⟩:=hw;have hsl:(x.l.map Ag).length=t.1.length:=by rw[hxl,LC]
  have z2':x.p<=t.1.length:=by rw[<-hxl];exact z2
  refine AW (AW ?_);refine ZT 1 ?_;cases he:(x.e==0) with
  |false=>
   have he2:(x.e != 0)=true:=(by rw[bne,he];rfl);rw[he,Nj,if_neg (by decide)] at m;obtain⟨m1,m2⟩:=BW (LI m);rw[<-m1,he,if_neg (by decide)] at h;cases h;refine Z1 (Y2 L.box he) ?_;refine AN ?_;refine AW (AW ?_);refine ZT 1 ?_;refine Z1 (Y2 L.box he2) ?_;refine EV (c:=true) rfl rfl ?_;refine AW (ZT 1 ?_);refine Z1 L.box ?_;refine DR (by rfl) ?_;refine AN ?_;exact CC
  |true=>
   have he2:(x.e != 0)=false:=(by rw[bne,he];rfl);by_cases hlt:x.p<t.1.length;rotate_left
   ·have c1:(decide ((x.p:Int)<(t.1.length:Int)))=false:=Cr;rw[he,NG,if_neg (by rw[decide_eq_true_eq,hxl];exact hlt)] at m;obtain⟨m1,m2⟩:=BW (LI m);rw[<-m1,<-m2,he,if_pos rfl] at h;cases h;refine Z1 (Y3 L.box he c1) ?_;refine AN ?_;refine AW (AW ?_);refine ZT 1 ?_;refine Z1 (Y2 L.box he2) ?_;refine DF (c:=false) rfl rfl ?_;refine AN ?_;refine Az ?_;refine AN ?_;have hto:∃is,toR hpz (.tu [Aa oid over (ts.map Ak),.v (.int .i64 0),.v (.int .i64 0)])=some (D.tu [D.sl (ts.map Ak),D.v (.int .i64 0),D.v (.int .i64 0)],false,is):=by
     cases ts with
     |nil=>exact⟨_,rfl⟩
     |cons a u=>
      have lo:=(L.out (by simp)).1;exact⟨[oid],by simp[toR,CT,EP,CS,Aa,lo,Zq]⟩
    obtain⟨is,hto⟩:=hto;exact HT (v:=.tu [Aa oid over (ts.map Ak),.v (.int .i64 0),.v (.int .i64 0)]) (by simp -implicitDefEqProofs only[go_sem, ↓reduceIte,Ah,Nat.reduceEqDiff]<;>rfl) hto rfl fun _=>rfl
   have c1:(decide ((x.p:Int)<(t.1.length:Int)))=true:=Cb;rw[he,NG,if_pos (by rw[decide_eq_true_eq,hxl];exact hlt)] at m;obtain⟨tt,htt,m⟩:=AJ m;refine Z1 (Y3 L.box he c1) ?_;refine AN ?_;refine CN ?_;obtain⟨zz,hzz⟩:∃zz,zz=(if ts.length=200 then jw_ x 8 else x):=⟨_,rfl⟩;rw[<-hzz] at htt;have kz:zz.l=x.l/\zz.out=x.out/\zz.deep=x.deep/\zz.p=x.p:=by
    rw[hzz];split
    ·exact He x 8
    exact⟨rfl,rfl,rfl,rfl⟩
   refine AW (EI (α:={ k:Nat // nxz<=k }) (fun y=>⟨upd 5 (.d (.sl (t.1.map Ag)) false) (upd 8 (.pt 18 0) (upd 9 (Aa oid over (ts.map Ak)) AQ)),upd 18 (some (Ai zz false ov)) hpz,y.1⟩) ?_ ?_)
   ·refine AW (ZT 1 ?_);have lo:=L.out;cases ts with
    |nil=>
     rw[if_neg (by decide)] at hzz;refine Z0 ?_;refine DF (c:=false) rfl rfl ?_;refine AN ?_;rw[hzz];exact⟨⟨_,by omega⟩,Fz (FE L.box) C7⟩
    |cons a u=>
     have lo:=(L.out (by simp)).1;by_cases h50:(a::u).length=200
     ·have c50:(((u.length+1:Nat):Int)==200)=true:=(by simp at h50⊢;omega);rw[if_pos h50] at hzz;refine Z1 (Y2 lo c50) ?_;refine AN ?_;refine CG ((KU L.box (by omega)).mono ?_);rintro v hp5 nx5 ⟨rfl,rfl,hle5⟩;dsimp only at hle5;refine Z0 ?_;rw[hzz];exact⟨⟨_,by omega⟩,CH⟩
     have c50:(((u.length+1:Nat):Int)==200)=false:=(by simp at h50⊢;omega);rw[if_neg h50] at hzz;refine Z1 (Y2 lo c50) ?_;refine DF (c:=false) rfl rfl ?_;refine AN ?_;rw[hzz];exact⟨⟨_,by omega⟩,Fz (FE L.box) C7⟩
   rintro⟨nxk,hk⟩;have L1:=L.put (x2:=zz) (ov2:=ov) hk;refine AW ?_;obtain⟨zy,hzy⟩:∃zy,zy=tyM zz:=⟨_,rfl⟩;unfold J7 at htt;rw[<-hzy] at htt;refine EI (α:={ k:Nat // nxk<=k }) (fun y=>⟨upd 5 (.d (.sl (t.1.map Ag)) false) (upd 8 (.pt 18 0) (upd 9 (Aa oid over (ts.map Ak)) AQ)),upd 18 (some (Ai zy false ov)) (upd 18 (some (Ai zz false ov)) hpz),y.1⟩) ?_ ?_
   ·refine AW (ZT 1 ?_);have et:t.1[zz.p]? =some t.1[x.p]:=(by rw[kz.2.2.2];exact Ld hlt);have e2:(t.1.map Ag)[zz.p]? =some [D.v (.int .i64 t.1[x.p].kind),D.v (.int .i64 t.1[x.p].at_),D.v (.string t.1[x.p].text)]:=Cs Ag et;unfold tyM at hzy;rw[kz.1,hxl,et] at hzy;dsimp only at hzy;have w:=Y2 L1.box (Y3 e2 (Cx .i64 (show(0:Int)<=(zz.p:Int) by omega)) (show((zz.p:Int)).toNat=zz.p from Lv _));cases he3:(zz.e==0) with
    |false=>
     rw[he3,if_neg (by decide)] at hzy;refine Z1 (Y2 he3 w) ?_;refine DF (c:=false) rfl rfl ?_;refine AN ?_;rw[hzy];exact⟨⟨_,by omega⟩,Fz (EL ..) C7⟩
    |true=>
     rw[he3,if_pos rfl] at hzy;cases hk1:(t.1[x.p].kind==1) with
     |false=>
      have hk2:(t.1[x.p].kind != 1)=true:=(by rw[bne,hk1];rfl);rw[hk1,if_neg (by decide)] at hzy;refine Z1 (Y3 he3 hk2 w) ?_;refine AN ?_;refine CG ((KU L1.box (by rw[kz.1];omega)).mono ?_);rintro v hp5 nx5 ⟨rfl,rfl,hle5⟩;dsimp only at hle5;refine Z0 ?_;rw[hzy];exact⟨⟨_,by omega⟩,CH⟩
     |true=>
      have hk2:(t.1[x.p].kind != 1)=false:=(by rw[bne,hk1];rfl);rw[hk1,if_pos rfl] at hzy;cases hty:(t.1[x.p].text.toList==bType.toList) with
      |true=>
       have hty2:(t.1[x.p].text.toList==({ data:= #[116,121,112,101] }:ByteArray).toList)=true:=hty;rw[hty,if_pos rfl] at hzy;refine Z1 (Y4 he3 hk2 hty2 w) ?_;refine DF (c:=false) rfl rfl ?_;refine AN ?_;rw[hzy];exact⟨⟨_,by omega⟩,Fz (EL ..) C7⟩
      |false=>
       have hty2:(t.1[x.p].text.toList==({ data:= #[116,121,112,101] }:ByteArray).toList)=false:=hty;rw[hty,if_neg (by decide)] at hzy;refine Z1 (Y4 he3 hk2 hty2 w) ?_;refine AN ?_;refine CG ((KU L1.box (by rw[kz.1];omega)).mono ?_);rintro v hp5 nx5 ⟨rfl,rfl,hle5⟩;dsimp only at hle5;refine Z0 ?_;rw[hzy];exact⟨⟨_,by omega⟩,CH⟩
   rintro⟨nxl,hl⟩;have kzy:zy.l=t.1/\zy.p=x.p/\zy.deep=x.deep:=by
    have k8:=(He zz 9);rw[hzy];unfold tyM;rw[<-hxl,<-kz.1,<-kz.2.2.2,<-kz.2.2.1];split
    ·split
     ·split
      ·split
       ·exact⟨rfl,rfl,rfl⟩
       exact⟨k8.1,k8.2.2.2,k8.2.2.1⟩
      exact⟨k8.1,k8.2.2.2,k8.2.2.1⟩
     exact⟨k8.1,k8.2.2.2,k8.2.2.1⟩
    exact⟨rfl,rfl,rfl⟩
   have L2:=(L1.put (x2:=zy) (ov2:=ov) hl);rw[EL] at L2⊢;obtain⟨r1,hr1,htt⟩:=AJ htt;refine AW (ZT 1 ?_);refine Z1 (Y2 L2.box (As (n:=zy.p) (by rw[kzy.2.1];omega))) ?_;refine Az ?_;have L3:=L2.put (x2:={ zy with p:=zy.p+1 }) (ov2:=ov) (Lc _);refine CG ((PF L3.box (by show zy.l.length<_;rw[kzy.1,<-hxl];omega) hr1).mono ?_);rintro v hp6 nx6 ⟨rfl,rfl,hle6⟩;dsimp only at hle6;refine Z0 ?_;have L4:HE 18 oid over (nxl+8+3) 0 0 false ov r1.1 ts r1.2 [] (upd (nxl+8+3) (some (.bx [.v (.string r1.2),.v (.slice none 0 0)])) (upd (nxl+8+3) (some (.bx [.v (.string ByteArray.empty),.v (.slice none 0 0)])) (upd 18 (some (Ai r1.1 false ov)) (upd 18 (some (Ai { zy with p:=zy.p+1 } false ov)) (upd 18 (some (Ai zy false ov)) hpz))))) nx6:=by
    have L5:=L3.put (x2:=r1.1) (ov2:=ov) (nx2:=nx6) (by omega);have hq1:=L2.qn;refine⟨⟨by rw[AR,AR];exact L5.box,fun hs=> ?_,fun j hj=>by rw[AR,AR];exact L5.new j hj,L5.qn⟩,Ah _ _ _,fun hn=>absurd rfl hn,by omega,fun hs=> ?_,by omega⟩
    ·have h1:=L5.out hs;have h2:=(L2.out hs).2.2;exact⟨by rw[AR,AR];exact h1.1,h1.2⟩
    have h2:=(L2.out hs).2.2;omega
   generalize eH:(upd (nxl+8+3) (some _) _:Hp)=hp7 at L4⊢;obtain⟨q,hq,htt⟩:=AJ htt;cases htt;have kr1:=Hg hr1;have kr1l:r1.1.l=t.1:=kr1.1.trans kzy.1;have ht60:t.1.length<1152921504606846976:=(by rw[<-hxl];exact z1);refine AW (EI (α:={ z:Nat × Nat × AV × Hp × Nat // HE 18 oid over (nxl+8+3) z.1 z.2.1 false z.2.2.1 q.1 ts r1.2 q.2 z.2.2.2.1 z.2.2.2.2/\Cl z.2.2.1/\q.1.l=t.1 }) (fun z=>⟨upd 5 (.d (.sl (t.1.map Ag)) false) (upd 8 (.pt 18 0) (upd 9 (Aa oid over (ts.map Ak)) (upd 10 (.pt (nxl+8+3) 0) AQ))),z.1.2.2.2.1,z.1.2.2.2.2⟩) ?_ ?_)
   ·refine AW (ZT 1 ?_);cases he1:(r1.1.e==0) with
    |false=>
     rw[he1,Nj,if_neg (by decide)] at hq;cases hq;refine Z1 (Y2 L4.a.box he1) ?_;refine DF (c:=false) rfl rfl ?_;refine AN ?_;exact⟨⟨(0,0,ov,hp7,_),L4.up (by dsimp only;omega),hov,kr1l⟩,CH⟩
    |true=>
     rw[he1,NG] at hq;refine Z1 (Y2 L4.a.box he1) ?_;refine CG ((Hd L4.a.box (by rw[kr1l];omega)).mono ?_);rintro v hp8 nx8 ⟨rfl,rfl,hle8⟩;dsimp only at hle8;cases hi:isM r1.1 Qr with
     |false=>
      have hi':isM r1.1 { data:= #[123] }=false:=hi;rw[hi,if_neg (by decide)] at hq;cases hq;refine Z1 hi' ?_;refine DF (c:=false) rfl rfl ?_;refine AN ?_;exact⟨⟨(0,0,ov,hp8,_),L4.up (by dsimp only;omega),hov,kr1l⟩,CH⟩
     |true=>
      have hi':isM r1.1 { data:= #[123] }=true:=hi;have lt1:=Fp hi;rw[kr1l] at lt1;rw[hi,if_pos rfl] at hq;obtain⟨⟨xf,rsf⟩,hrs,rfl⟩:=La.1 hq;refine Z1 hi' ?_;refine EV (c:=true) rfl rfl ?_;refine AW (ZT 1 ?_);refine Z1 (Y2 L4.a.box (As (n:=r1.1.p))) ?_;have L5:=L4.put (x2:={ r1.1 with p:=r1.1.p+1 }) (ov2:=ov) (nx2:=nx8+8) (by omega);refine AW (CN ?_);refine DS (α:={ z:Nat × Ae × List Ac × Nat × Nat × AV × Nat // MM 18 oid (nxl+8+3) z.2.2.2.1 ts z.2.2.1 z.2.2.2.2.2.2/\Cl z.2.2.2.2.2.1/\z.2.1.l=t.1/\G0 n c f z.1 z.2.1 z.2.2.1=some (xf,rsf) })
       (fun z=>⟨upd 5 (.d (.sl (t.1.map Ag)) false) (upd 8 (.pt 18 0) (upd 9 (Aa oid over (ts.map Ak)) (upd 10 (.pt (nxl+8+3) 0) AQ))),hpE 18 oid over (nxl+8+3) z.1.2.2.2.1 z.1.2.2.2.2.1 (Ai z.1.2.1 false z.1.2.2.2.2.2.1) ts r1.2 z.1.2.2.1,z.1.2.2.2.2.2.2⟩) (fun z=>z.1.1)
       ⟨(c,{ r1.1 with p:=r1.1.p+1 },[],0,0,ov,nx8+8),L5.dis,hov,kr1l,hrs⟩ ?_ ?_
      ·exact .weak ⟨Cv rfl C7,fun i=>L5.toE i,Lc _⟩
      rintro⟨⟨kk,w,rs,rid,rver,ow,nxw⟩,D,how,hwl,mw⟩;dsimp only at D how hwl mw;cases kk with
      |zero=>cases mw
      |succ kk=>
      unfold G0 at mw;split at mw;rotate_left
      ·cases mw
      rename_i hww;obtain⟨⟨w1,w2,w3,w4⟩,w5,w6⟩:=hww;have B:=D.b (over:=over) (rver:=rver) (bl:=false) (ov:=ow) (x:=w) (nm:=r1.2);have w2':w.p<=t.1.length:=(by rw[<-hwl];exact w2);refine AW (AW ?_);refine ZT 1 ?_;cases hew:(w.e==0) with
      |false=>
       rw[hew,Nj,if_neg (by decide)] at mw;refine Z1 (Y2 B.a.box hew) ?_;obtain⟨mw1,mw2⟩:=BW (LI mw);subst mw1;subst mw2;refine AN ?_;refine AN ?_;refine CG ((Qm B.a.box (by rw[hwl];omega) (by omega)).mono ?_);rintro v hpA nxA ⟨rfl,rfl,hleA⟩;dsimp only at hleA;refine Z0 ?_;exact⟨⟨(rid,rver,ow,_,_),B.put (by dsimp only;omega),how,(jn w Fq).trans hwl⟩,CH⟩
      |true=>
       rw[hew,NG] at mw;refine Z1 (Y2 B.a.box hew) ?_;refine CG ((Hd B.a.box (by rw[hwl];omega)).mono ?_);rintro v hpB nxB ⟨rfl,rfl,hleB⟩;dsimp only at hleB;cases hiw:isM w Fq with
       |true=>
        have hi':isM w { data:= #[125] }=true:=hiw;rw[hiw,if_neg (by decide)] at mw;refine Z1 hi' ?_;obtain⟨mw1,mw2⟩:=BW (LI mw);subst mw1;subst mw2;refine AN ?_;refine AN ?_;refine CG ((Qm B.a.box (by rw[hwl];omega) (by omega)).mono ?_);rintro v hpA nxA ⟨rfl,rfl,hleA⟩;dsimp only at hleA;refine Z0 ?_;exact⟨⟨(rid,rver,ow,_,_),B.put (by dsimp only;omega),how,(jn w Fq).trans hwl⟩,CH⟩
       |false=>
        have hi':isM w { data:= #[125] }=false:=hiw;rw[hiw,if_pos (by decide)] at mw;refine Z1 hi' ?_;refine AN ?_;refine CN ?_;obtain⟨zw,hzw⟩:∃zw,zw=(if rs.length=200 then jw_ w 8 else w):=⟨_,rfl⟩;refine AW (EI (α:={ k:Nat // nxB<=k }) (fun y=>⟨upd 5 (.d (.sl (t.1.map Ag)) false) (upd 8 (.pt 18 0) (upd 9 (Aa oid over (ts.map Ak)) (upd 10 (.pt (nxl+8+3) 0) AQ))),hpE 18 oid over (nxl+8+3) rid rver (Ai zw false ow) ts r1.2 rs,y.1⟩) ?_ ?_)
        ·refine AW (ZT 1 ?_);have lt:=B.tb;cases rs with
         |nil=>
          rw[if_neg (by decide)] at hzw;refine Z1 lt ?_;refine DF (c:=false) rfl rfl ?_;refine AN ?_;rw[hzw];exact⟨⟨_,by omega⟩,CH⟩
         |cons a u=>
          by_cases h50:(a::u).length=200
          ·have c50:(((u.length+1:Nat):Int)==200)=true:=(by simp at h50⊢;omega);rw[if_pos h50] at hzw;refine Z1 (Y2 lt c50) ?_;refine AN ?_;refine CG ((KU B.a.box (by rw[hwl];omega)).mono ?_);rintro v hp5 nx5 ⟨rfl,rfl,hle5⟩;dsimp only at hle5;refine Z0 ?_;rw[hzw];exact⟨⟨_,by omega⟩,.weak ⟨Cv rfl C7,fun i=>(B.put (x2:=jw_ w 8) (ov2:=ow) (Lc _)).toE i,Lc _⟩⟩
          have c50:(((u.length+1:Nat):Int)==200)=false:=(by simp at h50⊢;omega);rw[if_neg h50] at hzw;refine Z1 (Y2 lt c50) ?_;refine DF (c:=false) rfl rfl ?_;refine AN ?_;rw[hzw];exact⟨⟨_,by omega⟩,CH⟩
        rintro⟨nxk,hk⟩;have Dz:=D.up (nx2:=nxk) (by omega);have Bz:=Dz.b (over:=over) (rver:=rver) (bl:=false) (ov:=ow) (x:=zw) (nm:=r1.2);have kzw:zw.l=w.l/\zw.p=w.p:=by
         rw[hzw];split
         ·exact⟨(He w 8).1,(He w 8).2.2.2⟩
         exact⟨rfl,rfl⟩
        refine AW (ZT 1 ?_);by_cases h200:rs.length=200
        ·rw[if_pos h200] at hzw mw;have hez:(zw.e==0)=false:=(by rw[hzw];exact VJ hew rfl);rw[<-hzw] at mw;refine Z1 (Y2 Bz.a.box hez) ?_;refine DF (c:=false) rfl rfl ?_;refine AN ?_;exact⟨⟨(kk,zw,rs,rid,rver,ow,_),Dz.up (by dsimp only;omega),how,kzw.1.trans hwl,mw⟩,CH,LF kk⟩
        rw[if_neg h200] at hzw mw;subst hzw;obtain⟨yy,hyy,mw⟩:=AJ mw;refine Z1 (Y2 Bz.a.box hew) ?_;refine ZT 1 ?_;cases rs with
        |nil=>
         refine Z1 Bz.tb ?_;refine Ms (δ:=[(18,Ai yy.1 false (ovD (vI_ n zw) yy.2 ow))]) (jr (fun j hj=>Bz.a.new j (by omega)) (Dz.shut (by omega) how) Bz.a.box hyy) ?_;have g1:(nxl+8+3=18)=False:=eq_false Bz.tq;have g2:(nxl+8+3=nxk+5+4)=False:=eq_false (by have:=Bz.tn;omega);have g3:(nxl+8+3=nxk+5+5)=False:=eq_false (by have:=Bz.tn;omega);refine Z1 (Y4 Bz.tb g1 g2 g3) ?_;have v1:CV (nxl+8+3) 18 (nxk+5+4) (nxk+5+5) (nxl+8+3)=1:=(by simp[CV]);have v2:CV (nxl+8+3) 18 (nxk+5+4) (nxk+5+5) 18=2:=(by unfold CV;rw[if_neg (Ne.symm Bz.tq),if_pos rfl]);have v3:CV (nxl+8+3) 18 (nxk+5+4) (nxk+5+5) (nxk+5+4)=3:=(by unfold CV;rw[if_neg (by have:=Bz.tn;omega),if_neg (by have:=Bz.a.qn;omega),if_pos rfl]);have v4:CV (nxl+8+3) 18 (nxk+5+4) (nxk+5+5) (nxk+5+5)=4:=(by unfold CV;rw[if_neg (by have:=Bz.tn;omega),if_neg (by have:=Bz.a.qn;omega),ifn,if_pos rfl]);refine bL (CV (nxl+8+3) 18 (nxk+5+4) (nxk+5+5)) _ rfl (by simp only[Nc,Nk,LE,LJ,Lk,LD,PH,PI,v1,v2,v3,v4];rfl) ?_;generalize eU:(upd (nxl+8+3) (some _) _:Hp)=hpU;have u1:hpU (nxl+8+3)=some (.bx [.v (.string r1.2),.so (nxk+5+5) 0 0 1]):=(by rw[<-eU,Ah]);have u2:hpU (nxk+5+5)=some (.rw ([[.v (.string yy.2.name),.sl (yy.2.subs.map AZ),.sl (yy.2.expr.map Aj)]]) 3 (0) false false):=(by rw[<-eU,Ad _ _ (by have:=Bz.tn;omega),Ah]);have u3:∀j,j≠nxl+8+3->j≠nxk+5+5->j≠nxk+5+4->hpU j=upd 18 (some (Ai yy.1 false (ovD (vI_ n zw) yy.2 ow))) (hpE 18 oid over (nxl+8+3) rid rver (Ai zw false ow) ts r1.2 ([])) j:=fun j h1 h2 h3=>(by rw[<-eU,Ad _ _ h1,Ad _ _ h2,Ad _ _ h3]);have tn:=Bz.tn;have qn:=Bz.a.qn;have L9:HE 18 oid over (nxl+8+3) (nxk+5+5) (0) false (ovD (vI_ n zw) yy.2 ow) yy.1 ts r1.2 ([]++[yy.2]) hpU (nxk+5+8):=by
          refine⟨⟨(u3 18 (Ne.symm Bz.tq) (by omega) (by omega)).trans (Ah _ _ _),fun hs=> ?_,fun j hj=> ?_,by omega⟩,u1.trans (by rfl),fun _=>⟨u2.trans (by rfl),by have:=Bz.a.qn;omega,by have:=Bz.tn;omega,fun hs=> ?_,by omega⟩,Bz.tq,Bz.to1,by omega⟩
          ·have h1:=Bz.a.out hs;exact⟨(u3 oid (Bz.to1 hs).symm (by have:=h1.2.2;omega) (by have:=h1.2.2;omega)).trans (by rw[Ad _ _ h1.2.1];exact h1.1),h1.2.1,by have:=h1.2.2;omega⟩
          ·exact(u3 j (by omega) (by omega) (by omega)).trans (by rw[AR];exact Bz.a.new j (by omega))
          have:=(Bz.a.out hs).2.2;omega
         exact⟨⟨(kk,yy.1,[]++[yy.2],nxk+5+5,0,ovD (vI_ n zw) yy.2 ow,nxk+5+8),L9.dis,jl how,(jx hyy).trans hwl,mw⟩,.weak ⟨Cv rfl C7,fun i=>L9.toE i,Lc _⟩,LF kk⟩
        |cons a u=>
         refine Z1 Bz.tb ?_;refine Ms (δ:=[(18,Ai yy.1 false (ovD (vI_ n zw) yy.2 ow))]) (jr (fun j hj=>Bz.a.new j (by omega)) (Dz.shut (by omega) how) Bz.a.box hyy) ?_;have g1:(nxl+8+3=18)=False:=eq_false Bz.tq;have g2:(nxl+8+3=nxk+5+4)=False:=eq_false (by have:=Bz.tn;omega);have hrow:=Bz.row (by simp);have g3:(nxl+8+3=rid)=False:=eq_false hrow.2.2.1.symm;have g4:(rid=18)=False:=eq_false hrow.2.1;have g5:(rid=nxk+5+4)=False:=eq_false (by have:=hrow.2.2.2.2;omega);have hlt:(u.length+1+1<=4294967296)=True:=eq_true (by simp only[Lg] at w6;omega);refine Z1 (Y2 (Y6 Bz.tb hrow.1 g1 g2 g3 g4) (Y2 g5 hlt)) ?_;have v1:CV (nxl+8+3) 18 (nxk+5+4) (rid) (nxl+8+3)=1:=(by simp[CV]);have v2:CV (nxl+8+3) 18 (nxk+5+4) (rid) 18=2:=(by unfold CV;rw[if_neg (Ne.symm Bz.tq),if_pos rfl]);have v3:CV (nxl+8+3) 18 (nxk+5+4) (rid) (nxk+5+4)=3:=(by unfold CV;rw[if_neg (by have:=Bz.tn;omega),if_neg (by have:=Bz.a.qn;omega),if_pos rfl]);have v4:CV (nxl+8+3) 18 (nxk+5+4) (rid) (rid)=4:=(by unfold CV;rw[if_neg (hrow.2.2.1),if_neg (hrow.2.1),if_neg (by have:=hrow.2.2.2.2;omega),if_pos rfl]);refine bL (CV (nxl+8+3) 18 (nxk+5+4) (rid)) _ rfl (by simp only[Nc,Nk,LE,LJ,Lk,LD,PH,PI,v1,v2,v3,v4];rfl) ?_;generalize eU:(upd (nxl+8+3) (some _) _:Hp)=hpU;have u1:hpU (nxl+8+3)=some (.bx [.v (.string r1.2),.so rid (rver+1) 0 (u.length+1+1)]):=(by rw[<-eU,Ah]);have u2:hpU (rid)=some (.rw (Al a::(u.map Al++[[.v (.string yy.2.name),.sl (yy.2.subs.map AZ),.sl (yy.2.expr.map Aj)]])) 3 (rver+1) false false):=(by rw[<-eU,Ad _ _ (hrow.2.2.1),Ah]);have u3:∀j,j≠nxl+8+3->j≠rid->j≠nxk+5+4->hpU j=upd 18 (some (Ai yy.1 false (ovD (vI_ n zw) yy.2 ow))) (hpE 18 oid over (nxl+8+3) rid rver (Ai zw false ow) ts r1.2 ((a::u))) j:=fun j h1 h2 h3=>(by rw[<-eU,Ad _ _ h1,Ad _ _ h2,Ad _ _ h3]);have tn:=Bz.tn;have qn:=Bz.a.qn;have L9:HE 18 oid over (nxl+8+3) (rid) (rver+1) false (ovD (vI_ n zw) yy.2 ow) yy.1 ts r1.2 ((a::u)++[yy.2]) hpU (nxk+5+8):=by
          refine⟨⟨(u3 18 (Ne.symm Bz.tq) (Ne.symm hrow.2.1) (by omega)).trans (Ah _ _ _),fun hs=> ?_,fun j hj=> ?_,by omega⟩,u1.trans (by simp[Aa]),fun _=>⟨u2.trans (by simp),hrow.2.1,hrow.2.2.1,fun hs=> ?_,by have:=hrow.2.2.2.2;omega⟩,Bz.tq,Bz.to1,by omega⟩
          ·have h1:=Bz.a.out hs;exact⟨(u3 oid (Bz.to1 hs).symm (fun e=>hrow.2.2.2.1 hs e.symm) (by have:=h1.2.2;omega)).trans (by rw[Ad _ _ h1.2.1];exact h1.1),h1.2.1,by have:=h1.2.2;omega⟩
          ·exact(u3 j (by omega) (by have:=hrow.2.2.2.2;omega) (by omega)).trans (by rw[AR];exact Bz.a.new j (by omega))
          exact hrow.2.2.2.1 hs
         exact⟨⟨(kk,yy.1,(a::u)++[yy.2],rid,rver+1,ovD (vI_ n zw) yy.2 ow,nxk+5+8),L9.dis,jl how,(jx hyy).trans hwl,mw⟩,.weak ⟨Cv rfl C7,fun i=>L9.toE i,Lc _⟩,LF kk⟩
   rintro⟨⟨rid,rver,ov2,hp9,nx9⟩,M,hov2,hql⟩;obtain⟨qx,qr⟩:=q;dsimp only at M hov2 hql m;refine ZT 1 ?_;have tn:=M.tn;have qn:=M.a.qn;cases qr with
   |nil=>
    cases ts with
    |nil=>
     refine Z1 M.tb ?_;generalize eV:(upd (nx9+3) (some _) _:Hp)=hpV;have u2:hpV (nx9+3)=some (.rw ((([]++[(⟨r1.2,[]⟩:AT)]):List AT).map Ak) 2 (0) false false):=(by rw[<-eV,Ah];simp);have u3:∀j,j≠nx9+3->j≠nx9+2->hpV j=hp9 j:=fun j h1 h2=>(by rw[<-eV,Ad _ _ h1,Ad _ _ h2]);have PA:IT 18 (nx9+3) (0) false ov2 qx ([]++[⟨r1.2,[]⟩]) hpV (nx9+5):=⟨(u3 18 (Ne.symm (by omega)) (by omega)).trans M.a.box,fun _=>⟨u2,by omega,by omega⟩,fun j hj=>(u3 j (by omega) (by omega)).trans (M.a.new j (by omega)),by omega⟩
     exact⟨⟨(k,qx,[]++[⟨r1.2,[]⟩],nx9+3,0,ov2,hpV,nx9+5),PA,hql,m,hov2⟩,Kg (Cv rfl (Cv rfl (Cv (by simp[Aa,upd]) (KP _)))),LF k⟩
    |cons a u=>
     have hout:=M.a.out (by simp);have g1:(oid=nx9+2)=False:=EU;have hlt:(u.length+1+1<=4294967296)=True:=eq_true (by simp only[Lg] at z6;omega);refine Z1 (Y4 M.tb hout.1 g1 hlt) ?_;generalize eV:(upd (oid) (some _) _:Hp)=hpV;have u2:hpV (oid)=some (.rw ((((a::u)++[(⟨r1.2,[]⟩:AT)]):List AT).map Ak) 2 (over+1) false false):=(by rw[<-eV,Ah];simp);have u3:∀j,j≠oid->j≠nx9+2->hpV j=hp9 j:=fun j h1 h2=>(by rw[<-eV,Ad _ _ h1,Ad _ _ h2]);have PA:IT 18 (oid) (over+1) false ov2 qx ((a::u)++[⟨r1.2,[]⟩]) hpV (nx9+5):=⟨(u3 18 (Ne.symm (hout.2.1)) (by omega)).trans M.a.box,fun _=>⟨u2,hout.2.1,by have:=hout.2.2;omega⟩,fun j hj=>(u3 j (by have:=hout.2.2;omega) (by omega)).trans (M.a.new j (by omega)),by omega⟩
     exact⟨⟨(k,qx,(a::u)++[⟨r1.2,[]⟩],oid,over+1,ov2,hpV,nx9+5),PA,hql,m,hov2⟩,Kg (Cv rfl (Cv rfl (Cv (by simp[Aa,upd]) (KP _)))),LF k⟩
   |cons b w=>
    have hrow:=M.row (by simp);cases ts with
    |nil=>
     have g2:(rid=nx9+2)=False:=EU;refine Z1 (Y3 M.tb hrow.1 g2) ?_;generalize eV:(upd (nx9+3) (some _) _:Hp)=hpV;have u2:hpV (nx9+3)=some (.rw ((([]++[(⟨r1.2,(b::w)⟩:AT)]):List AT).map Ak) 2 (0) false false):=(by rw[<-eV,Ah];simp);have u3:∀j,j≠nx9+3->j≠nx9+2->j≠rid->hpV j=hp9 j:=fun j h1 h2 h3=>(by rw[<-eV,Ad _ _ h1,Ad _ _ h2,Ad _ _ h3]);have PA:IT 18 (nx9+3) (0) false ov2 qx ([]++[⟨r1.2,(b::w)⟩]) hpV (nx9+5):=⟨(u3 18 (Ne.symm (by omega)) (by omega) (Ne.symm hrow.2.1)).trans M.a.box,fun _=>⟨u2,by omega,by omega⟩,fun j hj=>(u3 j (by omega) (by omega) (by have:=hrow.2.2.2.2;omega)).trans (M.a.new j (by omega)),by omega⟩
     exact⟨⟨(k,qx,[]++[⟨r1.2,(b::w)⟩],nx9+3,0,ov2,hpV,nx9+5),PA,hql,m,hov2⟩,Kg (Cv rfl (Cv rfl (Cv (by simp[Aa,upd]) (KP _)))),LF k⟩
    |cons a u=>
     have hout:=M.a.out (by simp);have g1:(oid=nx9+2)=False:=EU;have g2:(rid=nx9+2)=False:=EU;have g3:(oid=rid)=False:=eq_false (fun e=>hrow.2.2.2.1 (by simp) e.symm);have hlt:(u.length+1+1<=4294967296)=True:=eq_true (by simp only[Lg] at z6;omega);refine Z1 (Y2 (Y6 M.tb hrow.1 hout.1 g1 g2 g3) hlt) ?_;generalize eV:(upd (oid) (some _) _:Hp)=hpV;have u2:hpV (oid)=some (.rw ((((a::u)++[(⟨r1.2,(b::w)⟩:AT)]):List AT).map Ak) 2 (over+1) false false):=(by rw[<-eV,Ah];simp);have u3:∀j,j≠oid->j≠nx9+2->j≠rid->hpV j=hp9 j:=fun j h1 h2 h3=>(by rw[<-eV,Ad _ _ h1,Ad _ _ h2,Ad _ _ h3]);have PA:IT 18 (oid) (over+1) false ov2 qx ((a::u)++[⟨r1.2,(b::w)⟩]) hpV (nx9+5):=⟨(u3 18 (Ne.symm (hout.2.1)) (by omega) (Ne.symm hrow.2.1)).trans M.a.box,fun _=>⟨u2,hout.2.1,by have:=hout.2.2;omega⟩,fun j hj=>(u3 j (by have:=hout.2.2;omega) (by omega) (by have:=hrow.2.2.2.2;omega)).trans (M.a.new j (by omega)),by omega⟩
     exact⟨⟨(k,qx,(a::u)++[⟨r1.2,(b::w)⟩],oid,over+1,ov2,hpV,nx9+5),PA,hql,m,hov2⟩,Kg (Cv rfl (Cv rfl (Cv (by simp[Aa,upd]) (KP _)))),LF k⟩
theorem conc_nil {hp:Hp}{nx:Nat}:AK Tryz.prog 167 [.v (.slice none 0 0)] hp nx fun v hp2 nx2=>v= .v (.slice none 0 0)/\hp2=hp/\nx<=nx2:=by
 refine zq Tryz.func167 ?_;refine D3 ?_;refine ET ?_;refine EI (α:={ k:Nat // nx<=k }) (fun k=>⟨upd 0 (.v (.slice none 0 0)) (upd 3 (.v (.int .i64 0)) AQ),hp,k.1⟩) ?_ ?_
 ·refine CN ?_;refine DS (α:=Unit) (fun _=>⟨upd 0 (.v (.slice none 0 0)) (upd 3 (.v (.int .i64 0)) (upd 10 (.v (.int .i64 0)) (upd 11 (.v (.int .i64 0)) AQ))),hp,nx+5⟩) (fun _=>0) () ?_ ?_
  ·exact CH
  rintro⟨⟩;refine D3 ?_;exact⟨⟨_,by omega⟩,CH⟩
 rintro⟨k,hk⟩;refine Az ?_;refine CG ((mr (k:=0) (Ll _)).mono ?_);rintro v hp2 nx2 ⟨hle,g0,g1⟩;dsimp only at hle g0 g1;obtain⟨rfl,rfl⟩:=g0 rfl;refine Z0 ?_;refine ET ?_;refine EI (α:={ k:Nat // nx<=k }) (fun k=>⟨upd 6 (.v (.slice none 0 0)) AQ,hp2,k.1⟩) ?_ ?_
 ·refine CN ?_;refine DS (α:=Unit) (fun _=>⟨upd 6 (.v (.slice none 0 0)) (upd 26 (.v (.int .i64 0)) (upd 27 (.v (.int .i64 0)) AQ)),hp2,nx2+3⟩) (fun _=>0) () ?_ ?_
  ·exact CH
  rintro⟨⟩;refine D3 ?_;exact⟨⟨_,by omega⟩,CH⟩
 rintro⟨k2,hk2⟩;refine Az ?_;refine AN ?_;exact⟨_,_,rfl,⟨fun _=>.inr rfl⟩,rfl,rfl,by dsimp only;omega⟩
theorem steps_nil {hp:Hp}{nx:Nat}{x:AV}{t:ByteArray}{b:Bool}:AK Tryz.prog 141 [x,.v (.string t),.d (.sl []) b] hp nx fun v hp2 nx2=>v= .v (.slice none 0 0)/\hp2=hp/\nx<=nx2:=by
 refine zq Tryz.func141 ?_;refine D3 ?_;refine ET ?_;refine EI (α:={ k:Nat // nx<=k }) (fun k=>⟨upd 7 (.v (.slice none 0 0)) AQ,hp,k.1⟩) ?_ ?_
 ·refine CN ?_;refine DS (α:=Unit) (fun _=>⟨upd 7 (.v (.slice none 0 0)) (upd 14 (.v (.int .i64 0)) (upd 15 (.v (.int .i64 0)) AQ)),hp,nx+5⟩) (fun _=>0) () ?_ ?_
  ·exact CH
  rintro⟨⟩;refine D3 ?_;exact⟨⟨_,by omega⟩,CH⟩
 rintro⟨k,hk⟩;refine Az ?_;refine CG (conc_nil.mono ?_);rintro v hp2 nx2 ⟨rfl,rfl,hle⟩;dsimp only at hle;refine GI ?_;exact⟨_,_,rfl,⟨fun _=>.inr rfl⟩,rfl,rfl,by dsimp only;omega⟩
theorem dW {id sz ver:Nat}{es:List (List D)}{hp:Hp}(h:es≠[]->hp id=some (.rw es sz ver false false))(i:Nat):Dh id sz ver es AS i=none\/Dh id sz ver es AS i=hp i:=by
 by_cases e:es≠[]/\i=id
 ·exact .inr (by rw[e.2,KZ e.1,h e.1])
 exact .inl (by rw[Hh fun hn hi=>e ⟨hn,hi⟩];rfl)
def FI:List AL->List AG
 |[]=>[]
 |s::r=>if s.rel.toList==ByteArray.empty.toList then FI r else⟨⟨s.type_,s.rel⟩,0⟩::FI r
theorem RU (s:AL)(r:List AL):FI (s::r)=if s.rel.toList==ByteArray.empty.toList then FI r else⟨⟨s.type_,s.rel⟩,0⟩::FI r:=rfl
def RW (n:Nat)(S:AC)(m:AA):Option (List AG):=
 match qg_ m ⟨ByteArray.empty,[],[]⟩ S.rels with
 |⟨_,ss,[]⟩=>if ss.length<=1000000 then some (FI ss) else none
 |⟨_,[],e::r⟩=>V0 n S m.typ (e::r)
 |_=>none
theorem wR {n:Nat}{S:AC}{m:AA}{r:List AG}(h:RW n S m=some r):AI Tryz.prog 114 [D.pt (Ap S) 0,D.ag (AX m)] (D.sl (r.map AD)) true:=by
 obtain⟨a,b⟩:=m;refine zP #[.tmp 4] Tryz.func114 ?_;refine Az ?_;refine AW (ZT 1 ?_);have h1:EM (true,[.string,.string]) (.agg #[.string a,.string b]) (.d (.ag [.v (.string ByteArray.empty),.sl [],.sl []]) true) false (Et true (CO qb_ true Al S.rels))=some (.d (.ag (Al (qg_ (⟨a,b⟩:AA) (⟨ByteArray.empty,[],[]⟩:Ac) S.rels))) true,[]):=HU (b:=true) (ag:=true) (enc:=Al) Kc (⟨a,b⟩:AA) ((⟨ByteArray.empty,[],[]⟩:Ac):Ac) false S.rels;unfold RW at h;generalize qg_ (⟨a,b⟩:AA) (⟨ByteArray.empty,[],[]⟩:Ac) S.rels=g at h h1;obtain⟨gn,gs,ge⟩:=g;refine GU h1 ?_;cases ge with
 |nil=>
  dsimp only at h;split at h;rotate_left
  ·cases h
  rename_i hlen;cases h;refine Az ?_;refine CG (steps_nil.mono ?_);rintro v hp2 nx2 ⟨rfl,rfl,hle⟩;dsimp only at hle;refine Z0 ?_;refine ET ?_;refine EI (α:={ t:Nat × Nat × Nat // FI gs≠[]->t.1<t.2.2 }) (fun t=>⟨upd 6 (Aa t.1.1 t.1.2.1 ((FI gs).map AD)) AQ,Dh t.1.1 3 t.1.2.1 ((FI gs).map AD) AS,t.1.2.2⟩) ?_ ?_
  ·refine CN ?_;refine DS (α:={ t:Nat × List AG × Nat × Nat × Nat // t.1<=gs.length/\t.2.1++FI (gs.drop t.1)=FI gs/\t.2.1.length<=t.1/\(t.2.1≠[]->t.2.2.1<t.2.2.2.2) })
    (fun t=>⟨upd 6 (Aa t.1.2.2.1 t.1.2.2.2.1 (t.1.2.1.map AD)) (upd 22 (.d (.sl (gs.map AZ)) true) (upd 23 (.v (.int .i64 (gs.length:Int))) (upd 24 (.v (.int .i64 (t.1.1:Int))) AQ))),Dh t.1.2.2.1 3 t.1.2.2.2.1 (t.1.2.1.map AD) AS,t.1.2.2.2.2⟩) (fun t=>gs.length-t.1.1)
    ⟨(0,[],0,0,nx2+5),Ll _,rfl,Lc _,fun hn=>absurd rfl hn⟩ ?_ ?_
   ·exact .weak ⟨Cv rfl C7,fun _=>.inl rfl,by dsimp only;omega⟩
   rintro⟨⟨i,out,oid,over,nxi⟩,hi,ho,hl,hid⟩;dsimp only at hi ho hl hid;refine AW (ZT 1 ?_);by_cases hlt:i<gs.length;rotate_left
   ·have c1:(decide ((i:Int)<(gs.length:Int)))=false:=Cr;obtain rfl:i=gs.length:=(by omega);rw[NX] at ho;rw[show FI ([]:List AL)= [] from rfl,LY] at ho;subst ho;refine Ck c1 ?_;refine Z0 ?_;exact⟨⟨(oid,over,_),fun hn=>Lz (hid hn) (NW _ _)⟩,CH⟩
   have c1:(decide ((i:Int)<(gs.length:Int)))=true:=Cb;have e1:gs[i]? =some gs[i]:=Ld hlt;have e2:(gs.map AZ)[i]? =some (AZ gs[i]):=Cs AZ e1;have ed:gs.drop i=gs[i]::gs.drop (i+1):=Ly hlt;refine Ck c1 ?_;refine Z0 ?_;refine AW (EI (α:={ t:List AG × Nat × Nat × Nat // t.1++FI (gs.drop (i+1))=FI gs/\t.1.length<=i+1/\(t.1≠[]->t.2.1<t.2.2.2) }) (fun t=>⟨upd 6 (Aa t.1.2.1 t.1.2.2.1 (t.1.1.map AD)) (upd 22 (.d (.sl (gs.map AZ)) true) (upd 23 (.v (.int .i64 (gs.length:Int))) (upd 24 (.v (.int .i64 (i:Int))) AQ))),Dh t.1.2.1 3 t.1.2.2.1 (t.1.1.map AD) AS,t.1.2.2.2⟩) ?_ ?_);rotate_left
   ·rintro⟨⟨out2,oid2,over2,nxj⟩,ho2,hl2,hid2⟩;refine ZT 1 ?_;refine Z1 (As (n:=i)) ?_;exact⟨⟨(i+1,out2,oid2,over2,nxj+2),hlt,ho2,hl2,fun hn=>Lz (hid2 hn) (NW _ _)⟩,CH,by dsimp only;omega⟩
   refine CN ?_;refine AW (ZT 1 ?_);have w:=Y2 e2 (Y2 (Cx .i64 (show(0:Int)<=(i:Int) by omega)) (show((i:Int)).toNat=i from Lv _));refine Ck w ?_;refine Z0 ?_;cases hr:(gs[i].rel.toList==ByteArray.empty.toList) with
   |true=>
    have hr2:(gs[i].rel.toList==({ data:= #[] }:ByteArray).toList)=true:=hr;refine HG hr2 ?_;refine⟨⟨(out,oid,over,nxi+1+4+3),?_,Nat.le_succ_of_le hl,fun hn=>by have:=hid hn;dsimp only;omega⟩,.weak ⟨Cv rfl C7,dW fun hn=> ?_,by dsimp only;omega⟩⟩
    ·rw[ed,RU,hr,if_pos rfl] at ho;exact ho
    ·have:=hid (by simpa using hn);dsimp only;rw[AR,AR,KZ hn]
   |false=>
    have hr2:(gs[i].rel.toList==({ data:= #[] }:ByteArray).toList)=false:=hr;rw[ed,RU,hr,if_neg (by decide)] at ho;generalize eA:(upd (nxi+1+2) (some _) _:Hp)=hpA;have a1:hpA (nxi+1+2)=some (.bx [.v (.string gs[i].type_),.v (.string gs[i].id_),.v (.string gs[i].rel)]):=(by rw[<-eA,Ah]);have a2:out≠[]->hpA oid=some (.rw (out.map AD) 3 over false false):=fun hn=>by
     have:=hid hn;rw[<-eA,AR,AR,KZ (by simpa using hn)]
    refine ZT 1 ?_;cases out with
    |nil=>
     refine Z1 (Y2 hr2 a1) ?_;refine⟨⟨([⟨⟨gs[i].type_,gs[i].rel⟩,0⟩],nxi+1+4+3+8,0,nxi+1+4+3+10),ho,by simp,fun _=>by dsimp only;omega⟩,.weak ⟨Cv rfl C7,?_,by dsimp only;omega⟩⟩;dsimp only;exact dW fun hn=>Ah _ _ _
    |cons b u=>
     have a3:=a2 (by simp);have i3:=hid (by simp);have g1:(u.length+1+1<=4294967296)=True:=eq_true (by simp only[Lg] at hl;omega);have g2:(oid=nxi+1+4+3+7)=False:=EU;refine Z1 (Y5 hr2 a1 a3 g1 g2) ?_;refine⟨⟨((b::u)++[⟨⟨gs[i].type_,gs[i].rel⟩,0⟩],oid,over+1,nxi+1+4+3+10),by rw[Lq];exact ho,by rw[Lf,Lr];omega,fun _=>by dsimp only;omega⟩,.weak ⟨Cv (by simp[Aa,upd]) C7,?_,by dsimp only;omega⟩⟩;dsimp only;exact dW fun hn=>(Ah _ _ _).trans (by simp)
  ·rintro⟨⟨oid,over,nxj⟩,hid⟩;refine Az ?_;refine AN ?_;generalize FI gs=out;cases out with
   |nil=>exact CC
   |cons a r=>
    refine HT (v:=Aa oid over ((a::r).map AD)) (b:=false) (is:=[oid]) (by simp -implicitDefEqProofs only[go_sem, ↓reduceIte,Ah]<;>rfl) ?_ rfl fun _=>rfl;simp[toR,EP,CS,Aa,KZ,Zq]
 |cons e re=>
  cases gs with
  |cons a u=>cases h
  |nil=>
   dsimp only at h;refine Az ?_;refine DB (wY h) ?_;refine Z0 ?_;refine ET ?_;refine EI (α:=Unit) (fun _=>⟨upd 6 (.d (.sl (r.map AD)) false) AQ,AS,30⟩) ?_ ?_
   ·refine CN ?_;refine DS (α:=Unit) (fun _=>⟨upd 6 (.d (.sl (r.map AD)) false) (upd 23 (.v (.int .i64 0)) (upd 24 (.v (.int .i64 0)) AQ)),AS,29⟩) (fun _=>0) () ?_ ?_
    ·exact .weak ⟨Cv rfl C7,fun _=>.inl rfl,by dsimp only;omega⟩
    rintro⟨⟩;refine D3 ?_;exact⟨(),.weak ⟨Cv rfl (KP _),fun _=>.inl rfl,by dsimp only;omega⟩⟩
   rintro⟨⟩;refine Az ?_;refine AN ?_;exact CC
end Go.Proofs.YtnmkbmefohakmaaGreat.Ab
