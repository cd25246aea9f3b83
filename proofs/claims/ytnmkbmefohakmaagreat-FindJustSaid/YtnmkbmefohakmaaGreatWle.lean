/-
 A schema of one's own, that grows: its names are collected.
-/
import Derived.Test.YtnmkbmefohakmaaGreatPrj
set_option linter.all false
namespace Go.Proofs.YtnmkbmefohakmaaGreat.Ab
open Go.RowKit
structure I8 (q oid over:Nat) (bl:Bool) (ov:AV) (x:Au) (ts:List AG) (hp:Hp) (nx:Nat):Prop where
 box:hp q=some (Aw x bl ov)
 out:ts≠[]->hp oid=some (.rw (ts.map AS) 2 over false false)/\oid≠q/\oid<nx
 new:∀j,nx<=j->hp j=none
 qn:q<nx
structure HG (q oid over t rid rver:Nat) (bl:Bool) (ov:AV) (x:Au) (ts:List AG) (nm:ByteArray) (rs:List AZ) (hp:Hp) (nx:Nat):Prop where
 a:I8 q oid over bl ov x ts hp nx
 tb:hp t=some (.bx [.v (.string nm),AW rid rver (rs.map Al)])
 row:rs≠[]->hp rid=some (.rw (rs.map Al) 3 rver false false)/\rid≠q/\rid≠t/\(ts≠[]->rid≠oid)/\rid<nx
 tq:t≠q
 to:ts≠[]->t≠oid
 tn:t<nx
variable {bl:Bool}{es:List (List D)}{hp:Hp}{id nx2 oid over q rid rver sz t ver:Nat}{ov:AV}{rs:List AZ}{ts:List AG}{x:Au}
theorem I8.put {ov2:AV}{x2:Au}{nx:Nat}(h:I8 q oid over bl ov x ts hp nx)(c:nx<=nx2):I8 q oid over bl ov2 x2 ts (upd q (some (Aw x2 bl ov2)) hp) nx2 where
 box:=At _ _ _
 out:=fun b=>by
  have a:=h.out b;exact⟨by rw[Aj _ _ a.2.1];exact a.1,a.2.1,by omega⟩
 new:=fun j a=>by have:=h.qn;rw[Ac];exact h.new j (by omega)
 qn:=by have:=h.qn;omega
theorem I8.up {nx:Nat}(h:I8 q oid over bl ov x ts hp nx)(c:nx<=nx2):I8 q oid over bl ov x ts hp nx2 where
 box:=h.box
 out:=fun b=>by
  have a:=h.out b;exact⟨a.1,a.2.1,by omega⟩
 new:=fun j a=>h.new j (by omega)
 qn:=by have:=h.qn;omega
theorem HG.put {ov2:AV}{x2:Au}{nm:ByteArray}{nx:Nat}(h:HG q oid over t rid rver bl ov x ts nm rs hp nx)(c:nx<=nx2):HG q oid over t rid rver bl ov2 x2 ts nm rs (upd q (some (Aw x2 bl ov2)) hp) nx2 where
 a:=h.a.put c
 tb:=by rw[Aj _ _ h.tq];exact h.tb
 row:=fun d=>by
  have b:=h.row d;exact⟨by rw[Aj _ _ b.2.1];exact b.1,b.2.1,b.2.2.1,b.2.2.2.1,by omega⟩
 tq:=h.tq
 to:=h.to
 tn:=by have:=h.tn;omega
theorem HG.up {nm:ByteArray}{nx:Nat}(h:HG q oid over t rid rver bl ov x ts nm rs hp nx)(b:nx<=nx2):HG q oid over t rid rver bl ov x ts nm rs hp nx2 where
 a:=h.a.up b
 tb:=h.tb
 row:=fun c=>by
  have d:=h.row c;grind
 tq:=h.tq
 to:=h.to
 tn:=by have:=h.tn;omega
def D3 (id sz ver:Nat)(es:List (List D))(hp:Hp):Hp:=if es= [] then hp else upd id (some (.rw es sz ver false false)) hp
def hpE (q oid over t rid rver:Nat)(a:AO)(ts:List AG)(nm:ByteArray)(rs:List AZ):Hp:=upd q (some a) (upd t (some (.bx [.v (.string nm),AW rid rver (rs.map Al)])) (D3 oid 2 over (ts.map AS) (D3 rid 3 rver (rs.map Al) AK)))
def Cl (v:AV):Prop:=∀a,CZ a v=some v
theorem ml {a:Bool}{g:AZ}(h:Cl ov):Cl (ovD a g ov):=by
 unfold ovD;split
 ·exact fun _=>rfl
 exact h
theorem Hh {j:Nat}(h:es≠[]->j≠id):D3 id sz ver es hp j=hp j:=by
 unfold D3;split
 ·rfl
 rename_i a;exact Aj _ _ (h a)
theorem Kb (h:es≠[]):D3 id sz ver es hp id=some (.rw es sz ver false false):=by
 unfold D3;rw[if_neg h,At]
structure MR (q oid t rid:Nat) (ts:List AG) (rs:List AZ) (nx:Nat):Prop where
 oq:ts≠[]->oid≠q/\oid<nx
 row:rs≠[]->rid≠q/\rid≠t/\(ts≠[]->rid≠oid)/\rid<nx
 tq:t≠q
 to:ts≠[]->t≠oid
 tn:t<nx
 qn:q<nx
theorem MR.b {nx:Nat}{nm:ByteArray}(h:MR q oid t rid ts rs nx):HG q oid over t rid rver bl ov x ts nm rs (hpE q oid over t rid rver (Aw x bl ov) ts nm rs) nx where
 a:={
  box:=At _ _ _
  out:=fun b=>by
   have c:=h.oq b;refine⟨?_,c.1,c.2⟩;unfold hpE;rw[Aj _ _ c.1,Aj _ _ (h.to b).symm,Kb (by simpa using b)]
  new:=fun j d=>by
   have:=h.qn
   have:=h.tn;unfold hpE;rw[Ac,Ac,Hh (fun b=>by have:=(h.oq (by simpa using b)).2;omega),Hh (fun b=>by have:=(h.row (by simpa using b)).2.2.2;omega)];rfl
  qn:=h.qn }
 tb:=by unfold hpE;rw[Aj _ _ h.tq,At]
 row:=fun b=>by
  have⟨c,e,f,g⟩:=h.row b;simp_all [hpE,Aj,Hh,Kb]
 tq:=h.tq
 to:=h.to
 tn:=h.tn
theorem HG.dis {nm:ByteArray}{nx:Nat}(h:HG q oid over t rid rver bl ov x ts nm rs hp nx):MR q oid t rid ts rs nx:=
 ⟨fun a=>(h.a.out a).2,fun a=>(h.row a).2,h.tq,h.to,h.tn,h.a.qn⟩
theorem HG.toE {nm:ByteArray}{nx:Nat}(h:HG q oid over t rid rver bl ov x ts nm rs hp nx)(i:Nat):hpE q oid over t rid rver (Aw x bl ov) ts nm rs i=none\/hpE q oid over t rid rver (Aw x bl ov) ts nm rs i=hp i:=by
 have a:=(h.dis.b (over:=over) (rver:=rver) (bl:=bl) (ov:=ov) (x:=x) (nm:=nm));by_cases e:i=q
 ·exact .inr (by rw[e,a.a.box,h.a.box])
 by_cases f:i=t
 ·exact .inr (by rw[f,a.tb,h.tb])
 by_cases b:ts≠[]/\i=oid
 ·exact .inr (by rw[b.2,(a.a.out b.1).1,(h.a.out b.1).1])
 by_cases c:rs≠[]/\i=rid
 ·exact .inr (by rw[c.2,(a.row c.1).1,(h.row c.1).1])
 refine .inl ?_;unfold hpE;rw[Aj _ _ e,Aj _ _ f,Hh (fun d=>fun h=>b ⟨by simpa using d,h⟩),Hh (fun d=>fun h=>c ⟨by simpa using d,h⟩)];rfl
theorem co {nx i:Nat}{o:AO}(h:I9 nx hp)(b:Ce (GT nx) o=some o):I9 nx (upd i (some o) hp):=fun j p a=>by
 by_cases e:j=i
 ·subst e;rw[At] at a;cases a;exact b
 rw[Aj _ _ e] at a;exact h j p a
theorem mm {nx:Nat}(h:I9 nx hp):I9 nx (D3 id sz ver es hp):=by
 unfold D3;split
 ·exact h
 exact co h rfl
theorem MR.shut {nx:Nat}{nm:ByteArray}(h:MR q oid t rid ts rs nx)(d:nx<=nx2)(b:Cl ov):I9 nx2 (hpE q oid over t rid rver (Aw x bl ov) ts nm rs):=by
 unfold hpE;refine co (co (mm (mm fun j o c=>by cases c)) ?_) ?_
 ·cases rs with
  |nil=>rfl
  |cons a r=>
   have e:=(h.row (by simp)).2.2.2
   have:GT nx2 rid=some rid:=ifp;simp[Ce,EK,CZ,AW,this]
 simp[Aw,Ce,EK,CZ,b (GT nx2)]
theorem MR.up {nx:Nat}(h:MR q oid t rid ts rs nx)(b:nx<=nx2):MR q oid t rid ts rs nx2:=
 ⟨fun a=>by have:=h.oq a;exact⟨this.1,by omega⟩,fun a=>by have:=h.row a;grind,h.tq,h.to,by have:=h.tn;omega,by have:=h.qn;omega⟩
theorem mn (x:Au)(b:ByteArray):(EE x b).l=x.l:=by
 unfold EE;split
 ·split
  ·rfl
  exact(Hd x 9).1
 rfl
set_option maxRecDepth 8000 in
theorem xR {n c f:Nat}{s:ByteArray}{y:List AG × Int × Int}(h:Pe n c f s=some y):AM Tryz.prog 26 [D.v (.string s)] (D.tu [D.sl (y.1.map AS),D.v (.int .i64 y.2.1),D.v (.int .i64 y.2.2)]) false:=by
 unfold Pe at h;have⟨t,ht,h⟩:=AP h;refine zP #[.tmp 2,.tmp 3,.tmp 4] Tryz.func26 ?_;refine Dg ?_;refine CT (xM ht) ?_;refine Z0 ?_;refine AU (AU ?_);refine ZT 1 ?_;cases N:(t.2.2==0) with
 |false=>
  have aE:(t.2.2 != 0)=true:=by rw[bne,N];rfl
  rw[N,if_neg (by decide)] at h;cases h;refine Z1 aE ?_;refine ED (c:=true) rfl rfl ?_;refine Ax ?_;refine AQ ?_;exact As
 |true=>
  have aE:(t.2.2 != 0)=false:=by rw[bne,N];rfl
  rw[N,if_pos rfl] at h;have⟨r,hr,h⟩:=AP h;refine Z1 aE ?_;refine DI (c:=false) rfl rfl ?_;refine AQ ?_;refine Dg ?_;refine AU (CV ?_);have L0:I8 18 0 0 false (.v (.slice none 0 0)) ⟨t.1,0,(s.size:Int),0,0,0,[],0⟩ [] (upd 18 (some (Aw ⟨t.1,0,(s.size:Int),0,0,0,[],0⟩ false (.v (.slice none 0 0)))) AK) 21:=
   ⟨At _ _ _,fun hn=>absurd rfl hn,fun j aa=>by rw[Ac];rfl,by decide⟩
  refine DV (α:={ z:Nat × Au × List AG × Nat × Nat × AV × Hp × Nat // I8 18 z.2.2.2.1 z.2.2.2.2.1 false z.2.2.2.2.2.1 z.2.1 z.2.2.1 z.2.2.2.2.2.2.1 z.2.2.2.2.2.2.2/\z.2.1.l=t.1/\J0 n c f z.1 z.2.1 z.2.2.1=some r/\Cl z.2.2.2.2.2.1 })
   (fun z=>⟨upd 5 (.d (.sl (t.1.map Ap)) false) (upd 8 (.pt 18 0) (upd 9 (AW z.1.2.2.2.1 z.1.2.2.2.2.1 (z.1.2.2.1.map AS)) AJ)),z.1.2.2.2.2.2.2.1,z.1.2.2.2.2.2.2.2⟩) (fun z=>z.1.1)
   ⟨(c,⟨t.1,0,(s.size:Int),0,0,0,[],0⟩,[],0,0,.v (.slice none 0 0),_,21),L0,rfl,hr,fun _=>rfl⟩ ?_ ?_
  ·exact CW
  rintro⟨⟨k,x,ts,oid,over,ov,ba,ch⟩,L,ab,m,bb⟩;dsimp only at L ab m bb;cases k with
  |zero=>cases m
  |succ k=>
  unfold J0 at m;split at m;rotate_left
  ·cases m
  rename_i hw;have⟨⟨z1,z2,z3,z4⟩,z5,z6⟩:=hw;have dk:(x.l.map Ap).length=t.1.length:=by rw[ab,Lt]
  have dl:x.p<=t.1.length:=by rw[<-ab];exact z2
  refine AU (AU ?_);refine ZT 1 ?_;cases N:(x.e==0) with
  |false=>
   have aE:(x.e != 0)=true:=(by rw[bne,N];rfl);rw[N,Ng,if_neg (by decide)] at m;have⟨m1,m2⟩:=BX (LI m);rw[<-m1,N,if_neg (by decide)] at h;cases h;refine Z1 (Y2 L.box N) ?_;refine AQ ?_;refine AU (AU ?_);refine ZT 1 ?_;refine Z1 (Y2 L.box aE) ?_;refine ED (c:=true) rfl rfl ?_;refine AU (ZT 1 ?_);refine Z1 L.box ?_;refine DD (by rfl) ?_;refine AQ ?_;exact As
  |true=>
   have aE:(x.e != 0)=false:=(by rw[bne,N];rfl);by_cases ad:x.p<t.1.length;rotate_left
   ·have c1:(decide ((x.p:Int)<(t.1.length:Int)))=false:=DE;rw[N,NB,if_neg (by rw[decide_eq_true_eq,ab];exact ad)] at m;have⟨m1,m2⟩:=BX (LI m);rw[<-m1,<-m2,N,if_pos rfl] at h;cases h;refine Z1 (Y3 L.box N c1) ?_;refine AQ ?_;refine AU (AU ?_);refine ZT 1 ?_;refine Z1 (Y2 L.box aE) ?_;refine DI (c:=false) rfl rfl ?_;refine AQ ?_;refine Ax ?_;refine AQ ?_;have b0:∃is,toR ba (.tu [AW oid over (ts.map AS),.v (.int .i64 0),.v (.int .i64 0)])=some (D.tu [D.sl (ts.map AS),D.v (.int .i64 0),D.v (.int .i64 0)],false,is):=by
     cases ts with
     |nil=>exact⟨_,rfl⟩
     |cons a u=>
      have lo:=(L.out (by simp)).1;exact⟨[oid],by simp[toR,C8,FJ,Ci,AW,lo,a7]⟩
    have⟨is,b0⟩:=b0;exact IQ (v:=.tu [AW oid over (ts.map AS),.v (.int .i64 0),.v (.int .i64 0)]) (by simp -implicitDefEqProofs only[go_sem, ↓reduceIte,At,Nat.reduceEqDiff]<;>rfl) b0 rfl fun _=>rfl
   have c1:(decide ((x.p:Int)<(t.1.length:Int)))=true:=DB;rw[N,NB,if_pos (by rw[decide_eq_true_eq,ab];exact ad)] at m;have⟨tt,ao,m⟩:=AP m;refine Z1 (Y3 L.box N c1) ?_;refine AQ ?_;refine CV ?_;obtain⟨zz,aq⟩:∃zz,zz=(if ts.length=200 then xe_ x 8 else x):=⟨_,rfl⟩;rw[<-aq] at ao;have kz:zz.l=x.l/\zz.out=x.out/\zz.deep=x.deep/\zz.p=x.p:=by
    rw[aq];split
    ·exact Hd x 8
    exact⟨rfl,rfl,rfl,rfl⟩
   refine AU (Dw (α:={ k:Nat // ch<=k }) (fun y=>⟨upd 5 (.d (.sl (t.1.map Ap)) false) (upd 8 (.pt 18 0) (upd 9 (AW oid over (ts.map AS)) AJ)),upd 18 (some (Aw zz false ov)) ba,y.1⟩) ?_ ?_)
   ·refine AU (ZT 1 ?_);have lo:=L.out;cases ts with
    |nil=>
     rw[if_neg (by decide)] at aq;refine Z0 ?_;refine DI (c:=false) rfl rfl ?_;refine AQ ?_;rw[aq];exact⟨⟨_,by omega⟩,GE (Fc L.box) DW⟩
    |cons a u=>
     have lo:=(L.out (by simp)).1;by_cases ag:(a::u).length=200
     ·have a0:(((u.length+1:Nat):Int)==200)=true:=(by simp at ag⊢;omega);rw[if_pos ag] at aq;refine Z1 (Y2 lo a0) ?_;refine AQ ?_;refine CO ((KY L.box (by omega)).mono ?_);rintro v b1 b2 ⟨rfl,rfl,a1⟩;dsimp only at a1;refine Z0 ?_;rw[aq];exact⟨⟨_,by omega⟩,CW⟩
     have a0:(((u.length+1:Nat):Int)==200)=false:=(by simp at ag⊢;omega);rw[if_neg ag] at aq;refine Z1 (Y2 lo a0) ?_;refine DI (c:=false) rfl rfl ?_;refine AQ ?_;rw[aq];exact⟨⟨_,by omega⟩,GE (Fc L.box) DW⟩
   rintro⟨o,hk⟩;have L1:=L.put (x2:=zz) (ov2:=ov) hk;refine AU ?_;obtain⟨S,O⟩:∃S,S=tyM zz:=⟨_,rfl⟩;unfold Pd at ao;rw[<-O] at ao;refine Dw (α:={ k:Nat // o<=k }) (fun y=>⟨upd 5 (.d (.sl (t.1.map Ap)) false) (upd 8 (.pt 18 0) (upd 9 (AW oid over (ts.map AS)) AJ)),upd 18 (some (Aw S false ov)) (upd 18 (some (Aw zz false ov)) ba),y.1⟩) ?_ ?_
   ·refine AU (ZT 1 ?_);have et:t.1[zz.p]? =some t.1[x.p]:=(by rw[kz.2.2.2];exact Le ad);have e2:(t.1.map Ap)[zz.p]? =some [D.v (.int .i64 t.1[x.p].kind),D.v (.int .i64 t.1[x.p].at_),D.v (.string t.1[x.p].text)]:=Cz Ap et;unfold tyM at O;rw[kz.1,ab,et] at O;dsimp only at O;have w:=Y2 L1.box (Y3 e2 (CC .i64 (show(0:Int)<=(zz.p:Int) by omega)) (show((zz.p:Int)).toNat=zz.p from Li _));cases a3:(zz.e==0) with
    |false=>
     rw[a3,if_neg (by decide)] at O;refine Z1 (Y2 a3 w) ?_;refine DI (c:=false) rfl rfl ?_;refine AQ ?_;rw[O];exact⟨⟨_,by omega⟩,GE (EU ..) DW⟩
    |true=>
     rw[a3,if_pos rfl] at O;cases bd:(t.1[x.p].kind==1) with
     |false=>
      have be:(t.1[x.p].kind != 1)=true:=(by rw[bne,bd];rfl);rw[bd,if_neg (by decide)] at O;refine Z1 (Y3 a3 be w) ?_;refine AQ ?_;refine CO ((KY L1.box (by rw[kz.1];omega)).mono ?_);rintro v b1 b2 ⟨rfl,rfl,a1⟩;dsimp only at a1;refine Z0 ?_;rw[O];exact⟨⟨_,by omega⟩,CW⟩
     |true=>
      have be:(t.1[x.p].kind != 1)=false:=(by rw[bne,bd];rfl);rw[bd,if_pos rfl] at O;cases bg:(t.1[x.p].text.toList==bType.toList) with
      |true=>
       have b3:(t.1[x.p].text.toList==({ data:= #[116,121,112,101] }:ByteArray).toList)=true:=bg;rw[bg,if_pos rfl] at O;refine Z1 (Y4 a3 be b3 w) ?_;refine DI (c:=false) rfl rfl ?_;refine AQ ?_;rw[O];exact⟨⟨_,by omega⟩,GE (EU ..) DW⟩
      |false=>
       have b3:(t.1[x.p].text.toList==({ data:= #[116,121,112,101] }:ByteArray).toList)=false:=bg;rw[bg,if_neg (by decide)] at O;refine Z1 (Y4 a3 be b3 w) ?_;refine AQ ?_;refine CO ((KY L1.box (by rw[kz.1];omega)).mono ?_);rintro v b1 b2 ⟨rfl,rfl,a1⟩;dsimp only at a1;refine Z0 ?_;rw[O];exact⟨⟨_,by omega⟩,CW⟩
   rintro⟨g,hl⟩;have b4:S.l=t.1/\S.p=x.p/\S.deep=x.deep:=by
    have k8:=(Hd zz 9);rw[O];unfold tyM;rw[<-ab,<-kz.1,<-kz.2.2.2,<-kz.2.2.1];split
    ·split
     ·split
      ·split
       ·exact⟨rfl,rfl,rfl⟩
       exact⟨k8.1,k8.2.2.2,k8.2.2.1⟩
      exact⟨k8.1,k8.2.2.2,k8.2.2.1⟩
     exact⟨k8.1,k8.2.2.2,k8.2.2.1⟩
    exact⟨rfl,rfl,rfl⟩
   have L2:=(L1.put (x2:=S) (ov2:=ov) hl);rw[EU] at L2⊢;have⟨l,b8,ao⟩:=AP ao;refine AU (ZT 1 ?_);refine Z1 (Y2 L2.box (Ar (n:=S.p) (by rw[b4.2.1];omega))) ?_;refine Ax ?_;have L3:=L2.put (x2:={ S with p:=S.p+1 }) (ov2:=ov) (Lc _);refine CO ((PV L3.box (by show S.l.length<_;rw[b4.1,<-ab];omega) b8).mono ?_);rintro v dm b9 ⟨rfl,rfl,cp⟩;dsimp only at cp;refine Z0 ?_;have L4:HG 18 oid over (g+8+3) 0 0 false ov l.1 ts l.2 [] (upd (g+8+3) (some (.bx [.v (.string l.2),.v (.slice none 0 0)])) (upd (g+8+3) (some (.bx [.v (.string ByteArray.empty),.v (.slice none 0 0)])) (upd 18 (some (Aw l.1 false ov)) (upd 18 (some (Aw { S with p:=S.p+1 } false ov)) (upd 18 (some (Aw S false ov)) ba))))) b9:=by
    have L5:=L3.put (x2:=l.1) (ov2:=ov) (nx2:=b9) (by omega);have dn:=L2.qn;refine⟨⟨by rw[Ac,Ac];exact L5.box,fun P=> ?_,fun j aa=>by rw[Ac,Ac];exact L5.new j aa,L5.qn⟩,At _ _ _,fun hn=>absurd rfl hn,by omega,fun P=> ?_,by omega⟩
    ·have A:=L5.out P;have T:=(L2.out P).2.2;exact⟨by rw[Ac,Ac];exact A.1,A.2⟩
    have T:=(L2.out P).2.2;omega
   generalize eH:(upd (g+8+3) (some _) _:Hp)=cs at L4⊢;have⟨q,hq,ao⟩:=AP ao;cases ao;have cx:=He b8;have a5:l.1.l=t.1:=cx.1.trans b4.1;have dp:t.1.length<1152921504606846976:=(by rw[<-ab];exact z1);refine AU (Dw (α:={ z:Nat × Nat × AV × Hp × Nat // HG 18 oid over (g+8+3) z.1 z.2.1 false z.2.2.1 q.1 ts l.2 q.2 z.2.2.2.1 z.2.2.2.2/\Cl z.2.2.1/\q.1.l=t.1 }) (fun z=>⟨upd 5 (.d (.sl (t.1.map Ap)) false) (upd 8 (.pt 18 0) (upd 9 (AW oid over (ts.map AS)) (upd 10 (.pt (g+8+3) 0) AJ))),z.1.2.2.2.1,z.1.2.2.2.2⟩) ?_ ?_)
   ·refine AU (ZT 1 ?_);cases bo:(l.1.e==0) with
    |false=>
     rw[bo,Ng,if_neg (by decide)] at hq;cases hq;refine Z1 (Y2 L4.a.box bo) ?_;refine DI (c:=false) rfl rfl ?_;refine AQ ?_;exact⟨⟨(0,0,ov,cs,_),L4.up (by dsimp only;omega),bb,a5⟩,CW⟩
    |true=>
     rw[bo,NB] at hq;refine Z1 (Y2 L4.a.box bo) ?_;refine CO ((Hc L4.a.box (by rw[a5];omega)).mono ?_);rintro v cN cb ⟨rfl,rfl,c0⟩;dsimp only at c0;cases hi:isM l.1 nM with
     |false=>
      have a2:isM l.1 { data:= #[123] }=false:=hi;rw[hi,if_neg (by decide)] at hq;cases hq;refine Z1 a2 ?_;refine DI (c:=false) rfl rfl ?_;refine AQ ?_;exact⟨⟨(0,0,ov,cN,_),L4.up (by dsimp only;omega),bb,a5⟩,CW⟩
     |true=>
      have a2:isM l.1 { data:= #[123] }=true:=hi;have c2:=F9 hi;rw[a5] at c2;rw[hi,if_pos rfl] at hq;obtain⟨⟨xf,c3⟩,c4,rfl⟩:=La.1 hq;refine Z1 a2 ?_;refine ED (c:=true) rfl rfl ?_;refine AU (ZT 1 ?_);refine Z1 (Y2 L4.a.box (Ar (n:=l.1.p))) ?_;have L5:=L4.put (x2:={ l.1 with p:=l.1.p+1 }) (ov2:=ov) (nx2:=cb+8) (by omega);refine AU (CV ?_);refine DV (α:={ z:Nat × Au × List AZ × Nat × Nat × AV × Nat // MR 18 oid (g+8+3) z.2.2.2.1 ts z.2.2.1 z.2.2.2.2.2.2/\Cl z.2.2.2.2.2.1/\z.2.1.l=t.1/\JV n c f z.1 z.2.1 z.2.2.1=some (xf,c3) })
       (fun z=>⟨upd 5 (.d (.sl (t.1.map Ap)) false) (upd 8 (.pt 18 0) (upd 9 (AW oid over (ts.map AS)) (upd 10 (.pt (g+8+3) 0) AJ))),hpE 18 oid over (g+8+3) z.1.2.2.2.1 z.1.2.2.2.2.1 (Aw z.1.2.1 false z.1.2.2.2.2.2.1) ts l.2 z.1.2.2.1,z.1.2.2.2.2.2.2⟩) (fun z=>z.1.1)
       ⟨(c,{ l.1 with p:=l.1.p+1 },[],0,0,ov,cb+8),L5.dis,bb,a5,c4⟩ ?_ ?_
      ·exact .weak ⟨DO rfl DW,fun i=>L5.toE i,Lc _⟩
      rintro⟨⟨kk,w,rs,rid,rver,K,dq⟩,D,av,V,G⟩;dsimp only at D av V G;cases kk with
      |zero=>cases G
      |succ kk=>
      unfold JV at G;split at G;rotate_left
      ·cases G
      rename_i c5;have⟨⟨w1,w2,w3,w4⟩,w5,w6⟩:=c5;have B:=D.b (over:=over) (rver:=rver) (bl:=false) (ov:=K) (x:=w) (nm:=l.2);have dr:w.p<=t.1.length:=(by rw[<-V];exact w2);refine AU (AU ?_);refine ZT 1 ?_;cases a4:(w.e==0) with
      |false=>
       rw[a4,Ng,if_neg (by decide)] at G;refine Z1 (Y2 B.a.box a4) ?_;have⟨b5,b6⟩:=BX (LI G);subst b5;subst b6;refine AQ ?_;refine AQ ?_;refine CO ((RG B.a.box (by rw[V];omega) (by omega)).mono ?_);rintro v c6 c7 ⟨rfl,rfl,b7⟩;dsimp only at b7;refine Z0 ?_;exact⟨⟨(rid,rver,K,_,_),B.put (by dsimp only;omega),av,(mn w RL).trans V⟩,CW⟩
      |true=>
       rw[a4,NB] at G;refine Z1 (Y2 B.a.box a4) ?_;refine CO ((Hc B.a.box (by rw[V];omega)).mono ?_);rintro v ds c9 ⟨rfl,rfl,da⟩;dsimp only at da;cases br:isM w RL with
       |true=>
        have a2:isM w { data:= #[125] }=true:=br;rw[br,if_neg (by decide)] at G;refine Z1 a2 ?_;have⟨b5,b6⟩:=BX (LI G);subst b5;subst b6;refine AQ ?_;refine AQ ?_;refine CO ((RG B.a.box (by rw[V];omega) (by omega)).mono ?_);rintro v c6 c7 ⟨rfl,rfl,b7⟩;dsimp only at b7;refine Z0 ?_;exact⟨⟨(rid,rver,K,_,_),B.put (by dsimp only;omega),av,(mn w RL).trans V⟩,CW⟩
       |false=>
        have a2:isM w { data:= #[125] }=false:=br;rw[br,if_pos (by decide)] at G;refine Z1 a2 ?_;refine AQ ?_;refine CV ?_;obtain⟨J,U⟩:∃J,J=(if rs.length=200 then xe_ w 8 else w):=⟨_,rfl⟩;refine AU (Dw (α:={ k:Nat // c9<=k }) (fun y=>⟨upd 5 (.d (.sl (t.1.map Ap)) false) (upd 8 (.pt 18 0) (upd 9 (AW oid over (ts.map AS)) (upd 10 (.pt (g+8+3) 0) AJ))),hpE 18 oid over (g+8+3) rid rver (Aw J false K) ts l.2 rs,y.1⟩) ?_ ?_)
        ·refine AU (ZT 1 ?_);have lt:=B.tb;cases rs with
         |nil=>
          rw[if_neg (by decide)] at U;refine Z1 lt ?_;refine DI (c:=false) rfl rfl ?_;refine AQ ?_;rw[U];exact⟨⟨_,by omega⟩,CW⟩
         |cons a u=>
          by_cases ag:(a::u).length=200
          ·have a0:(((u.length+1:Nat):Int)==200)=true:=(by simp at ag⊢;omega);rw[if_pos ag] at U;refine Z1 (Y2 lt a0) ?_;refine AQ ?_;refine CO ((KY B.a.box (by rw[V];omega)).mono ?_);rintro v b1 b2 ⟨rfl,rfl,a1⟩;dsimp only at a1;refine Z0 ?_;rw[U];exact⟨⟨_,by omega⟩,.weak ⟨DO rfl DW,fun i=>(B.put (x2:=xe_ w 8) (ov2:=K) (Lc _)).toE i,Lc _⟩⟩
          have a0:(((u.length+1:Nat):Int)==200)=false:=(by simp at ag⊢;omega);rw[if_neg ag] at U;refine Z1 (Y2 lt a0) ?_;refine DI (c:=false) rfl rfl ?_;refine AQ ?_;rw[U];exact⟨⟨_,by omega⟩,CW⟩
        rintro⟨o,hk⟩;have Dz:=D.up (nx2:=o) (by omega);have d:=Dz.b (over:=over) (rver:=rver) (bl:=false) (ov:=K) (x:=J) (nm:=l.2);have dd:J.l=w.l/\J.p=w.p:=by
         rw[U];split
         ·exact⟨(Hd w 8).1,(Hd w 8).2.2.2⟩
         exact⟨rfl,rfl⟩
        refine AU (ZT 1 ?_);by_cases cf:rs.length=200
        ·rw[if_pos cf] at U G;have df:(J.e==0)=false:=(by rw[U];exact V2 a4 rfl);rw[<-U] at G;refine Z1 (Y2 d.a.box df) ?_;refine DI (c:=false) rfl rfl ?_;refine AQ ?_;exact⟨⟨(kk,J,rs,rid,rver,K,_),Dz.up (by dsimp only;omega),av,dd.1.trans V,G⟩,CW,Ls kk⟩
        rw[if_neg cf] at U G;subst U;have⟨C,bs,G⟩:=AP G;refine Z1 (Y2 d.a.box a4) ?_;refine ZT 1 ?_;cases rs with
        |nil=>
         refine Z1 d.tb ?_;refine K7 (δ:=[(18,Aw C.1 false (ovD (kB_ n J) C.2 K))]) (mv (fun j aa=>d.a.new j (by omega)) (Dz.shut (by omega) av) d.a.box bs) ?_;have g1:(g+8+3=18)=False:=eq_false d.tq;have g2:(g+8+3=o+5+4)=False:=eq_false (by have:=d.tn;omega);have g3:(g+8+3=o+5+5)=False:=eq_false (by have:=d.tn;omega);refine Z1 (Y4 d.tb g1 g2 g3) ?_;have v1:Cr (g+8+3) 18 (o+5+4) (o+5+5) (g+8+3)=1:=(by simp[Cr]);have v2:Cr (g+8+3) 18 (o+5+4) (o+5+5) 18=2:=(by unfold Cr;rw[if_neg (Ne.symm d.tq),if_pos rfl]);have v3:Cr (g+8+3) 18 (o+5+4) (o+5+5) (o+5+4)=3:=(by unfold Cr;rw[if_neg (by have:=d.tn;omega),if_neg (by have:=d.a.qn;omega),if_pos rfl]);have v4:Cr (g+8+3) 18 (o+5+4) (o+5+5) (o+5+5)=4:=(by unfold Cr;rw[if_neg (by have:=d.tn;omega),if_neg (by have:=d.a.qn;omega),ifn,if_pos rfl]);refine ct (Cr (g+8+3) 18 (o+5+4) (o+5+5)) _ rfl (by simp only[Nm,Nr,LA,LU,Lh,Lu,PZ,Pa,v1,v2,v3,v4];rfl) ?_;generalize eU:(upd (g+8+3) (some _) _:Hp)=ak;have u1:ak (g+8+3)=some (.bx [.v (.string l.2),.so (o+5+5) 0 0 1]):=(by rw[<-eU,At]);have X:ak (o+5+5)=some (.rw ([[.v (.string C.2.name),.sl (C.2.subs.map AR),.sl (C.2.expr.map AY)]]) 3 (0) false false):=(by rw[<-eU,Aj _ _ (by have:=d.tn;omega),At]);have H:∀j,j≠g+8+3->j≠o+5+5->j≠o+5+4->ak j=upd 18 (some (Aw C.1 false (ovD (kB_ n J) C.2 K))) (hpE 18 oid over (g+8+3) rid rver (Aw J false K) ts l.2 ([])) j:=fun j A T h3=>(by rw[<-eU,Aj _ _ A,Aj _ _ T,Aj _ _ h3]);have tn:=d.tn;have qn:=d.a.qn;have L9:HG 18 oid over (g+8+3) (o+5+5) (0) false (ovD (kB_ n J) C.2 K) C.1 ts l.2 ([]++[C.2]) ak (o+5+8):=by
          refine⟨⟨(H 18 (Ne.symm d.tq) (by omega) (by omega)).trans (At _ _ _),fun P=> ?_,fun j aa=> ?_,by omega⟩,u1.trans (by rfl),fun _=>⟨X.trans (by rfl),by have:=d.a.qn;omega,by have:=d.tn;omega,fun P=> ?_,by omega⟩,d.tq,d.to,by omega⟩
          ·have A:=d.a.out P;exact⟨(H oid (d.to P).symm (by have:=A.2.2;omega) (by have:=A.2.2;omega)).trans (by rw[Aj _ _ A.2.1];exact A.1),A.2.1,by have:=A.2.2;omega⟩
          ·exact(H j (by omega) (by omega) (by omega)).trans (by rw[Ac];exact d.a.new j (by omega))
          have:=(d.a.out P).2.2;omega
         exact⟨⟨(kk,C.1,[]++[C.2],o+5+5,0,ovD (kB_ n J) C.2 K,o+5+8),L9.dis,ml av,(nA bs).trans V,G⟩,.weak ⟨DO rfl DW,fun i=>L9.toE i,Lc _⟩,Ls kk⟩
        |cons a u=>
         refine Z1 d.tb ?_;refine K7 (δ:=[(18,Aw C.1 false (ovD (kB_ n J) C.2 K))]) (mv (fun j aa=>d.a.new j (by omega)) (Dz.shut (by omega) av) d.a.box bs) ?_;have g1:(g+8+3=18)=False:=eq_false d.tq;have g2:(g+8+3=o+5+4)=False:=eq_false (by have:=d.tn;omega);have F:=d.row (by simp);have g3:(g+8+3=rid)=False:=eq_false F.2.2.1.symm;have g4:(rid=18)=False:=eq_false F.2.1;have g5:(rid=o+5+4)=False:=eq_false (by have:=F.2.2.2.2;omega);have ad:(u.length+1+1<=4294967296)=True:=eq_true (by simp only[Ll] at w6;omega);refine Z1 (Y2 (Y6 d.tb F.1 g1 g2 g3 g4) (Y2 g5 ad)) ?_;have v1:Cr (g+8+3) 18 (o+5+4) (rid) (g+8+3)=1:=(by simp[Cr]);have v2:Cr (g+8+3) 18 (o+5+4) (rid) 18=2:=(by unfold Cr;rw[if_neg (Ne.symm d.tq),if_pos rfl]);have v3:Cr (g+8+3) 18 (o+5+4) (rid) (o+5+4)=3:=(by unfold Cr;rw[if_neg (by have:=d.tn;omega),if_neg (by have:=d.a.qn;omega),if_pos rfl]);have v4:Cr (g+8+3) 18 (o+5+4) (rid) (rid)=4:=(by unfold Cr;rw[if_neg (F.2.2.1),if_neg (F.2.1),if_neg (by have:=F.2.2.2.2;omega),if_pos rfl]);refine ct (Cr (g+8+3) 18 (o+5+4) (rid)) _ rfl (by simp only[Nm,Nr,LA,LU,Lh,Lu,PZ,Pa,v1,v2,v3,v4];rfl) ?_;generalize eU:(upd (g+8+3) (some _) _:Hp)=ak;have u1:ak (g+8+3)=some (.bx [.v (.string l.2),.so rid (rver+1) 0 (u.length+1+1)]):=(by rw[<-eU,At]);have X:ak (rid)=some (.rw (Al a::(u.map Al++[[.v (.string C.2.name),.sl (C.2.subs.map AR),.sl (C.2.expr.map AY)]])) 3 (rver+1) false false):=(by rw[<-eU,Aj _ _ (F.2.2.1),At]);have H:∀j,j≠g+8+3->j≠rid->j≠o+5+4->ak j=upd 18 (some (Aw C.1 false (ovD (kB_ n J) C.2 K))) (hpE 18 oid over (g+8+3) rid rver (Aw J false K) ts l.2 ((a::u))) j:=fun j A T h3=>(by rw[<-eU,Aj _ _ A,Aj _ _ T,Aj _ _ h3]);have tn:=d.tn;have qn:=d.a.qn;have L9:HG 18 oid over (g+8+3) (rid) (rver+1) false (ovD (kB_ n J) C.2 K) C.1 ts l.2 ((a::u)++[C.2]) ak (o+5+8):=by
          refine⟨⟨(H 18 (Ne.symm d.tq) (Ne.symm F.2.1) (by omega)).trans (At _ _ _),fun P=> ?_,fun j aa=> ?_,by omega⟩,u1.trans (by simp[AW]),fun _=>⟨X.trans (by simp),F.2.1,F.2.2.1,fun P=> ?_,by have:=F.2.2.2.2;omega⟩,d.tq,d.to,by omega⟩
          ·have A:=d.a.out P;exact⟨(H oid (d.to P).symm (fun e=>F.2.2.2.1 P e.symm) (by have:=A.2.2;omega)).trans (by rw[Aj _ _ A.2.1];exact A.1),A.2.1,by have:=A.2.2;omega⟩
          ·exact(H j (by omega) (by have:=F.2.2.2.2;omega) (by omega)).trans (by rw[Ac];exact d.a.new j (by omega))
          exact F.2.2.2.1 P
         exact⟨⟨(kk,C.1,(a::u)++[C.2],rid,rver+1,ovD (kB_ n J) C.2 K,o+5+8),L9.dis,ml av,(nA bs).trans V,G⟩,.weak ⟨DO rfl DW,fun i=>L9.toE i,Lc _⟩,Ls kk⟩
   rintro⟨⟨rid,rver,Q,bx,E⟩,M,a6,a9⟩;have⟨qx,qr⟩:=q;dsimp only at M a6 a9 m;refine ZT 1 ?_;have tn:=M.tn;have qn:=M.a.qn;cases qr with
   |nil=>
    cases ts with
    |nil=>
     refine Z1 M.tb ?_;generalize Y:(upd (E+3) (some _) _:Hp)=I;have X:I (E+3)=some (.rw ((([]++[(⟨l.2,[]⟩:AG)]):List AG).map AS) 2 (0) false false):=(by rw[<-Y,At];simp);have H:∀j,j≠E+3->j≠E+2->I j=bx j:=fun j A T=>(by rw[<-Y,Aj _ _ A,Aj _ _ T]);have PA:I8 18 (E+3) (0) false Q qx ([]++[⟨l.2,[]⟩]) I (E+5):=⟨(H 18 (Ne.symm (by omega)) (by omega)).trans M.a.box,fun _=>⟨X,by omega,by omega⟩,fun j aa=>(H j (by omega) (by omega)).trans (M.a.new j (by omega)),by omega⟩
     exact⟨⟨(k,qx,[]++[⟨l.2,[]⟩],E+3,0,Q,I,E+5),PA,a9,m,a6⟩,Km (DO rfl (DO rfl (DO (by simp[AW,upd]) (KM _)))),Ls k⟩
    |cons a u=>
     have Z:=M.a.out (by simp);have g1:(oid=E+2)=False:=Ep;have ad:(u.length+1+1<=4294967296)=True:=eq_true (by simp only[Ll] at z6;omega);refine Z1 (Y4 M.tb Z.1 g1 ad) ?_;generalize Y:(upd (oid) (some _) _:Hp)=I;have X:I (oid)=some (.rw ((((a::u)++[(⟨l.2,[]⟩:AG)]):List AG).map AS) 2 (over+1) false false):=(by rw[<-Y,At];simp);have H:∀j,j≠oid->j≠E+2->I j=bx j:=fun j A T=>(by rw[<-Y,Aj _ _ A,Aj _ _ T]);have PA:I8 18 (oid) (over+1) false Q qx ((a::u)++[⟨l.2,[]⟩]) I (E+5):=⟨(H 18 (Ne.symm (Z.2.1)) (by omega)).trans M.a.box,fun _=>⟨X,Z.2.1,by have:=Z.2.2;omega⟩,fun j aa=>(H j (by have:=Z.2.2;omega) (by omega)).trans (M.a.new j (by omega)),by omega⟩
     exact⟨⟨(k,qx,(a::u)++[⟨l.2,[]⟩],oid,over+1,Q,I,E+5),PA,a9,m,a6⟩,Km (DO rfl (DO rfl (DO (by simp[AW,upd]) (KM _)))),Ls k⟩
   |cons b w=>
    have F:=M.row (by simp);cases ts with
    |nil=>
     have g2:(rid=E+2)=False:=Ep;refine Z1 (Y3 M.tb F.1 g2) ?_;generalize Y:(upd (E+3) (some _) _:Hp)=I;have X:I (E+3)=some (.rw ((([]++[(⟨l.2,(b::w)⟩:AG)]):List AG).map AS) 2 (0) false false):=(by rw[<-Y,At];simp);have H:∀j,j≠E+3->j≠E+2->j≠rid->I j=bx j:=fun j A T h3=>(by rw[<-Y,Aj _ _ A,Aj _ _ T,Aj _ _ h3]);have PA:I8 18 (E+3) (0) false Q qx ([]++[⟨l.2,(b::w)⟩]) I (E+5):=⟨(H 18 (Ne.symm (by omega)) (by omega) (Ne.symm F.2.1)).trans M.a.box,fun _=>⟨X,by omega,by omega⟩,fun j aa=>(H j (by omega) (by omega) (by have:=F.2.2.2.2;omega)).trans (M.a.new j (by omega)),by omega⟩
     exact⟨⟨(k,qx,[]++[⟨l.2,(b::w)⟩],E+3,0,Q,I,E+5),PA,a9,m,a6⟩,Km (DO rfl (DO rfl (DO (by simp[AW,upd]) (KM _)))),Ls k⟩
    |cons a u=>
     have Z:=M.a.out (by simp);have g1:(oid=E+2)=False:=Ep;have g2:(rid=E+2)=False:=Ep;have g3:(oid=rid)=False:=eq_false (fun e=>F.2.2.2.1 (by simp) e.symm);have ad:(u.length+1+1<=4294967296)=True:=eq_true (by simp only[Ll] at z6;omega);refine Z1 (Y2 (Y6 M.tb F.1 Z.1 g1 g2 g3) ad) ?_;generalize Y:(upd (oid) (some _) _:Hp)=I;have X:I (oid)=some (.rw ((((a::u)++[(⟨l.2,(b::w)⟩:AG)]):List AG).map AS) 2 (over+1) false false):=(by rw[<-Y,At];simp);have H:∀j,j≠oid->j≠E+2->j≠rid->I j=bx j:=fun j A T h3=>(by rw[<-Y,Aj _ _ A,Aj _ _ T,Aj _ _ h3]);have PA:I8 18 (oid) (over+1) false Q qx ((a::u)++[⟨l.2,(b::w)⟩]) I (E+5):=⟨(H 18 (Ne.symm (Z.2.1)) (by omega) (Ne.symm F.2.1)).trans M.a.box,fun _=>⟨X,Z.2.1,by have:=Z.2.2;omega⟩,fun j aa=>(H j (by have:=Z.2.2;omega) (by omega) (by have:=F.2.2.2.2;omega)).trans (M.a.new j (by omega)),by omega⟩
     exact⟨⟨(k,qx,(a::u)++[⟨l.2,(b::w)⟩],oid,over+1,Q,I,E+5),PA,a9,m,a6⟩,Km (DO rfl (DO rfl (DO (by simp[AW,upd]) (KM _)))),Ls k⟩
theorem conc_nil {nx:Nat}:AT Tryz.prog 167 [.v (.slice none 0 0)] hp nx fun v a nx2=>v= .v (.slice none 0 0)/\a=hp/\nx<=nx2:=by
 refine zq Tryz.func167 ?_;refine Dg ?_;refine Dy ?_;refine Dw (α:={ k:Nat // nx<=k }) (fun k=>⟨upd 0 (.v (.slice none 0 0)) (upd 3 (.v (.int .i64 0)) AJ),hp,k.1⟩) ?_ ?_
 ·refine CV ?_;refine DV (α:=Unit) (fun _=>⟨upd 0 (.v (.slice none 0 0)) (upd 3 (.v (.int .i64 0)) (upd 10 (.v (.int .i64 0)) (upd 11 (.v (.int .i64 0)) AJ))),hp,nx+5⟩) (fun _=>0) () ?_ ?_
  ·exact CW
  rintro⟨⟩;refine Dg ?_;exact⟨⟨_,by omega⟩,CW⟩
 rintro⟨k,e⟩;refine Ax ?_;refine CO ((pi (k:=0) (Lf _)).mono ?_);rintro v a nx2 ⟨c,b,d⟩;dsimp only at c b d;obtain⟨rfl,rfl⟩:=b rfl;refine Z0 ?_;refine Dy ?_;refine Dw (α:={ k:Nat // nx<=k }) (fun k=>⟨upd 6 (.v (.slice none 0 0)) AJ,a,k.1⟩) ?_ ?_
 ·refine CV ?_;refine DV (α:=Unit) (fun _=>⟨upd 6 (.v (.slice none 0 0)) (upd 26 (.v (.int .i64 0)) (upd 27 (.v (.int .i64 0)) AJ)),a,nx2+3⟩) (fun _=>0) () ?_ ?_
  ·exact CW
  rintro⟨⟩;refine Dg ?_;exact⟨⟨_,by omega⟩,CW⟩
 rintro⟨f,g⟩;refine Ax ?_;refine AQ ?_;exact⟨_,_,rfl,⟨fun _=>.inr rfl⟩,rfl,rfl,by dsimp only;omega⟩
theorem steps_nil {nx:Nat}{x:AV}{t:ByteArray}{b:Bool}:AT Tryz.prog 141 [x,.v (.string t),.d (.sl []) b] hp nx fun v a nx2=>v= .v (.slice none 0 0)/\a=hp/\nx<=nx2:=by
 refine zq Tryz.func141 ?_;refine Dg ?_;refine Dy ?_;refine Dw (α:={ k:Nat // nx<=k }) (fun k=>⟨upd 7 (.v (.slice none 0 0)) AJ,hp,k.1⟩) ?_ ?_
 ·refine CV ?_;refine DV (α:=Unit) (fun _=>⟨upd 7 (.v (.slice none 0 0)) (upd 14 (.v (.int .i64 0)) (upd 15 (.v (.int .i64 0)) AJ)),hp,nx+5⟩) (fun _=>0) () ?_ ?_
  ·exact CW
  rintro⟨⟩;refine Dg ?_;exact⟨⟨_,by omega⟩,CW⟩
 rintro⟨k,d⟩;refine Ax ?_;refine CO (conc_nil.mono ?_);rintro v a nx2 ⟨rfl,rfl,c⟩;dsimp only at c;refine FN ?_;exact⟨_,_,rfl,⟨fun _=>.inr rfl⟩,rfl,rfl,by dsimp only;omega⟩
theorem fj (h:es≠[]->hp id=some (.rw es sz ver false false))(i:Nat):D3 id sz ver es AK i=none\/D3 id sz ver es AK i=hp i:=by
 by_cases e:es≠[]/\i=id
 ·exact .inr (by rw[e.2,Kb e.1,h e.1])
 exact .inl (by rw[Hh fun a b=>e ⟨a,b⟩];rfl)
def Ew:List AL->List AN
 |[]=>[]
 |s::r=>if s.rel.toList==ByteArray.empty.toList then Ew r else⟨⟨s.type_,s.rel⟩,0⟩::Ew r
theorem R9 (s:AL)(r:List AL):Ew (s::r)=if s.rel.toList==ByteArray.empty.toList then Ew r else⟨⟨s.type_,s.rel⟩,0⟩::Ew r:=rfl
def SA (n:Nat)(S:AD)(m:AA):Option (List AN):=
 match qf_ m ⟨ByteArray.empty,[],[]⟩ S.rels with
 |⟨_,a,[]⟩=>if a.length<=1000000 then some (Ew a) else none
 |⟨_,[],e::r⟩=>Wv n S m.typ (e::r)
 |_=>none
theorem zb {n:Nat}{S:AD}{m:AA}{r:List AN}(h:SA n S m=some r):AM Tryz.prog 114 [D.pt (Av S) 0,D.ag (Ag m)] (D.sl (r.map AH)) true:=by
 have⟨a,b⟩:=m;refine zP #[.tmp 4] Tryz.func114 ?_;refine Ax ?_;refine AU (ZT 1 ?_);have A:EV (true,[.string,.string]) (.agg #[.string a,.string b]) (.d (.ag [.v (.string ByteArray.empty),.sl [],.sl []]) true) false (Eo true (A7 qa_ true Al S.rels))=some (.d (.ag (Al (qf_ (⟨a,b⟩:AA) (⟨ByteArray.empty,[],[]⟩:AZ) S.rels))) true,[]):=HZ (b:=true) (ag:=true) (enc:=Al) Kh (⟨a,b⟩:AA) ((⟨ByteArray.empty,[],[]⟩:AZ):AZ) false S.rels;unfold SA at h;generalize qf_ (⟨a,b⟩:AA) (⟨ByteArray.empty,[],[]⟩:AZ) S.rels=g at h A;have⟨gn,c,H⟩:=g;refine Dj A ?_;cases H with
 |nil=>
  dsimp only at h;split at h;rotate_left
  ·cases h
  rename_i Z;cases h;refine Ax ?_;refine CO (steps_nil.mono ?_);rintro v aa nx2 ⟨rfl,rfl,I⟩;dsimp only at I;refine Z0 ?_;refine Dy ?_;refine Dw (α:={ t:Nat × Nat × Nat // Ew c≠[]->t.1<t.2.2 }) (fun t=>⟨upd 6 (AW t.1.1 t.1.2.1 ((Ew c).map AH)) AJ,D3 t.1.1 3 t.1.2.1 ((Ew c).map AH) AK,t.1.2.2⟩) ?_ ?_
  ·refine CV ?_;refine DV (α:={ t:Nat × List AN × Nat × Nat × Nat // t.1<=c.length/\t.2.1++Ew (c.drop t.1)=Ew c/\t.2.1.length<=t.1/\(t.2.1≠[]->t.2.2.1<t.2.2.2.2) })
    (fun t=>⟨upd 6 (AW t.1.2.2.1 t.1.2.2.2.1 (t.1.2.1.map AH)) (upd 22 (.d (.sl (c.map AR)) true) (upd 23 (.v (.int .i64 (c.length:Int))) (upd 24 (.v (.int .i64 (t.1.1:Int))) AJ))),D3 t.1.2.2.1 3 t.1.2.2.2.1 (t.1.2.1.map AH) AK,t.1.2.2.2.2⟩) (fun t=>c.length-t.1.1)
    ⟨(0,[],0,0,nx2+5),Lf _,rfl,Lc _,fun d=>absurd rfl d⟩ ?_ ?_
   ·exact .weak ⟨DO rfl DW,fun _=>.inl rfl,by dsimp only;omega⟩
   rintro⟨⟨i,l,oid,over,j⟩,J,f,s,k⟩;dsimp only at J f s k;refine AU (ZT 1 ?_);by_cases y:i<c.length;rotate_left
   ·have z:(decide ((i:Int)<(c.length:Int)))=false:=DE;obtain rfl:i=c.length:=(by omega);rw[Bc] at f;rw[show Ew ([]:List AL)= [] from rfl,Ns] at f;subst f;refine Ct z ?_;refine Z0 ?_;exact⟨⟨(oid,over,_),fun d=>LF (k d) (NU _ _)⟩,CW⟩
   have z:(decide ((i:Int)<(c.length:Int)))=true:=DB;have K:c[i]? =some c[i]:=Le y;have L:(c.map AR)[i]? =some (AR c[i]):=Cz AR K;have B:c.drop i=c[i]::c.drop (i+1):=Lj y;refine Ct z ?_;refine Z0 ?_;refine AU (Dw (α:={ t:List AN × Nat × Nat × Nat // t.1++Ew (c.drop (i+1))=Ew c/\t.1.length<=i+1/\(t.1≠[]->t.2.1<t.2.2.2) }) (fun t=>⟨upd 6 (AW t.1.2.1 t.1.2.2.1 (t.1.1.map AH)) (upd 22 (.d (.sl (c.map AR)) true) (upd 23 (.v (.int .i64 (c.length:Int))) (upd 24 (.v (.int .i64 (i:Int))) AJ))),D3 t.1.2.1 3 t.1.2.2.1 (t.1.1.map AH) AK,t.1.2.2.2⟩) ?_ ?_);rotate_left
   ·rintro⟨⟨M,N,O,C⟩,P,Q,T⟩;refine ZT 1 ?_;refine Z1 (Ar (n:=i)) ?_;exact⟨⟨(i+1,M,N,O,C+2),y,P,Q,fun d=>LF (T d) (NU _ _)⟩,CW,by dsimp only;omega⟩
   refine CV ?_;refine AU (ZT 1 ?_);have w:=Y2 L (Y2 (CC .i64 (show(0:Int)<=(i:Int) by omega)) (show((i:Int)).toNat=i from Li _));refine Ct w ?_;refine Z0 ?_;cases o:(c[i].rel.toList==ByteArray.empty.toList) with
   |true=>
    have p:(c[i].rel.toList==({ data:= #[] }:ByteArray).toList)=true:=o;refine ES p ?_;refine⟨⟨(l,oid,over,j+1+4+3),?_,Nat.le_succ_of_le s,fun d=>by have:=k d;dsimp only;omega⟩,.weak ⟨DO rfl DW,fj fun d=> ?_,by dsimp only;omega⟩⟩
    ·rw[B,R9,o,if_pos rfl] at f;exact f
    ·have:=k (by simpa using d);dsimp only;rw[Ac,Ac,Kb d]
   |false=>
    have p:(c[i].rel.toList==({ data:= #[] }:ByteArray).toList)=false:=o;rw[B,R9,o,if_neg (by decide)] at f;generalize E:(upd (j+1+2) (some _) _:Hp)=F;have G:F (j+1+2)=some (.bx [.v (.string c[i].type_),.v (.string c[i].id_),.v (.string c[i].rel)]):=(by rw[<-E,At]);have U:l≠[]->F oid=some (.rw (l.map AH) 3 over false false):=fun d=>by
     have:=k d;rw[<-E,Ac,Ac,Kb (by simpa using d)]
    refine ZT 1 ?_;cases l with
    |nil=>
     refine Z1 (Y2 p G) ?_;refine⟨⟨([⟨⟨c[i].type_,c[i].rel⟩,0⟩],j+1+4+3+8,0,j+1+4+3+10),f,by simp,fun _=>by dsimp only;omega⟩,.weak ⟨DO rfl DW,?_,by dsimp only;omega⟩⟩;dsimp only;exact fj fun d=>At _ _ _
    |cons b u=>
     have V:=U (by simp);have i3:=k (by simp);have X:(u.length+1+1<=4294967296)=True:=eq_true (by simp only[Ll] at s;omega);have Y:(oid=j+1+4+3+7)=False:=Ep;refine Z1 (Y5 p G V X Y) ?_;refine⟨⟨((b::u)++[⟨⟨c[i].type_,c[i].rel⟩,0⟩],oid,over+1,j+1+4+3+10),by rw[Lz];exact f,by rw[Ld,Lo];omega,fun _=>by dsimp only;omega⟩,.weak ⟨DO (by simp[AW,upd]) DW,?_,by dsimp only;omega⟩⟩;dsimp only;exact fj fun d=>(At _ _ _).trans (by simp)
  ·rintro⟨⟨oid,over,C⟩,k⟩;refine Ax ?_;refine AQ ?_;generalize Ew c=l;cases l with
   |nil=>exact As
   |cons a r=>
    refine IQ (v:=AW oid over ((a::r).map AH)) (b:=false) (is:=[oid]) (by simp -implicitDefEqProofs only[go_sem, ↓reduceIte,At]<;>rfl) ?_ rfl fun _=>rfl;simp[toR,FJ,Ci,AW,Kb,a7]
 |cons e re=>
  cases c with
  |cons a u=>cases h
  |nil=>
   dsimp only at h;refine Ax ?_;refine CT (zo h) ?_;refine Z0 ?_;refine Dy ?_;refine Dw (α:=Unit) (fun _=>⟨upd 6 (.d (.sl (r.map AH)) false) AJ,AK,30⟩) ?_ ?_
   ·refine CV ?_;refine DV (α:=Unit) (fun _=>⟨upd 6 (.d (.sl (r.map AH)) false) (upd 23 (.v (.int .i64 0)) (upd 24 (.v (.int .i64 0)) AJ)),AK,29⟩) (fun _=>0) () ?_ ?_
    ·exact .weak ⟨DO rfl DW,fun _=>.inl rfl,by dsimp only;omega⟩
    rintro⟨⟩;refine Dg ?_;exact⟨(),.weak ⟨DO rfl (KM _),fun _=>.inl rfl,by dsimp only;omega⟩⟩
   rintro⟨⟩;refine Ax ?_;refine AQ ?_;exact As
def cR (g:AZ):List AV:=[.v (.string g.name),.d (.sl (g.subs.map AR)) true,.d (.sl (g.expr.map AY)) true]
def vR (g:AZ):AV:=.ag (cR g)
def zR:List AV:=[.v (.string ByteArray.empty),.v (.slice none 0 0),.v (.slice none 0 0)]
theorem pj {K V:Type}[BEq K]{q:Bool × List TK}{kv:K->Value}{ev:V->AV}(c:E8 q kv)(k:K)(z:AV)(ok:Bool)(m:List (K × V)):EV q (kv k) z ok (Aa kv ev m)=some (if ok then .tu [(match mget k m with |some w=>ev w |none=>z),.v (.bool (Ay k m))] else(match mget k m with |some w=>ev w |none=>z),[]):=by
 have⟨o,d,e,f⟩:=Mx (ev:=ev) c k m;unfold EV;rw[d];cases a:mget k m with
 |none=>
  have⟨b,g⟩:=f a;subst b;simp[Ay,a]
 |some w=>
  have⟨i,b,g⟩:=e w a;subst b;simp[Ay,a]
def oR:Option AZ->List AV
 |some g=>cR g
 |none=>zR
section
variable {hp:Hp}{nx q m1 m2 m3:Nat}{R:List (AA × AZ)}
theorem zQ {a b:ByteArray}{n:Bool}(d:∀j,nx<=j->hp j=none)(e:hp q=some (.bx [.mo m1,.mo m2,.mo m3]))(f:hp m2=some (.mo (Aa qa_ vR R) n)):
  AT Tryz.prog 65 [.pt q 0,.v (.string a),.v (.string b)] hp nx fun v o nx2=>v= .tu [.ag (oR (mget ⟨a,b⟩ R)),.v (.bool (Ay ⟨a,b⟩ R))]/\o=hp/\nx<=nx2:=by
 have p:=Ch d e;have r:=Ch d f;refine zr Tryz.func65 ?_;have k:(q=nx)=False:=Ep;have l:(m2=nx)=False:=Ep;have m:(nx=nx+2+11)=False:=Ep;have c:EV (true,[.string,.string]) (.agg #[.string a,.string b]) (.ag zR) true (Aa qa_ vR R)=some (.tu [(.ag (oR (mget ⟨a,b⟩ R))),.v (.bool (Ay ⟨a,b⟩ R))],[]):=by
  refine(pj Kh ⟨a,b⟩ (.ag zR) true R).trans ?_;cases mget (⟨a,b⟩:AA) R<;>rfl
 unfold zR at c;generalize Ay (⟨a,b⟩:AA) R=s at c⊢;generalize mget (⟨a,b⟩:AA) R=g at c⊢;cases g with
 |none=>
  unfold oR zR at c⊢;refine Z1 (Y6 m k l e f c) ?_;refine⟨_,hp,by simp -implicitDefEqProofs only[go_sem, ↓reduceIte,Tryz.f65,At,Nat.reduceEqDiff]<;>rfl,⟨fun i=> ?_⟩,rfl,rfl,by dsimp only;omega⟩;by_cases h:i<nx
  ·exact .inr (by dsimp only;repeat rw[Ac])
  ·exact .inl (d i (by omega))
 |some g=>
  unfold oR cR at c⊢;refine Z1 (Y6 m k l e f c) ?_;refine⟨_,hp,by simp -implicitDefEqProofs only[go_sem, ↓reduceIte,Tryz.f65,At,Nat.reduceEqDiff]<;>rfl,⟨fun i=> ?_⟩,rfl,rfl,by dsimp only;omega⟩;by_cases h:i<nx
  ·exact .inr (by dsimp only;repeat rw[Ac])
  exact .inl (d i (by omega))
end
end Go.Proofs.YtnmkbmefohakmaaGreat.Ab
